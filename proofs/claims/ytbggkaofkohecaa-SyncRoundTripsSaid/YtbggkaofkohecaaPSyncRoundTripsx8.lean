-- Written by a program of this session (wip/tools/pr.py), which calls the kit's print with changes of its own.
import Derived.Test.YtbggkaofkohecaaPSyncRoundTripsx0
import Derived.Test.YtbggkaofkohecaaPSyncRoundTripsx2
import Derived.Test.YtbggkaofkohecaaPSyncRoundTripsx7
namespace Go.Proofs.Ytbggkaofkohecaa.PSyncRoundTrips
open Go.RowKit Go.Proofs.YtbggkaofkohecaaW.PrintWords Go.Proofs.YtbggkaofkohecaaW.PrintLast Go.Proofs.YtbggkaofkohecaaW.PrintMore
attribute [local go_sem] max2_int min2_int max_two min_two max_three min_three max_four min_four   -- for this text's walks alone
set_option linter.unusedVariables false
set_option linter.unusedSimpArgs false

/-! ### sync_Encode: function 19 -/
mutual
def sync_Encode.j0 : Nat → List (S46) → ByteArray → Int → Bool → Option ((List (S46)) × Int)
 | 0, _, _, _, _ => none
 | k + 1, x1, x246000, x246001, x246002 => if (x1.length : Int) > 1024 then (some (([] : List (S46)), 6)) else (sync_Encode.j1 k x1 x246000 x246001 x246002)
def sync_Encode.j1 : Nat → List (S46) → ByteArray → Int → Bool → Option ((List (S46)) × Int)
 | 0, _, _, _, _ => none
 | k + 1, x1, x246000, x246001, x246002 => if 0 ≤ (x1.length : Int) then (if ((x1.length : Int) : Int).toNat ≤ 5864062014805 then (sync_Encode.l0 k (List.replicate 0 z46) x1 (x1.length : Int) 0 x246000 x246001 x246002) else (none)) else (none)
def sync_Encode.l0 : Nat → List (S46) → List (S46) → Int → Int → ByteArray → Int → Bool → Option ((List (S46)) × Int)
 | 0, _, _, _, _, _, _, _ => none
 | k + 1, x7, x21, x22, x23, x246000, x246001, x246002 => if x23 < x22 then (sync_Encode.j3 k x7 x21 x22 x23 x246000 x246001 x246002) else (some (x7, 0))
def sync_Encode.j3 : Nat → List (S46) → List (S46) → Int → Int → ByteArray → Int → Bool → Option ((List (S46)) × Int)
 | 0, _, _, _, _, _, _, _ => none
 | k + 1, x7, x21, x22, x23, x246000, x246001, x246002 => if 0 ≤ x23 then (if x23 < (x21.length : Int) then (if ((rd_T46 x21 x23).f0) < 0 then (sync_Encode.j4 k x7 x21 x22 x23 true x246000 x246001 x246002 ((rd_T46 x21 x23).f0) ((rd_T46 x21 x23).f1) ((rd_T46 x21 x23).f2) ((rd_T46 x21 x23).f3) ((rd_T46 x21 x23).f4)) else (sync_Encode.j4 k x7 x21 x22 x23 (decide (((rd_T46 x21 x23).f0) > 1048576)) x246000 x246001 x246002 ((rd_T46 x21 x23).f0) ((rd_T46 x21 x23).f1) ((rd_T46 x21 x23).f2) ((rd_T46 x21 x23).f3) ((rd_T46 x21 x23).f4))) else (none)) else (none)
def sync_Encode.j4 : Nat → List (S46) → List (S46) → Int → Int → Bool → ByteArray → Int → Bool → Int → Int → Int → ByteArray → Int → Option ((List (S46)) × Int)
 | 0, _, _, _, _, _, _, _, _, _, _, _, _, _ => none
 | k + 1, x7, x21, x22, x23, x27, x246000, x246001, x246002, x252000, x252001, x252002, x252003, x252004 => if x27 = true then (some (([] : List (S46)), 1)) else (if (x252003.size : Int) > 4096 then (some (([] : List (S46)), 6)) else (if (x252003.size : Int) = x246001 then (if x252001 = 0 then (if x252002 = 0 then (if x252004 = 0 then ((bits_FromBytes.f k x252003 x246002).bind fun t252 => (if x246000.size + t252.size ≤ 9223372036854775807 then (if x7.length < 2932031007402 then (sync_Encode.l0 k (x7 ++ [(⟨x252000, 0, 0, x246000 ++ t252, 0⟩ : S46)]) x21 x22 (wrap64 (x23 + 1)) x246000 x246001 x246002) else (none)) else (none))) else (some (([] : List (S46)), 1))) else (some (([] : List (S46)), 1))) else (some (([] : List (S46)), 1))) else (some (([] : List (S46)), 2))))
end
def sync_Encode.f (k : Nat) (a0_0 : ByteArray) (a0_1 : Int) (a0_2 : Bool) (l1 : List (S46)) : Option ((List (S46)) × Int) := (sync_Check.f k a0_0 a0_1 a0_2).bind fun t246 => (if t246 = 0 then (sync_Encode.j0 k l1 a0_0 a0_1 a0_2) else (some (([] : List (S46)), t246)))
theorem sync_Encode.mono_l : ∀ k, (∀ y0 y1 y2 y3, LeO (sync_Encode.j0 k y0 y1 y2 y3) (sync_Encode.j0 (k + 1) y0 y1 y2 y3)) ∧ (∀ y0 y1 y2 y3, LeO (sync_Encode.j1 k y0 y1 y2 y3) (sync_Encode.j1 (k + 1) y0 y1 y2 y3)) ∧ (∀ y0 y1 y2 y3 y4 y5 y6, LeO (sync_Encode.l0 k y0 y1 y2 y3 y4 y5 y6) (sync_Encode.l0 (k + 1) y0 y1 y2 y3 y4 y5 y6)) ∧ (∀ y0 y1 y2 y3 y4 y5 y6, LeO (sync_Encode.j3 k y0 y1 y2 y3 y4 y5 y6) (sync_Encode.j3 (k + 1) y0 y1 y2 y3 y4 y5 y6)) ∧ (∀ y0 y1 y2 y3 y4 y5 y6 y7 y8 y9 y10 y11 y12, LeO (sync_Encode.j4 k y0 y1 y2 y3 y4 y5 y6 y7 y8 y9 y10 y11 y12) (sync_Encode.j4 (k + 1) y0 y1 y2 y3 y4 y5 y6 y7 y8 y9 y10 y11 y12))
 | 0 => ⟨fun _ _ _ _ r h => by simp [sync_Encode.j0] at h, fun _ _ _ _ r h => by simp [sync_Encode.j1] at h, fun _ _ _ _ _ _ _ r h => by simp [sync_Encode.l0] at h, fun _ _ _ _ _ _ _ r h => by simp [sync_Encode.j3] at h, fun _ _ _ _ _ _ _ _ _ _ _ _ _ r h => by simp [sync_Encode.j4] at h⟩
 | k + 1 => by
  obtain ⟨ih0, ih1, ih2, ih3, ih4⟩ := sync_Encode.mono_l k
  refine ⟨?_, ?_, ?_, ?_, ?_⟩
  ·intro y0 y1 y2 y3
   unfold sync_Encode.j0
   repeat' first
   | (with_reducible exact ih0 _ _ _ _)
   | (with_reducible exact ih1 _ _ _ _)
   | (with_reducible exact ih2 _ _ _ _ _ _ _)
   | (with_reducible exact ih3 _ _ _ _ _ _ _)
   | (with_reducible exact ih4 _ _ _ _ _ _ _ _ _ _ _ _ _)
   | (with_reducible exact bits_FromBytes.mono _ _ _)
   | (with_reducible exact sync_Check.mono _ _ _ _)
   | (with_reducible exact LeO.refl _)
   | (with_reducible exact LeO.none _)
   | (with_reducible refine LeO.ite ?_ ?_)
   | (with_reducible refine LeO.bind ?_ (fun _ => ?_))
   | exact ih0 _ _ _ _
   | exact ih1 _ _ _ _
   | exact ih2 _ _ _ _ _ _ _
   | exact ih3 _ _ _ _ _ _ _
   | exact ih4 _ _ _ _ _ _ _ _ _ _ _ _ _
   | exact bits_FromBytes.mono _ _ _
   | exact sync_Check.mono _ _ _ _
   | exact LeO.none _
   | refine LeO.ite ?_ ?_
   | refine LeO.bind ?_ (fun _ => ?_)
  ·intro y0 y1 y2 y3
   unfold sync_Encode.j1
   repeat' first
   | (with_reducible exact ih0 _ _ _ _)
   | (with_reducible exact ih1 _ _ _ _)
   | (with_reducible exact ih2 _ _ _ _ _ _ _)
   | (with_reducible exact ih3 _ _ _ _ _ _ _)
   | (with_reducible exact ih4 _ _ _ _ _ _ _ _ _ _ _ _ _)
   | (with_reducible exact bits_FromBytes.mono _ _ _)
   | (with_reducible exact sync_Check.mono _ _ _ _)
   | (with_reducible exact LeO.refl _)
   | (with_reducible exact LeO.none _)
   | (with_reducible refine LeO.ite ?_ ?_)
   | (with_reducible refine LeO.bind ?_ (fun _ => ?_))
   | exact ih0 _ _ _ _
   | exact ih1 _ _ _ _
   | exact ih2 _ _ _ _ _ _ _
   | exact ih3 _ _ _ _ _ _ _
   | exact ih4 _ _ _ _ _ _ _ _ _ _ _ _ _
   | exact bits_FromBytes.mono _ _ _
   | exact sync_Check.mono _ _ _ _
   | exact LeO.none _
   | refine LeO.ite ?_ ?_
   | refine LeO.bind ?_ (fun _ => ?_)
  ·intro y0 y1 y2 y3 y4 y5 y6
   unfold sync_Encode.l0
   repeat' first
   | (with_reducible exact ih0 _ _ _ _)
   | (with_reducible exact ih1 _ _ _ _)
   | (with_reducible exact ih2 _ _ _ _ _ _ _)
   | (with_reducible exact ih3 _ _ _ _ _ _ _)
   | (with_reducible exact ih4 _ _ _ _ _ _ _ _ _ _ _ _ _)
   | (with_reducible exact bits_FromBytes.mono _ _ _)
   | (with_reducible exact sync_Check.mono _ _ _ _)
   | (with_reducible exact LeO.refl _)
   | (with_reducible exact LeO.none _)
   | (with_reducible refine LeO.ite ?_ ?_)
   | (with_reducible refine LeO.bind ?_ (fun _ => ?_))
   | exact ih0 _ _ _ _
   | exact ih1 _ _ _ _
   | exact ih2 _ _ _ _ _ _ _
   | exact ih3 _ _ _ _ _ _ _
   | exact ih4 _ _ _ _ _ _ _ _ _ _ _ _ _
   | exact bits_FromBytes.mono _ _ _
   | exact sync_Check.mono _ _ _ _
   | exact LeO.none _
   | refine LeO.ite ?_ ?_
   | refine LeO.bind ?_ (fun _ => ?_)
  ·intro y0 y1 y2 y3 y4 y5 y6
   unfold sync_Encode.j3
   repeat' first
   | (with_reducible exact ih0 _ _ _ _)
   | (with_reducible exact ih1 _ _ _ _)
   | (with_reducible exact ih2 _ _ _ _ _ _ _)
   | (with_reducible exact ih3 _ _ _ _ _ _ _)
   | (with_reducible exact ih4 _ _ _ _ _ _ _ _ _ _ _ _ _)
   | (with_reducible exact bits_FromBytes.mono _ _ _)
   | (with_reducible exact sync_Check.mono _ _ _ _)
   | (with_reducible exact LeO.refl _)
   | (with_reducible exact LeO.none _)
   | (with_reducible refine LeO.ite ?_ ?_)
   | (with_reducible refine LeO.bind ?_ (fun _ => ?_))
   | exact ih0 _ _ _ _
   | exact ih1 _ _ _ _
   | exact ih2 _ _ _ _ _ _ _
   | exact ih3 _ _ _ _ _ _ _
   | exact ih4 _ _ _ _ _ _ _ _ _ _ _ _ _
   | exact bits_FromBytes.mono _ _ _
   | exact sync_Check.mono _ _ _ _
   | exact LeO.none _
   | refine LeO.ite ?_ ?_
   | refine LeO.bind ?_ (fun _ => ?_)
  ·intro y0 y1 y2 y3 y4 y5 y6 y7 y8 y9 y10 y11 y12
   unfold sync_Encode.j4
   repeat' first
   | (with_reducible exact ih0 _ _ _ _)
   | (with_reducible exact ih1 _ _ _ _)
   | (with_reducible exact ih2 _ _ _ _ _ _ _)
   | (with_reducible exact ih3 _ _ _ _ _ _ _)
   | (with_reducible exact ih4 _ _ _ _ _ _ _ _ _ _ _ _ _)
   | (with_reducible exact bits_FromBytes.mono _ _ _)
   | (with_reducible exact sync_Check.mono _ _ _ _)
   | (with_reducible exact LeO.refl _)
   | (with_reducible exact LeO.none _)
   | (with_reducible refine LeO.ite ?_ ?_)
   | (with_reducible refine LeO.bind ?_ (fun _ => ?_))
   | exact ih0 _ _ _ _
   | exact ih1 _ _ _ _
   | exact ih2 _ _ _ _ _ _ _
   | exact ih3 _ _ _ _ _ _ _
   | exact ih4 _ _ _ _ _ _ _ _ _ _ _ _ _
   | exact bits_FromBytes.mono _ _ _
   | exact sync_Check.mono _ _ _ _
   | exact LeO.none _
   | refine LeO.ite ?_ ?_
   | refine LeO.bind ?_ (fun _ => ?_)
theorem sync_Encode.mono : ∀ a0 a1 a2 a3 k, LeO (sync_Encode.f k a0 a1 a2 a3) (sync_Encode.f (k + 1) a0 a1 a2 a3) := by
 intro a0 a1 a2 a3 k
 obtain ⟨ih0, ih1, ih2, ih3, ih4⟩ := sync_Encode.mono_l k
 unfold sync_Encode.f
 repeat' first
   | (with_reducible exact ih0 _ _ _ _)
   | (with_reducible exact ih1 _ _ _ _)
   | (with_reducible exact ih2 _ _ _ _ _ _ _)
   | (with_reducible exact ih3 _ _ _ _ _ _ _)
   | (with_reducible exact ih4 _ _ _ _ _ _ _ _ _ _ _ _ _)
   | (with_reducible exact bits_FromBytes.mono _ _ _)
   | (with_reducible exact sync_Check.mono _ _ _ _)
   | (with_reducible exact LeO.refl _)
   | (with_reducible exact LeO.none _)
   | (with_reducible refine LeO.ite ?_ ?_)
   | (with_reducible refine LeO.bind ?_ (fun _ => ?_))
   | exact ih0 _ _ _ _
   | exact ih1 _ _ _ _
   | exact ih2 _ _ _ _ _ _ _
   | exact ih3 _ _ _ _ _ _ _
   | exact ih4 _ _ _ _ _ _ _ _ _ _ _ _ _
   | exact bits_FromBytes.mono _ _ _
   | exact sync_Check.mono _ _ _ _
   | exact LeO.none _
   | refine LeO.ite ?_ ?_
   | refine LeO.bind ?_ (fun _ => ?_)
def sync_Encode.T18 : Bool × List (List Nat × List Nat) := (true, [([], []), ([], []), ([1], [1]), ([], []), ([3], [3]), ([], []), ([5], [5]), ([], []), ([7], [7]), ([6, 8], [6, 8]), ([4, 9], [4, 9]), ([2, 10], [2, 10]), ([11], [11]), ([0, 12, 9], [0, 12]), ([13, 13, 0, 1, 2, 3, 4, 5, 6, 7, 8, 9, 10, 11, 12, 13], [0, 13])])
def sync_Encode.B18 : List Nat := [0, 0, 2, 0, 8, 0, 32, 0, 128, 480, 1016, 2046, 4094, 8191, 16383]
theorem sync_Encode.tab18 : rtab .any (opsOf Try.f19 18) = sync_Encode.T18 := by kernel_rfl
theorem sync_Encode.bits18 : waitsOk sync_Encode.T18.2 sync_Encode.B18 = true := by kernel_rfl
set_option maxHeartbeats 8000000 in
set_option maxRecDepth 100000 in
theorem sync_Encode.calls (k : Nat) (a0_0 : ByteArray) (a0_1 : Int) (a0_2 : Bool) (A1 : Option Addr) (c1 : Nat) (l1 : List (S46)) (r1 : List (S46)) (r2 : Int) (w : World) (hr1 : Kd.C k46 w A1 l1.length l1) (hc1 : l1.length ≤ c1) (h : sync_Encode.f k a0_0 a0_1 a0_2 l1 = some (r1, r2)) :
  Calls Try.prog 19 #[.agg #[.string a0_0, .int .i64 a0_1, .bool a0_2], .slice A1 l1.length c1] w fun e w' => ∃ v0_ : Value, e = .returned (.tuple #[v0_, .int .i64 r2]) ∧ Kd.R k46 46 w' w.heap.size (fun _ => True) v0_ r1 ∧ Below w.heap.size w w' := by
 have hu23 := Try.underlying23
 have hu46 := Try.underlying46
 have HR1 := Aside0.mk hr1
 have HC1 := Aside0.mk hc1
 clear hr1 hc1
 have HB := Aside0.mk (Below.refl w.heap.size w)
 have H : ((sync_Check.f k a0_0 a0_1 a0_2).bind fun t246 => (if t246 = 0 then (sync_Encode.j0 k l1 a0_0 a0_1 a0_2) else (some (([] : List (S46)), t246)))) = some (r1, r2) := h
 clear h
 replace H := Option.bind_eq_some_iff.mp H
 obtain ⟨t246, A30, H⟩ := H
 replace H : (if t246 = 0 then (sync_Encode.j0 k l1 a0_0 a0_1 a0_2) else (some (([] : List (S46)), t246))) = some (r1, r2) := H
 have A3 := Aside0.mk A30
 clear A30
 have HC4 := Aside0.mk H
 clear H
 go_enter Try.func19, Try.ntmps19
 go_upto_if 13 with (first | ((with_reducible refine gate_dst (N := 2) rfl ?_); refine box_event ?hg (N := 2) ?hd (cs := #[.string a0_0, .int .i64 a0_1, .bool a0_2]) (t := 23) ?hr ?_; (case hd => rfl); (case hg => rfl); (case hr => first | (go_simp; done) | (go_simp; rfl)); intro gb245 hg w5 hbox hb; have n0_ := Aside0.mk (below_step (hbw HB.out) hb); have n1_ := Aside0.mk (hbox); have n2_ := Aside0.mk ((by rw [hg]; exact (below_size (hbw HB.out)) : w.heap.size ≤ gb245)); have n3_ := Aside0.mk ((by rw [hg]; exact (below_size (hbw HB.out)) : w.heap.size ≤ gb245)); clear HB; have HB := n0_; have BK245 := n1_; have GW245 := n2_; have GE245 := n3_; clear n0_ n1_ n2_ n3_; clear hb hbox hg; have hcz6_0 : w5.cell? ⟨gb245, 0, none⟩ = some (.string a0_0) := (blk_cell BK245.out 0).trans rfl; have hcz6_1 : w5.cell? ⟨gb245, 1, none⟩ = some (.int .i64 a0_1) := (blk_cell BK245.out 1).trans rfl; have hcz6_2 : w5.cell? ⟨gb245, 2, none⟩ = some (.bool a0_2) := (blk_cell BK245.out 2).trans rfl; have hfz6_0 := blk_frozen BK245.out 0; have hfz6_1 := blk_frozen BK245.out 1; have hfz6_2 := blk_frozen BK245.out 2) | ((with_reducible refine gate_callee (f := 21) rfl ?_); refine goesL_ (some 11) rfl rfl Try.func21 (by kernel_rfl) rfl #[.agg #[.string a0_0, .int .i64 a0_1, .bool a0_2]] rfl (by (try simp only [List.map_toArray, List.map_cons, List.map_nil]); first | done | rfl | (simp only [List.length_drop, List.length_take]; rfl)) ?_; (with_reducible refine (sync_Check.calls k a0_0 a0_1 a0_2 t246 _ A3.out).mono ?_); rintro e w7 ⟨rfl, hb⟩; refine ⟨_, rfl, ?_⟩; have n0_ := Aside0.mk (blkb BK245.out hb); have n1_ := Aside0.mk (below_step (hbw HB.out) hb); clear BK245; clear HB; have BK245 := n0_; have HB := n1_; clear n0_ n1_; (try clear hb); (try clear hb2); (try clear hk); (try clear hi)))
 (try simp only [Act.put, List.setIfInBounds_toArray, List.set_cons_zero, List.set_cons_succ])
 go_cut [] (fun wc => ∃ (kq : Nat), Aside0 (sync_Encode.j0 kq l1 a0_0 a0_1 a0_2 = some (r1, r2)) ∧ Aside0 (kq ≤ k) ∧ Aside0 (wc.heap[gb245]? = some (.cells #[.string a0_0, .int .i64 a0_1, .bool a0_2] 23 (0, 0))) ∧ Aside0 (Below w.heap.size w wc))
 case first =>
  have H := HC4.out
  clear HC4
  by_cases c8 : t246 = 0
  ·rw [if_pos c8] at H
   have c8b0 : (t246 == 0) = true := beq_iff_eq.mpr c8
   have c8b1 : (t246 != 0) = false := bne_eq_false_iff_eq.mpr c8
   clear c8
   (first | rw [c8b0] | (simp only [i64_w, i32_w]; rw [c8b0]) | skip)
   have H' := Aside0.mk H
   clear H
   go_wp2
   go_meet
   case rel => exact ⟨_, H', ⟨by first | omega | exact Nat.le_refl _⟩, ⟨by (with_reducible repeat (first | refine blk_drewN ?_ _ | refine blk_drew ?_ | refine blk_alloc ?_ _)); exact BK245.out⟩, ⟨by repeat (first | (with_reducible first | exact HB.out | apply below_alloc | apply pw_below_drewN | apply below_drew1 | refine below_set ?_ GE245.out) | exact HB.out)⟩⟩
  ·rw [if_neg c8] at H
   have c8b0 : (t246 == 0) = false := beq_eq_false_iff_ne.mpr c8
   have c8b1 : (t246 != 0) = true := bne_iff_ne.mpr c8
   (first | rw [c8b0] | (simp only [i64_w, i32_w]; rw [c8b0]) | skip)
   simp only [Option.some.injEq, Prod.mk.injEq] at H
   obtain ⟨rfl, rfl⟩ := H
   go_wp2
   go_ret2
   exact ⟨_, by first | rfl | (simp [errW_none, errW_some] <;> rfl) | (simp [*, errW_none, errW_some] <;> rfl), by first | exact Kd.R_nil _ _ _ _ _ | exact Kd.N_nil _ _ _ _ _ | exact Kd.V_nil _ _ _ _ _ | exact Kd.Q_nil _ _ _ _ _ | exact Kd.S_nil _ _ _ _ _, by repeat (first | (with_reducible first | exact HB.out | apply below_alloc | apply pw_below_drewN | apply below_drew1 | refine below_set ?_ GE245.out) | exact HB.out)⟩
 case rest =>
  clear HC4
  try clear c1
  try clear c2
  try clear p2
  try clear c8
  try clear c8b0
  try clear c8b1
  try clear hcz6_0
  try clear hcz6_1
  try clear hcz6_2
  try clear hfz6_0
  try clear hfz6_1
  try clear hfz6_2
  obtain ⟨kq, HA, HJ3, BK245, HB⟩ := hcut
  cases kq with
  | zero => exact absurd HA.out (by simp [sync_Encode.j0])
  | succ kj3 =>
   have H := HA.out
   clear HA
   simp only [sync_Encode.j0] at H
   have HC9 := Aside0.mk H
   clear H
   go_upto_if 17 with (fail)
   go_cut [] (fun wc => ∃ (kq : Nat), Aside0 (sync_Encode.j1 kq l1 a0_0 a0_1 a0_2 = some (r1, r2)) ∧ Aside0 (kq ≤ kj3) ∧ Aside0 (wc.heap[gb245]? = some (.cells #[.string a0_0, .int .i64 a0_1, .bool a0_2] 23 (0, 0))) ∧ Aside0 (Below w.heap.size w wc))
   case first =>
    have H := HC9.out
    clear HC9
    by_cases c10 : (l1.length : Int) > 1024
    ·rw [if_pos c10] at H
     have c10b0 : decide (1024 < (l1.length : Int)) = true := decide_eq_true c10
     have c10b1 : decide (1024 < l1.length) = true := decide_eq_true (by omega)
     clear c10
     (first | rw [c10b0] | (simp only [i64_w, i32_w]; rw [c10b0]) | skip)
     simp only [Option.some.injEq, Prod.mk.injEq] at H
     obtain ⟨rfl, rfl⟩ := H
     go_wp2
     go_ret2
     exact ⟨_, by first | rfl | (simp [errW_none, errW_some] <;> rfl) | (simp [*, errW_none, errW_some] <;> rfl), by first | exact Kd.R_nil _ _ _ _ _ | exact Kd.N_nil _ _ _ _ _ | exact Kd.V_nil _ _ _ _ _ | exact Kd.Q_nil _ _ _ _ _ | exact Kd.S_nil _ _ _ _ _, by repeat (first | (with_reducible first | exact HB.out | apply below_alloc | apply pw_below_drewN | apply below_drew1 | refine below_set ?_ GE245.out) | exact HB.out)⟩
    ·rw [if_neg c10] at H
     have c10b0 : decide (1024 < (l1.length : Int)) = false := decide_eq_false c10
     have c10b1 : decide (1024 < l1.length) = false := decide_eq_false (by omega)
     clear c10
     (first | rw [c10b0] | (simp only [i64_w, i32_w]; rw [c10b0]) | skip)
     have H' := Aside0.mk H
     clear H
     go_wp2
     go_meet
     case rel => exact ⟨_, H', ⟨by have := HJ3.out; first | omega | exact Nat.le_refl _⟩, ⟨by (with_reducible repeat (first | refine blk_drewN ?_ _ | refine blk_drew ?_ | refine blk_alloc ?_ _)); exact BK245.out⟩, ⟨by repeat (first | (with_reducible first | exact HB.out | apply below_alloc | apply pw_below_drewN | apply below_drew1 | refine below_set ?_ GE245.out) | exact HB.out)⟩⟩
   case rest =>
    clear HC9
    try clear c1
    try clear c2
    try clear p2
    try clear c8
    try clear c8b0
    try clear c8b1
    try clear c10
    try clear c10b0
    try clear c10b1
    try clear hcz6_0
    try clear hcz6_1
    try clear hcz6_2
    try clear hfz6_0
    try clear hfz6_1
    try clear hfz6_2
    try clear p2
    obtain ⟨kq, HA, HJ8, BK245, HB⟩ := hcut
    cases kq with
    | zero => exact absurd HA.out (by simp [sync_Encode.j1])
    | succ kj8 =>
     have H := HA.out
     clear HA
     simp only [sync_Encode.j1] at H
     by_cases c11 : 0 ≤ (l1.length : Int)
     ·rw [if_pos c11] at H
      have c11b0 := eq_true c11
      have c11b1 : decide (0 ≤ (l1.length : Int)) = true := decide_eq_true c11
      clear c11
      by_cases c12 : ((l1.length : Int) : Int).toNat ≤ 5864062014805
      ·rw [if_pos c12] at H
       have c12b0 := eq_true c12
       have c12b1 : decide (((l1.length : Int) : Int).toNat ≤ 5864062014805) = true := decide_eq_true c12
       clear c12
       obtain ⟨y247, hy247⟩ : ∃ y_ : List (S46), y_ = (List.replicate 0 z46) := ⟨_, rfl⟩
       replace H : (sync_Encode.l0 kj8 y247 l1 (l1.length : Int) 0 a0_0 a0_1 a0_2) = some (r1, r2) := by first | (rw [hy247]; with_reducible exact H) | (have H2_ := (Option.bind_some _ _).symm.trans H; rw [hy247]; with_reducible exact H2_) | (have H2_ := (Option.bind_some _ _).symm.trans H; with_reducible exact H2_) | with_reducible exact H | (rw [hy247]; exact H) | exact H
       have Ny247 := Aside0.mk hy247
       clear hy247
       have H' := Aside0.mk H
       clear H
       go_wp2_with (first | ((with_reducible refine gate_dst (N := 20) rfl ?_); refine Kd.R_makeC k46 _ 46 rfl (N := 20) rfl 37 _ _ rfl 0 (l1.length : Int) rfl rfl Try.underlying37 (.agg #[(.int .i64 0), (.int .i64 0), (.int .i64 0), (.string ⟨#[]⟩), (.int .i64 0)]) 48 info46 rfl (by decide) (by omega) z46 (ok := fun _ => True) (okp := fun _ => True) (k46_mkM _ _ _ z46 ) (fun _ hk => hk) trivial (Int.le_refl 0) (of_decide_eq_true (by first | (with_reducible assumption) | assumption)) (Nat.le_trans (Nat.mul_le_mul_right _ (of_decide_eq_true (by first | (with_reducible assumption) | assumption) : (l1.length : Int).toNat ≤ 5864062014805)) (by omega)) (Below.refl _ _) (Nat.le_refl _) ?_; intro v248 w13 ho14 hb hg_ hnew_; clear hg_ hnew_; (first | rw [← Ny247.out] at ho14 | (simp only [Int.reduceToNat] at ho14; rw [← Ny247.out] at ho14)); have n0_ := Aside0.mk (Kd.R_lower ho14 (below_size (hbw HB.out))); have n1_ := Aside0.mk (blkb BK245.out hb); have n2_ := Aside0.mk (below_step (hbw HB.out) hb); clear BK245; clear HB; have HO249 := n0_; have BK245 := n1_; have HB := n2_; clear n0_ n1_ n2_; clear hb ho14))
       go_loopg [7, 23] kj8 (fun kq v7 v23 w' => ∃ (x7_3 : List (S46)) (x23_3 : Int), v23 = .int .i64 x23_3 ∧ Aside0 (sync_Encode.l0 kq x7_3 l1 (l1.length : Int) x23_3 a0_0 a0_1 a0_2 = some (r1, r2)) ∧ Aside0 (kq ≤ kj8) ∧ Aside0 (Kd.R k46 46 w' w.heap.size (fun _ => True) v7 x7_3) ∧ Aside0 (w'.heap[gb245]? = some (.cells #[.string a0_0, .int .i64 a0_1, .bool a0_2] 23 (0, 0))) ∧ Aside0 (Below w.heap.size w w'))
       case atStart => exact ⟨(y247), (0), (by first | rfl | (simp; done) | (simp [*]; done)), H', ⟨Nat.le_refl _⟩, ⟨by (with_reducible repeat (first | apply Kd.R_alloc | apply Kd.R_drewN | apply Kd.R_drew)); exact HO249.out⟩, ⟨by (with_reducible repeat (first | refine blk_drewN ?_ _ | refine blk_drew ?_ | refine blk_alloc ?_ _)); exact BK245.out⟩, ⟨by repeat (first | (with_reducible first | exact HB.out | apply below_alloc | apply pw_below_drewN | apply below_drew1 | refine below_set ?_ GE245.out) | exact HB.out)⟩⟩
       case round =>
        clear H'
        try clear c1
        try clear c2
        try clear p2
        try clear c8
        try clear c8b0
        try clear c8b1
        try clear c10
        try clear c10b0
        try clear c10b1
        try clear c11
        try clear c11b0
        try clear c11b1
        try clear c12
        try clear c12b0
        try clear c12b1
        try clear hcz6_0
        try clear hcz6_1
        try clear hcz6_2
        try clear hfz6_0
        try clear hfz6_1
        try clear hfz6_2
        try clear p2
        obtain ⟨x7_3, x23_3, rfl, HA, HK3, HO_7, BK245, HB⟩ := hrel
        cases gk with
        | zero => exact absurd HA.out (by simp [sync_Encode.l0])
        | succ k3 =>
         have H := HA.out
         clear HA
         simp only [sync_Encode.l0] at H
         have HC15 := Aside0.mk H
         clear H
         go_upto_if 24 with (fail)
         go_cut [] (fun wc => ∃ (kq : Nat), Aside0 (sync_Encode.j3 kq x7_3 l1 (l1.length : Int) x23_3 a0_0 a0_1 a0_2 = some (r1, r2)) ∧ Aside0 (kq ≤ k3) ∧ Aside0 (Kd.R k46 46 wc w.heap.size (fun _ => True) u7 x7_3) ∧ Aside0 (wc.heap[gb245]? = some (.cells #[.string a0_0, .int .i64 a0_1, .bool a0_2] 23 (0, 0))) ∧ Aside0 (Below w.heap.size w wc))
         case first =>
          have H := HC15.out
          clear HC15
          by_cases c16 : x23_3 < (l1.length : Int)
          ·rw [if_pos c16] at H
           have c16b0 : decide (x23_3 < (l1.length : Int)) = true := decide_eq_true c16
           clear c16
           (first | rw [c16b0] | (simp only [i64_w, i32_w]; rw [c16b0]) | skip)
           have H' := Aside0.mk H
           clear H
           go_wp2
           go_meet
           case rel => exact ⟨_, H', ⟨by have := HJ3.out; have := HJ8.out; have := HK3.out; first | omega | exact Nat.le_refl _⟩, ⟨by (with_reducible repeat (first | apply Kd.R_alloc | apply Kd.R_drewN | apply Kd.R_drew)); exact HO_7.out⟩, ⟨by (with_reducible repeat (first | refine blk_drewN ?_ _ | refine blk_drew ?_ | refine blk_alloc ?_ _)); exact BK245.out⟩, ⟨by repeat (first | (with_reducible first | exact HB.out | apply below_alloc | apply pw_below_drewN | apply below_drew1 | refine below_set ?_ GE245.out) | exact HB.out)⟩⟩
          ·rw [if_neg c16] at H
           have c16b0 : decide (x23_3 < (l1.length : Int)) = false := decide_eq_false c16
           clear c16
           (first | rw [c16b0] | (simp only [i64_w, i32_w]; rw [c16b0]) | skip)
           simp only [Option.some.injEq, Prod.mk.injEq] at H
           obtain ⟨rfl, rfl⟩ := H
           go_wp2
           go_ret2
           exact ⟨_, by first | rfl | (simp [errW_none, errW_some] <;> rfl) | (simp [*, errW_none, errW_some] <;> rfl), by (with_reducible repeat (first | apply Kd.R_alloc | apply Kd.R_drewN | apply Kd.R_drew)); exact HO_7.out, by repeat (first | (with_reducible first | exact HB.out | apply below_alloc | apply pw_below_drewN | apply below_drew1 | refine below_set ?_ GE245.out) | exact HB.out)⟩
         case rest =>
          clear HC15
          try clear c1
          try clear c2
          try clear p2
          try clear c8
          try clear c8b0
          try clear c8b1
          try clear c10
          try clear c10b0
          try clear c10b1
          try clear c11
          try clear c11b0
          try clear c11b1
          try clear c12
          try clear c12b0
          try clear c12b1
          try clear c16
          try clear c16b0
          try clear hcz6_0
          try clear hcz6_1
          try clear hcz6_2
          try clear hfz6_0
          try clear hfz6_1
          try clear hfz6_2
          try clear p2
          obtain ⟨kq, HA, HJ14, HO_7, BK245, HB⟩ := hcut
          cases kq with
          | zero => exact absurd HA.out (by simp [sync_Encode.j3])
          | succ kj14 =>
           have H := HA.out
           clear HA
           simp only [sync_Encode.j3] at H
           by_cases c17 : 0 ≤ x23_3
           ·rw [if_pos c17] at H
            have c17b0 : decide (0 ≤ x23_3) = true := decide_eq_true c17
            clear c17
            by_cases c18 : x23_3 < (l1.length : Int)
            ·rw [if_pos c18] at H
             have c18b0 : decide (x23_3 < (l1.length : Int)) = true := decide_eq_true c18
             clear c18
             have HC19 := Aside0.mk H
             clear H
             have p250 : 0 ≤ (x23_3 : Int) := of_decide_eq_true (by first | (with_reducible assumption) | assumption)
             have q250 : x23_3 < (l1.length : Int) := of_decide_eq_true (by first | (with_reducible assumption) | assumption)
             obtain ⟨ad250, e250, hx250_0, hx250_1, hx250_2, hx250_3, hx250_4⟩ := at_T46 HR1.out x23_3 p250 q250
             cases e250
             replace hx250_0 := (HB.out.cell (World.block_lt_of_cell? w _ hx250_0)).trans hx250_0
             replace hx250_1 := (HB.out.cell (World.block_lt_of_cell? w _ hx250_1)).trans hx250_1
             replace hx250_2 := (HB.out.cell (World.block_lt_of_cell? w _ hx250_2)).trans hx250_2
             replace hx250_3 := (HB.out.cell (World.block_lt_of_cell? w _ hx250_3)).trans hx250_3
             replace hx250_4 := (HB.out.cell (World.block_lt_of_cell? w _ hx250_4)).trans hx250_4
             replace p250 := eq_true p250
             replace q250 := eq_true q250
             go_upto_region 10 with (first | ((with_reducible refine gate_dst (N := 9) rfl ?_); refine box_event ?hg (N := 9) ?hd (cs := #[.int .i64 0, .int .i64 0, .int .i64 0, .string (⟨#[]⟩ : ByteArray), .int .i64 0]) (t := 46) ?hr ?_; (case hd => rfl); (case hg => rfl); (case hr => first | (go_simp; done) | (go_simp; rfl)); intro gb251 hg w20 hbox hb; have n0_ := Aside0.mk (Kd.R_below (Kd.R_elderB (rkw HO_7.out) gb251 (Nat.le_of_eq hg.symm)) hb); have n1_ := Aside0.mk (blkb BK245.out hb); have n2_ := Aside0.mk (below_step (hbw HB.out) hb); have n3_ := Aside0.mk (hbox); have n4_ := Aside0.mk ((by rw [hg]; exact (below_size (hbw HB.out)) : w.heap.size ≤ gb251)); have n5_ := Aside0.mk ((by rw [hg]; exact (below_size (hbw HB.out)) : w.heap.size ≤ gb251)); have n6_ := Aside0.mk ((by rw [hg]; exact Nat.ne_of_lt (blkl BK245.out) : gb245 ≠ gb251)); have n7_ := Aside0.mk ((by rw [hg]; exact Nat.ne_of_gt (blkl BK245.out) : gb251 ≠ gb245)); clear HO_7; clear BK245; clear HB; have HO_7 := n0_; have BK245 := n1_; have HB := n2_; have BK251 := n3_; have GW251 := n4_; have GE251 := n5_; have NB245_251 := n6_; have NB251_245 := n7_; clear n0_ n1_ n2_ n3_ n4_ n5_ n6_ n7_; clear hb hbox hg; have hnb21 := NB251_245.out; have hnc21 := NB245_251.out; have hcz22_0 : w20.cell? ⟨gb251, 0, none⟩ = some (.int .i64 0) := (blk_cell BK251.out 0).trans rfl; have hcz22_1 : w20.cell? ⟨gb251, 1, none⟩ = some (.int .i64 0) := (blk_cell BK251.out 1).trans rfl; have hcz22_2 : w20.cell? ⟨gb251, 2, none⟩ = some (.int .i64 0) := (blk_cell BK251.out 2).trans rfl; have hcz22_3 : w20.cell? ⟨gb251, 3, none⟩ = some (.string (⟨#[]⟩ : ByteArray)) := (blk_cell BK251.out 3).trans rfl; have hcz22_4 : w20.cell? ⟨gb251, 4, none⟩ = some (.int .i64 0) := (blk_cell BK251.out 4).trans rfl; have hfz22_0 := blk_frozen BK251.out 0; have hfz22_1 := blk_frozen BK251.out 1; have hfz22_2 := blk_frozen BK251.out 2; have hfz22_3 := blk_frozen BK251.out 3; have hfz22_4 := blk_frozen BK251.out 4))
             (try simp only [Act.put, List.setIfInBounds_toArray, List.set_cons_zero, List.set_cons_succ])
             go_cut [27] (fun v27 wc => ∃ (kq : Nat) (x27_18 : Bool), v27 = .bool x27_18 ∧ Aside0 (sync_Encode.j4 kq x7_3 l1 (l1.length : Int) x23_3 x27_18 a0_0 a0_1 a0_2 ((rd_T46 l1 x23_3).f0) ((rd_T46 l1 x23_3).f1) ((rd_T46 l1 x23_3).f2) ((rd_T46 l1 x23_3).f3) ((rd_T46 l1 x23_3).f4) = some (r1, r2)) ∧ Aside0 (kq ≤ kj14) ∧ Aside0 (Kd.R k46 46 wc w.heap.size (fun k_ => k_ ≠ gb251) u7 x7_3) ∧ Aside0 (wc.heap[gb245]? = some (.cells #[.string a0_0, .int .i64 a0_1, .bool a0_2] 23 (0, 0))) ∧ Aside0 (wc.heap[gb251]? = some (.cells #[.int .i64 ((rd_T46 l1 x23_3).f0), .int .i64 ((rd_T46 l1 x23_3).f1), .int .i64 ((rd_T46 l1 x23_3).f2), .string ((rd_T46 l1 x23_3).f3), .int .i64 ((rd_T46 l1 x23_3).f4)] 46 (0, 0))) ∧ Aside0 (Below w.heap.size w wc))
             case first =>
              have H := HC19.out
              clear HC19
              by_cases c23 : ((rd_T46 l1 x23_3).f0) < 0
              ·rw [if_pos c23] at H
               have c23b0 : decide (((rd_T46 l1 x23_3).f0) < 0) = true := decide_eq_true c23
               clear c23
               (first | rw [c23b0] | (simp only [i64_w, i32_w]; rw [c23b0]) | skip)
               have H' := Aside0.mk H
               clear H
               have hnb24 := NB251_245.out
               have hnc24 := NB245_251.out
               have hcz25_0 : w20.cell? ⟨gb251, 0, none⟩ = some (.int .i64 0) := (blk_cell BK251.out 0).trans rfl
               have hcz25_1 : w20.cell? ⟨gb251, 1, none⟩ = some (.int .i64 0) := (blk_cell BK251.out 1).trans rfl
               have hcz25_2 : w20.cell? ⟨gb251, 2, none⟩ = some (.int .i64 0) := (blk_cell BK251.out 2).trans rfl
               have hcz25_3 : w20.cell? ⟨gb251, 3, none⟩ = some (.string (⟨#[]⟩ : ByteArray)) := (blk_cell BK251.out 3).trans rfl
               have hcz25_4 : w20.cell? ⟨gb251, 4, none⟩ = some (.int .i64 0) := (blk_cell BK251.out 4).trans rfl
               have hfz25_0 := blk_frozen BK251.out 0
               have hfz25_1 := blk_frozen BK251.out 1
               have hfz25_2 := blk_frozen BK251.out 2
               have hfz25_3 := blk_frozen BK251.out 3
               have hfz25_4 := blk_frozen BK251.out 4
               go_wp2
               go_meet
               case rel => exact ⟨_, (true), (by first | rfl | (simp; done) | (simp [*]; done)), H', ⟨by have := HJ3.out; have := HJ8.out; have := HK3.out; have := HJ14.out; first | omega | exact Nat.le_refl _⟩, ⟨by (with_reducible repeat (first | apply Kd.R_alloc | apply Kd.R_drewN | apply Kd.R_drew)); exact Kd.R_mono (Kd.R_far (p := ⟨gb251, 4, none⟩) (Kd.R_far (p := ⟨gb251, 3, none⟩) (Kd.R_far (p := ⟨gb251, 2, none⟩) (Kd.R_far (p := ⟨gb251, 1, none⟩) (Kd.R_far (p := ⟨gb251, 0, none⟩) (Kd.R_mono HO_7.out (fun k_ hk => (⟨hk, hk.2⟩ : _ ∧ k_ ≠ gb251))) (fun _ hk => hk.2) (.int .i64 ((rd_T46 l1 x23_3).f0))) (fun _ hk => hk.2) (.int .i64 ((rd_T46 l1 x23_3).f1))) (fun _ hk => hk.2) (.int .i64 ((rd_T46 l1 x23_3).f2))) (fun _ hk => hk.2) (.string ((rd_T46 l1 x23_3).f3))) (fun _ hk => hk.2) (.int .i64 ((rd_T46 l1 x23_3).f4))) (fun _ hk => hk.1.2)⟩, ⟨by (with_reducible repeat (first | refine blk_drewN ?_ _ | refine blk_drew ?_ | refine blk_alloc ?_ _)); refine blk_far ?_ NB245_251.out _; (with_reducible repeat (first | refine blk_drewN ?_ _ | refine blk_drew ?_ | refine blk_alloc ?_ _)); refine blk_far ?_ NB245_251.out _; (with_reducible repeat (first | refine blk_drewN ?_ _ | refine blk_drew ?_ | refine blk_alloc ?_ _)); refine blk_far ?_ NB245_251.out _; (with_reducible repeat (first | refine blk_drewN ?_ _ | refine blk_drew ?_ | refine blk_alloc ?_ _)); refine blk_far ?_ NB245_251.out _; (with_reducible repeat (first | refine blk_drewN ?_ _ | refine blk_drew ?_ | refine blk_alloc ?_ _)); refine blk_far ?_ NB245_251.out _; (with_reducible repeat (first | refine blk_drewN ?_ _ | refine blk_drew ?_ | refine blk_alloc ?_ _)); exact BK245.out⟩, ⟨by (with_reducible repeat (first | refine blk_drewN ?_ _ | refine blk_drew ?_ | refine blk_alloc ?_ _)); refine blk_put (cs := #[.int .i64 ((rd_T46 l1 x23_3).f0), .int .i64 ((rd_T46 l1 x23_3).f1), .int .i64 ((rd_T46 l1 x23_3).f2), .string ((rd_T46 l1 x23_3).f3), .int .i64 0]) ?_ 4 _ rfl; (with_reducible repeat (first | refine blk_drewN ?_ _ | refine blk_drew ?_ | refine blk_alloc ?_ _)); refine blk_put (cs := #[.int .i64 ((rd_T46 l1 x23_3).f0), .int .i64 ((rd_T46 l1 x23_3).f1), .int .i64 ((rd_T46 l1 x23_3).f2), .string (⟨#[]⟩ : ByteArray), .int .i64 0]) ?_ 3 _ rfl; (with_reducible repeat (first | refine blk_drewN ?_ _ | refine blk_drew ?_ | refine blk_alloc ?_ _)); refine blk_put (cs := #[.int .i64 ((rd_T46 l1 x23_3).f0), .int .i64 ((rd_T46 l1 x23_3).f1), .int .i64 0, .string (⟨#[]⟩ : ByteArray), .int .i64 0]) ?_ 2 _ rfl; (with_reducible repeat (first | refine blk_drewN ?_ _ | refine blk_drew ?_ | refine blk_alloc ?_ _)); refine blk_put (cs := #[.int .i64 ((rd_T46 l1 x23_3).f0), .int .i64 0, .int .i64 0, .string (⟨#[]⟩ : ByteArray), .int .i64 0]) ?_ 1 _ rfl; (with_reducible repeat (first | refine blk_drewN ?_ _ | refine blk_drew ?_ | refine blk_alloc ?_ _)); refine blk_put (cs := #[.int .i64 0, .int .i64 0, .int .i64 0, .string (⟨#[]⟩ : ByteArray), .int .i64 0]) ?_ 0 _ rfl; (with_reducible repeat (first | refine blk_drewN ?_ _ | refine blk_drew ?_ | refine blk_alloc ?_ _)); exact BK251.out⟩, ⟨by repeat (first | (with_reducible first | exact HB.out | apply below_alloc | apply pw_below_drewN | apply below_drew1 | refine below_set ?_ GE245.out | refine below_set ?_ GE251.out) | exact HB.out)⟩⟩
              ·rw [if_neg c23] at H
               have c23b0 : decide (((rd_T46 l1 x23_3).f0) < 0) = false := decide_eq_false c23
               clear c23
               (first | rw [c23b0] | (simp only [i64_w, i32_w]; rw [c23b0]) | skip)
               have H' := Aside0.mk H
               clear H
               have hnb26 := NB251_245.out
               have hnc26 := NB245_251.out
               have hcz27_0 : w20.cell? ⟨gb251, 0, none⟩ = some (.int .i64 0) := (blk_cell BK251.out 0).trans rfl
               have hcz27_1 : w20.cell? ⟨gb251, 1, none⟩ = some (.int .i64 0) := (blk_cell BK251.out 1).trans rfl
               have hcz27_2 : w20.cell? ⟨gb251, 2, none⟩ = some (.int .i64 0) := (blk_cell BK251.out 2).trans rfl
               have hcz27_3 : w20.cell? ⟨gb251, 3, none⟩ = some (.string (⟨#[]⟩ : ByteArray)) := (blk_cell BK251.out 3).trans rfl
               have hcz27_4 : w20.cell? ⟨gb251, 4, none⟩ = some (.int .i64 0) := (blk_cell BK251.out 4).trans rfl
               have hfz27_0 := blk_frozen BK251.out 0
               have hfz27_1 := blk_frozen BK251.out 1
               have hfz27_2 := blk_frozen BK251.out 2
               have hfz27_3 := blk_frozen BK251.out 3
               have hfz27_4 := blk_frozen BK251.out 4
               go_wp2
               go_meet
               case rel => exact ⟨_, (decide (((rd_T46 l1 x23_3).f0) > 1048576)), (by first | rfl | (simp; done) | (simp [*]; done)), H', ⟨by have := HJ3.out; have := HJ8.out; have := HK3.out; have := HJ14.out; first | omega | exact Nat.le_refl _⟩, ⟨by (with_reducible repeat (first | apply Kd.R_alloc | apply Kd.R_drewN | apply Kd.R_drew)); exact Kd.R_mono (Kd.R_far (p := ⟨gb251, 4, none⟩) (Kd.R_far (p := ⟨gb251, 3, none⟩) (Kd.R_far (p := ⟨gb251, 2, none⟩) (Kd.R_far (p := ⟨gb251, 1, none⟩) (Kd.R_far (p := ⟨gb251, 0, none⟩) (Kd.R_mono HO_7.out (fun k_ hk => (⟨hk, hk.2⟩ : _ ∧ k_ ≠ gb251))) (fun _ hk => hk.2) (.int .i64 ((rd_T46 l1 x23_3).f0))) (fun _ hk => hk.2) (.int .i64 ((rd_T46 l1 x23_3).f1))) (fun _ hk => hk.2) (.int .i64 ((rd_T46 l1 x23_3).f2))) (fun _ hk => hk.2) (.string ((rd_T46 l1 x23_3).f3))) (fun _ hk => hk.2) (.int .i64 ((rd_T46 l1 x23_3).f4))) (fun _ hk => hk.1.2)⟩, ⟨by (with_reducible repeat (first | refine blk_drewN ?_ _ | refine blk_drew ?_ | refine blk_alloc ?_ _)); refine blk_far ?_ NB245_251.out _; (with_reducible repeat (first | refine blk_drewN ?_ _ | refine blk_drew ?_ | refine blk_alloc ?_ _)); refine blk_far ?_ NB245_251.out _; (with_reducible repeat (first | refine blk_drewN ?_ _ | refine blk_drew ?_ | refine blk_alloc ?_ _)); refine blk_far ?_ NB245_251.out _; (with_reducible repeat (first | refine blk_drewN ?_ _ | refine blk_drew ?_ | refine blk_alloc ?_ _)); refine blk_far ?_ NB245_251.out _; (with_reducible repeat (first | refine blk_drewN ?_ _ | refine blk_drew ?_ | refine blk_alloc ?_ _)); refine blk_far ?_ NB245_251.out _; (with_reducible repeat (first | refine blk_drewN ?_ _ | refine blk_drew ?_ | refine blk_alloc ?_ _)); exact BK245.out⟩, ⟨by (with_reducible repeat (first | refine blk_drewN ?_ _ | refine blk_drew ?_ | refine blk_alloc ?_ _)); refine blk_put (cs := #[.int .i64 ((rd_T46 l1 x23_3).f0), .int .i64 ((rd_T46 l1 x23_3).f1), .int .i64 ((rd_T46 l1 x23_3).f2), .string ((rd_T46 l1 x23_3).f3), .int .i64 0]) ?_ 4 _ rfl; (with_reducible repeat (first | refine blk_drewN ?_ _ | refine blk_drew ?_ | refine blk_alloc ?_ _)); refine blk_put (cs := #[.int .i64 ((rd_T46 l1 x23_3).f0), .int .i64 ((rd_T46 l1 x23_3).f1), .int .i64 ((rd_T46 l1 x23_3).f2), .string (⟨#[]⟩ : ByteArray), .int .i64 0]) ?_ 3 _ rfl; (with_reducible repeat (first | refine blk_drewN ?_ _ | refine blk_drew ?_ | refine blk_alloc ?_ _)); refine blk_put (cs := #[.int .i64 ((rd_T46 l1 x23_3).f0), .int .i64 ((rd_T46 l1 x23_3).f1), .int .i64 0, .string (⟨#[]⟩ : ByteArray), .int .i64 0]) ?_ 2 _ rfl; (with_reducible repeat (first | refine blk_drewN ?_ _ | refine blk_drew ?_ | refine blk_alloc ?_ _)); refine blk_put (cs := #[.int .i64 ((rd_T46 l1 x23_3).f0), .int .i64 0, .int .i64 0, .string (⟨#[]⟩ : ByteArray), .int .i64 0]) ?_ 1 _ rfl; (with_reducible repeat (first | refine blk_drewN ?_ _ | refine blk_drew ?_ | refine blk_alloc ?_ _)); refine blk_put (cs := #[.int .i64 0, .int .i64 0, .int .i64 0, .string (⟨#[]⟩ : ByteArray), .int .i64 0]) ?_ 0 _ rfl; (with_reducible repeat (first | refine blk_drewN ?_ _ | refine blk_drew ?_ | refine blk_alloc ?_ _)); exact BK251.out⟩, ⟨by repeat (first | (with_reducible first | exact HB.out | apply below_alloc | apply pw_below_drewN | apply below_drew1 | refine below_set ?_ GE245.out | refine below_set ?_ GE251.out) | exact HB.out)⟩⟩
             case rest =>
              clear HC19
              try clear c1
              try clear c2
              try clear p2
              try clear q2
              try clear hx2
              try clear c8
              try clear c8b0
              try clear c8b1
              try clear c10
              try clear c10b0
              try clear c10b1
              try clear c11
              try clear c11b0
              try clear c11b1
              try clear c12
              try clear c12b0
              try clear c12b1
              try clear c16
              try clear c16b0
              try clear c17
              try clear c17b0
              try clear c18
              try clear c18b0
              try clear c19
              try clear c21
              try clear c23
              try clear c23b0
              try clear c24
              try clear p25
              try clear q25
              try clear hx25
              try clear c26
              try clear hcz22_0
              try clear hcz22_1
              try clear hcz22_2
              try clear hcz22_3
              try clear hcz22_4
              try clear hcz25_0
              try clear hcz25_1
              try clear hcz25_2
              try clear hcz25_3
              try clear hcz25_4
              try clear hcz27_0
              try clear hcz27_1
              try clear hcz27_2
              try clear hcz27_3
              try clear hcz27_4
              try clear hcz6_0
              try clear hcz6_1
              try clear hcz6_2
              try clear hfz22_0
              try clear hfz22_1
              try clear hfz22_2
              try clear hfz22_3
              try clear hfz22_4
              try clear hfz25_0
              try clear hfz25_1
              try clear hfz25_2
              try clear hfz25_3
              try clear hfz25_4
              try clear hfz27_0
              try clear hfz27_1
              try clear hfz27_2
              try clear hfz27_3
              try clear hfz27_4
              try clear hfz6_0
              try clear hfz6_1
              try clear hfz6_2
              try clear hx250_0
              try clear hx250_1
              try clear hx250_2
              try clear hx250_3
              try clear hx250_4
              try clear p2
              try clear p250
              try clear q250
              obtain ⟨kq, x27_18, rfl, HA, HJ18, HO_7, BK245, BK251, HB⟩ := hcut
              cases kq with
              | zero => exact absurd HA.out (by simp [sync_Encode.j4])
              | succ kj18 =>
               have H := HA.out
               clear HA
               simp only [sync_Encode.j4] at H
               by_cases c28 : x27_18 = true
               ·subst c28
                have H1 : (some (([] : List (S46)), 1)) = some (r1, r2) := by rw [if_pos rfl] at H; exact H
                clear H
                have H := H1
                clear H1
                simp only [Option.some.injEq, Prod.mk.injEq] at H
                obtain ⟨rfl, rfl⟩ := H
                go_wp2
                go_ret2
                exact ⟨_, by first | rfl | (simp [errW_none, errW_some] <;> rfl) | (simp [*, errW_none, errW_some] <;> rfl), by first | exact Kd.R_nil _ _ _ _ _ | exact Kd.N_nil _ _ _ _ _ | exact Kd.V_nil _ _ _ _ _ | exact Kd.Q_nil _ _ _ _ _ | exact Kd.S_nil _ _ _ _ _, by repeat (first | (with_reducible first | exact HB.out | apply below_alloc | apply pw_below_drewN | apply below_drew1 | refine below_set ?_ GE245.out | refine below_set ?_ GE251.out) | exact HB.out)⟩
               ·replace c28 := Bool.eq_false_iff.mpr c28
                subst c28
                have H1 : (if (((rd_T46 l1 x23_3).f3).size : Int) > 4096 then (some (([] : List (S46)), 6)) else (if (((rd_T46 l1 x23_3).f3).size : Int) = a0_1 then (if ((rd_T46 l1 x23_3).f1) = 0 then (if ((rd_T46 l1 x23_3).f2) = 0 then (if ((rd_T46 l1 x23_3).f4) = 0 then ((bits_FromBytes.f kj18 ((rd_T46 l1 x23_3).f3) a0_2).bind fun t252 => (if a0_0.size + t252.size ≤ 9223372036854775807 then (if x7_3.length < 2932031007402 then (sync_Encode.l0 kj18 (x7_3 ++ [(⟨((rd_T46 l1 x23_3).f0), 0, 0, a0_0 ++ t252, 0⟩ : S46)]) l1 (l1.length : Int) (wrap64 (x23_3 + 1)) a0_0 a0_1 a0_2) else (none)) else (none))) else (some (([] : List (S46)), 1))) else (some (([] : List (S46)), 1))) else (some (([] : List (S46)), 1))) else (some (([] : List (S46)), 2)))) = some (r1, r2) := by rw [if_neg (show ¬ (false = true) by decide)] at H; exact H
                clear H
                have H := H1
                clear H1
                by_cases c29 : (((rd_T46 l1 x23_3).f3).size : Int) > 4096
                ·rw [if_pos c29] at H
                 have c29b0 : decide (4096 < (((rd_T46 l1 x23_3).f3).size : Int)) = true := decide_eq_true c29
                 have c29b1 : decide (4096 < ((rd_T46 l1 x23_3).f3).size) = true := decide_eq_true (by omega)
                 clear c29
                 simp only [Option.some.injEq, Prod.mk.injEq] at H
                 obtain ⟨rfl, rfl⟩ := H
                 have hnb30 := NB251_245.out
                 have hnc30 := NB245_251.out
                 have hcz31_0 : wc.cell? ⟨gb251, 0, none⟩ = some (.int .i64 ((rd_T46 l1 x23_3).f0)) := (blk_cell BK251.out 0).trans rfl
                 have hcz31_1 : wc.cell? ⟨gb251, 1, none⟩ = some (.int .i64 ((rd_T46 l1 x23_3).f1)) := (blk_cell BK251.out 1).trans rfl
                 have hcz31_2 : wc.cell? ⟨gb251, 2, none⟩ = some (.int .i64 ((rd_T46 l1 x23_3).f2)) := (blk_cell BK251.out 2).trans rfl
                 have hcz31_3 : wc.cell? ⟨gb251, 3, none⟩ = some (.string ((rd_T46 l1 x23_3).f3)) := (blk_cell BK251.out 3).trans rfl
                 have hcz31_4 : wc.cell? ⟨gb251, 4, none⟩ = some (.int .i64 ((rd_T46 l1 x23_3).f4)) := (blk_cell BK251.out 4).trans rfl
                 have hfz31_0 := blk_frozen BK251.out 0
                 have hfz31_1 := blk_frozen BK251.out 1
                 have hfz31_2 := blk_frozen BK251.out 2
                 have hfz31_3 := blk_frozen BK251.out 3
                 have hfz31_4 := blk_frozen BK251.out 4
                 go_wp2
                 go_ret2
                 exact ⟨_, by first | rfl | (simp [errW_none, errW_some] <;> rfl) | (simp [*, errW_none, errW_some] <;> rfl), by first | exact Kd.R_nil _ _ _ _ _ | exact Kd.N_nil _ _ _ _ _ | exact Kd.V_nil _ _ _ _ _ | exact Kd.Q_nil _ _ _ _ _ | exact Kd.S_nil _ _ _ _ _, by repeat (first | (with_reducible first | exact HB.out | apply below_alloc | apply pw_below_drewN | apply below_drew1 | refine below_set ?_ GE245.out | refine below_set ?_ GE251.out) | exact HB.out)⟩
                ·rw [if_neg c29] at H
                 have c29b0 : decide (4096 < (((rd_T46 l1 x23_3).f3).size : Int)) = false := decide_eq_false c29
                 have c29b1 : decide (4096 < ((rd_T46 l1 x23_3).f3).size) = false := decide_eq_false (by omega)
                 clear c29
                 by_cases c32 : (((rd_T46 l1 x23_3).f3).size : Int) = a0_1
                 ·rw [if_pos c32] at H
                  have c32b0 : ((((rd_T46 l1 x23_3).f3).size : Int) == a0_1) = true := beq_iff_eq.mpr c32
                  have c32b1 : ((((rd_T46 l1 x23_3).f3).size : Int) != a0_1) = false := bne_eq_false_iff_eq.mpr c32
                  clear c32
                  by_cases c33 : ((rd_T46 l1 x23_3).f1) = 0
                  ·rw [if_pos c33] at H
                   have c33b0 : (((rd_T46 l1 x23_3).f1) == 0) = true := beq_iff_eq.mpr c33
                   have c33b1 : (((rd_T46 l1 x23_3).f1) != 0) = false := bne_eq_false_iff_eq.mpr c33
                   clear c33
                   by_cases c34 : ((rd_T46 l1 x23_3).f2) = 0
                   ·rw [if_pos c34] at H
                    have c34b0 : (((rd_T46 l1 x23_3).f2) == 0) = true := beq_iff_eq.mpr c34
                    have c34b1 : (((rd_T46 l1 x23_3).f2) != 0) = false := bne_eq_false_iff_eq.mpr c34
                    clear c34
                    by_cases c35 : ((rd_T46 l1 x23_3).f4) = 0
                    ·rw [if_pos c35] at H
                     have c35b0 : (((rd_T46 l1 x23_3).f4) == 0) = true := beq_iff_eq.mpr c35
                     have c35b1 : (((rd_T46 l1 x23_3).f4) != 0) = false := bne_eq_false_iff_eq.mpr c35
                     clear c35
                     replace H := Option.bind_eq_some_iff.mp H
                     obtain ⟨t252, A360, H⟩ := H
                     replace H : (if a0_0.size + t252.size ≤ 9223372036854775807 then (if x7_3.length < 2932031007402 then (sync_Encode.l0 kj18 (x7_3 ++ [(⟨((rd_T46 l1 x23_3).f0), 0, 0, a0_0 ++ t252, 0⟩ : S46)]) l1 (l1.length : Int) (wrap64 (x23_3 + 1)) a0_0 a0_1 a0_2) else (none)) else (none)) = some (r1, r2) := H
                     have A36 := Aside0.mk A360
                     clear A360
                     by_cases c37 : a0_0.size + t252.size ≤ 9223372036854775807
                     ·rw [if_pos c37] at H
                      have c37b0 := eq_true c37
                      have c37b1 : decide (a0_0.size + t252.size ≤ 9223372036854775807) = true := decide_eq_true c37
                      try have c37b2 : (9223372036854775807 < a0_0.size + t252.size) = False := eq_false (Nat.not_lt.2 c37)
                      by_cases c38 : x7_3.length < 2932031007402
                      ·rw [if_pos c38] at H
                       have LMc38 := Aside0.mk c38
                       clear c38
                       obtain ⟨y253, hy253⟩ : ∃ y_ : List (S46), y_ = (x7_3 ++ [(⟨((rd_T46 l1 x23_3).f0), 0, 0, a0_0 ++ t252, 0⟩ : S46)]) := ⟨_, rfl⟩
                       replace H : (sync_Encode.l0 kj18 y253 l1 (l1.length : Int) (wrap64 (x23_3 + 1)) a0_0 a0_1 a0_2) = some (r1, r2) := by first | (rw [hy253]; with_reducible exact H) | (have H2_ := (Option.bind_some _ _).symm.trans H; rw [hy253]; with_reducible exact H2_) | (have H2_ := (Option.bind_some _ _).symm.trans H; with_reducible exact H2_) | with_reducible exact H | (rw [hy253]; exact H) | exact H
                       have Ny253 := Aside0.mk hy253
                       clear hy253
                       have H' := Aside0.mk H
                       clear H
                       have hnb39 := NB251_245.out
                       have hnc39 := NB245_251.out
                       have hcz40_0 : wc.cell? ⟨gb251, 0, none⟩ = some (.int .i64 ((rd_T46 l1 x23_3).f0)) := (blk_cell BK251.out 0).trans rfl
                       have hcz40_1 : wc.cell? ⟨gb251, 1, none⟩ = some (.int .i64 ((rd_T46 l1 x23_3).f1)) := (blk_cell BK251.out 1).trans rfl
                       have hcz40_2 : wc.cell? ⟨gb251, 2, none⟩ = some (.int .i64 ((rd_T46 l1 x23_3).f2)) := (blk_cell BK251.out 2).trans rfl
                       have hcz40_3 : wc.cell? ⟨gb251, 3, none⟩ = some (.string ((rd_T46 l1 x23_3).f3)) := (blk_cell BK251.out 3).trans rfl
                       have hcz40_4 : wc.cell? ⟨gb251, 4, none⟩ = some (.int .i64 ((rd_T46 l1 x23_3).f4)) := (blk_cell BK251.out 4).trans rfl
                       have hfz40_0 := blk_frozen BK251.out 0
                       have hfz40_1 := blk_frozen BK251.out 1
                       have hfz40_2 := blk_frozen BK251.out 2
                       have hfz40_3 := blk_frozen BK251.out 3
                       have hfz40_4 := blk_frozen BK251.out 4
                       have hcz41_0 : wc.cell? ⟨gb245, 0, none⟩ = some (.string a0_0) := (blk_cell BK245.out 0).trans rfl
                       have hcz41_1 : wc.cell? ⟨gb245, 1, none⟩ = some (.int .i64 a0_1) := (blk_cell BK245.out 1).trans rfl
                       have hcz41_2 : wc.cell? ⟨gb245, 2, none⟩ = some (.bool a0_2) := (blk_cell BK245.out 2).trans rfl
                       have hfz41_0 := blk_frozen BK245.out 0
                       have hfz41_1 := blk_frozen BK245.out 1
                       have hfz41_2 := blk_frozen BK245.out 2
                       try go_wp2
                       have n0_ := Aside0.mk (Kd.R_drew HO_7.out)
                       have n1_ := Aside0.mk (blk_drew BK245.out)
                       have n2_ := Aside0.mk (blk_drew BK251.out)
                       have n3_ := Aside0.mk (below_drew1 HB.out)
                       clear HO_7
                       clear BK245
                       clear BK251
                       clear HB
                       have HO_7 := n0_
                       have BK245 := n1_
                       have BK251 := n2_
                       have HB := n3_
                       clear n0_ n1_ n2_ n3_
                       refine start_ (n := 15) (S := fun w' => w'.cell? ⟨gb251, 0, none⟩ = some (.int .i64 ((rd_T46 l1 x23_3).f0)) ∧ w'.cell? ⟨gb251, 1, none⟩ = some (.int .i64 ((rd_T46 l1 x23_3).f1)) ∧ w'.cell? ⟨gb251, 2, none⟩ = some (.int .i64 ((rd_T46 l1 x23_3).f2)) ∧ w'.cell? ⟨gb251, 3, none⟩ = some (.string ((rd_T46 l1 x23_3).f3)) ∧ w'.cell? ⟨gb251, 4, none⟩ = some (.int .i64 ((rd_T46 l1 x23_3).f4)) ∧ w'.cell? ⟨gb245, 0, none⟩ = some (.string a0_0) ∧ w'.cell? ⟨gb245, 1, none⟩ = some (.int .i64 a0_1) ∧ w'.cell? ⟨gb245, 2, none⟩ = some (.bool a0_2)) (ds := []) #[false, false, false, false, false, false, false, false, false, false, false, false, false, false, false] (by kernel_rfl) rfl rfl ⟨(blk_cell BK251.out 0).trans rfl, (blk_cell BK251.out 1).trans rfl, (blk_cell BK251.out 2).trans rfl, (blk_cell BK251.out 3).trans rfl, (blk_cell BK251.out 4).trans rfl, (blk_cell BK245.out 0).trans rfl, (blk_cell BK245.out 1).trans rfl, (blk_cell BK245.out 2).trans rfl⟩ (fun hHeld => ?_); refine with_tabW sync_Encode.tab18 sync_Encode.bits18 (fun HT_ HW_ => ?_)
                       generalize wc.drew = w42 at HO_7 BK245 BK251 HB hHeld ⊢
                       refine pstep 0 (some 62) #[true, false, false, false, false, false, false, false, false, false, false, false, false, false, false] HT_.out ?_
                       refine pstep 1 (some 63) #[true, true, false, false, false, false, false, false, false, false, false, false, false, false, false] HT_.out ?_
                       refine pstep 3 (some 65) #[true, true, false, true, false, false, false, false, false, false, false, false, false, false, false] HT_.out ?_
                       refine pstep 5 (some 67) #[true, true, false, true, false, true, false, false, false, false, false, false, false, false, false] HT_.out ?_
                       refine pstep 7 (some 69) #[true, true, false, true, false, true, false, true, false, false, false, false, false, false, false] HT_.out ?_
                       refine take_ (i := 2) (N := some 64) (v := ?_) (a' := ?_) #[true, true, true, true, false, true, false, true, false, false, false, false, false, false, false] rfl rfl (take_ofW HT_.out HW_.out (by kernel_rfl)) (fun _ _ _ h => h) (Or.inl ⟨by rfl, ?_⟩) hHeld ?_ ?_
                       rotate_left
                       ·rintro w' ⟨s0, s1, s2, s3, s4, s5, s6, s7⟩
                        go_simp
                        with_reducible rfl
                       rotate_left
                       ·simp only [Act.put, nrm]
                        rfl
                       refine take_ (i := 4) (N := some 66) (v := ?_) (a' := ?_) #[true, true, true, true, true, true, false, true, false, false, false, false, false, false, false] rfl rfl (take_ofW HT_.out HW_.out (by kernel_rfl)) (fun _ _ _ h => h) (Or.inl ⟨by rfl, ?_⟩) hHeld ?_ ?_
                       rotate_left
                       ·rintro w' ⟨s0, s1, s2, s3, s4, s5, s6, s7⟩
                        go_simp
                        with_reducible rfl
                       rotate_left
                       ·simp only [Act.put, nrm]
                        rfl
                       refine take_ (i := 6) (N := some 68) (v := ?_) (a' := ?_) #[true, true, true, true, true, true, true, true, false, false, false, false, false, false, false] rfl rfl (take_ofW HT_.out HW_.out (by kernel_rfl)) (fun _ _ _ h => h) (Or.inl ⟨by rfl, ?_⟩) hHeld ?_ ?_
                       rotate_left
                       ·rintro w' ⟨s0, s1, s2, s3, s4, s5, s6, s7⟩
                        go_simp
                        with_reducible rfl
                       rotate_left
                       ·simp only [Act.put, nrm]
                        rfl
                       refine take_ (i := 8) (N := some 70) (v := ?_) (a' := ?_) #[true, true, true, true, true, true, true, true, true, false, false, false, false, false, false] rfl rfl (take_ofW HT_.out HW_.out (by kernel_rfl)) (fun _ _ _ h => h) (Or.inl ⟨by rfl, ?_⟩) hHeld ?_ ?_
                       rotate_left
                       ·rintro w' ⟨s0, s1, s2, s3, s4, s5, s6, s7⟩
                        go_simp
                        with_reducible rfl
                       rotate_left
                       ·simp only [Act.put, nrm]
                        rfl
                       refine one_ (i := 9) (N := some 71) #[true, true, true, true, true, true, true, true, true, true, false, false, false, false, false] rfl rfl (one_of HT_.out (by kernel_rfl)) (by decide) (fun K hK => ?_)
                       refine goes_ Try.func39 (by kernel_rfl) rfl #[.string ((rd_T46 l1 x23_3).f3), .bool a0_2] (by rfl) rfl rfl (by (try simp only [List.map_toArray, List.map_cons, List.map_nil]); first | done | rfl | (simp only [List.length_drop, List.length_take]; rfl)) ?_
                       with_reducible refine (bits_FromBytes.calls kj18 ((rd_T46 l1 x23_3).f3) a0_2 t252 _ A36.out).mono ?_
                       rintro e w43 ⟨rfl, hb⟩
                       refine ⟨_, rfl, ?_⟩
                       have n0_ := Aside0.mk (Kd.R_below (rkw HO_7.out) hb)
                       have n1_ := Aside0.mk (blkb BK245.out hb)
                       have n2_ := Aside0.mk (blkb BK251.out hb)
                       have n3_ := Aside0.mk (below_step (hbw HB.out) hb)
                       clear HO_7
                       clear BK245
                       clear BK251
                       clear HB
                       have HO_7 := n0_
                       have BK245 := n1_
                       have BK251 := n2_
                       have HB := n3_
                       clear n0_ n1_ n2_ n3_
                       (try clear hb)
                       (try clear hb2)
                       (try clear hk)
                       (try clear hi)
                       refine hK.out _ _ ⟨(blk_cell BK251.out 0).trans rfl, (blk_cell BK251.out 1).trans rfl, (blk_cell BK251.out 2).trans rfl, (blk_cell BK251.out 3).trans rfl, (blk_cell BK251.out 4).trans rfl, (blk_cell BK245.out 0).trans rfl, (blk_cell BK245.out 1).trans rfl, (blk_cell BK245.out 2).trans rfl⟩ (fun hHeld => ?_)
                       clear hK K
                       refine norm_ (a' := ?_) ?_ ?_
                       rotate_left
                       ·show Act.put _ (some 71) _ = _
                        simp only [Act.put, nrm]
                        rfl
                       refine pstep 10 (some 72) #[true, true, true, true, true, true, true, true, true, true, true, false, false, false, false] HT_.out ?_
                       refine pstep 11 (some 73) #[true, true, true, true, true, true, true, true, true, true, true, true, false, false, false] HT_.out ?_
                       refine one_ (i := 12) (N := some 74) #[true, true, true, true, true, true, true, true, true, true, true, true, true, false, false] rfl rfl (one_of HT_.out (by kernel_rfl)) (by decide) (fun K hK => ?_)
                       refine value_ (w1 := ?_) (v := ?_) (by rfl) rfl ?_ ?_
                       rotate_left 2
                       ·go_simp
                        constructor
                        ·rfl
                        ·rfl
                       refine hK.out _ _ ⟨(blk_cell (blk_alloc BK251.out _) 0).trans rfl, (blk_cell (blk_alloc BK251.out _) 1).trans rfl, (blk_cell (blk_alloc BK251.out _) 2).trans rfl, (blk_cell (blk_alloc BK251.out _) 3).trans rfl, (blk_cell (blk_alloc BK251.out _) 4).trans rfl, (blk_cell (blk_alloc BK245.out _) 0).trans rfl, (blk_cell (blk_alloc BK245.out _) 1).trans rfl, (blk_cell (blk_alloc BK245.out _) 2).trans rfl⟩ (fun hHeld => ?_)
                       clear hK K
                       refine norm_ (a' := ?_) ?_ ?_
                       rotate_left
                       ·show Act.put _ (some 74) _ = _
                        simp only [Act.put, nrm]
                        rfl
                       refine one_ (i := 13) (N := some 75) #[true, true, true, true, true, true, true, true, true, true, true, true, true, true, false] rfl rfl (one_of HT_.out (by kernel_rfl)) (by decide) (fun K hK => ?_)
                       refine Kd.R_append_step k46 (w0 := w) w.heap.size (by rfl) (.tmp 62) (.tmp 74) 37 46 (.agg #[(.int .i64 0), (.int .i64 0), (.int .i64 0), (.string ⟨#[]⟩), (.int .i64 0)]) 48 rfl Try.underlying37 info46 rfl (by decide) (by omega) u7 x7_3 (⟨((rd_T46 l1 x23_3).f0), 0, 0, a0_0 ++ t252, 0⟩ : S46) [.int .i64 ((rd_T46 l1 x23_3).f0), .int .i64 0, .int .i64 0, .string (a0_0 ++ t252), .int .i64 0] (fun k_ => k_ ≠ gb251) (fun _ => False) rfl rfl ?aP (fun _ hk => hk.elim) ?aF ?aO ?aB ?aS ?aL ?_
                       (case aP => exact k46_mkM _ _ _ (⟨((rd_T46 l1 x23_3).f0), 0, 0, a0_0 ++ t252, 0⟩ : S46))
                       (case aB => exact (hbw HB.out))
                       (case aF => exact (fun k_ hk => Kd.freshB (g := gb251) (o := .cells #[.int .i64 ((rd_T46 l1 x23_3).f0), .int .i64 ((rd_T46 l1 x23_3).f1), .int .i64 ((rd_T46 l1 x23_3).f2), .string ((rd_T46 l1 x23_3).f3), .int .i64 ((rd_T46 l1 x23_3).f4)] 46 (0, 0)) (bkw BK251.out) k_ hk))
                       (case aO => exact (rkw HO_7.out))
                       (case aS => exact (below_size (hbw HB.out)))
                       (case aL => have := LMc38.out; omega)
                       intro v254 w44 ho hb hg hat
                       rw [← Ny253.out] at ho
                       have n0_ := Aside0.mk (blkg BK245.out hg (Kd.R_ne HO_7.out BK245.out (by decide)))
                       have n1_ := Aside0.mk (blkg BK251.out hg (Kd.R_away HO_7.out (fun _ hk => hk)))
                       have n2_ := Aside0.mk (hb)
                       have n3_ := Aside0.mk (ho)
                       clear BK245
                       clear BK251
                       clear HB
                       clear HO_7
                       have BK245 := n0_
                       have BK251 := n1_
                       have HB := n2_
                       have HO255 := n3_
                       clear n0_ n1_ n2_ n3_
                       clear ho hb hg hat
                       refine hK.out _ _ ⟨(blk_cell BK251.out 0).trans rfl, (blk_cell BK251.out 1).trans rfl, (blk_cell BK251.out 2).trans rfl, (blk_cell BK251.out 3).trans rfl, (blk_cell BK251.out 4).trans rfl, (blk_cell BK245.out 0).trans rfl, (blk_cell BK245.out 1).trans rfl, (blk_cell BK245.out 2).trans rfl⟩ (fun hHeld => ?_)
                       clear hK K
                       refine norm_ (a' := ?_) ?_ ?_
                       rotate_left
                       ·show Act.put _ (some 75) _ = _
                        simp only [Act.put, nrm]
                        rfl
                       refine pstep 14 (some 7) #[true, true, true, true, true, true, true, true, true, true, true, true, true, true, true] HT_.out ?_
                       refine done_ (done_of HT_.out (by kernel_rfl)) ?_
                       try go_wp2
                       go_roundg kj18
                       case measure => have := HJ3.out; have := HJ8.out; have := HK3.out; have := HJ14.out; have := HJ18.out; omega
                       case rel => exact ⟨(y253), (wrap64 (x23_3 + 1)), (by first | rfl | (simp; done) | (simp [*]; done)), H', ⟨by have := HJ3.out; have := HJ8.out; have := HK3.out; have := HJ14.out; have := HJ18.out; omega⟩, ⟨by (with_reducible repeat (first | apply Kd.R_alloc | apply Kd.R_drewN | apply Kd.R_drew)); exact Kd.R_mono HO255.out (fun _ hk => trivial)⟩, ⟨by (with_reducible repeat (first | refine blk_drewN ?_ _ | refine blk_drew ?_ | refine blk_alloc ?_ _)); exact BK245.out⟩, ⟨by repeat (first | (with_reducible first | exact HB.out | apply below_alloc | apply pw_below_drewN | apply below_drew1 | refine below_set ?_ GE245.out | refine below_set ?_ GE251.out) | exact HB.out)⟩⟩
                      ·rw [if_neg c38] at H
                       exact absurd H (by simp)
                     ·rw [if_neg c37] at H
                      exact absurd H (by simp)
                    ·rw [if_neg c35] at H
                     have c35b0 : (((rd_T46 l1 x23_3).f4) == 0) = false := beq_eq_false_iff_ne.mpr c35
                     have c35b1 : (((rd_T46 l1 x23_3).f4) != 0) = true := bne_iff_ne.mpr c35
                     simp only [Option.some.injEq, Prod.mk.injEq] at H
                     obtain ⟨rfl, rfl⟩ := H
                     have hnb45 := NB251_245.out
                     have hnc45 := NB245_251.out
                     have hcz46_0 : wc.cell? ⟨gb251, 0, none⟩ = some (.int .i64 ((rd_T46 l1 x23_3).f0)) := (blk_cell BK251.out 0).trans rfl
                     have hcz46_1 : wc.cell? ⟨gb251, 1, none⟩ = some (.int .i64 ((rd_T46 l1 x23_3).f1)) := (blk_cell BK251.out 1).trans rfl
                     have hcz46_2 : wc.cell? ⟨gb251, 2, none⟩ = some (.int .i64 ((rd_T46 l1 x23_3).f2)) := (blk_cell BK251.out 2).trans rfl
                     have hcz46_3 : wc.cell? ⟨gb251, 3, none⟩ = some (.string ((rd_T46 l1 x23_3).f3)) := (blk_cell BK251.out 3).trans rfl
                     have hcz46_4 : wc.cell? ⟨gb251, 4, none⟩ = some (.int .i64 ((rd_T46 l1 x23_3).f4)) := (blk_cell BK251.out 4).trans rfl
                     have hfz46_0 := blk_frozen BK251.out 0
                     have hfz46_1 := blk_frozen BK251.out 1
                     have hfz46_2 := blk_frozen BK251.out 2
                     have hfz46_3 := blk_frozen BK251.out 3
                     have hfz46_4 := blk_frozen BK251.out 4
                     have hcz47_0 : wc.cell? ⟨gb245, 0, none⟩ = some (.string a0_0) := (blk_cell BK245.out 0).trans rfl
                     have hcz47_1 : wc.cell? ⟨gb245, 1, none⟩ = some (.int .i64 a0_1) := (blk_cell BK245.out 1).trans rfl
                     have hcz47_2 : wc.cell? ⟨gb245, 2, none⟩ = some (.bool a0_2) := (blk_cell BK245.out 2).trans rfl
                     have hfz47_0 := blk_frozen BK245.out 0
                     have hfz47_1 := blk_frozen BK245.out 1
                     have hfz47_2 := blk_frozen BK245.out 2
                     go_wp2
                     go_ret2
                     exact ⟨_, by first | rfl | (simp [errW_none, errW_some] <;> rfl) | (simp [*, errW_none, errW_some] <;> rfl), by first | exact Kd.R_nil _ _ _ _ _ | exact Kd.N_nil _ _ _ _ _ | exact Kd.V_nil _ _ _ _ _ | exact Kd.Q_nil _ _ _ _ _ | exact Kd.S_nil _ _ _ _ _, by repeat (first | (with_reducible first | exact HB.out | apply below_alloc | apply pw_below_drewN | apply below_drew1 | refine below_set ?_ GE245.out | refine below_set ?_ GE251.out) | exact HB.out)⟩
                   ·rw [if_neg c34] at H
                    have c34b0 : (((rd_T46 l1 x23_3).f2) == 0) = false := beq_eq_false_iff_ne.mpr c34
                    have c34b1 : (((rd_T46 l1 x23_3).f2) != 0) = true := bne_iff_ne.mpr c34
                    simp only [Option.some.injEq, Prod.mk.injEq] at H
                    obtain ⟨rfl, rfl⟩ := H
                    have hnb48 := NB251_245.out
                    have hnc48 := NB245_251.out
                    have hcz49_0 : wc.cell? ⟨gb251, 0, none⟩ = some (.int .i64 ((rd_T46 l1 x23_3).f0)) := (blk_cell BK251.out 0).trans rfl
                    have hcz49_1 : wc.cell? ⟨gb251, 1, none⟩ = some (.int .i64 ((rd_T46 l1 x23_3).f1)) := (blk_cell BK251.out 1).trans rfl
                    have hcz49_2 : wc.cell? ⟨gb251, 2, none⟩ = some (.int .i64 ((rd_T46 l1 x23_3).f2)) := (blk_cell BK251.out 2).trans rfl
                    have hcz49_3 : wc.cell? ⟨gb251, 3, none⟩ = some (.string ((rd_T46 l1 x23_3).f3)) := (blk_cell BK251.out 3).trans rfl
                    have hcz49_4 : wc.cell? ⟨gb251, 4, none⟩ = some (.int .i64 ((rd_T46 l1 x23_3).f4)) := (blk_cell BK251.out 4).trans rfl
                    have hfz49_0 := blk_frozen BK251.out 0
                    have hfz49_1 := blk_frozen BK251.out 1
                    have hfz49_2 := blk_frozen BK251.out 2
                    have hfz49_3 := blk_frozen BK251.out 3
                    have hfz49_4 := blk_frozen BK251.out 4
                    have hcz50_0 : wc.cell? ⟨gb245, 0, none⟩ = some (.string a0_0) := (blk_cell BK245.out 0).trans rfl
                    have hcz50_1 : wc.cell? ⟨gb245, 1, none⟩ = some (.int .i64 a0_1) := (blk_cell BK245.out 1).trans rfl
                    have hcz50_2 : wc.cell? ⟨gb245, 2, none⟩ = some (.bool a0_2) := (blk_cell BK245.out 2).trans rfl
                    have hfz50_0 := blk_frozen BK245.out 0
                    have hfz50_1 := blk_frozen BK245.out 1
                    have hfz50_2 := blk_frozen BK245.out 2
                    go_wp2
                    go_ret2
                    exact ⟨_, by first | rfl | (simp [errW_none, errW_some] <;> rfl) | (simp [*, errW_none, errW_some] <;> rfl), by first | exact Kd.R_nil _ _ _ _ _ | exact Kd.N_nil _ _ _ _ _ | exact Kd.V_nil _ _ _ _ _ | exact Kd.Q_nil _ _ _ _ _ | exact Kd.S_nil _ _ _ _ _, by repeat (first | (with_reducible first | exact HB.out | apply below_alloc | apply pw_below_drewN | apply below_drew1 | refine below_set ?_ GE245.out | refine below_set ?_ GE251.out) | exact HB.out)⟩
                  ·rw [if_neg c33] at H
                   have c33b0 : (((rd_T46 l1 x23_3).f1) == 0) = false := beq_eq_false_iff_ne.mpr c33
                   have c33b1 : (((rd_T46 l1 x23_3).f1) != 0) = true := bne_iff_ne.mpr c33
                   simp only [Option.some.injEq, Prod.mk.injEq] at H
                   obtain ⟨rfl, rfl⟩ := H
                   have hnb51 := NB251_245.out
                   have hnc51 := NB245_251.out
                   have hcz52_0 : wc.cell? ⟨gb251, 0, none⟩ = some (.int .i64 ((rd_T46 l1 x23_3).f0)) := (blk_cell BK251.out 0).trans rfl
                   have hcz52_1 : wc.cell? ⟨gb251, 1, none⟩ = some (.int .i64 ((rd_T46 l1 x23_3).f1)) := (blk_cell BK251.out 1).trans rfl
                   have hcz52_2 : wc.cell? ⟨gb251, 2, none⟩ = some (.int .i64 ((rd_T46 l1 x23_3).f2)) := (blk_cell BK251.out 2).trans rfl
                   have hcz52_3 : wc.cell? ⟨gb251, 3, none⟩ = some (.string ((rd_T46 l1 x23_3).f3)) := (blk_cell BK251.out 3).trans rfl
                   have hcz52_4 : wc.cell? ⟨gb251, 4, none⟩ = some (.int .i64 ((rd_T46 l1 x23_3).f4)) := (blk_cell BK251.out 4).trans rfl
                   have hfz52_0 := blk_frozen BK251.out 0
                   have hfz52_1 := blk_frozen BK251.out 1
                   have hfz52_2 := blk_frozen BK251.out 2
                   have hfz52_3 := blk_frozen BK251.out 3
                   have hfz52_4 := blk_frozen BK251.out 4
                   have hcz53_0 : wc.cell? ⟨gb245, 0, none⟩ = some (.string a0_0) := (blk_cell BK245.out 0).trans rfl
                   have hcz53_1 : wc.cell? ⟨gb245, 1, none⟩ = some (.int .i64 a0_1) := (blk_cell BK245.out 1).trans rfl
                   have hcz53_2 : wc.cell? ⟨gb245, 2, none⟩ = some (.bool a0_2) := (blk_cell BK245.out 2).trans rfl
                   have hfz53_0 := blk_frozen BK245.out 0
                   have hfz53_1 := blk_frozen BK245.out 1
                   have hfz53_2 := blk_frozen BK245.out 2
                   go_wp2
                   go_ret2
                   exact ⟨_, by first | rfl | (simp [errW_none, errW_some] <;> rfl) | (simp [*, errW_none, errW_some] <;> rfl), by first | exact Kd.R_nil _ _ _ _ _ | exact Kd.N_nil _ _ _ _ _ | exact Kd.V_nil _ _ _ _ _ | exact Kd.Q_nil _ _ _ _ _ | exact Kd.S_nil _ _ _ _ _, by repeat (first | (with_reducible first | exact HB.out | apply below_alloc | apply pw_below_drewN | apply below_drew1 | refine below_set ?_ GE245.out | refine below_set ?_ GE251.out) | exact HB.out)⟩
                 ·rw [if_neg c32] at H
                  have c32b0 : ((((rd_T46 l1 x23_3).f3).size : Int) == a0_1) = false := beq_eq_false_iff_ne.mpr c32
                  have c32b1 : ((((rd_T46 l1 x23_3).f3).size : Int) != a0_1) = true := bne_iff_ne.mpr c32
                  simp only [Option.some.injEq, Prod.mk.injEq] at H
                  obtain ⟨rfl, rfl⟩ := H
                  have hnb54 := NB251_245.out
                  have hnc54 := NB245_251.out
                  have hcz55_0 : wc.cell? ⟨gb251, 0, none⟩ = some (.int .i64 ((rd_T46 l1 x23_3).f0)) := (blk_cell BK251.out 0).trans rfl
                  have hcz55_1 : wc.cell? ⟨gb251, 1, none⟩ = some (.int .i64 ((rd_T46 l1 x23_3).f1)) := (blk_cell BK251.out 1).trans rfl
                  have hcz55_2 : wc.cell? ⟨gb251, 2, none⟩ = some (.int .i64 ((rd_T46 l1 x23_3).f2)) := (blk_cell BK251.out 2).trans rfl
                  have hcz55_3 : wc.cell? ⟨gb251, 3, none⟩ = some (.string ((rd_T46 l1 x23_3).f3)) := (blk_cell BK251.out 3).trans rfl
                  have hcz55_4 : wc.cell? ⟨gb251, 4, none⟩ = some (.int .i64 ((rd_T46 l1 x23_3).f4)) := (blk_cell BK251.out 4).trans rfl
                  have hfz55_0 := blk_frozen BK251.out 0
                  have hfz55_1 := blk_frozen BK251.out 1
                  have hfz55_2 := blk_frozen BK251.out 2
                  have hfz55_3 := blk_frozen BK251.out 3
                  have hfz55_4 := blk_frozen BK251.out 4
                  have hcz56_0 : wc.cell? ⟨gb245, 0, none⟩ = some (.string a0_0) := (blk_cell BK245.out 0).trans rfl
                  have hcz56_1 : wc.cell? ⟨gb245, 1, none⟩ = some (.int .i64 a0_1) := (blk_cell BK245.out 1).trans rfl
                  have hcz56_2 : wc.cell? ⟨gb245, 2, none⟩ = some (.bool a0_2) := (blk_cell BK245.out 2).trans rfl
                  have hfz56_0 := blk_frozen BK245.out 0
                  have hfz56_1 := blk_frozen BK245.out 1
                  have hfz56_2 := blk_frozen BK245.out 2
                  go_wp2
                  go_ret2
                  exact ⟨_, by first | rfl | (simp [errW_none, errW_some] <;> rfl) | (simp [*, errW_none, errW_some] <;> rfl), by first | exact Kd.R_nil _ _ _ _ _ | exact Kd.N_nil _ _ _ _ _ | exact Kd.V_nil _ _ _ _ _ | exact Kd.Q_nil _ _ _ _ _ | exact Kd.S_nil _ _ _ _ _, by repeat (first | (with_reducible first | exact HB.out | apply below_alloc | apply pw_below_drewN | apply below_drew1 | refine below_set ?_ GE245.out | refine below_set ?_ GE251.out) | exact HB.out)⟩
            ·rw [if_neg c18] at H
             exact absurd H (by simp)
           ·rw [if_neg c17] at H
            exact absurd H (by simp)
      ·rw [if_neg c12] at H
       exact absurd H (by simp)
     ·rw [if_neg c11] at H
      exact absurd H (by simp)

end Go.Proofs.Ytbggkaofkohecaa.PSyncRoundTrips
