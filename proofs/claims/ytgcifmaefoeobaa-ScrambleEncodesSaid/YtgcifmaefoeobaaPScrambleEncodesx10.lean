-- Written by a program of this session (wip/tools/pr.py), which calls the kit's print with changes of its own.
import Derived.Test.YtgcifmaefoeobaaPScrambleEncodesx0
import Derived.Test.YtgcifmaefoeobaaPScrambleEncodesx8
import Derived.Test.YtgcifmaefoeobaaPScrambleEncodesx9
namespace Go.Proofs.Ytgcifmaefoeobaa.PScrambleEncodes
open Go.RowKit Go.Proofs.YtgcifmaefoeobaaW.PrintWords Go.Proofs.YtgcifmaefoeobaaW.PrintLast Go.Proofs.YtgcifmaefoeobaaW.PrintMore
attribute [local go_sem] max2_int min2_int max_two min_two max_three min_three max_four min_four   -- for this text's walks alone
set_option linter.unusedVariables false
set_option linter.unusedSimpArgs false

/-! ### signalbenchref20_Encode: function 21 -/
mutual
def signalbenchref20_Encode.j0 : Nat → List (S46) → Int → Int → Option ((List (S46)) × Int)
 | 0, _, _, _ => none
 | k + 1, x1, x223000, x223001 => if (x1.length : Int) > 1024 then (some (([] : List (S46)), 6)) else (signalbenchref20_Encode.j1 k x1 x223000 x223001)
def signalbenchref20_Encode.j1 : Nat → List (S46) → Int → Int → Option ((List (S46)) × Int)
 | 0, _, _, _ => none
 | k + 1, x1, x223000, x223001 => signalbenchref20_Encode.l0 k x1 0 x223000 x223001
def signalbenchref20_Encode.l0 : Nat → List (S46) → Int → Int → Int → Option ((List (S46)) × Int)
 | 0, _, _, _, _ => none
 | k + 1, x1, x7, x223000, x223001 => if x7 < (x1.length : Int) then (if 0 ≤ x7 then ((signalbenchref20_right.f k ((rd_T46 x1 x7).f0) ((rd_T46 x1 x7).f1) ((rd_T46 x1 x7).f2) ((rd_T46 x1 x7).f3) ((rd_T46 x1 x7).f4)).bind fun t225 => (if t225 = 0 then (signalbenchref20_Encode.l0 k x1 (wrap64 (x7 + 1)) x223000 x223001) else (some (([] : List (S46)), t225)))) else (none)) else (if 0 ≤ (x1.length : Int) then (if ((x1.length : Int) : Int).toNat ≤ 5864062014805 then (signalbenchref20_Encode.l1 k x1 (List.replicate 0 z46) 0 0 x223000 x223001) else (none)) else (none))
def signalbenchref20_Encode.l1 : Nat → List (S46) → List (S46) → Int → Int → Int → Int → Option ((List (S46)) × Int)
 | 0, _, _, _, _, _, _ => none
 | k + 1, x1, x9, x10, x11, x223000, x223001 => if x11 < (x1.length : Int) then (signalbenchref20_Encode.j4 k x1 x9 x10 x11 x223000 x223001) else (some (x9, 0))
def signalbenchref20_Encode.j4 : Nat → List (S46) → List (S46) → Int → Int → Int → Int → Option ((List (S46)) × Int)
 | 0, _, _, _, _, _, _ => none
 | k + 1, x1, x9, x10, x11, x223000, x223001 => if 0 ≤ x11 then (if x11 < (x1.length : Int) then (if 0 ≤ (((rd_T46 x1 x11).f3).size : Int) then (if ((((rd_T46 x1 x11).f3).size : Int) : Int).toNat ≤ 281474976710656 then (signalbenchref20_Encode.l2 k x1 x9 x10 x11 (List.replicate 0 0) 0 x223000 x223001) else (none)) else (none)) else (none)) else (none)
def signalbenchref20_Encode.l2 : Nat → List (S46) → List (S46) → Int → Int → List Int → Int → Int → Int → Option ((List (S46)) × Int)
 | 0, _, _, _, _, _, _, _, _ => none
 | k + 1, x1, x9, x10, x11, x12, x13, x223000, x223001 => if 0 ≤ x11 then (if x11 < (x1.length : Int) then (if x13 < (((rd_T46 x1 x11).f3).size : Int) then (if 0 ≤ x13 then ((signalbenchref20_parity.f k x223000 x223001 x10).bind fun t235 => (if x12.length < 140737488355328 then ((signalbenchref20_insert.f k x223000 x223001 x10 (Int.tmod (wrap64 ((wrap64 ((wrap64 (bt ((rd_T46 x1 x11).f3) x13)) - 48)) + t235)) 2)).bind fun t239 => (signalbenchref20_Encode.l2 k x1 x9 t239 x11 (x12 ++ [(wrap64 (48 + (Int.tmod (wrap64 ((wrap64 ((wrap64 (bt ((rd_T46 x1 x11).f3) x13)) - 48)) + t235)) 2))) % 256]) (wrap64 (x13 + 1)) x223000 x223001)) else (none))) else (none)) else (if x9.length < 2932031007402 then (signalbenchref20_Encode.l1 k x1 (x9 ++ [(⟨(rd_T46 x1 x11).f0, 0, 0, strOfNums x12, 0⟩ : S46)]) x10 (wrap64 (x11 + 1)) x223000 x223001) else (none))) else (none)) else (none)
end
def signalbenchref20_Encode.f (k : Nat) (a0_0 : Int) (a0_1 : Int) (l1 : List (S46)) : Option ((List (S46)) × Int) := (signalbenchref20_Check.f k a0_0 a0_1).bind fun t223 => (if t223 = 0 then (signalbenchref20_Encode.j0 k l1 a0_0 a0_1) else (some (([] : List (S46)), t223)))
theorem signalbenchref20_Encode.mono_l : ∀ k, (∀ y0 y1 y2, LeO (signalbenchref20_Encode.j0 k y0 y1 y2) (signalbenchref20_Encode.j0 (k + 1) y0 y1 y2)) ∧ (∀ y0 y1 y2, LeO (signalbenchref20_Encode.j1 k y0 y1 y2) (signalbenchref20_Encode.j1 (k + 1) y0 y1 y2)) ∧ (∀ y0 y1 y2 y3, LeO (signalbenchref20_Encode.l0 k y0 y1 y2 y3) (signalbenchref20_Encode.l0 (k + 1) y0 y1 y2 y3)) ∧ (∀ y0 y1 y2 y3 y4 y5, LeO (signalbenchref20_Encode.l1 k y0 y1 y2 y3 y4 y5) (signalbenchref20_Encode.l1 (k + 1) y0 y1 y2 y3 y4 y5)) ∧ (∀ y0 y1 y2 y3 y4 y5, LeO (signalbenchref20_Encode.j4 k y0 y1 y2 y3 y4 y5) (signalbenchref20_Encode.j4 (k + 1) y0 y1 y2 y3 y4 y5)) ∧ (∀ y0 y1 y2 y3 y4 y5 y6 y7, LeO (signalbenchref20_Encode.l2 k y0 y1 y2 y3 y4 y5 y6 y7) (signalbenchref20_Encode.l2 (k + 1) y0 y1 y2 y3 y4 y5 y6 y7))
 | 0 => ⟨fun _ _ _ r h => by simp [signalbenchref20_Encode.j0] at h, fun _ _ _ r h => by simp [signalbenchref20_Encode.j1] at h, fun _ _ _ _ r h => by simp [signalbenchref20_Encode.l0] at h, fun _ _ _ _ _ _ r h => by simp [signalbenchref20_Encode.l1] at h, fun _ _ _ _ _ _ r h => by simp [signalbenchref20_Encode.j4] at h, fun _ _ _ _ _ _ _ _ r h => by simp [signalbenchref20_Encode.l2] at h⟩
 | k + 1 => by
  obtain ⟨ih0, ih1, ih2, ih3, ih4, ih5⟩ := signalbenchref20_Encode.mono_l k
  refine ⟨?_, ?_, ?_, ?_, ?_, ?_⟩
  ·intro y0 y1 y2
   unfold signalbenchref20_Encode.j0
   repeat' first
   | (with_reducible exact ih0 _ _ _)
   | (with_reducible exact ih1 _ _ _)
   | (with_reducible exact ih2 _ _ _ _)
   | (with_reducible exact ih3 _ _ _ _ _ _)
   | (with_reducible exact ih4 _ _ _ _ _ _)
   | (with_reducible exact ih5 _ _ _ _ _ _ _ _)
   | (with_reducible exact signalbenchref20_Check.mono _ _ _)
   | (with_reducible exact signalbenchref20_insert.mono _ _ _ _ _)
   | (with_reducible exact signalbenchref20_parity.mono _ _ _ _)
   | (with_reducible exact signalbenchref20_right.mono _ _ _ _ _ _)
   | (with_reducible exact LeO.refl _)
   | (with_reducible exact LeO.none _)
   | (with_reducible refine LeO.ite ?_ ?_)
   | (with_reducible refine LeO.bind ?_ (fun _ => ?_))
   | exact ih0 _ _ _
   | exact ih1 _ _ _
   | exact ih2 _ _ _ _
   | exact ih3 _ _ _ _ _ _
   | exact ih4 _ _ _ _ _ _
   | exact ih5 _ _ _ _ _ _ _ _
   | exact signalbenchref20_Check.mono _ _ _
   | exact signalbenchref20_insert.mono _ _ _ _ _
   | exact signalbenchref20_parity.mono _ _ _ _
   | exact signalbenchref20_right.mono _ _ _ _ _ _
   | exact LeO.none _
   | refine LeO.ite ?_ ?_
   | refine LeO.bind ?_ (fun _ => ?_)
  ·intro y0 y1 y2
   unfold signalbenchref20_Encode.j1
   repeat' first
   | (with_reducible exact ih0 _ _ _)
   | (with_reducible exact ih1 _ _ _)
   | (with_reducible exact ih2 _ _ _ _)
   | (with_reducible exact ih3 _ _ _ _ _ _)
   | (with_reducible exact ih4 _ _ _ _ _ _)
   | (with_reducible exact ih5 _ _ _ _ _ _ _ _)
   | (with_reducible exact signalbenchref20_Check.mono _ _ _)
   | (with_reducible exact signalbenchref20_insert.mono _ _ _ _ _)
   | (with_reducible exact signalbenchref20_parity.mono _ _ _ _)
   | (with_reducible exact signalbenchref20_right.mono _ _ _ _ _ _)
   | (with_reducible exact LeO.refl _)
   | (with_reducible exact LeO.none _)
   | (with_reducible refine LeO.ite ?_ ?_)
   | (with_reducible refine LeO.bind ?_ (fun _ => ?_))
   | exact ih0 _ _ _
   | exact ih1 _ _ _
   | exact ih2 _ _ _ _
   | exact ih3 _ _ _ _ _ _
   | exact ih4 _ _ _ _ _ _
   | exact ih5 _ _ _ _ _ _ _ _
   | exact signalbenchref20_Check.mono _ _ _
   | exact signalbenchref20_insert.mono _ _ _ _ _
   | exact signalbenchref20_parity.mono _ _ _ _
   | exact signalbenchref20_right.mono _ _ _ _ _ _
   | exact LeO.none _
   | refine LeO.ite ?_ ?_
   | refine LeO.bind ?_ (fun _ => ?_)
  ·intro y0 y1 y2 y3
   unfold signalbenchref20_Encode.l0
   repeat' first
   | (with_reducible exact ih0 _ _ _)
   | (with_reducible exact ih1 _ _ _)
   | (with_reducible exact ih2 _ _ _ _)
   | (with_reducible exact ih3 _ _ _ _ _ _)
   | (with_reducible exact ih4 _ _ _ _ _ _)
   | (with_reducible exact ih5 _ _ _ _ _ _ _ _)
   | (with_reducible exact signalbenchref20_Check.mono _ _ _)
   | (with_reducible exact signalbenchref20_insert.mono _ _ _ _ _)
   | (with_reducible exact signalbenchref20_parity.mono _ _ _ _)
   | (with_reducible exact signalbenchref20_right.mono _ _ _ _ _ _)
   | (with_reducible exact LeO.refl _)
   | (with_reducible exact LeO.none _)
   | (with_reducible refine LeO.ite ?_ ?_)
   | (with_reducible refine LeO.bind ?_ (fun _ => ?_))
   | exact ih0 _ _ _
   | exact ih1 _ _ _
   | exact ih2 _ _ _ _
   | exact ih3 _ _ _ _ _ _
   | exact ih4 _ _ _ _ _ _
   | exact ih5 _ _ _ _ _ _ _ _
   | exact signalbenchref20_Check.mono _ _ _
   | exact signalbenchref20_insert.mono _ _ _ _ _
   | exact signalbenchref20_parity.mono _ _ _ _
   | exact signalbenchref20_right.mono _ _ _ _ _ _
   | exact LeO.none _
   | refine LeO.ite ?_ ?_
   | refine LeO.bind ?_ (fun _ => ?_)
  ·intro y0 y1 y2 y3 y4 y5
   unfold signalbenchref20_Encode.l1
   repeat' first
   | (with_reducible exact ih0 _ _ _)
   | (with_reducible exact ih1 _ _ _)
   | (with_reducible exact ih2 _ _ _ _)
   | (with_reducible exact ih3 _ _ _ _ _ _)
   | (with_reducible exact ih4 _ _ _ _ _ _)
   | (with_reducible exact ih5 _ _ _ _ _ _ _ _)
   | (with_reducible exact signalbenchref20_Check.mono _ _ _)
   | (with_reducible exact signalbenchref20_insert.mono _ _ _ _ _)
   | (with_reducible exact signalbenchref20_parity.mono _ _ _ _)
   | (with_reducible exact signalbenchref20_right.mono _ _ _ _ _ _)
   | (with_reducible exact LeO.refl _)
   | (with_reducible exact LeO.none _)
   | (with_reducible refine LeO.ite ?_ ?_)
   | (with_reducible refine LeO.bind ?_ (fun _ => ?_))
   | exact ih0 _ _ _
   | exact ih1 _ _ _
   | exact ih2 _ _ _ _
   | exact ih3 _ _ _ _ _ _
   | exact ih4 _ _ _ _ _ _
   | exact ih5 _ _ _ _ _ _ _ _
   | exact signalbenchref20_Check.mono _ _ _
   | exact signalbenchref20_insert.mono _ _ _ _ _
   | exact signalbenchref20_parity.mono _ _ _ _
   | exact signalbenchref20_right.mono _ _ _ _ _ _
   | exact LeO.none _
   | refine LeO.ite ?_ ?_
   | refine LeO.bind ?_ (fun _ => ?_)
  ·intro y0 y1 y2 y3 y4 y5
   unfold signalbenchref20_Encode.j4
   repeat' first
   | (with_reducible exact ih0 _ _ _)
   | (with_reducible exact ih1 _ _ _)
   | (with_reducible exact ih2 _ _ _ _)
   | (with_reducible exact ih3 _ _ _ _ _ _)
   | (with_reducible exact ih4 _ _ _ _ _ _)
   | (with_reducible exact ih5 _ _ _ _ _ _ _ _)
   | (with_reducible exact signalbenchref20_Check.mono _ _ _)
   | (with_reducible exact signalbenchref20_insert.mono _ _ _ _ _)
   | (with_reducible exact signalbenchref20_parity.mono _ _ _ _)
   | (with_reducible exact signalbenchref20_right.mono _ _ _ _ _ _)
   | (with_reducible exact LeO.refl _)
   | (with_reducible exact LeO.none _)
   | (with_reducible refine LeO.ite ?_ ?_)
   | (with_reducible refine LeO.bind ?_ (fun _ => ?_))
   | exact ih0 _ _ _
   | exact ih1 _ _ _
   | exact ih2 _ _ _ _
   | exact ih3 _ _ _ _ _ _
   | exact ih4 _ _ _ _ _ _
   | exact ih5 _ _ _ _ _ _ _ _
   | exact signalbenchref20_Check.mono _ _ _
   | exact signalbenchref20_insert.mono _ _ _ _ _
   | exact signalbenchref20_parity.mono _ _ _ _
   | exact signalbenchref20_right.mono _ _ _ _ _ _
   | exact LeO.none _
   | refine LeO.ite ?_ ?_
   | refine LeO.bind ?_ (fun _ => ?_)
  ·intro y0 y1 y2 y3 y4 y5 y6 y7
   unfold signalbenchref20_Encode.l2
   repeat' first
   | (with_reducible exact ih0 _ _ _)
   | (with_reducible exact ih1 _ _ _)
   | (with_reducible exact ih2 _ _ _ _)
   | (with_reducible exact ih3 _ _ _ _ _ _)
   | (with_reducible exact ih4 _ _ _ _ _ _)
   | (with_reducible exact ih5 _ _ _ _ _ _ _ _)
   | (with_reducible exact signalbenchref20_Check.mono _ _ _)
   | (with_reducible exact signalbenchref20_insert.mono _ _ _ _ _)
   | (with_reducible exact signalbenchref20_parity.mono _ _ _ _)
   | (with_reducible exact signalbenchref20_right.mono _ _ _ _ _ _)
   | (with_reducible exact LeO.refl _)
   | (with_reducible exact LeO.none _)
   | (with_reducible refine LeO.ite ?_ ?_)
   | (with_reducible refine LeO.bind ?_ (fun _ => ?_))
   | exact ih0 _ _ _
   | exact ih1 _ _ _
   | exact ih2 _ _ _ _
   | exact ih3 _ _ _ _ _ _
   | exact ih4 _ _ _ _ _ _
   | exact ih5 _ _ _ _ _ _ _ _
   | exact signalbenchref20_Check.mono _ _ _
   | exact signalbenchref20_insert.mono _ _ _ _ _
   | exact signalbenchref20_parity.mono _ _ _ _
   | exact signalbenchref20_right.mono _ _ _ _ _ _
   | exact LeO.none _
   | refine LeO.ite ?_ ?_
   | refine LeO.bind ?_ (fun _ => ?_)
theorem signalbenchref20_Encode.mono : ∀ a0 a1 a2 k, LeO (signalbenchref20_Encode.f k a0 a1 a2) (signalbenchref20_Encode.f (k + 1) a0 a1 a2) := by
 intro a0 a1 a2 k
 obtain ⟨ih0, ih1, ih2, ih3, ih4, ih5⟩ := signalbenchref20_Encode.mono_l k
 unfold signalbenchref20_Encode.f
 repeat' first
   | (with_reducible exact ih0 _ _ _)
   | (with_reducible exact ih1 _ _ _)
   | (with_reducible exact ih2 _ _ _ _)
   | (with_reducible exact ih3 _ _ _ _ _ _)
   | (with_reducible exact ih4 _ _ _ _ _ _)
   | (with_reducible exact ih5 _ _ _ _ _ _ _ _)
   | (with_reducible exact signalbenchref20_Check.mono _ _ _)
   | (with_reducible exact signalbenchref20_insert.mono _ _ _ _ _)
   | (with_reducible exact signalbenchref20_parity.mono _ _ _ _)
   | (with_reducible exact signalbenchref20_right.mono _ _ _ _ _ _)
   | (with_reducible exact LeO.refl _)
   | (with_reducible exact LeO.none _)
   | (with_reducible refine LeO.ite ?_ ?_)
   | (with_reducible refine LeO.bind ?_ (fun _ => ?_))
   | exact ih0 _ _ _
   | exact ih1 _ _ _
   | exact ih2 _ _ _ _
   | exact ih3 _ _ _ _ _ _
   | exact ih4 _ _ _ _ _ _
   | exact ih5 _ _ _ _ _ _ _ _
   | exact signalbenchref20_Check.mono _ _ _
   | exact signalbenchref20_insert.mono _ _ _ _ _
   | exact signalbenchref20_parity.mono _ _ _ _
   | exact signalbenchref20_right.mono _ _ _ _ _ _
   | exact LeO.none _
   | refine LeO.ite ?_ ?_
   | refine LeO.bind ?_ (fun _ => ?_)
def signalbenchref20_Encode.T21 : Bool × List (List Nat × List Nat) := (true, [([], []), ([], []), ([0, 1], [0, 1]), ([2], [2]), ([3], [3]), ([], []), ([4, 5], [4, 5]), ([6], [6]), ([7], [7]), ([], []), ([], []), ([9, 10], [9, 10]), ([8, 11], [8, 11]), ([12], [12]), ([13, 11, 0, 1, 2, 3, 4, 5, 6, 7, 8, 9, 10, 11, 12, 13], [13])])
def signalbenchref20_Encode.B21 : List Nat := [0, 0, 3, 7, 15, 0, 63, 127, 255, 0, 0, 1536, 4095, 8191, 16383]
theorem signalbenchref20_Encode.tab21 : rtab .any (opsOf Try.f21 21) = signalbenchref20_Encode.T21 := by kernel_rfl
theorem signalbenchref20_Encode.bits21 : waitsOk signalbenchref20_Encode.T21.2 signalbenchref20_Encode.B21 = true := by kernel_rfl
def signalbenchref20_Encode.T24 : Bool × List (List Nat × List Nat) := (true, [([], []), ([], []), ([], []), ([1, 2], [1, 2]), ([3], [3]), ([4], [4]), ([], []), ([6], [6]), ([5, 7], [5, 7]), ([8], [8]), ([0, 9], [0, 9]), ([10, 10, 0, 1, 2, 3, 4, 5, 6, 7, 8, 9, 10], [0, 10])])
def signalbenchref20_Encode.B24 : List Nat := [0, 0, 0, 6, 14, 30, 0, 64, 254, 510, 1023, 2047]
theorem signalbenchref20_Encode.tab24 : rtab .any (opsOf Try.f21 24) = signalbenchref20_Encode.T24 := by kernel_rfl
theorem signalbenchref20_Encode.bits24 : waitsOk signalbenchref20_Encode.T24.2 signalbenchref20_Encode.B24 = true := by kernel_rfl
set_option maxHeartbeats 8000000 in
set_option maxRecDepth 100000 in
theorem signalbenchref20_Encode.calls (k : Nat) (a0_0 : Int) (a0_1 : Int) (A1 : Option Addr) (c1 : Nat) (l1 : List (S46)) (r1 : List (S46)) (r2 : Int) (w : World) (hr1 : Kd.C k46 w A1 l1.length l1) (hc1 : l1.length ≤ c1) (h : signalbenchref20_Encode.f k a0_0 a0_1 l1 = some (r1, r2)) :
  Calls Try.prog 21 #[.agg #[.int .i64 a0_0, .int .i64 a0_1], .slice A1 l1.length c1] w fun e w' => ∃ v0_ : Value, e = .returned (.tuple #[v0_, .int .i64 r2]) ∧ Kd.R k46 46 w' w.heap.size (fun _ => True) v0_ r1 ∧ Below w.heap.size w w' := by
 have hu23 := Try.underlying23
 have hu46 := Try.underlying46
 have HR1 := Aside0.mk hr1
 have HC1 := Aside0.mk hc1
 clear hr1 hc1
 have HB := Aside0.mk (Below.refl w.heap.size w)
 have H : ((signalbenchref20_Check.f k a0_0 a0_1).bind fun t223 => (if t223 = 0 then (signalbenchref20_Encode.j0 k l1 a0_0 a0_1) else (some (([] : List (S46)), t223)))) = some (r1, r2) := h
 clear h
 replace H := Option.bind_eq_some_iff.mp H
 obtain ⟨t223, A30, H⟩ := H
 replace H : (if t223 = 0 then (signalbenchref20_Encode.j0 k l1 a0_0 a0_1) else (some (([] : List (S46)), t223))) = some (r1, r2) := H
 have A3 := Aside0.mk A30
 clear A30
 have HC4 := Aside0.mk H
 clear H
 go_enter Try.func21, Try.ntmps21
 go_upto_if 18 with (first | ((with_reducible refine gate_dst (N := 2) rfl ?_); refine box_event ?hg (N := 2) ?hd (cs := #[.int .i64 a0_0, .int .i64 a0_1]) (t := 23) ?hr ?_; (case hd => rfl); (case hg => rfl); (case hr => first | (go_simp; done) | (go_simp; rfl)); intro gb222 hg w5 hbox hb; have n0_ := Aside0.mk (below_step (hbw HB.out) hb); have n1_ := Aside0.mk (hbox); have n2_ := Aside0.mk ((by rw [hg]; exact (below_size (hbw HB.out)) : w.heap.size ≤ gb222)); have n3_ := Aside0.mk ((by rw [hg]; exact (below_size (hbw HB.out)) : w.heap.size ≤ gb222)); clear HB; have HB := n0_; have BK222 := n1_; have GW222 := n2_; have GE222 := n3_; clear n0_ n1_ n2_ n3_; clear hb hbox hg; have hcz6_0 : w5.cell? ⟨gb222, 0, none⟩ = some (.int .i64 a0_0) := (blk_cell BK222.out 0).trans rfl; have hcz6_1 : w5.cell? ⟨gb222, 1, none⟩ = some (.int .i64 a0_1) := (blk_cell BK222.out 1).trans rfl; have hfz6_0 := blk_frozen BK222.out 0; have hfz6_1 := blk_frozen BK222.out 1) | ((with_reducible refine gate_callee (f := 10) rfl ?_); refine goesL_ (some 16) rfl rfl Try.func10 (by kernel_rfl) rfl #[.agg #[.int .i64 a0_0, .int .i64 a0_1]] rfl (by (try simp only [List.map_toArray, List.map_cons, List.map_nil]); first | done | rfl | (simp only [List.length_drop, List.length_take]; rfl)) ?_; (with_reducible refine (signalbenchref20_Check.calls k a0_0 a0_1 t223 _ A3.out).mono ?_); rintro e w7 ⟨rfl, hb⟩; refine ⟨_, rfl, ?_⟩; have n0_ := Aside0.mk (blkb BK222.out hb); have n1_ := Aside0.mk (below_step (hbw HB.out) hb); clear BK222; clear HB; have BK222 := n0_; have HB := n1_; clear n0_ n1_; (try clear hb); (try clear hb2); (try clear hk); (try clear hi)))
 (try simp only [Act.put, List.setIfInBounds_toArray, List.set_cons_zero, List.set_cons_succ])
 go_cut [] (fun wc => ∃ (kq : Nat), Aside0 (signalbenchref20_Encode.j0 kq l1 a0_0 a0_1 = some (r1, r2)) ∧ Aside0 (kq ≤ k) ∧ Aside0 (wc.heap[gb222]? = some (.cells #[.int .i64 a0_0, .int .i64 a0_1] 23 (0, 0))) ∧ Aside0 (Below w.heap.size w wc))
 case first =>
  have H := HC4.out
  clear HC4
  by_cases c8 : t223 = 0
  ·rw [if_pos c8] at H
   have c8b0 : (t223 == 0) = true := beq_iff_eq.mpr c8
   have c8b1 : (t223 != 0) = false := bne_eq_false_iff_eq.mpr c8
   clear c8
   (first | rw [c8b0] | (simp only [i64_w, i32_w]; rw [c8b0]) | skip)
   have H' := Aside0.mk H
   clear H
   go_wp2
   go_meet
   case rel => exact ⟨_, H', ⟨by first | omega | exact Nat.le_refl _⟩, ⟨by (with_reducible repeat (first | refine blk_drewN ?_ _ | refine blk_drew ?_ | refine blk_alloc ?_ _)); exact BK222.out⟩, ⟨by repeat (first | (with_reducible first | exact HB.out | apply below_alloc | apply pw_below_drewN | apply below_drew1 | refine below_set ?_ GE222.out) | exact HB.out)⟩⟩
  ·rw [if_neg c8] at H
   have c8b0 : (t223 == 0) = false := beq_eq_false_iff_ne.mpr c8
   have c8b1 : (t223 != 0) = true := bne_iff_ne.mpr c8
   (first | rw [c8b0] | (simp only [i64_w, i32_w]; rw [c8b0]) | skip)
   simp only [Option.some.injEq, Prod.mk.injEq] at H
   obtain ⟨rfl, rfl⟩ := H
   go_wp2
   go_ret2
   exact ⟨_, by first | rfl | (simp [errW_none, errW_some] <;> rfl) | (simp [*, errW_none, errW_some] <;> rfl), by first | exact Kd.R_nil _ _ _ _ _ | exact Kd.N_nil _ _ _ _ _ | exact Kd.V_nil _ _ _ _ _ | exact Kd.Q_nil _ _ _ _ _ | exact Kd.S_nil _ _ _ _ _, by repeat (first | (with_reducible first | exact HB.out | apply below_alloc | apply pw_below_drewN | apply below_drew1 | refine below_set ?_ GE222.out) | exact HB.out)⟩
 case rest =>
  clear HC4
  try clear c1
  try clear c2
  try clear p2
  try clear c8
  try clear c8b0
  try clear c8b1
  try clear hcz6_0
  try clear hcz6_1
  try clear hfz6_0
  try clear hfz6_1
  obtain ⟨kq, HA, HJ3, BK222, HB⟩ := hcut
  cases kq with
  | zero => exact absurd HA.out (by simp [signalbenchref20_Encode.j0])
  | succ kj3 =>
   have H := HA.out
   clear HA
   simp only [signalbenchref20_Encode.j0] at H
   have HC9 := Aside0.mk H
   clear H
   go_upto_if 22 with (fail)
   go_cut [] (fun wc => ∃ (kq : Nat), Aside0 (signalbenchref20_Encode.j1 kq l1 a0_0 a0_1 = some (r1, r2)) ∧ Aside0 (kq ≤ kj3) ∧ Aside0 (wc.heap[gb222]? = some (.cells #[.int .i64 a0_0, .int .i64 a0_1] 23 (0, 0))) ∧ Aside0 (Below w.heap.size w wc))
   case first =>
    have H := HC9.out
    clear HC9
    by_cases c10 : (l1.length : Int) > 1024
    ·rw [if_pos c10] at H
     have c10b0 : decide (1024 < (l1.length : Int)) = true := decide_eq_true c10
     have c10b1 : decide (1024 < l1.length) = true := decide_eq_true (by omega)
     clear c10
     (first | rw [c10b0] | (simp only [i64_w, i32_w]; rw [c10b0]) | skip)
     simp only [Option.some.injEq, Prod.mk.injEq] at H
     obtain ⟨rfl, rfl⟩ := H
     go_wp2
     go_ret2
     exact ⟨_, by first | rfl | (simp [errW_none, errW_some] <;> rfl) | (simp [*, errW_none, errW_some] <;> rfl), by first | exact Kd.R_nil _ _ _ _ _ | exact Kd.N_nil _ _ _ _ _ | exact Kd.V_nil _ _ _ _ _ | exact Kd.Q_nil _ _ _ _ _ | exact Kd.S_nil _ _ _ _ _, by repeat (first | (with_reducible first | exact HB.out | apply below_alloc | apply pw_below_drewN | apply below_drew1 | refine below_set ?_ GE222.out) | exact HB.out)⟩
    ·rw [if_neg c10] at H
     have c10b0 : decide (1024 < (l1.length : Int)) = false := decide_eq_false c10
     have c10b1 : decide (1024 < l1.length) = false := decide_eq_false (by omega)
     clear c10
     (first | rw [c10b0] | (simp only [i64_w, i32_w]; rw [c10b0]) | skip)
     have H' := Aside0.mk H
     clear H
     go_wp2
     go_meet
     case rel => exact ⟨_, H', ⟨by have := HJ3.out; first | omega | exact Nat.le_refl _⟩, ⟨by (with_reducible repeat (first | refine blk_drewN ?_ _ | refine blk_drew ?_ | refine blk_alloc ?_ _)); exact BK222.out⟩, ⟨by repeat (first | (with_reducible first | exact HB.out | apply below_alloc | apply pw_below_drewN | apply below_drew1 | refine below_set ?_ GE222.out) | exact HB.out)⟩⟩
   case rest =>
    clear HC9
    try clear c1
    try clear c2
    try clear p2
    try clear c8
    try clear c8b0
    try clear c8b1
    try clear c10
    try clear c10b0
    try clear c10b1
    try clear hcz6_0
    try clear hcz6_1
    try clear hfz6_0
    try clear hfz6_1
    try clear p2
    obtain ⟨kq, HA, HJ8, BK222, HB⟩ := hcut
    cases kq with
    | zero => exact absurd HA.out (by simp [signalbenchref20_Encode.j1])
    | succ kj8 =>
     have H := HA.out
     clear HA
     simp only [signalbenchref20_Encode.j1] at H
     have H' := Aside0.mk H
     clear H
     go_wp2
     go_loopg [7] kj8 (fun kq v7 w' => ∃ (x7_3 : Int), v7 = .int .i64 x7_3 ∧ Aside0 (signalbenchref20_Encode.l0 kq l1 x7_3 a0_0 a0_1 = some (r1, r2)) ∧ Aside0 (kq ≤ kj8) ∧ Aside0 (w'.heap[gb222]? = some (.cells #[.int .i64 a0_0, .int .i64 a0_1] 23 (0, 0))) ∧ Aside0 (Below w.heap.size w w'))
     case atStart => exact ⟨(0), (by first | rfl | (simp; done) | (simp [*]; done)), H', ⟨Nat.le_refl _⟩, ⟨by (with_reducible repeat (first | refine blk_drewN ?_ _ | refine blk_drew ?_ | refine blk_alloc ?_ _)); exact BK222.out⟩, ⟨by repeat (first | (with_reducible first | exact HB.out | apply below_alloc | apply pw_below_drewN | apply below_drew1 | refine below_set ?_ GE222.out) | exact HB.out)⟩⟩
     case round =>
      clear H'
      try clear c1
      try clear c2
      try clear p2
      try clear c8
      try clear c8b0
      try clear c8b1
      try clear c10
      try clear c10b0
      try clear c10b1
      try clear hcz6_0
      try clear hcz6_1
      try clear hfz6_0
      try clear hfz6_1
      try clear p2
      obtain ⟨x7_3, rfl, HA, HK3, BK222, HB⟩ := hrel
      cases gk with
      | zero => exact absurd HA.out (by simp [signalbenchref20_Encode.l0])
      | succ k3 =>
       have H := HA.out
       clear HA
       simp only [signalbenchref20_Encode.l0] at H
       by_cases c11 : x7_3 < (l1.length : Int)
       ·rw [if_pos c11] at H
        have c11b0 : decide (x7_3 < (l1.length : Int)) = true := decide_eq_true c11
        clear c11
        by_cases c12 : 0 ≤ x7_3
        ·rw [if_pos c12] at H
         have c12b0 : decide (0 ≤ x7_3) = true := decide_eq_true c12
         clear c12
         replace H := Option.bind_eq_some_iff.mp H
         obtain ⟨t225, A130, H⟩ := H
         replace H : (if t225 = 0 then (signalbenchref20_Encode.l0 k3 l1 (wrap64 (x7_3 + 1)) a0_0 a0_1) else (some (([] : List (S46)), t225))) = some (r1, r2) := H
         have A13 := Aside0.mk A130
         clear A130
         by_cases c14 : t225 = 0
         ·rw [if_pos c14] at H
          have c14b0 : (t225 == 0) = true := beq_iff_eq.mpr c14
          have c14b1 : (t225 != 0) = false := bne_eq_false_iff_eq.mpr c14
          clear c14
          have H' := Aside0.mk H
          clear H
          have p224 : 0 ≤ (x7_3 : Int) := of_decide_eq_true (by first | (with_reducible assumption) | assumption)
          have q224 : x7_3 < (l1.length : Int) := of_decide_eq_true (by first | (with_reducible assumption) | assumption)
          obtain ⟨ad224, e224, hx224_0, hx224_1, hx224_2, hx224_3, hx224_4⟩ := at_T46 HR1.out x7_3 p224 q224
          cases e224
          replace hx224_0 := (HB.out.cell (World.block_lt_of_cell? w _ hx224_0)).trans hx224_0
          replace hx224_1 := (HB.out.cell (World.block_lt_of_cell? w _ hx224_1)).trans hx224_1
          replace hx224_2 := (HB.out.cell (World.block_lt_of_cell? w _ hx224_2)).trans hx224_2
          replace hx224_3 := (HB.out.cell (World.block_lt_of_cell? w _ hx224_3)).trans hx224_3
          replace hx224_4 := (HB.out.cell (World.block_lt_of_cell? w _ hx224_4)).trans hx224_4
          replace p224 := eq_true p224
          replace q224 := eq_true q224
          go_wp2_with (first | ((with_reducible refine gate_callee (f := 35) rfl ?_); refine goesL_ (some 33) rfl rfl Try.func35 (by kernel_rfl) rfl #[.agg #[.int .i64 ((rd_T46 l1 x7_3).f0), .int .i64 ((rd_T46 l1 x7_3).f1), .int .i64 ((rd_T46 l1 x7_3).f2), .string ((rd_T46 l1 x7_3).f3), .int .i64 ((rd_T46 l1 x7_3).f4)]] rfl (by (try simp only [List.map_toArray, List.map_cons, List.map_nil]); first | done | rfl | (simp only [List.length_drop, List.length_take]; rfl)) ?_; (with_reducible refine (signalbenchref20_right.calls k3 ((rd_T46 l1 x7_3).f0) ((rd_T46 l1 x7_3).f1) ((rd_T46 l1 x7_3).f2) ((rd_T46 l1 x7_3).f3) ((rd_T46 l1 x7_3).f4) t225 _ A13.out).mono ?_); rintro e w15 ⟨rfl, hb⟩; refine ⟨_, rfl, ?_⟩; have n0_ := Aside0.mk (blkb BK222.out hb); have n1_ := Aside0.mk (below_step (hbw HB.out) hb); clear BK222; clear HB; have BK222 := n0_; have HB := n1_; clear n0_ n1_; (try clear hb); (try clear hb2); (try clear hk); (try clear hi)))
          go_roundg k3
          case measure => have := HJ3.out; have := HJ8.out; have := HK3.out; omega
          case rel => exact ⟨(wrap64 (x7_3 + 1)), (by first | rfl | (simp; done) | (simp [*]; done)), H', ⟨by have := HJ3.out; have := HJ8.out; have := HK3.out; omega⟩, ⟨by (with_reducible repeat (first | refine blk_drewN ?_ _ | refine blk_drew ?_ | refine blk_alloc ?_ _)); exact BK222.out⟩, ⟨by repeat (first | (with_reducible first | exact HB.out | apply below_alloc | apply pw_below_drewN | apply below_drew1 | refine below_set ?_ GE222.out) | exact HB.out)⟩⟩
         ·rw [if_neg c14] at H
          have c14b0 : (t225 == 0) = false := beq_eq_false_iff_ne.mpr c14
          have c14b1 : (t225 != 0) = true := bne_iff_ne.mpr c14
          simp only [Option.some.injEq, Prod.mk.injEq] at H
          obtain ⟨rfl, rfl⟩ := H
          have p224 : 0 ≤ (x7_3 : Int) := of_decide_eq_true (by first | (with_reducible assumption) | assumption)
          have q224 : x7_3 < (l1.length : Int) := of_decide_eq_true (by first | (with_reducible assumption) | assumption)
          obtain ⟨ad224, e224, hx224_0, hx224_1, hx224_2, hx224_3, hx224_4⟩ := at_T46 HR1.out x7_3 p224 q224
          cases e224
          replace hx224_0 := (HB.out.cell (World.block_lt_of_cell? w _ hx224_0)).trans hx224_0
          replace hx224_1 := (HB.out.cell (World.block_lt_of_cell? w _ hx224_1)).trans hx224_1
          replace hx224_2 := (HB.out.cell (World.block_lt_of_cell? w _ hx224_2)).trans hx224_2
          replace hx224_3 := (HB.out.cell (World.block_lt_of_cell? w _ hx224_3)).trans hx224_3
          replace hx224_4 := (HB.out.cell (World.block_lt_of_cell? w _ hx224_4)).trans hx224_4
          replace p224 := eq_true p224
          replace q224 := eq_true q224
          go_wp2_with (first | ((with_reducible refine gate_callee (f := 35) rfl ?_); refine goesL_ (some 33) rfl rfl Try.func35 (by kernel_rfl) rfl #[.agg #[.int .i64 ((rd_T46 l1 x7_3).f0), .int .i64 ((rd_T46 l1 x7_3).f1), .int .i64 ((rd_T46 l1 x7_3).f2), .string ((rd_T46 l1 x7_3).f3), .int .i64 ((rd_T46 l1 x7_3).f4)]] rfl (by (try simp only [List.map_toArray, List.map_cons, List.map_nil]); first | done | rfl | (simp only [List.length_drop, List.length_take]; rfl)) ?_; (with_reducible refine (signalbenchref20_right.calls k3 ((rd_T46 l1 x7_3).f0) ((rd_T46 l1 x7_3).f1) ((rd_T46 l1 x7_3).f2) ((rd_T46 l1 x7_3).f3) ((rd_T46 l1 x7_3).f4) t225 _ A13.out).mono ?_); rintro e w16 ⟨rfl, hb⟩; refine ⟨_, rfl, ?_⟩; have n0_ := Aside0.mk (blkb BK222.out hb); have n1_ := Aside0.mk (below_step (hbw HB.out) hb); clear BK222; clear HB; have BK222 := n0_; have HB := n1_; clear n0_ n1_; (try clear hb); (try clear hb2); (try clear hk); (try clear hi)))
          go_ret2
          exact ⟨_, by first | rfl | (simp [errW_none, errW_some] <;> rfl) | (simp [*, errW_none, errW_some] <;> rfl), by first | exact Kd.R_nil _ _ _ _ _ | exact Kd.N_nil _ _ _ _ _ | exact Kd.V_nil _ _ _ _ _ | exact Kd.Q_nil _ _ _ _ _ | exact Kd.S_nil _ _ _ _ _, by repeat (first | (with_reducible first | exact HB.out | apply below_alloc | apply pw_below_drewN | apply below_drew1 | refine below_set ?_ GE222.out) | exact HB.out)⟩
        ·rw [if_neg c12] at H
         exact absurd H (by simp)
       ·rw [if_neg c11] at H
        have c11b0 : decide (x7_3 < (l1.length : Int)) = false := decide_eq_false c11
        clear c11
        by_cases c17 : 0 ≤ (l1.length : Int)
        ·rw [if_pos c17] at H
         have c17b0 := eq_true c17
         have c17b1 : decide (0 ≤ (l1.length : Int)) = true := decide_eq_true c17
         clear c17
         by_cases c18 : ((l1.length : Int) : Int).toNat ≤ 5864062014805
         ·rw [if_pos c18] at H
          have c18b0 := eq_true c18
          have c18b1 : decide (((l1.length : Int) : Int).toNat ≤ 5864062014805) = true := decide_eq_true c18
          clear c18
          obtain ⟨y226, hy226⟩ : ∃ y_ : List (S46), y_ = (List.replicate 0 z46) := ⟨_, rfl⟩
          replace H : (signalbenchref20_Encode.l1 k3 l1 y226 0 0 a0_0 a0_1) = some (r1, r2) := by first | (rw [hy226]; with_reducible exact H) | (have H2_ := (Option.bind_some _ _).symm.trans H; rw [hy226]; with_reducible exact H2_) | (have H2_ := (Option.bind_some _ _).symm.trans H; with_reducible exact H2_) | with_reducible exact H | (rw [hy226]; exact H) | exact H
          have Ny226 := Aside0.mk hy226
          clear hy226
          have H' := Aside0.mk H
          clear H
          go_wp2_with (first | ((with_reducible refine gate_dst (N := 39) rfl ?_); refine Kd.R_makeC k46 _ 46 rfl (N := 39) rfl 34 _ _ rfl 0 (l1.length : Int) rfl rfl Try.underlying34 (.agg #[(.int .i64 0), (.int .i64 0), (.int .i64 0), (.string ⟨#[]⟩), (.int .i64 0)]) 48 info46 rfl (by decide) (by omega) z46 (ok := fun _ => True) (okp := fun _ => True) (k46_mkM _ _ _ z46 ) (fun _ hk => hk) trivial (Int.le_refl 0) (of_decide_eq_true (by first | (with_reducible assumption) | assumption)) (Nat.le_trans (Nat.mul_le_mul_right _ (of_decide_eq_true (by first | (with_reducible assumption) | assumption) : (l1.length : Int).toNat ≤ 5864062014805)) (by omega)) (Below.refl _ _) (Nat.le_refl _) ?_; intro v227 w19 ho20 hb hg_ hnew_; clear hg_ hnew_; (first | rw [← Ny226.out] at ho20 | (simp only [Int.reduceToNat] at ho20; rw [← Ny226.out] at ho20)); have n0_ := Aside0.mk (Kd.R_lower ho20 (below_size (hbw HB.out))); have n1_ := Aside0.mk (blkb BK222.out hb); have n2_ := Aside0.mk (below_step (hbw HB.out) hb); clear BK222; clear HB; have HO228 := n0_; have BK222 := n1_; have HB := n2_; clear n0_ n1_ n2_; clear hb ho20))
          go_loopg [9, 10, 11] k3 (fun kq v9 v10 v11 w' => ∃ (x9_4 : List (S46)) (x10_4 : Int) (x11_4 : Int), v10 = .int .i64 x10_4 ∧ v11 = .int .i64 x11_4 ∧ Aside0 (signalbenchref20_Encode.l1 kq l1 x9_4 x10_4 x11_4 a0_0 a0_1 = some (r1, r2)) ∧ Aside0 (kq ≤ k3) ∧ Aside0 (Kd.R k46 46 w' w.heap.size (fun _ => True) v9 x9_4) ∧ Aside0 (w'.heap[gb222]? = some (.cells #[.int .i64 a0_0, .int .i64 a0_1] 23 (0, 0))) ∧ Aside0 (Below w.heap.size w w'))
          case atStart => exact ⟨(y226), (0), (0), (by first | rfl | (simp; done) | (simp [*]; done)), (by first | rfl | (simp; done) | (simp [*]; done)), H', ⟨Nat.le_refl _⟩, ⟨by (with_reducible repeat (first | apply Kd.R_alloc | apply Kd.R_drewN | apply Kd.R_drew)); exact HO228.out⟩, ⟨by (with_reducible repeat (first | refine blk_drewN ?_ _ | refine blk_drew ?_ | refine blk_alloc ?_ _)); exact BK222.out⟩, ⟨by repeat (first | (with_reducible first | exact HB.out | apply below_alloc | apply pw_below_drewN | apply below_drew1 | refine below_set ?_ GE222.out) | exact HB.out)⟩⟩
          case round =>
           clear H'
           try clear c1
           try clear c2
           try clear p2
           try clear q2
           try clear hx2
           try clear c3
           try clear p6
           try clear c8
           try clear c8b0
           try clear c8b1
           try clear c10
           try clear c10b0
           try clear c10b1
           try clear c11
           try clear c11b0
           try clear c12
           try clear c12b0
           try clear c14
           try clear c14b0
           try clear c14b1
           try clear c17
           try clear c17b0
           try clear c17b1
           try clear c18
           try clear c18b0
           try clear c18b1
           try clear hcz6_0
           try clear hcz6_1
           try clear hfz6_0
           try clear hfz6_1
           try clear hx224_0
           try clear hx224_1
           try clear hx224_2
           try clear hx224_3
           try clear hx224_4
           try clear p2
           try clear p224
           try clear q224
           obtain ⟨x9_4, x10_4, x11_4, rfl, rfl, HA, HK4, HO_9, BK222, HB⟩ := hrel
           cases gk with
           | zero => exact absurd HA.out (by simp [signalbenchref20_Encode.l1])
           | succ k4 =>
            have H := HA.out
            clear HA
            simp only [signalbenchref20_Encode.l1] at H
            have HC21 := Aside0.mk H
            clear H
            go_upto_if 43 with (fail)
            go_cut [] (fun wc => ∃ (kq : Nat), Aside0 (signalbenchref20_Encode.j4 kq l1 x9_4 x10_4 x11_4 a0_0 a0_1 = some (r1, r2)) ∧ Aside0 (kq ≤ k4) ∧ Aside0 (Kd.R k46 46 wc w.heap.size (fun _ => True) u9 x9_4) ∧ Aside0 (wc.heap[gb222]? = some (.cells #[.int .i64 a0_0, .int .i64 a0_1] 23 (0, 0))) ∧ Aside0 (Below w.heap.size w wc))
            case first =>
             have H := HC21.out
             clear HC21
             by_cases c22 : x11_4 < (l1.length : Int)
             ·rw [if_pos c22] at H
              have c22b0 : decide (x11_4 < (l1.length : Int)) = true := decide_eq_true c22
              clear c22
              (first | rw [c22b0] | (simp only [i64_w, i32_w]; rw [c22b0]) | skip)
              have H' := Aside0.mk H
              clear H
              go_wp2
              go_meet
              case rel => exact ⟨_, H', ⟨by have := HJ3.out; have := HJ8.out; have := HK3.out; have := HK4.out; first | omega | exact Nat.le_refl _⟩, ⟨by (with_reducible repeat (first | apply Kd.R_alloc | apply Kd.R_drewN | apply Kd.R_drew)); exact HO_9.out⟩, ⟨by (with_reducible repeat (first | refine blk_drewN ?_ _ | refine blk_drew ?_ | refine blk_alloc ?_ _)); exact BK222.out⟩, ⟨by repeat (first | (with_reducible first | exact HB.out | apply below_alloc | apply pw_below_drewN | apply below_drew1 | refine below_set ?_ GE222.out) | exact HB.out)⟩⟩
             ·rw [if_neg c22] at H
              have c22b0 : decide (x11_4 < (l1.length : Int)) = false := decide_eq_false c22
              clear c22
              (first | rw [c22b0] | (simp only [i64_w, i32_w]; rw [c22b0]) | skip)
              simp only [Option.some.injEq, Prod.mk.injEq] at H
              obtain ⟨rfl, rfl⟩ := H
              go_wp2
              go_ret2
              exact ⟨_, by first | rfl | (simp [errW_none, errW_some] <;> rfl) | (simp [*, errW_none, errW_some] <;> rfl), by (with_reducible repeat (first | apply Kd.R_alloc | apply Kd.R_drewN | apply Kd.R_drew)); exact HO_9.out, by repeat (first | (with_reducible first | exact HB.out | apply below_alloc | apply pw_below_drewN | apply below_drew1 | refine below_set ?_ GE222.out) | exact HB.out)⟩
            case rest =>
             clear HC21
             try clear c1
             try clear c2
             try clear p2
             try clear q2
             try clear hx2
             try clear c3
             try clear p6
             try clear c8
             try clear c8b0
             try clear c8b1
             try clear c10
             try clear c10b0
             try clear c10b1
             try clear c11
             try clear c11b0
             try clear c12
             try clear c12b0
             try clear c14
             try clear c14b0
             try clear c14b1
             try clear c17
             try clear c17b0
             try clear c17b1
             try clear c18
             try clear c18b0
             try clear c18b1
             try clear c21
             try clear c22
             try clear c22b0
             try clear p22
             try clear q22
             try clear hx22
             try clear hcz6_0
             try clear hcz6_1
             try clear hfz6_0
             try clear hfz6_1
             try clear hx224_0
             try clear hx224_1
             try clear hx224_2
             try clear hx224_3
             try clear hx224_4
             try clear p2
             try clear p224
             try clear p6
             try clear q2
             try clear q224
             obtain ⟨kq, HA, HJ20, HO_9, BK222, HB⟩ := hcut
             cases kq with
             | zero => exact absurd HA.out (by simp [signalbenchref20_Encode.j4])
             | succ kj20 =>
              have H := HA.out
              clear HA
              simp only [signalbenchref20_Encode.j4] at H
              by_cases c23 : 0 ≤ x11_4
              ·rw [if_pos c23] at H
               have c23b0 : decide (0 ≤ x11_4) = true := decide_eq_true c23
               clear c23
               by_cases c24 : x11_4 < (l1.length : Int)
               ·rw [if_pos c24] at H
                have c24b0 : decide (x11_4 < (l1.length : Int)) = true := decide_eq_true c24
                clear c24
                by_cases c25 : 0 ≤ (((rd_T46 l1 x11_4).f3).size : Int)
                ·rw [if_pos c25] at H
                 have c25b0 := eq_true c25
                 have c25b1 : decide (0 ≤ (((rd_T46 l1 x11_4).f3).size : Int)) = true := decide_eq_true c25
                 clear c25
                 by_cases c26 : ((((rd_T46 l1 x11_4).f3).size : Int) : Int).toNat ≤ 281474976710656
                 ·rw [if_pos c26] at H
                  have c26b0 := eq_true c26
                  have c26b1 : decide (((((rd_T46 l1 x11_4).f3).size : Int) : Int).toNat ≤ 281474976710656) = true := decide_eq_true c26
                  clear c26
                  obtain ⟨y230, hy230⟩ : ∃ y_ : List Int, y_ = (List.replicate 0 0) := ⟨_, rfl⟩
                  replace H : (signalbenchref20_Encode.l2 kj20 l1 x9_4 x10_4 x11_4 y230 0 a0_0 a0_1) = some (r1, r2) := by first | (rw [hy230]; with_reducible exact H) | (have H2_ := (Option.bind_some _ _).symm.trans H; rw [hy230]; with_reducible exact H2_) | (have H2_ := (Option.bind_some _ _).symm.trans H; with_reducible exact H2_) | with_reducible exact H | (rw [hy230]; exact H) | exact H
                  have Ny230 := Aside0.mk hy230
                  clear hy230
                  have H' := Aside0.mk H
                  clear H
                  have p229 : 0 ≤ (x11_4 : Int) := of_decide_eq_true (by first | (with_reducible assumption) | assumption)
                  have q229 : x11_4 < (l1.length : Int) := of_decide_eq_true (by first | (with_reducible assumption) | assumption)
                  obtain ⟨ad229, e229, hx229_0, hx229_1, hx229_2, hx229_3, hx229_4⟩ := at_T46 HR1.out x11_4 p229 q229
                  cases e229
                  replace hx229_0 := (HB.out.cell (World.block_lt_of_cell? w _ hx229_0)).trans hx229_0
                  replace hx229_1 := (HB.out.cell (World.block_lt_of_cell? w _ hx229_1)).trans hx229_1
                  replace hx229_2 := (HB.out.cell (World.block_lt_of_cell? w _ hx229_2)).trans hx229_2
                  replace hx229_3 := (HB.out.cell (World.block_lt_of_cell? w _ hx229_3)).trans hx229_3
                  replace hx229_4 := (HB.out.cell (World.block_lt_of_cell? w _ hx229_4)).trans hx229_4
                  replace p229 := eq_true p229
                  replace q229 := eq_true q229
                  go_wp2_with (first | ((with_reducible refine gate_dst (N := 52) rfl ?_); refine Kd.R_makeC (Kd.int .u8) _ 5 rfl (N := 52) rfl 51 _ _ rfl 0 (((rd_T46 l1 x11_4).f3).size : Int) rfl rfl Try.underlying51 (.int .u8 0) 1 info5 rfl (by decide) (by omega) 0 (ok := fun _ => True) (okp := fun _ => True) rfl (fun _ hk => hk) trivial (Int.le_refl 0) (of_decide_eq_true (by first | (with_reducible assumption) | assumption)) (Nat.le_trans (Nat.mul_le_mul_right _ (of_decide_eq_true (by first | (with_reducible assumption) | assumption) : (((rd_T46 l1 x11_4).f3).size : Int).toNat ≤ 281474976710656)) (by omega)) (Below.refl _ _) (Nat.le_refl _) ?_; intro v231 w27 ho28 hb hg_ hnew_; clear hg_ hnew_; (first | rw [← Ny230.out] at ho28 | (simp only [Int.reduceToNat] at ho28; rw [← Ny230.out] at ho28)); have n0_ := Aside0.mk (Kd.R_below (rkw HO_9.out) hb); have n1_ := Aside0.mk (Kd.R_lower ho28 (below_size (hbw HB.out))); have n2_ := Aside0.mk (blkb BK222.out hb); have n3_ := Aside0.mk (below_step (hbw HB.out) hb); clear HO_9; clear BK222; clear HB; have HO_9 := n0_; have HO232 := n1_; have BK222 := n2_; have HB := n3_; clear n0_ n1_ n2_ n3_; clear hb ho28))
                  go_loopg [10, 12, 13] kj20 (fun kq v10 v12 v13 w' => ∃ (x10_6 : Int) (x12_6 : List Int) (x13_6 : Int), v10 = .int .i64 x10_6 ∧ v13 = .int .i64 x13_6 ∧ Aside0 (signalbenchref20_Encode.l2 kq l1 x9_4 x10_6 x11_4 x12_6 x13_6 a0_0 a0_1 = some (r1, r2)) ∧ Aside0 (kq ≤ kj20) ∧ Aside0 (Kd.R k46 46 w' w.heap.size (fun _ => True) u9 x9_4) ∧ Aside0 (Kd.R (Kd.int .u8) 5 w' w.heap.size (fun _ => True) v12 x12_6) ∧ Aside0 (w'.heap[gb222]? = some (.cells #[.int .i64 a0_0, .int .i64 a0_1] 23 (0, 0))) ∧ Aside0 (Below w.heap.size w w'))
                  case atStart => exact ⟨(x10_4), (y230), (0), (by first | rfl | (simp; done) | (simp [*]; done)), (by first | rfl | (simp; done) | (simp [*]; done)), H', ⟨Nat.le_refl _⟩, ⟨by (with_reducible repeat (first | apply Kd.R_alloc | apply Kd.R_drewN | apply Kd.R_drew)); exact HO_9.out⟩, ⟨by (with_reducible repeat (first | apply Kd.R_alloc | apply Kd.R_drewN | apply Kd.R_drew)); exact HO232.out⟩, ⟨by (with_reducible repeat (first | refine blk_drewN ?_ _ | refine blk_drew ?_ | refine blk_alloc ?_ _)); exact BK222.out⟩, ⟨by repeat (first | (with_reducible first | exact HB.out | apply below_alloc | apply pw_below_drewN | apply below_drew1 | refine below_set ?_ GE222.out) | exact HB.out)⟩⟩
                  case round =>
                   clear H'
                   try clear c1
                   try clear c2
                   try clear p2
                   try clear q2
                   try clear hx2
                   try clear c3
                   try clear p6
                   try clear c8
                   try clear c8b0
                   try clear c8b1
                   try clear c10
                   try clear c10b0
                   try clear c10b1
                   try clear c11
                   try clear c11b0
                   try clear c12
                   try clear c12b0
                   try clear c14
                   try clear c14b0
                   try clear c14b1
                   try clear c17
                   try clear c17b0
                   try clear c17b1
                   try clear c18
                   try clear c18b0
                   try clear c18b1
                   try clear c21
                   try clear c22
                   try clear c22b0
                   try clear p22
                   try clear q22
                   try clear hx22
                   try clear c23
                   try clear c23b0
                   try clear c24
                   try clear c24b0
                   try clear c25
                   try clear c25b0
                   try clear c25b1
                   try clear c26
                   try clear c26b0
                   try clear c26b1
                   try clear hcz6_0
                   try clear hcz6_1
                   try clear hfz6_0
                   try clear hfz6_1
                   try clear hx224_0
                   try clear hx224_1
                   try clear hx224_2
                   try clear hx224_3
                   try clear hx224_4
                   try clear hx229_0
                   try clear hx229_1
                   try clear hx229_2
                   try clear hx229_3
                   try clear hx229_4
                   try clear p2
                   try clear p22
                   try clear p224
                   try clear p229
                   try clear p6
                   try clear q2
                   try clear q22
                   try clear q224
                   try clear q229
                   obtain ⟨x10_6, x12_6, x13_6, rfl, rfl, HA, HK6, HO_9, HO_12, BK222, HB⟩ := hrel
                   cases gk with
                   | zero => exact absurd HA.out (by simp [signalbenchref20_Encode.l2])
                   | succ k6 =>
                    have H := HA.out
                    clear HA
                    simp only [signalbenchref20_Encode.l2] at H
                    by_cases c29 : 0 ≤ x11_4
                    ·rw [if_pos c29] at H
                     have c29b0 : decide (0 ≤ x11_4) = true := decide_eq_true c29
                     clear c29
                     by_cases c30 : x11_4 < (l1.length : Int)
                     ·rw [if_pos c30] at H
                      have c30b0 : decide (x11_4 < (l1.length : Int)) = true := decide_eq_true c30
                      clear c30
                      by_cases c31 : x13_6 < (((rd_T46 l1 x11_4).f3).size : Int)
                      ·rw [if_pos c31] at H
                       have c31b0 : decide (x13_6 < (((rd_T46 l1 x11_4).f3).size : Int)) = true := decide_eq_true c31
                       clear c31
                       by_cases c32 : 0 ≤ x13_6
                       ·rw [if_pos c32] at H
                        have c32b0 : decide (0 ≤ x13_6) = true := decide_eq_true c32
                        clear c32
                        replace H := Option.bind_eq_some_iff.mp H
                        obtain ⟨t235, A340, H⟩ := H
                        replace H : (if x12_6.length < 140737488355328 then ((signalbenchref20_insert.f k6 a0_0 a0_1 x10_6 (Int.tmod (wrap64 ((wrap64 ((wrap64 (bt ((rd_T46 l1 x11_4).f3) x13_6)) - 48)) + t235)) 2)).bind fun t239 => (signalbenchref20_Encode.l2 k6 l1 x9_4 t239 x11_4 (x12_6 ++ [(wrap64 (48 + (Int.tmod (wrap64 ((wrap64 ((wrap64 (bt ((rd_T46 l1 x11_4).f3) x13_6)) - 48)) + t235)) 2))) % 256]) (wrap64 (x13_6 + 1)) a0_0 a0_1)) else (none)) = some (r1, r2) := H
                        have A34 := Aside0.mk A340
                        clear A340
                        by_cases c35 : x12_6.length < 140737488355328
                        ·rw [if_pos c35] at H
                         have LMc35 := Aside0.mk c35
                         clear c35
                         obtain ⟨y236, hy236⟩ : ∃ y_ : List Int, y_ = (x12_6 ++ [(wrap64 (48 + (Int.tmod (wrap64 ((wrap64 ((wrap64 (bt ((rd_T46 l1 x11_4).f3) x13_6)) - 48)) + t235)) 2))) % 256]) := ⟨_, rfl⟩
                         replace H : ((signalbenchref20_insert.f k6 a0_0 a0_1 x10_6 (Int.tmod (wrap64 ((wrap64 ((wrap64 (bt ((rd_T46 l1 x11_4).f3) x13_6)) - 48)) + t235)) 2)).bind fun t239 => (signalbenchref20_Encode.l2 k6 l1 x9_4 t239 x11_4 y236 (wrap64 (x13_6 + 1)) a0_0 a0_1)) = some (r1, r2) := by first | (rw [hy236]; with_reducible exact H) | (have H2_ := (Option.bind_some _ _).symm.trans H; rw [hy236]; with_reducible exact H2_) | (have H2_ := (Option.bind_some _ _).symm.trans H; with_reducible exact H2_) | with_reducible exact H | (rw [hy236]; exact H) | exact H
                         have Ny236 := Aside0.mk hy236
                         clear hy236
                         replace H := Option.bind_eq_some_iff.mp H
                         obtain ⟨t239, A360, H⟩ := H
                         replace H : (signalbenchref20_Encode.l2 k6 l1 x9_4 t239 x11_4 y236 (wrap64 (x13_6 + 1)) a0_0 a0_1) = some (r1, r2) := H
                         have A36 := Aside0.mk A360
                         clear A360
                         have H' := Aside0.mk H
                         clear H
                         have p233 : 0 ≤ (x11_4 : Int) := of_decide_eq_true (by first | (with_reducible assumption) | assumption)
                         have q233 : x11_4 < (l1.length : Int) := of_decide_eq_true (by first | (with_reducible assumption) | assumption)
                         obtain ⟨ad233, e233, hx233_0, hx233_1, hx233_2, hx233_3, hx233_4⟩ := at_T46 HR1.out x11_4 p233 q233
                         obtain rfl : ad229 = ad233 := (by injection e233)
                         replace hx233_0 := (HB.out.cell (World.block_lt_of_cell? w _ hx233_0)).trans hx233_0
                         replace hx233_1 := (HB.out.cell (World.block_lt_of_cell? w _ hx233_1)).trans hx233_1
                         replace hx233_2 := (HB.out.cell (World.block_lt_of_cell? w _ hx233_2)).trans hx233_2
                         replace hx233_3 := (HB.out.cell (World.block_lt_of_cell? w _ hx233_3)).trans hx233_3
                         replace hx233_4 := (HB.out.cell (World.block_lt_of_cell? w _ hx233_4)).trans hx233_4
                         replace p233 := eq_true p233
                         replace q233 := eq_true q233
                         try go_wp2
                         have n0_ := Aside0.mk (Kd.R_drew HO_9.out)
                         have n1_ := Aside0.mk (Kd.R_drew HO_12.out)
                         have n2_ := Aside0.mk (blk_drew BK222.out)
                         have n3_ := Aside0.mk (below_drew1 HB.out)
                         clear HO_9
                         clear HO_12
                         clear BK222
                         clear HB
                         have HO_9 := n0_
                         have HO_12 := n1_
                         have BK222 := n2_
                         have HB := n3_
                         clear n0_ n1_ n2_ n3_
                         have p234 : 0 ≤ (x11_4 : Int) := of_decide_eq_true (by first | (with_reducible assumption) | assumption)
                         have q234 : x11_4 < (l1.length : Int) := of_decide_eq_true (by first | (with_reducible assumption) | assumption)
                         obtain ⟨ad234, e234, hx234_0, hx234_1, hx234_2, hx234_3, hx234_4⟩ := at_T46 HR1.out x11_4 p234 q234
                         have hw234_4 := hx234_4
                         have hw234_3 := hx234_3
                         have hw234_2 := hx234_2
                         have hw234_1 := hx234_1
                         have hw234_0 := hx234_0
                         obtain rfl : ad229 = ad234 := (by injection e234)
                         replace hx234_0 := (HB.out.cell (World.block_lt_of_cell? w _ hx234_0)).trans hx234_0
                         replace hx234_1 := (HB.out.cell (World.block_lt_of_cell? w _ hx234_1)).trans hx234_1
                         replace hx234_2 := (HB.out.cell (World.block_lt_of_cell? w _ hx234_2)).trans hx234_2
                         replace hx234_3 := (HB.out.cell (World.block_lt_of_cell? w _ hx234_3)).trans hx234_3
                         replace hx234_4 := (HB.out.cell (World.block_lt_of_cell? w _ hx234_4)).trans hx234_4
                         replace p234 := eq_true p234
                         replace q234 := eq_true q234
                         have p33 : 0 ≤ (x13_6 : Int) := of_decide_eq_true (by first | (with_reducible assumption) | assumption)
                         have q33 : x13_6 < (((rd_T46 l1 x11_4).f3).size : Int) := of_decide_eq_true (by first | (with_reducible assumption) | assumption)
                         have hx33 := bt_at ((rd_T46 l1 x11_4).f3) x13_6
                         replace p33 := eq_true p33
                         replace q33 := eq_true q33
                         refine start_ (n := 15) (S := fun w' => w'.cell? ⟨gb222, 0, none⟩ = some (.int .i64 a0_0) ∧ w'.cell? ⟨gb222, 1, none⟩ = some (.int .i64 a0_1) ∧ w'.cell? (ad229.add ((x11_4).toNat * 5)) = some (.int .i64 ((rd_T46 l1 x11_4).f0)) ∧ w'.cell? ⟨(ad229.add ((x11_4).toNat * 5)).block, (ad229.add ((x11_4).toNat * 5)).off + 1, none⟩ = some (.int .i64 ((rd_T46 l1 x11_4).f1)) ∧ w'.cell? ⟨(ad229.add ((x11_4).toNat * 5)).block, (ad229.add ((x11_4).toNat * 5)).off + 2, none⟩ = some (.int .i64 ((rd_T46 l1 x11_4).f2)) ∧ w'.cell? ⟨(ad229.add ((x11_4).toNat * 5)).block, (ad229.add ((x11_4).toNat * 5)).off + 3, none⟩ = some (.string ((rd_T46 l1 x11_4).f3)) ∧ w'.cell? ⟨(ad229.add ((x11_4).toNat * 5)).block, (ad229.add ((x11_4).toNat * 5)).off + 4, none⟩ = some (.int .i64 ((rd_T46 l1 x11_4).f4))) (ds := []) #[false, false, false, false, false, false, false, false, false, false, false, false, false, false, false] (by kernel_rfl) rfl rfl ⟨(blk_cell BK222.out 0).trans rfl, (blk_cell BK222.out 1).trans rfl, ((HB.out.cell (World.block_lt_of_cell? w _ hw234_0)).trans hw234_0), ((HB.out.cell (World.block_lt_of_cell? w _ hw234_1)).trans hw234_1), ((HB.out.cell (World.block_lt_of_cell? w _ hw234_2)).trans hw234_2), ((HB.out.cell (World.block_lt_of_cell? w _ hw234_3)).trans hw234_3), ((HB.out.cell (World.block_lt_of_cell? w _ hw234_4)).trans hw234_4)⟩ (fun hHeld => ?_); refine with_tabW signalbenchref20_Encode.tab21 signalbenchref20_Encode.bits21 (fun HT_ HW_ => ?_)
                         generalize wr.drew = w37 at HO_9 HO_12 BK222 HB hx234_0 hx234_1 hx234_2 hx234_3 hx234_4 hHeld ⊢
                         refine pstep 0 (some 63) #[true, false, false, false, false, false, false, false, false, false, false, false, false, false, false] HT_.out ?_
                         refine pstep 1 (some 64) #[true, true, false, false, false, false, false, false, false, false, false, false, false, false, false] HT_.out ?_
                         refine pstep 2 (some 65) #[true, true, true, false, false, false, false, false, false, false, false, false, false, false, false] HT_.out ?_
                         refine pstep 3 (some 66) #[true, true, true, true, false, false, false, false, false, false, false, false, false, false, false] HT_.out ?_
                         refine pstep 5 (some 68) #[true, true, true, true, false, true, false, false, false, false, false, false, false, false, false] HT_.out ?_
                         refine pstep 10 (some 73) #[true, true, true, true, false, true, false, false, false, false, true, false, false, false, false] HT_.out ?_
                         refine take_ (i := 4) (N := some 67) (v := ?_) (a' := ?_) #[true, true, true, true, true, true, false, false, false, false, true, false, false, false, false] rfl rfl (take_ofW HT_.out HW_.out (by kernel_rfl)) (fun _ _ _ h => h) (Or.inl ⟨by rfl, ?_⟩) hHeld ?_ ?_
                         rotate_left
                         ·rintro w' ⟨s0, s1, s2, s3, s4, s5, s6⟩
                          go_simp
                          with_reducible rfl
                         rotate_left
                         ·simp only [Act.put, nrm]
                          rfl
                         refine take_ (i := 6) (N := some 69) (v := ?_) (a' := ?_) #[true, true, true, true, true, true, true, false, false, false, true, false, false, false, false] rfl rfl (take_ofW HT_.out HW_.out (by kernel_rfl)) (fun _ _ _ h => h) (Or.inl ⟨by rfl, ?_⟩) hHeld ?_ ?_
                         rotate_left
                         ·rintro w' ⟨s0, s1, s2, s3, s4, s5, s6⟩
                          go_simp
                          with_reducible rfl
                         rotate_left
                         ·simp only [Act.put, nrm]
                          rfl
                         refine pstep 7 (some 70) #[true, true, true, true, true, true, true, true, false, false, true, false, false, false, false] HT_.out ?_
                         refine pstep 8 (some 71) #[true, true, true, true, true, true, true, true, true, false, true, false, false, false, false] HT_.out ?_
                         refine take_ (i := 9) (N := some 72) (v := ?_) (a' := ?_) #[true, true, true, true, true, true, true, true, true, true, true, false, false, false, false] rfl rfl (take_ofW HT_.out HW_.out (by kernel_rfl)) (fun _ _ _ h => h) (Or.inl ⟨by rfl, ?_⟩) hHeld ?_ ?_
                         rotate_left
                         ·rintro w' ⟨s0, s1, s2, s3, s4, s5, s6⟩
                          go_simp
                          with_reducible rfl
                         rotate_left
                         ·simp only [Act.put, nrm]
                          rfl
                         refine one_ (i := 11) (N := some 74) #[true, true, true, true, true, true, true, true, true, true, true, true, false, false, false] rfl rfl (one_of HT_.out (by kernel_rfl)) (by decide) (fun K hK => ?_)
                         refine goes_ Try.func34 (by kernel_rfl) rfl #[.agg #[.int .i64 a0_0, .int .i64 a0_1], .int .i64 x10_6] (by rfl) rfl rfl (by (try simp only [List.map_toArray, List.map_cons, List.map_nil]); first | done | rfl | (simp only [List.length_drop, List.length_take]; rfl)) ?_
                         with_reducible refine (signalbenchref20_parity.calls k6 a0_0 a0_1 x10_6 t235 _ A34.out).mono ?_
                         rintro e w38 ⟨rfl, hb⟩
                         refine ⟨_, rfl, ?_⟩
                         have n0_ := Aside0.mk (Kd.R_below (rkw HO_9.out) hb)
                         have n1_ := Aside0.mk (Kd.R_below (rkw HO_12.out) hb)
                         have n2_ := Aside0.mk (blkb BK222.out hb)
                         have n3_ := Aside0.mk (below_step (hbw HB.out) hb)
                         clear HO_9
                         clear HO_12
                         clear BK222
                         clear HB
                         have HO_9 := n0_
                         have HO_12 := n1_
                         have BK222 := n2_
                         have HB := n3_
                         clear n0_ n1_ n2_ n3_
                         (try clear hb)
                         (try clear hb2)
                         (try clear hk)
                         (try clear hi)
                         refine hK.out _ _ ⟨(blk_cell BK222.out 0).trans rfl, (blk_cell BK222.out 1).trans rfl, ((HB.out.cell (World.block_lt_of_cell? w _ hw234_0)).trans hw234_0), ((HB.out.cell (World.block_lt_of_cell? w _ hw234_1)).trans hw234_1), ((HB.out.cell (World.block_lt_of_cell? w _ hw234_2)).trans hw234_2), ((HB.out.cell (World.block_lt_of_cell? w _ hw234_3)).trans hw234_3), ((HB.out.cell (World.block_lt_of_cell? w _ hw234_4)).trans hw234_4)⟩ (fun hHeld => ?_)
                         clear hK K
                         refine norm_ (a' := ?_) ?_ ?_
                         rotate_left
                         ·show Act.put _ (some 74) _ = _
                          simp only [Act.put, nrm]
                          rfl
                         refine pstep 12 (some 75) #[true, true, true, true, true, true, true, true, true, true, true, true, true, false, false] HT_.out ?_
                         refine pstep 13 (some 76) #[true, true, true, true, true, true, true, true, true, true, true, true, true, true, false] HT_.out ?_
                         refine pstep 14 (some 14) #[true, true, true, true, true, true, true, true, true, true, true, true, true, true, true] HT_.out ?_
                         refine done_ (done_of HT_.out (by kernel_rfl)) ?_
                         try go_wp2_with (first | ((with_reducible refine gate_builtin (b := .append) (xs := #[.tmp 77, .tmp 81]) rfl ?_); at_builtin; refine Kd.R_append (Kd.int .u8) (w0 := w) w.heap.size rfl (.tmp 77) (.tmp 81) 51 5 (.int .u8 0) 1 rfl Try.underlying51 info5 rfl (by decide) (by omega) u12 x12_6 ((wrap64 (48 + (Int.tmod (wrap64 ((wrap64 ((wrap64 (bt ((rd_T46 l1 x11_4).f3) x13_6)) - 48)) + t235)) 2))) % 256) [.int .u8 ((wrap64 (48 + (Int.tmod (wrap64 ((wrap64 ((wrap64 (bt ((rd_T46 l1 x11_4).f3) x13_6)) - 48)) + t235)) 2))) % 256)] (fun _ => True) (fun _ => False) rfl rfl ?aP (fun _ hk => hk.elim) ?aF ?aO ?aB ?aS ?aL ?_; (case aP => exact rfl); (case aB => exact (hbw HB.out)); (case aF => exact (fun _ _ => trivial)); (case aO => exact (rkw HO_12.out)); (case aS => exact (below_size (hbw HB.out))); (case aL => have := LMc35.out; omega); intro v237 w39 ho hb hg hat; rw [← Ny236.out] at ho; have n0_ := Aside0.mk (Kd.R_over' (rkw HO_9.out) (Kd.R_typed (rkw HO_12.out)) (by decide) hg); have n1_ := Aside0.mk (blkg BK222.out hg (Kd.R_ne HO_12.out BK222.out (by decide))); have n2_ := Aside0.mk (hb); have n3_ := Aside0.mk (ho); clear HO_9; clear BK222; clear HB; clear HO_12; have HO_9 := n0_; have BK222 := n1_; have HB := n2_; have HO238 := n3_; clear n0_ n1_ n2_ n3_; clear ho hb hg hat; have hcz40_0 : w39.cell? ⟨gb222, 0, none⟩ = some (.int .i64 a0_0) := (blk_cell BK222.out 0).trans rfl; have hcz40_1 : w39.cell? ⟨gb222, 1, none⟩ = some (.int .i64 a0_1) := (blk_cell BK222.out 1).trans rfl; have hfz40_0 := blk_frozen BK222.out 0; have hfz40_1 := blk_frozen BK222.out 1) | ((with_reducible refine gate_callee (f := 33) rfl ?_); refine goesL_ (some 86) rfl rfl Try.func33 (by kernel_rfl) rfl #[.agg #[.int .i64 a0_0, .int .i64 a0_1], .int .i64 x10_6, .int .i64 (Int.tmod (wrap64 ((wrap64 ((wrap64 (bt ((rd_T46 l1 x11_4).f3) x13_6)) - 48)) + t235)) 2)] rfl (by (try simp only [List.map_toArray, List.map_cons, List.map_nil]); first | done | rfl | (simp only [List.length_drop, List.length_take]; rfl)) ?_; (with_reducible refine (signalbenchref20_insert.calls k6 a0_0 a0_1 x10_6 (Int.tmod (wrap64 ((wrap64 ((wrap64 (bt ((rd_T46 l1 x11_4).f3) x13_6)) - 48)) + t235)) 2) t239 _ A36.out).mono ?_); rintro e w41 ⟨rfl, hb⟩; refine ⟨_, rfl, ?_⟩; have n0_ := Aside0.mk (Kd.R_below (rkw HO_9.out) hb); have n1_ := Aside0.mk (Kd.R_below (rkw HO238.out) hb); have n2_ := Aside0.mk (blkb BK222.out hb); have n3_ := Aside0.mk (below_step (hbw HB.out) hb); clear HO_9; clear HO238; clear BK222; clear HB; have HO_9 := n0_; have HO238 := n1_; have BK222 := n2_; have HB := n3_; clear n0_ n1_ n2_ n3_; (try clear hb); (try clear hb2); (try clear hk); (try clear hi)))
                         go_roundg k6
                         case measure => have := HJ3.out; have := HJ8.out; have := HK3.out; have := HK4.out; have := HJ20.out; have := HK6.out; omega
                         case rel => exact ⟨(t239), (y236), (wrap64 (x13_6 + 1)), (by first | rfl | (simp; done) | (simp [*]; done)), (by first | rfl | (simp; done) | (simp [*]; done)), H', ⟨by have := HJ3.out; have := HJ8.out; have := HK3.out; have := HK4.out; have := HJ20.out; have := HK6.out; omega⟩, ⟨by (with_reducible repeat (first | apply Kd.R_alloc | apply Kd.R_drewN | apply Kd.R_drew)); exact HO_9.out⟩, ⟨by (with_reducible repeat (first | apply Kd.R_alloc | apply Kd.R_drewN | apply Kd.R_drew)); exact HO238.out⟩, ⟨by (with_reducible repeat (first | refine blk_drewN ?_ _ | refine blk_drew ?_ | refine blk_alloc ?_ _)); exact BK222.out⟩, ⟨by repeat (first | (with_reducible first | exact HB.out | apply below_alloc | apply pw_below_drewN | apply below_drew1 | refine below_set ?_ GE222.out) | exact HB.out)⟩⟩
                        ·rw [if_neg c35] at H
                         exact absurd H (by simp)
                       ·rw [if_neg c32] at H
                        exact absurd H (by simp)
                      ·rw [if_neg c31] at H
                       have c31b0 : decide (x13_6 < (((rd_T46 l1 x11_4).f3).size : Int)) = false := decide_eq_false c31
                       clear c31
                       by_cases c42 : x9_4.length < 2932031007402
                       ·rw [if_pos c42] at H
                        have LMc42 := Aside0.mk c42
                        clear c42
                        obtain ⟨y241, hy241⟩ : ∃ y_ : List (S46), y_ = (x9_4 ++ [(⟨(rd_T46 l1 x11_4).f0, 0, 0, strOfNums x12_6, 0⟩ : S46)]) := ⟨_, rfl⟩
                        replace H : (signalbenchref20_Encode.l1 k6 l1 y241 x10_6 (wrap64 (x11_4 + 1)) a0_0 a0_1) = some (r1, r2) := by first | (rw [hy241]; with_reducible exact H) | (have H2_ := (Option.bind_some _ _).symm.trans H; rw [hy241]; with_reducible exact H2_) | (have H2_ := (Option.bind_some _ _).symm.trans H; with_reducible exact H2_) | with_reducible exact H | (rw [hy241]; exact H) | exact H
                        have Ny241 := Aside0.mk hy241
                        clear hy241
                        have H' := Aside0.mk H
                        clear H
                        have p233 : 0 ≤ (x11_4 : Int) := of_decide_eq_true (by first | (with_reducible assumption) | assumption)
                        have q233 : x11_4 < (l1.length : Int) := of_decide_eq_true (by first | (with_reducible assumption) | assumption)
                        obtain ⟨ad233, e233, hx233_0, hx233_1, hx233_2, hx233_3, hx233_4⟩ := at_T46 HR1.out x11_4 p233 q233
                        obtain rfl : ad229 = ad233 := (by injection e233)
                        replace hx233_0 := (HB.out.cell (World.block_lt_of_cell? w _ hx233_0)).trans hx233_0
                        replace hx233_1 := (HB.out.cell (World.block_lt_of_cell? w _ hx233_1)).trans hx233_1
                        replace hx233_2 := (HB.out.cell (World.block_lt_of_cell? w _ hx233_2)).trans hx233_2
                        replace hx233_3 := (HB.out.cell (World.block_lt_of_cell? w _ hx233_3)).trans hx233_3
                        replace hx233_4 := (HB.out.cell (World.block_lt_of_cell? w _ hx233_4)).trans hx233_4
                        replace p233 := eq_true p233
                        replace q233 := eq_true q233
                        try go_wp2
                        have n0_ := Aside0.mk (Kd.R_drew HO_9.out)
                        have n1_ := Aside0.mk (Kd.R_drew HO_12.out)
                        have n2_ := Aside0.mk (blk_drew BK222.out)
                        have n3_ := Aside0.mk (below_drew1 HB.out)
                        clear HO_9
                        clear HO_12
                        clear BK222
                        clear HB
                        have HO_9 := n0_
                        have HO_12 := n1_
                        have BK222 := n2_
                        have HB := n3_
                        clear n0_ n1_ n2_ n3_
                        have p240 : 0 ≤ (x11_4 : Int) := of_decide_eq_true (by first | (with_reducible assumption) | assumption)
                        have q240 : x11_4 < (l1.length : Int) := of_decide_eq_true (by first | (with_reducible assumption) | assumption)
                        obtain ⟨ad240, e240, hx240_0, hx240_1, hx240_2, hx240_3, hx240_4⟩ := at_T46 HR1.out x11_4 p240 q240
                        have hw240_4 := hx240_4
                        have hw240_3 := hx240_3
                        have hw240_2 := hx240_2
                        have hw240_1 := hx240_1
                        have hw240_0 := hx240_0
                        obtain rfl : ad229 = ad240 := (by injection e240)
                        replace hx240_0 := (HB.out.cell (World.block_lt_of_cell? w _ hx240_0)).trans hx240_0
                        replace hx240_1 := (HB.out.cell (World.block_lt_of_cell? w _ hx240_1)).trans hx240_1
                        replace hx240_2 := (HB.out.cell (World.block_lt_of_cell? w _ hx240_2)).trans hx240_2
                        replace hx240_3 := (HB.out.cell (World.block_lt_of_cell? w _ hx240_3)).trans hx240_3
                        replace hx240_4 := (HB.out.cell (World.block_lt_of_cell? w _ hx240_4)).trans hx240_4
                        replace p240 := eq_true p240
                        replace q240 := eq_true q240
                        refine start_ (n := 12) (S := fun w' => w'.cell? (ad229.add ((x11_4).toNat * 5)) = some (.int .i64 ((rd_T46 l1 x11_4).f0)) ∧ w'.cell? ⟨(ad229.add ((x11_4).toNat * 5)).block, (ad229.add ((x11_4).toNat * 5)).off + 1, none⟩ = some (.int .i64 ((rd_T46 l1 x11_4).f1)) ∧ w'.cell? ⟨(ad229.add ((x11_4).toNat * 5)).block, (ad229.add ((x11_4).toNat * 5)).off + 2, none⟩ = some (.int .i64 ((rd_T46 l1 x11_4).f2)) ∧ w'.cell? ⟨(ad229.add ((x11_4).toNat * 5)).block, (ad229.add ((x11_4).toNat * 5)).off + 3, none⟩ = some (.string ((rd_T46 l1 x11_4).f3)) ∧ w'.cell? ⟨(ad229.add ((x11_4).toNat * 5)).block, (ad229.add ((x11_4).toNat * 5)).off + 4, none⟩ = some (.int .i64 ((rd_T46 l1 x11_4).f4))) (ds := []) #[false, false, false, false, false, false, false, false, false, false, false, false] (by kernel_rfl) rfl rfl ⟨((HB.out.cell (World.block_lt_of_cell? w _ hw240_0)).trans hw240_0), ((HB.out.cell (World.block_lt_of_cell? w _ hw240_1)).trans hw240_1), ((HB.out.cell (World.block_lt_of_cell? w _ hw240_2)).trans hw240_2), ((HB.out.cell (World.block_lt_of_cell? w _ hw240_3)).trans hw240_3), ((HB.out.cell (World.block_lt_of_cell? w _ hw240_4)).trans hw240_4)⟩ (fun hHeld => ?_); refine with_tabW signalbenchref20_Encode.tab24 signalbenchref20_Encode.bits24 (fun HT_ HW_ => ?_)
                        generalize wr.drew = w43 at HO_9 HO_12 BK222 HB hx240_0 hx240_1 hx240_2 hx240_3 hx240_4 hHeld ⊢
                        refine pstep 0 (some 87) #[true, false, false, false, false, false, false, false, false, false, false, false] HT_.out ?_
                        refine pstep 1 (some 88) #[true, true, false, false, false, false, false, false, false, false, false, false] HT_.out ?_
                        refine pstep 2 (some 89) #[true, true, true, false, false, false, false, false, false, false, false, false] HT_.out ?_
                        refine pstep 3 (some 90) #[true, true, true, true, false, false, false, false, false, false, false, false] HT_.out ?_
                        refine pstep 4 (some 91) #[true, true, true, true, true, false, false, false, false, false, false, false] HT_.out ?_
                        refine pstep 6 (some 93) #[true, true, true, true, true, false, true, false, false, false, false, false] HT_.out ?_
                        refine take_ (i := 5) (N := some 92) (v := ?_) (a' := ?_) #[true, true, true, true, true, true, true, false, false, false, false, false] rfl rfl (take_ofW HT_.out HW_.out (by kernel_rfl)) (fun _ _ _ h => h) (Or.inl ⟨by rfl, ?_⟩) hHeld ?_ ?_
                        rotate_left
                        ·rintro w' ⟨s0, s1, s2, s3, s4⟩
                         go_simp
                         with_reducible rfl
                        rotate_left
                        ·simp only [Act.put, nrm]
                         rfl
                        refine one_ (i := 7) (N := some 94) #[true, true, true, true, true, true, true, true, false, false, false, false] rfl rfl (one_of HT_.out (by kernel_rfl)) (by decide) (fun K hK => ?_)
                        have hcv44 := own_string (P := Try.prog) Try.underlying51 Try.underlying5 Try.underlying9 (Kd.own_of_R HO_12.out)
                        refine value_ (w1 := ?_) (v := ?_) (by rfl) rfl ?_ ?_
                        rotate_left 2
                        ·go_simp
                         constructor
                         ·rfl
                         ·rfl
                        clear hcv44
                        refine hK.out _ _ ⟨((HB.out.cell (World.block_lt_of_cell? w _ hw240_0)).trans hw240_0), ((HB.out.cell (World.block_lt_of_cell? w _ hw240_1)).trans hw240_1), ((HB.out.cell (World.block_lt_of_cell? w _ hw240_2)).trans hw240_2), ((HB.out.cell (World.block_lt_of_cell? w _ hw240_3)).trans hw240_3), ((HB.out.cell (World.block_lt_of_cell? w _ hw240_4)).trans hw240_4)⟩ (fun hHeld => ?_)
                        clear hK K
                        refine norm_ (a' := ?_) ?_ ?_
                        rotate_left
                        ·show Act.put _ (some 94) _ = _
                         simp only [Act.put, nrm]
                         rfl
                        refine pstep 8 (some 95) #[true, true, true, true, true, true, true, true, true, false, false, false] HT_.out ?_
                        refine one_ (i := 9) (N := some 96) #[true, true, true, true, true, true, true, true, true, true, false, false] rfl rfl (one_of HT_.out (by kernel_rfl)) (by decide) (fun K hK => ?_)
                        refine value_ (w1 := ?_) (v := ?_) (by rfl) rfl ?_ ?_
                        rotate_left 2
                        ·go_simp
                         constructor
                         ·rfl
                         ·rfl
                        refine hK.out _ _ ⟨(World.cell?_alloc_lt _ _ _ (World.block_lt_of_cell? _ _ (((HB.out.cell (World.block_lt_of_cell? w _ hw240_0)).trans hw240_0)))).trans (((HB.out.cell (World.block_lt_of_cell? w _ hw240_0)).trans hw240_0)), (World.cell?_alloc_lt _ _ _ (World.block_lt_of_cell? _ _ (((HB.out.cell (World.block_lt_of_cell? w _ hw240_1)).trans hw240_1)))).trans (((HB.out.cell (World.block_lt_of_cell? w _ hw240_1)).trans hw240_1)), (World.cell?_alloc_lt _ _ _ (World.block_lt_of_cell? _ _ (((HB.out.cell (World.block_lt_of_cell? w _ hw240_2)).trans hw240_2)))).trans (((HB.out.cell (World.block_lt_of_cell? w _ hw240_2)).trans hw240_2)), (World.cell?_alloc_lt _ _ _ (World.block_lt_of_cell? _ _ (((HB.out.cell (World.block_lt_of_cell? w _ hw240_3)).trans hw240_3)))).trans (((HB.out.cell (World.block_lt_of_cell? w _ hw240_3)).trans hw240_3)), (World.cell?_alloc_lt _ _ _ (World.block_lt_of_cell? _ _ (((HB.out.cell (World.block_lt_of_cell? w _ hw240_4)).trans hw240_4)))).trans (((HB.out.cell (World.block_lt_of_cell? w _ hw240_4)).trans hw240_4))⟩ (fun hHeld => ?_)
                        clear hK K
                        refine norm_ (a' := ?_) ?_ ?_
                        rotate_left
                        ·show Act.put _ (some 96) _ = _
                         simp only [Act.put, nrm]
                         rfl
                        refine one_ (i := 10) (N := some 97) #[true, true, true, true, true, true, true, true, true, true, true, false] rfl rfl (one_of HT_.out (by kernel_rfl)) (by decide) (fun K hK => ?_)
                        refine Kd.R_append_step k46 (w0 := w) w.heap.size (by rfl) (.tmp 87) (.tmp 96) 34 46 (.agg #[(.int .i64 0), (.int .i64 0), (.int .i64 0), (.string ⟨#[]⟩), (.int .i64 0)]) 48 rfl Try.underlying34 info46 rfl (by decide) (by omega) u9 x9_4 (⟨(rd_T46 l1 x11_4).f0, 0, 0, strOfNums x12_6, 0⟩ : S46) [.int .i64 ((rd_T46 l1 x11_4).f0), .int .i64 0, .int .i64 0, .string (strOfNums x12_6), .int .i64 0] (fun _ => True) (fun _ => False) rfl rfl ?aP (fun _ hk => hk.elim) ?aF ?aO ?aB ?aS ?aL ?_
                        (case aP => exact k46_mkM _ _ _ (⟨(rd_T46 l1 x11_4).f0, 0, 0, strOfNums x12_6, 0⟩ : S46))
                        (case aB => exact (hbw HB.out))
                        (case aF => exact (fun _ _ => trivial))
                        (case aO => exact (rkw HO_9.out))
                        (case aS => exact (below_size (hbw HB.out)))
                        (case aL => have := LMc42.out; omega)
                        intro v242 w45 ho hb hg hat
                        rw [← Ny241.out] at ho
                        have n0_ := Aside0.mk (Kd.R_over' (rkw HO_12.out) (Kd.R_typed (rkw HO_9.out)) (by decide) hg)
                        have n1_ := Aside0.mk (blkg BK222.out hg (Kd.R_ne HO_9.out BK222.out (by decide)))
                        have n2_ := Aside0.mk (hb)
                        have n3_ := Aside0.mk (ho)
                        clear HO_12
                        clear BK222
                        clear HB
                        clear HO_9
                        have HO_12 := n0_
                        have BK222 := n1_
                        have HB := n2_
                        have HO243 := n3_
                        clear n0_ n1_ n2_ n3_
                        clear ho hb hg hat
                        refine hK.out _ _ ⟨((HB.out.cell (World.block_lt_of_cell? w _ hw240_0)).trans hw240_0), ((HB.out.cell (World.block_lt_of_cell? w _ hw240_1)).trans hw240_1), ((HB.out.cell (World.block_lt_of_cell? w _ hw240_2)).trans hw240_2), ((HB.out.cell (World.block_lt_of_cell? w _ hw240_3)).trans hw240_3), ((HB.out.cell (World.block_lt_of_cell? w _ hw240_4)).trans hw240_4)⟩ (fun hHeld => ?_)
                        clear hK K
                        refine norm_ (a' := ?_) ?_ ?_
                        rotate_left
                        ·show Act.put _ (some 97) _ = _
                         simp only [Act.put, nrm]
                         rfl
                        refine pstep 11 (some 9) #[true, true, true, true, true, true, true, true, true, true, true, true] HT_.out ?_
                        refine done_ (done_of HT_.out (by kernel_rfl)) ?_
                        try go_wp2
                        go_roundg k6
                        case measure => have := HJ3.out; have := HJ8.out; have := HK3.out; have := HK4.out; have := HJ20.out; have := HK6.out; omega
                        case rel => exact ⟨(y241), (x10_6), (wrap64 (x11_4 + 1)), (by first | rfl | (simp; done) | (simp [*]; done)), (by first | rfl | (simp; done) | (simp [*]; done)), H', ⟨by have := HJ3.out; have := HJ8.out; have := HK3.out; have := HK4.out; have := HJ20.out; have := HK6.out; omega⟩, ⟨by (with_reducible repeat (first | apply Kd.R_alloc | apply Kd.R_drewN | apply Kd.R_drew)); exact HO243.out⟩, ⟨by (with_reducible repeat (first | refine blk_drewN ?_ _ | refine blk_drew ?_ | refine blk_alloc ?_ _)); exact BK222.out⟩, ⟨by repeat (first | (with_reducible first | exact HB.out | apply below_alloc | apply pw_below_drewN | apply below_drew1 | refine below_set ?_ GE222.out) | exact HB.out)⟩⟩
                       ·rw [if_neg c42] at H
                        exact absurd H (by simp)
                     ·rw [if_neg c30] at H
                      exact absurd H (by simp)
                    ·rw [if_neg c29] at H
                     exact absurd H (by simp)
                 ·rw [if_neg c26] at H
                  exact absurd H (by simp)
                ·rw [if_neg c25] at H
                 exact absurd H (by simp)
               ·rw [if_neg c24] at H
                exact absurd H (by simp)
              ·rw [if_neg c23] at H
               exact absurd H (by simp)
         ·rw [if_neg c18] at H
          exact absurd H (by simp)
        ·rw [if_neg c17] at H
         exact absurd H (by simp)

end Go.Proofs.Ytgcifmaefoeobaa.PScrambleEncodes
