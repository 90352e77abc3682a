-- Written by a program of this session (wip/tools/pr.py), which calls the kit's print with changes of its own.
import Derived.Test.YtmalhgidhieamaaDoorPModbusEncodesx0
import Derived.Test.YtmalhgidhieamaaDoorPModbusEncodesx11
import Derived.Test.YtmalhgidhieamaaDoorPModbusEncodesx12
namespace Go.Proofs.YtmalhgidhieamaaDoor.PModbusEncodes
open Go.RowKit Go.Proofs.YtmalhgidhieamaaDoorW.PrintWords Go.Proofs.YtmalhgidhieamaaDoorW.PrintLast Go.Proofs.YtmalhgidhieamaaDoorW.PrintMore
attribute [local go_sem] max2_int min2_int max_two min_two max_three min_three max_four min_four   -- for this text's walks alone
set_option linter.unusedVariables false
set_option linter.unusedSimpArgs false

/-! ### signalbenchref30_Encode: function 22 -/
mutual
def signalbenchref30_Encode.j0 : Nat → List (S48) → Int → Option ((List (S48)) × Int)
 | 0, _, _ => none
 | k + 1, x1, x267000 => if (x1.length : Int) > 1024 then (some (([] : List (S48)), 6)) else (signalbenchref30_Encode.j1 k x1 x267000)
def signalbenchref30_Encode.j1 : Nat → List (S48) → Int → Option ((List (S48)) × Int)
 | 0, _, _ => none
 | k + 1, x1, x267000 => signalbenchref30_Encode.l0 k x1 (([] : List (S48))) 0 x267000
def signalbenchref30_Encode.l0 : Nat → List (S48) → List (S48) → Int → Int → Option ((List (S48)) × Int)
 | 0, _, _, _, _ => none
 | k + 1, x1, x7, x8, x267000 => if x8 < (x1.length : Int) then (if 0 ≤ x8 then ((signalbenchref30_item.f k x267000 ((rd_T48 x1 x8).f0) ((rd_T48 x1 x8).f1) ((rd_T48 x1 x8).f2) ((rd_T48 x1 x8).f3) ((rd_T48 x1 x8).f4)).bind fun t272 => (if t272 = 0 then (signalbenchref30_Encode.l0 k x1 x7 (wrap64 (x8 + 1)) x267000) else (some (([] : List (S48)), t272)))) else (none)) else (signalbenchref30_Encode.l1 k x1 x7 0 x267000)
def signalbenchref30_Encode.l1 : Nat → List (S48) → List (S48) → Int → Int → Option ((List (S48)) × Int)
 | 0, _, _, _, _ => none
 | k + 1, x1, x7, x10, x267000 => if x10 < (x1.length : Int) then (signalbenchref30_Encode.j4 k x1 x7 x10 x267000) else (some (x7, 0))
def signalbenchref30_Encode.j4 : Nat → List (S48) → List (S48) → Int → Int → Option ((List (S48)) × Int)
 | 0, _, _, _, _ => none
 | k + 1, x1, x7, x10, x267000 => if 0 ≤ x10 then (if x10 < (x1.length : Int) then ((signalbenchref30_bytes.f k ((rd_T48 x1 x10).f0) ((rd_T48 x1 x10).f1) ((rd_T48 x1 x10).f2) ((rd_T48 x1 x10).f3) ((rd_T48 x1 x10).f4)).bind fun t274 => (if (wrap64 ((x7.length : Int) + (t274.size : Int))) > 262144 then (some (([] : List (S48)), 6)) else (signalbenchref30_Encode.j5 k x1 x7 x10 t274 x267000))) else (none)) else (none)
def signalbenchref30_Encode.j5 : Nat → List (S48) → List (S48) → Int → ByteArray → Int → Option ((List (S48)) × Int)
 | 0, _, _, _, _, _ => none
 | k + 1, x1, x7, x10, x11, x267000 => signalbenchref30_Encode.l2 k x1 x7 x10 x11 0 x267000
def signalbenchref30_Encode.l2 : Nat → List (S48) → List (S48) → Int → ByteArray → Int → Int → Option ((List (S48)) × Int)
 | 0, _, _, _, _, _, _ => none
 | k + 1, x1, x7, x10, x11, x12, x267000 => if x12 < (x11.size : Int) then (if 0 ≤ x12 then (if x12 = 0 then (if 0 ≤ x10 then (if x10 < (x1.length : Int) then (if x7.length < 2932031007402 then (signalbenchref30_Encode.l2 k x1 (x7 ++ [(⟨wrap64 ((wrap64 (x267000 + 1)) + ((rd_T48 x1 x10).f0)), wrap64 (bt x11 x12), 0, (⟨#[]⟩ : ByteArray), 0⟩ : S48)]) x10 x11 (wrap64 (x12 + 1)) x267000) else (none)) else (none)) else (none)) else (if x7.length < 2932031007402 then (signalbenchref30_Encode.l2 k x1 (x7 ++ [(⟨0, wrap64 (bt x11 x12), 0, (⟨#[]⟩ : ByteArray), 0⟩ : S48)]) x10 x11 (wrap64 (x12 + 1)) x267000) else (none))) else (none)) else (signalbenchref30_Encode.l1 k x1 x7 (wrap64 (x10 + 1)) x267000)
end
def signalbenchref30_Encode.f (k : Nat) (a0_0 : Int) (l1 : List (S48)) : Option ((List (S48)) × Int) := (signalbenchref30_Check.f a0_0).bind fun t267 => (if t267 = 0 then (signalbenchref30_Encode.j0 k l1 a0_0) else (some (([] : List (S48)), t267)))
theorem signalbenchref30_Encode.mono_l : ∀ k, (∀ y0 y1, LeO (signalbenchref30_Encode.j0 k y0 y1) (signalbenchref30_Encode.j0 (k + 1) y0 y1)) ∧ (∀ y0 y1, LeO (signalbenchref30_Encode.j1 k y0 y1) (signalbenchref30_Encode.j1 (k + 1) y0 y1)) ∧ (∀ y0 y1 y2 y3, LeO (signalbenchref30_Encode.l0 k y0 y1 y2 y3) (signalbenchref30_Encode.l0 (k + 1) y0 y1 y2 y3)) ∧ (∀ y0 y1 y2 y3, LeO (signalbenchref30_Encode.l1 k y0 y1 y2 y3) (signalbenchref30_Encode.l1 (k + 1) y0 y1 y2 y3)) ∧ (∀ y0 y1 y2 y3, LeO (signalbenchref30_Encode.j4 k y0 y1 y2 y3) (signalbenchref30_Encode.j4 (k + 1) y0 y1 y2 y3)) ∧ (∀ y0 y1 y2 y3 y4, LeO (signalbenchref30_Encode.j5 k y0 y1 y2 y3 y4) (signalbenchref30_Encode.j5 (k + 1) y0 y1 y2 y3 y4)) ∧ (∀ y0 y1 y2 y3 y4 y5, LeO (signalbenchref30_Encode.l2 k y0 y1 y2 y3 y4 y5) (signalbenchref30_Encode.l2 (k + 1) y0 y1 y2 y3 y4 y5))
 | 0 => ⟨fun _ _ r h => by simp [signalbenchref30_Encode.j0] at h, fun _ _ r h => by simp [signalbenchref30_Encode.j1] at h, fun _ _ _ _ r h => by simp [signalbenchref30_Encode.l0] at h, fun _ _ _ _ r h => by simp [signalbenchref30_Encode.l1] at h, fun _ _ _ _ r h => by simp [signalbenchref30_Encode.j4] at h, fun _ _ _ _ _ r h => by simp [signalbenchref30_Encode.j5] at h, fun _ _ _ _ _ _ r h => by simp [signalbenchref30_Encode.l2] at h⟩
 | k + 1 => by
  obtain ⟨ih0, ih1, ih2, ih3, ih4, ih5, ih6⟩ := signalbenchref30_Encode.mono_l k
  refine ⟨?_, ?_, ?_, ?_, ?_, ?_, ?_⟩
  ·intro y0 y1
   unfold signalbenchref30_Encode.j0
   repeat' first
   | (with_reducible exact ih0 _ _)
   | (with_reducible exact ih1 _ _)
   | (with_reducible exact ih2 _ _ _ _)
   | (with_reducible exact ih3 _ _ _ _)
   | (with_reducible exact ih4 _ _ _ _)
   | (with_reducible exact ih5 _ _ _ _ _)
   | (with_reducible exact ih6 _ _ _ _ _ _)
   | (with_reducible exact signalbenchref30_bytes.mono _ _ _ _ _ _)
   | (with_reducible exact signalbenchref30_item.mono _ _ _ _ _ _ _)
   | (with_reducible exact LeO.refl _)
   | (with_reducible exact LeO.none _)
   | (with_reducible refine LeO.ite ?_ ?_)
   | (with_reducible refine LeO.bind ?_ (fun _ => ?_))
   | exact ih0 _ _
   | exact ih1 _ _
   | exact ih2 _ _ _ _
   | exact ih3 _ _ _ _
   | exact ih4 _ _ _ _
   | exact ih5 _ _ _ _ _
   | exact ih6 _ _ _ _ _ _
   | exact signalbenchref30_bytes.mono _ _ _ _ _ _
   | exact signalbenchref30_item.mono _ _ _ _ _ _ _
   | exact LeO.none _
   | refine LeO.ite ?_ ?_
   | refine LeO.bind ?_ (fun _ => ?_)
  ·intro y0 y1
   unfold signalbenchref30_Encode.j1
   repeat' first
   | (with_reducible exact ih0 _ _)
   | (with_reducible exact ih1 _ _)
   | (with_reducible exact ih2 _ _ _ _)
   | (with_reducible exact ih3 _ _ _ _)
   | (with_reducible exact ih4 _ _ _ _)
   | (with_reducible exact ih5 _ _ _ _ _)
   | (with_reducible exact ih6 _ _ _ _ _ _)
   | (with_reducible exact signalbenchref30_bytes.mono _ _ _ _ _ _)
   | (with_reducible exact signalbenchref30_item.mono _ _ _ _ _ _ _)
   | (with_reducible exact LeO.refl _)
   | (with_reducible exact LeO.none _)
   | (with_reducible refine LeO.ite ?_ ?_)
   | (with_reducible refine LeO.bind ?_ (fun _ => ?_))
   | exact ih0 _ _
   | exact ih1 _ _
   | exact ih2 _ _ _ _
   | exact ih3 _ _ _ _
   | exact ih4 _ _ _ _
   | exact ih5 _ _ _ _ _
   | exact ih6 _ _ _ _ _ _
   | exact signalbenchref30_bytes.mono _ _ _ _ _ _
   | exact signalbenchref30_item.mono _ _ _ _ _ _ _
   | exact LeO.none _
   | refine LeO.ite ?_ ?_
   | refine LeO.bind ?_ (fun _ => ?_)
  ·intro y0 y1 y2 y3
   unfold signalbenchref30_Encode.l0
   repeat' first
   | (with_reducible exact ih0 _ _)
   | (with_reducible exact ih1 _ _)
   | (with_reducible exact ih2 _ _ _ _)
   | (with_reducible exact ih3 _ _ _ _)
   | (with_reducible exact ih4 _ _ _ _)
   | (with_reducible exact ih5 _ _ _ _ _)
   | (with_reducible exact ih6 _ _ _ _ _ _)
   | (with_reducible exact signalbenchref30_bytes.mono _ _ _ _ _ _)
   | (with_reducible exact signalbenchref30_item.mono _ _ _ _ _ _ _)
   | (with_reducible exact LeO.refl _)
   | (with_reducible exact LeO.none _)
   | (with_reducible refine LeO.ite ?_ ?_)
   | (with_reducible refine LeO.bind ?_ (fun _ => ?_))
   | exact ih0 _ _
   | exact ih1 _ _
   | exact ih2 _ _ _ _
   | exact ih3 _ _ _ _
   | exact ih4 _ _ _ _
   | exact ih5 _ _ _ _ _
   | exact ih6 _ _ _ _ _ _
   | exact signalbenchref30_bytes.mono _ _ _ _ _ _
   | exact signalbenchref30_item.mono _ _ _ _ _ _ _
   | exact LeO.none _
   | refine LeO.ite ?_ ?_
   | refine LeO.bind ?_ (fun _ => ?_)
  ·intro y0 y1 y2 y3
   unfold signalbenchref30_Encode.l1
   repeat' first
   | (with_reducible exact ih0 _ _)
   | (with_reducible exact ih1 _ _)
   | (with_reducible exact ih2 _ _ _ _)
   | (with_reducible exact ih3 _ _ _ _)
   | (with_reducible exact ih4 _ _ _ _)
   | (with_reducible exact ih5 _ _ _ _ _)
   | (with_reducible exact ih6 _ _ _ _ _ _)
   | (with_reducible exact signalbenchref30_bytes.mono _ _ _ _ _ _)
   | (with_reducible exact signalbenchref30_item.mono _ _ _ _ _ _ _)
   | (with_reducible exact LeO.refl _)
   | (with_reducible exact LeO.none _)
   | (with_reducible refine LeO.ite ?_ ?_)
   | (with_reducible refine LeO.bind ?_ (fun _ => ?_))
   | exact ih0 _ _
   | exact ih1 _ _
   | exact ih2 _ _ _ _
   | exact ih3 _ _ _ _
   | exact ih4 _ _ _ _
   | exact ih5 _ _ _ _ _
   | exact ih6 _ _ _ _ _ _
   | exact signalbenchref30_bytes.mono _ _ _ _ _ _
   | exact signalbenchref30_item.mono _ _ _ _ _ _ _
   | exact LeO.none _
   | refine LeO.ite ?_ ?_
   | refine LeO.bind ?_ (fun _ => ?_)
  ·intro y0 y1 y2 y3
   unfold signalbenchref30_Encode.j4
   repeat' first
   | (with_reducible exact ih0 _ _)
   | (with_reducible exact ih1 _ _)
   | (with_reducible exact ih2 _ _ _ _)
   | (with_reducible exact ih3 _ _ _ _)
   | (with_reducible exact ih4 _ _ _ _)
   | (with_reducible exact ih5 _ _ _ _ _)
   | (with_reducible exact ih6 _ _ _ _ _ _)
   | (with_reducible exact signalbenchref30_bytes.mono _ _ _ _ _ _)
   | (with_reducible exact signalbenchref30_item.mono _ _ _ _ _ _ _)
   | (with_reducible exact LeO.refl _)
   | (with_reducible exact LeO.none _)
   | (with_reducible refine LeO.ite ?_ ?_)
   | (with_reducible refine LeO.bind ?_ (fun _ => ?_))
   | exact ih0 _ _
   | exact ih1 _ _
   | exact ih2 _ _ _ _
   | exact ih3 _ _ _ _
   | exact ih4 _ _ _ _
   | exact ih5 _ _ _ _ _
   | exact ih6 _ _ _ _ _ _
   | exact signalbenchref30_bytes.mono _ _ _ _ _ _
   | exact signalbenchref30_item.mono _ _ _ _ _ _ _
   | exact LeO.none _
   | refine LeO.ite ?_ ?_
   | refine LeO.bind ?_ (fun _ => ?_)
  ·intro y0 y1 y2 y3 y4
   unfold signalbenchref30_Encode.j5
   repeat' first
   | (with_reducible exact ih0 _ _)
   | (with_reducible exact ih1 _ _)
   | (with_reducible exact ih2 _ _ _ _)
   | (with_reducible exact ih3 _ _ _ _)
   | (with_reducible exact ih4 _ _ _ _)
   | (with_reducible exact ih5 _ _ _ _ _)
   | (with_reducible exact ih6 _ _ _ _ _ _)
   | (with_reducible exact signalbenchref30_bytes.mono _ _ _ _ _ _)
   | (with_reducible exact signalbenchref30_item.mono _ _ _ _ _ _ _)
   | (with_reducible exact LeO.refl _)
   | (with_reducible exact LeO.none _)
   | (with_reducible refine LeO.ite ?_ ?_)
   | (with_reducible refine LeO.bind ?_ (fun _ => ?_))
   | exact ih0 _ _
   | exact ih1 _ _
   | exact ih2 _ _ _ _
   | exact ih3 _ _ _ _
   | exact ih4 _ _ _ _
   | exact ih5 _ _ _ _ _
   | exact ih6 _ _ _ _ _ _
   | exact signalbenchref30_bytes.mono _ _ _ _ _ _
   | exact signalbenchref30_item.mono _ _ _ _ _ _ _
   | exact LeO.none _
   | refine LeO.ite ?_ ?_
   | refine LeO.bind ?_ (fun _ => ?_)
  ·intro y0 y1 y2 y3 y4 y5
   unfold signalbenchref30_Encode.l2
   repeat' first
   | (with_reducible exact ih0 _ _)
   | (with_reducible exact ih1 _ _)
   | (with_reducible exact ih2 _ _ _ _)
   | (with_reducible exact ih3 _ _ _ _)
   | (with_reducible exact ih4 _ _ _ _)
   | (with_reducible exact ih5 _ _ _ _ _)
   | (with_reducible exact ih6 _ _ _ _ _ _)
   | (with_reducible exact signalbenchref30_bytes.mono _ _ _ _ _ _)
   | (with_reducible exact signalbenchref30_item.mono _ _ _ _ _ _ _)
   | (with_reducible exact LeO.refl _)
   | (with_reducible exact LeO.none _)
   | (with_reducible refine LeO.ite ?_ ?_)
   | (with_reducible refine LeO.bind ?_ (fun _ => ?_))
   | exact ih0 _ _
   | exact ih1 _ _
   | exact ih2 _ _ _ _
   | exact ih3 _ _ _ _
   | exact ih4 _ _ _ _
   | exact ih5 _ _ _ _ _
   | exact ih6 _ _ _ _ _ _
   | exact signalbenchref30_bytes.mono _ _ _ _ _ _
   | exact signalbenchref30_item.mono _ _ _ _ _ _ _
   | exact LeO.none _
   | refine LeO.ite ?_ ?_
   | refine LeO.bind ?_ (fun _ => ?_)
theorem signalbenchref30_Encode.mono : ∀ a0 a1 k, LeO (signalbenchref30_Encode.f k a0 a1) (signalbenchref30_Encode.f (k + 1) a0 a1) := by
 intro a0 a1 k
 obtain ⟨ih0, ih1, ih2, ih3, ih4, ih5, ih6⟩ := signalbenchref30_Encode.mono_l k
 unfold signalbenchref30_Encode.f
 repeat' first
   | (with_reducible exact ih0 _ _)
   | (with_reducible exact ih1 _ _)
   | (with_reducible exact ih2 _ _ _ _)
   | (with_reducible exact ih3 _ _ _ _)
   | (with_reducible exact ih4 _ _ _ _)
   | (with_reducible exact ih5 _ _ _ _ _)
   | (with_reducible exact ih6 _ _ _ _ _ _)
   | (with_reducible exact signalbenchref30_bytes.mono _ _ _ _ _ _)
   | (with_reducible exact signalbenchref30_item.mono _ _ _ _ _ _ _)
   | (with_reducible exact LeO.refl _)
   | (with_reducible exact LeO.none _)
   | (with_reducible refine LeO.ite ?_ ?_)
   | (with_reducible refine LeO.bind ?_ (fun _ => ?_))
   | exact ih0 _ _
   | exact ih1 _ _
   | exact ih2 _ _ _ _
   | exact ih3 _ _ _ _
   | exact ih4 _ _ _ _
   | exact ih5 _ _ _ _ _
   | exact ih6 _ _ _ _ _ _
   | exact signalbenchref30_bytes.mono _ _ _ _ _ _
   | exact signalbenchref30_item.mono _ _ _ _ _ _ _
   | exact LeO.none _
   | refine LeO.ite ?_ ?_
   | refine LeO.bind ?_ (fun _ => ?_)
def signalbenchref30_Encode.T24 : Bool × List (List Nat × List Nat) := (true, [([], []), ([0], [0]), ([1], [1]), ([], []), ([], []), ([3, 4], [3, 4]), ([5], [5]), ([6], [6]), ([2, 7], [2, 7]), ([0, 1, 2, 3, 4, 5, 6, 7, 8], []), ([9, 8, 0, 1, 2, 3, 4, 5, 6, 7, 8], [8, 9])])
def signalbenchref30_Encode.B24 : List Nat := [0, 1, 3, 0, 0, 24, 56, 120, 255, 511, 1023]
theorem signalbenchref30_Encode.tab24 : rtab .any (opsOf Tryd.f22 24) = signalbenchref30_Encode.T24 := by kernel_rfl
theorem signalbenchref30_Encode.bits24 : waitsOk signalbenchref30_Encode.T24.2 signalbenchref30_Encode.B24 = true := by kernel_rfl
set_option maxHeartbeats 8000000 in
set_option maxRecDepth 100000 in
theorem signalbenchref30_Encode.calls (k : Nat) (a0_0 : Int) (A1 : Option Addr) (c1 : Nat) (l1 : List (S48)) (r1 : List (S48)) (r2 : Int) (w : World) (hr1 : Kd.C k48 w A1 l1.length l1) (hc1 : l1.length ≤ c1) (h : signalbenchref30_Encode.f k a0_0 l1 = some (r1, r2)) :
  Calls Tryd.prog 22 #[.agg #[.int .i64 a0_0], .slice A1 l1.length c1] w fun e w' => ∃ v0_ : Value, e = .returned (.tuple #[v0_, .int .i64 r2]) ∧ Kd.R k48 48 w' w.heap.size (fun _ => True) v0_ r1 ∧ Below w.heap.size w w' := by
 have hu23 := Tryd.underlying23
 have hu48 := Tryd.underlying48
 have HR1 := Aside0.mk hr1
 have HC1 := Aside0.mk hc1
 clear hr1 hc1
 have HB := Aside0.mk (Below.refl w.heap.size w)
 have H : ((signalbenchref30_Check.f a0_0).bind fun t267 => (if t267 = 0 then (signalbenchref30_Encode.j0 k l1 a0_0) else (some (([] : List (S48)), t267)))) = some (r1, r2) := h
 clear h
 replace H := Option.bind_eq_some_iff.mp H
 obtain ⟨t267, A30, H⟩ := H
 replace H : (if t267 = 0 then (signalbenchref30_Encode.j0 k l1 a0_0) else (some (([] : List (S48)), t267))) = some (r1, r2) := H
 have A3 := Aside0.mk A30
 clear A30
 have HC4 := Aside0.mk H
 clear H
 go_enter Tryd.func22, Tryd.ntmps22
 go_upto_if 17 with (first | ((with_reducible refine gate_dst (N := 2) rfl ?_); refine box_event ?hg (N := 2) ?hd (cs := #[.int .i64 a0_0]) (t := 23) ?hr ?_; (case hd => rfl); (case hg => rfl); (case hr => first | (go_simp; done) | (go_simp; rfl)); intro gb266 hg w5 hbox hb; have n0_ := Aside0.mk (below_step (hbw HB.out) hb); have n1_ := Aside0.mk (hbox); have n2_ := Aside0.mk ((by rw [hg]; exact (below_size (hbw HB.out)) : w.heap.size ≤ gb266)); have n3_ := Aside0.mk ((by rw [hg]; exact (below_size (hbw HB.out)) : w.heap.size ≤ gb266)); clear HB; have HB := n0_; have BK266 := n1_; have GW266 := n2_; have GE266 := n3_; clear n0_ n1_ n2_ n3_; clear hb hbox hg; have hcz6_0 : w5.cell? ⟨gb266, 0, none⟩ = some (.int .i64 a0_0) := (blk_cell BK266.out 0).trans rfl; have hfz6_0 := blk_frozen BK266.out 0) | ((with_reducible refine gate_callee (f := 15) rfl ?_); refine goesL_ (some 15) rfl rfl Tryd.func15 (by kernel_rfl) rfl #[.agg #[.int .i64 a0_0]] rfl (by (try simp only [List.map_toArray, List.map_cons, List.map_nil]); first | done | rfl | (simp only [List.length_drop, List.length_take]; rfl)) ?_; (with_reducible refine (signalbenchref30_Check.calls a0_0 t267 _ A3.out).mono ?_); rintro e w7 ⟨rfl, hb⟩; refine ⟨_, rfl, ?_⟩; have n0_ := Aside0.mk (blkb BK266.out hb); have n1_ := Aside0.mk (below_step (hbw HB.out) hb); clear BK266; clear HB; have BK266 := n0_; have HB := n1_; clear n0_ n1_; (try clear hb); (try clear hb2); (try clear hk); (try clear hi)))
 (try simp only [Act.put, List.setIfInBounds_toArray, List.set_cons_zero, List.set_cons_succ])
 go_cut [] (fun wc => ∃ (kq : Nat), Aside0 (signalbenchref30_Encode.j0 kq l1 a0_0 = some (r1, r2)) ∧ Aside0 (kq ≤ k) ∧ Aside0 (wc.heap[gb266]? = some (.cells #[.int .i64 a0_0] 23 (0, 0))) ∧ Aside0 (Below w.heap.size w wc))
 case first =>
  have H := HC4.out
  clear HC4
  by_cases c8 : t267 = 0
  ·rw [if_pos c8] at H
   have c8b0 : (t267 == 0) = true := beq_iff_eq.mpr c8
   have c8b1 : (t267 != 0) = false := bne_eq_false_iff_eq.mpr c8
   clear c8
   (first | rw [c8b0] | (simp only [i64_w, i32_w]; rw [c8b0]) | skip)
   have H' := Aside0.mk H
   clear H
   go_wp2
   go_meet
   case rel => exact ⟨_, H', ⟨by first | omega | exact Nat.le_refl _⟩, ⟨by (with_reducible repeat (first | refine blk_drewN ?_ _ | refine blk_drew ?_ | refine blk_alloc ?_ _)); exact BK266.out⟩, ⟨by repeat (first | (with_reducible first | exact HB.out | apply below_alloc | apply pw_below_drewN | apply below_drew1 | refine below_set ?_ GE266.out) | exact HB.out)⟩⟩
  ·rw [if_neg c8] at H
   have c8b0 : (t267 == 0) = false := beq_eq_false_iff_ne.mpr c8
   have c8b1 : (t267 != 0) = true := bne_iff_ne.mpr c8
   (first | rw [c8b0] | (simp only [i64_w, i32_w]; rw [c8b0]) | skip)
   simp only [Option.some.injEq, Prod.mk.injEq] at H
   obtain ⟨rfl, rfl⟩ := H
   go_wp2
   go_ret2
   exact ⟨_, by first | rfl | (simp [errW_none, errW_some] <;> rfl) | (simp [*, errW_none, errW_some] <;> rfl), by first | exact Kd.R_nil _ _ _ _ _ | exact Kd.N_nil _ _ _ _ _ | exact Kd.V_nil _ _ _ _ _ | exact Kd.Q_nil _ _ _ _ _ | exact Kd.S_nil _ _ _ _ _, by repeat (first | (with_reducible first | exact HB.out | apply below_alloc | apply pw_below_drewN | apply below_drew1 | refine below_set ?_ GE266.out) | exact HB.out)⟩
 case rest =>
  clear HC4
  try clear c1
  try clear c2
  try clear p2
  try clear c8
  try clear c8b0
  try clear c8b1
  try clear hcz6_0
  try clear hfz6_0
  obtain ⟨kq, HA, HJ3, BK266, HB⟩ := hcut
  cases kq with
  | zero => exact absurd HA.out (by simp [signalbenchref30_Encode.j0])
  | succ kj3 =>
   have H := HA.out
   clear HA
   simp only [signalbenchref30_Encode.j0] at H
   have HC9 := Aside0.mk H
   clear H
   go_upto_if 21 with (fail)
   go_cut [] (fun wc => ∃ (kq : Nat), Aside0 (signalbenchref30_Encode.j1 kq l1 a0_0 = some (r1, r2)) ∧ Aside0 (kq ≤ kj3) ∧ Aside0 (wc.heap[gb266]? = some (.cells #[.int .i64 a0_0] 23 (0, 0))) ∧ Aside0 (Below w.heap.size w wc))
   case first =>
    have H := HC9.out
    clear HC9
    by_cases c10 : (l1.length : Int) > 1024
    ·rw [if_pos c10] at H
     have c10b0 : decide (1024 < (l1.length : Int)) = true := decide_eq_true c10
     have c10b1 : decide (1024 < l1.length) = true := decide_eq_true (by omega)
     clear c10
     (first | rw [c10b0] | (simp only [i64_w, i32_w]; rw [c10b0]) | skip)
     simp only [Option.some.injEq, Prod.mk.injEq] at H
     obtain ⟨rfl, rfl⟩ := H
     go_wp2
     go_ret2
     exact ⟨_, by first | rfl | (simp [errW_none, errW_some] <;> rfl) | (simp [*, errW_none, errW_some] <;> rfl), by first | exact Kd.R_nil _ _ _ _ _ | exact Kd.N_nil _ _ _ _ _ | exact Kd.V_nil _ _ _ _ _ | exact Kd.Q_nil _ _ _ _ _ | exact Kd.S_nil _ _ _ _ _, by repeat (first | (with_reducible first | exact HB.out | apply below_alloc | apply pw_below_drewN | apply below_drew1 | refine below_set ?_ GE266.out) | exact HB.out)⟩
    ·rw [if_neg c10] at H
     have c10b0 : decide (1024 < (l1.length : Int)) = false := decide_eq_false c10
     have c10b1 : decide (1024 < l1.length) = false := decide_eq_false (by omega)
     clear c10
     (first | rw [c10b0] | (simp only [i64_w, i32_w]; rw [c10b0]) | skip)
     have H' := Aside0.mk H
     clear H
     go_wp2
     go_meet
     case rel => exact ⟨_, H', ⟨by have := HJ3.out; first | omega | exact Nat.le_refl _⟩, ⟨by (with_reducible repeat (first | refine blk_drewN ?_ _ | refine blk_drew ?_ | refine blk_alloc ?_ _)); exact BK266.out⟩, ⟨by repeat (first | (with_reducible first | exact HB.out | apply below_alloc | apply pw_below_drewN | apply below_drew1 | refine below_set ?_ GE266.out) | exact HB.out)⟩⟩
   case rest =>
    clear HC9
    try clear c1
    try clear c2
    try clear p2
    try clear c8
    try clear c8b0
    try clear c8b1
    try clear c10
    try clear c10b0
    try clear c10b1
    try clear hcz6_0
    try clear hfz6_0
    try clear p2
    obtain ⟨kq, HA, HJ8, BK266, HB⟩ := hcut
    cases kq with
    | zero => exact absurd HA.out (by simp [signalbenchref30_Encode.j1])
    | succ kj8 =>
     have H := HA.out
     clear HA
     simp only [signalbenchref30_Encode.j1] at H
     obtain ⟨y268, hy268⟩ : ∃ y_ : List (S48), y_ = (([] : List (S48))) := ⟨_, rfl⟩
     replace H : (signalbenchref30_Encode.l0 kj8 l1 y268 0 a0_0) = some (r1, r2) := by first | (rw [hy268]; with_reducible exact H) | (have H2_ := (Option.bind_some _ _).symm.trans H; rw [hy268]; with_reducible exact H2_) | (have H2_ := (Option.bind_some _ _).symm.trans H; with_reducible exact H2_) | with_reducible exact H | (rw [hy268]; exact H) | exact H
     have Ny268 := Aside0.mk hy268
     clear hy268
     have H' := Aside0.mk H
     clear H
     go_wp2_with (first | ((with_reducible refine gate_dst (N := 22) rfl ?_); refine Kd.R_lit k48 _ 48 ?hg (N := 22) ?hd (xs := ([] : List (S48))) (inner := []) (ok := fun _ => True) (okp := fun _ => True) ?hr ?hp (fun _ hk => hk) trivial (Below.refl _ _) (Nat.le_refl _) (by simp) ?_; (case hd => rfl); (case hg => rfl); (case hr => first | (go_simp; done) | (go_simp; rfl)); (case hp => exact (Reps.none _ _)); intro v269 w11 ho12 hb hg_ hnew_; clear hg_ hnew_; (first | rw [← Ny268.out] at ho12 | (simp only [Int.reduceToNat] at ho12; rw [← Ny268.out] at ho12)); have n0_ := Aside0.mk (Kd.R_lower ho12 (below_size (hbw HB.out))); have n1_ := Aside0.mk (blkb BK266.out hb); have n2_ := Aside0.mk (below_step (hbw HB.out) hb); clear BK266; clear HB; have HO270 := n0_; have BK266 := n1_; have HB := n2_; clear n0_ n1_ n2_; clear hb ho12))
     go_loopg [8] kj8 (fun kq v8 w' => ∃ (x8_3 : Int), v8 = .int .i64 x8_3 ∧ Aside0 (signalbenchref30_Encode.l0 kq l1 y268 x8_3 a0_0 = some (r1, r2)) ∧ Aside0 (kq ≤ kj8) ∧ Aside0 (Kd.R k48 48 w' w.heap.size (fun _ => True) v269 y268) ∧ Aside0 (w'.heap[gb266]? = some (.cells #[.int .i64 a0_0] 23 (0, 0))) ∧ Aside0 (Below w.heap.size w w'))
     case atStart => exact ⟨(0), (by first | rfl | (simp; done) | (simp [*]; done)), H', ⟨Nat.le_refl _⟩, ⟨by (with_reducible repeat (first | apply Kd.R_alloc | apply Kd.R_drewN | apply Kd.R_drew)); exact HO270.out⟩, ⟨by (with_reducible repeat (first | refine blk_drewN ?_ _ | refine blk_drew ?_ | refine blk_alloc ?_ _)); exact BK266.out⟩, ⟨by repeat (first | (with_reducible first | exact HB.out | apply below_alloc | apply pw_below_drewN | apply below_drew1 | refine below_set ?_ GE266.out) | exact HB.out)⟩⟩
     case round =>
      clear H'
      try clear c1
      try clear c2
      try clear p2
      try clear c8
      try clear c8b0
      try clear c8b1
      try clear c10
      try clear c10b0
      try clear c10b1
      try clear hcz6_0
      try clear hfz6_0
      try clear p2
      obtain ⟨x8_3, rfl, HA, HK3, HO_7, BK266, HB⟩ := hrel
      cases gk with
      | zero => exact absurd HA.out (by simp [signalbenchref30_Encode.l0])
      | succ k3 =>
       have H := HA.out
       clear HA
       simp only [signalbenchref30_Encode.l0] at H
       by_cases c13 : x8_3 < (l1.length : Int)
       ·rw [if_pos c13] at H
        have c13b0 : decide (x8_3 < (l1.length : Int)) = true := decide_eq_true c13
        clear c13
        by_cases c14 : 0 ≤ x8_3
        ·rw [if_pos c14] at H
         have c14b0 : decide (0 ≤ x8_3) = true := decide_eq_true c14
         clear c14
         replace H := Option.bind_eq_some_iff.mp H
         obtain ⟨t272, A150, H⟩ := H
         replace H : (if t272 = 0 then (signalbenchref30_Encode.l0 k3 l1 y268 (wrap64 (x8_3 + 1)) a0_0) else (some (([] : List (S48)), t272))) = some (r1, r2) := H
         have A15 := Aside0.mk A150
         clear A150
         by_cases c16 : t272 = 0
         ·rw [if_pos c16] at H
          have c16b0 : (t272 == 0) = true := beq_iff_eq.mpr c16
          have c16b1 : (t272 != 0) = false := bne_eq_false_iff_eq.mpr c16
          clear c16
          have H' := Aside0.mk H
          clear H
          try go_wp2
          have n0_ := Aside0.mk (Kd.R_drew HO_7.out)
          have n1_ := Aside0.mk (blk_drew BK266.out)
          have n2_ := Aside0.mk (below_drew1 HB.out)
          clear HO_7
          clear BK266
          clear HB
          have HO_7 := n0_
          have BK266 := n1_
          have HB := n2_
          clear n0_ n1_ n2_
          have p271 : 0 ≤ (x8_3 : Int) := of_decide_eq_true (by first | (with_reducible assumption) | assumption)
          have q271 : x8_3 < (l1.length : Int) := of_decide_eq_true (by first | (with_reducible assumption) | assumption)
          obtain ⟨ad271, e271, hx271_0, hx271_1, hx271_2, hx271_3, hx271_4⟩ := at_T48 HR1.out x8_3 p271 q271
          have hw271_4 := hx271_4
          have hw271_3 := hx271_3
          have hw271_2 := hx271_2
          have hw271_1 := hx271_1
          have hw271_0 := hx271_0
          cases e271
          replace hx271_0 := (HB.out.cell (World.block_lt_of_cell? w _ hx271_0)).trans hx271_0
          replace hx271_1 := (HB.out.cell (World.block_lt_of_cell? w _ hx271_1)).trans hx271_1
          replace hx271_2 := (HB.out.cell (World.block_lt_of_cell? w _ hx271_2)).trans hx271_2
          replace hx271_3 := (HB.out.cell (World.block_lt_of_cell? w _ hx271_3)).trans hx271_3
          replace hx271_4 := (HB.out.cell (World.block_lt_of_cell? w _ hx271_4)).trans hx271_4
          replace p271 := eq_true p271
          replace q271 := eq_true q271
          refine start_ (n := 7) (S := fun w' => w'.cell? ⟨gb266, 0, none⟩ = some (.int .i64 a0_0) ∧ w'.cell? (ad271.add ((x8_3).toNat * 5)) = some (.int .i64 ((rd_T48 l1 x8_3).f0)) ∧ w'.cell? ⟨(ad271.add ((x8_3).toNat * 5)).block, (ad271.add ((x8_3).toNat * 5)).off + 1, none⟩ = some (.int .i64 ((rd_T48 l1 x8_3).f1)) ∧ w'.cell? ⟨(ad271.add ((x8_3).toNat * 5)).block, (ad271.add ((x8_3).toNat * 5)).off + 2, none⟩ = some (.int .i64 ((rd_T48 l1 x8_3).f2)) ∧ w'.cell? ⟨(ad271.add ((x8_3).toNat * 5)).block, (ad271.add ((x8_3).toNat * 5)).off + 3, none⟩ = some (.string ((rd_T48 l1 x8_3).f3)) ∧ w'.cell? ⟨(ad271.add ((x8_3).toNat * 5)).block, (ad271.add ((x8_3).toNat * 5)).off + 4, none⟩ = some (.int .i64 ((rd_T48 l1 x8_3).f4))) (ds := []) #[false, false, false, false, false, false, false] (by kernel_rfl) rfl rfl ⟨(blk_cell BK266.out 0).trans rfl, ((HB.out.cell (World.block_lt_of_cell? w _ hw271_0)).trans hw271_0), ((HB.out.cell (World.block_lt_of_cell? w _ hw271_1)).trans hw271_1), ((HB.out.cell (World.block_lt_of_cell? w _ hw271_2)).trans hw271_2), ((HB.out.cell (World.block_lt_of_cell? w _ hw271_3)).trans hw271_3), ((HB.out.cell (World.block_lt_of_cell? w _ hw271_4)).trans hw271_4)⟩ (fun hHeld => ?_)
          generalize wr.drew = w17 at HO_7 BK266 HB hx271_0 hx271_1 hx271_2 hx271_3 hx271_4 hHeld ⊢
          refine pure_ (i := 1) (N := some 30) (v := ?_) (a' := ?_) #[false, true, false, false, false, false, false] rfl rfl (by kernel_rfl) (fun _ _ _ h => h) (Or.inl ⟨by rfl, ?_⟩) ?_ ?_
          rotate_left
          ·intro w'
           go_simp
           with_reducible rfl
          rotate_left
          ·simp only [Act.put, nrm]
           rfl
          refine pure_ (i := 2) (N := some 31) (v := ?_) (a' := ?_) #[false, true, true, false, false, false, false] rfl rfl (by kernel_rfl) (fun _ _ _ h => h) (Or.inl ⟨by rfl, ?_⟩) ?_ ?_
          rotate_left
          ·intro w'
           go_simp
           with_reducible rfl
          rotate_left
          ·simp only [Act.put, nrm]
           rfl
          refine pure_ (i := 3) (N := some 32) (v := ?_) (a' := ?_) #[false, true, true, true, false, false, false] rfl rfl (by kernel_rfl) (fun _ _ _ h => h) (Or.inl ⟨by rfl, ?_⟩) ?_ ?_
          rotate_left
          ·intro w'
           go_simp
           with_reducible rfl
          rotate_left
          ·simp only [Act.put, nrm]
           rfl
          refine take_ (i := 0) (N := some 29) (v := ?_) (a' := ?_) #[true, true, true, true, false, false, false] rfl rfl (by kernel_rfl) (fun _ _ _ h => h) (Or.inl ⟨by rfl, ?_⟩) hHeld ?_ ?_
          rotate_left
          ·rintro w' ⟨s0, s1, s2, s3, s4, s5⟩
           go_simp
           with_reducible rfl
          rotate_left
          ·simp only [Act.put, nrm]
           rfl
          refine take_ (i := 4) (N := some 33) (v := ?_) (a' := ?_) #[true, true, true, true, true, false, false] rfl rfl (by kernel_rfl) (fun _ _ _ h => h) (Or.inl ⟨by rfl, ?_⟩) hHeld ?_ ?_
          rotate_left
          ·rintro w' ⟨s0, s1, s2, s3, s4, s5⟩
           go_simp
           with_reducible rfl
          rotate_left
          ·simp only [Act.put, nrm]
           rfl
          refine one_ (i := 5) (N := some 34) #[true, true, true, true, true, true, false] rfl rfl (by kernel_rfl) (by decide) (fun K hK => ?_)
          refine goes_ Tryd.func32 (by kernel_rfl) rfl #[.agg #[.int .i64 a0_0], .agg #[.int .i64 ((rd_T48 l1 x8_3).f0), .int .i64 ((rd_T48 l1 x8_3).f1), .int .i64 ((rd_T48 l1 x8_3).f2), .string ((rd_T48 l1 x8_3).f3), .int .i64 ((rd_T48 l1 x8_3).f4)]] (by rfl) rfl rfl (by (try simp only [List.map_toArray, List.map_cons, List.map_nil]); first | done | rfl | (simp only [List.length_drop, List.length_take]; rfl)) ?_
          with_reducible refine (signalbenchref30_item.calls k3 a0_0 ((rd_T48 l1 x8_3).f0) ((rd_T48 l1 x8_3).f1) ((rd_T48 l1 x8_3).f2) ((rd_T48 l1 x8_3).f3) ((rd_T48 l1 x8_3).f4) t272 _ A15.out).mono ?_
          rintro e w18 ⟨rfl, hb⟩
          refine ⟨_, rfl, ?_⟩
          have n0_ := Aside0.mk (Kd.R_below (rkw HO_7.out) hb)
          have n1_ := Aside0.mk (blkb BK266.out hb)
          have n2_ := Aside0.mk (below_step (hbw HB.out) hb)
          clear HO_7
          clear BK266
          clear HB
          have HO_7 := n0_
          have BK266 := n1_
          have HB := n2_
          clear n0_ n1_ n2_
          (try clear hb)
          (try clear hb2)
          (try clear hk)
          (try clear hi)
          refine hK.out _ _ ⟨(blk_cell BK266.out 0).trans rfl, ((HB.out.cell (World.block_lt_of_cell? w _ hw271_0)).trans hw271_0), ((HB.out.cell (World.block_lt_of_cell? w _ hw271_1)).trans hw271_1), ((HB.out.cell (World.block_lt_of_cell? w _ hw271_2)).trans hw271_2), ((HB.out.cell (World.block_lt_of_cell? w _ hw271_3)).trans hw271_3), ((HB.out.cell (World.block_lt_of_cell? w _ hw271_4)).trans hw271_4)⟩ (fun hHeld => ?_)
          clear hK K
          refine norm_ (a' := ?_) ?_ ?_
          rotate_left
          ·show Act.put _ (some 34) _ = _
           simp only [Act.put, nrm]
           rfl
          refine pure_ (i := 6) (N := some 9) (v := ?_) (a' := ?_) #[true, true, true, true, true, true, true] rfl rfl (by kernel_rfl) (fun _ _ _ h => h) (Or.inl ⟨by rfl, ?_⟩) ?_ ?_
          rotate_left
          ·intro w'
           go_simp
           with_reducible rfl
          rotate_left
          ·simp only [Act.put, nrm]
           rfl
          refine done_ (by kernel_rfl) ?_
          try go_wp2
          go_roundg k3
          case measure => have := HJ3.out; have := HJ8.out; have := HK3.out; omega
          case rel => exact ⟨(wrap64 (x8_3 + 1)), (by first | rfl | (simp; done) | (simp [*]; done)), H', ⟨by have := HJ3.out; have := HJ8.out; have := HK3.out; omega⟩, ⟨by (with_reducible repeat (first | apply Kd.R_alloc | apply Kd.R_drewN | apply Kd.R_drew)); exact HO_7.out⟩, ⟨by (with_reducible repeat (first | refine blk_drewN ?_ _ | refine blk_drew ?_ | refine blk_alloc ?_ _)); exact BK266.out⟩, ⟨by repeat (first | (with_reducible first | exact HB.out | apply below_alloc | apply pw_below_drewN | apply below_drew1 | refine below_set ?_ GE266.out) | exact HB.out)⟩⟩
         ·rw [if_neg c16] at H
          have c16b0 : (t272 == 0) = false := beq_eq_false_iff_ne.mpr c16
          have c16b1 : (t272 != 0) = true := bne_iff_ne.mpr c16
          simp only [Option.some.injEq, Prod.mk.injEq] at H
          obtain ⟨rfl, rfl⟩ := H
          try go_wp2
          have n0_ := Aside0.mk (Kd.R_drew HO_7.out)
          have n1_ := Aside0.mk (blk_drew BK266.out)
          have n2_ := Aside0.mk (below_drew1 HB.out)
          clear HO_7
          clear BK266
          clear HB
          have HO_7 := n0_
          have BK266 := n1_
          have HB := n2_
          clear n0_ n1_ n2_
          have p271 : 0 ≤ (x8_3 : Int) := of_decide_eq_true (by first | (with_reducible assumption) | assumption)
          have q271 : x8_3 < (l1.length : Int) := of_decide_eq_true (by first | (with_reducible assumption) | assumption)
          obtain ⟨ad271, e271, hx271_0, hx271_1, hx271_2, hx271_3, hx271_4⟩ := at_T48 HR1.out x8_3 p271 q271
          have hw271_4 := hx271_4
          have hw271_3 := hx271_3
          have hw271_2 := hx271_2
          have hw271_1 := hx271_1
          have hw271_0 := hx271_0
          cases e271
          replace hx271_0 := (HB.out.cell (World.block_lt_of_cell? w _ hx271_0)).trans hx271_0
          replace hx271_1 := (HB.out.cell (World.block_lt_of_cell? w _ hx271_1)).trans hx271_1
          replace hx271_2 := (HB.out.cell (World.block_lt_of_cell? w _ hx271_2)).trans hx271_2
          replace hx271_3 := (HB.out.cell (World.block_lt_of_cell? w _ hx271_3)).trans hx271_3
          replace hx271_4 := (HB.out.cell (World.block_lt_of_cell? w _ hx271_4)).trans hx271_4
          replace p271 := eq_true p271
          replace q271 := eq_true q271
          refine start_ (n := 7) (S := fun w' => w'.cell? ⟨gb266, 0, none⟩ = some (.int .i64 a0_0) ∧ w'.cell? (ad271.add ((x8_3).toNat * 5)) = some (.int .i64 ((rd_T48 l1 x8_3).f0)) ∧ w'.cell? ⟨(ad271.add ((x8_3).toNat * 5)).block, (ad271.add ((x8_3).toNat * 5)).off + 1, none⟩ = some (.int .i64 ((rd_T48 l1 x8_3).f1)) ∧ w'.cell? ⟨(ad271.add ((x8_3).toNat * 5)).block, (ad271.add ((x8_3).toNat * 5)).off + 2, none⟩ = some (.int .i64 ((rd_T48 l1 x8_3).f2)) ∧ w'.cell? ⟨(ad271.add ((x8_3).toNat * 5)).block, (ad271.add ((x8_3).toNat * 5)).off + 3, none⟩ = some (.string ((rd_T48 l1 x8_3).f3)) ∧ w'.cell? ⟨(ad271.add ((x8_3).toNat * 5)).block, (ad271.add ((x8_3).toNat * 5)).off + 4, none⟩ = some (.int .i64 ((rd_T48 l1 x8_3).f4))) (ds := []) #[false, false, false, false, false, false, false] (by kernel_rfl) rfl rfl ⟨(blk_cell BK266.out 0).trans rfl, ((HB.out.cell (World.block_lt_of_cell? w _ hw271_0)).trans hw271_0), ((HB.out.cell (World.block_lt_of_cell? w _ hw271_1)).trans hw271_1), ((HB.out.cell (World.block_lt_of_cell? w _ hw271_2)).trans hw271_2), ((HB.out.cell (World.block_lt_of_cell? w _ hw271_3)).trans hw271_3), ((HB.out.cell (World.block_lt_of_cell? w _ hw271_4)).trans hw271_4)⟩ (fun hHeld => ?_)
          generalize wr.drew = w19 at HO_7 BK266 HB hx271_0 hx271_1 hx271_2 hx271_3 hx271_4 hHeld ⊢
          refine pure_ (i := 1) (N := some 30) (v := ?_) (a' := ?_) #[false, true, false, false, false, false, false] rfl rfl (by kernel_rfl) (fun _ _ _ h => h) (Or.inl ⟨by rfl, ?_⟩) ?_ ?_
          rotate_left
          ·intro w'
           go_simp
           with_reducible rfl
          rotate_left
          ·simp only [Act.put, nrm]
           rfl
          refine pure_ (i := 2) (N := some 31) (v := ?_) (a' := ?_) #[false, true, true, false, false, false, false] rfl rfl (by kernel_rfl) (fun _ _ _ h => h) (Or.inl ⟨by rfl, ?_⟩) ?_ ?_
          rotate_left
          ·intro w'
           go_simp
           with_reducible rfl
          rotate_left
          ·simp only [Act.put, nrm]
           rfl
          refine pure_ (i := 3) (N := some 32) (v := ?_) (a' := ?_) #[false, true, true, true, false, false, false] rfl rfl (by kernel_rfl) (fun _ _ _ h => h) (Or.inl ⟨by rfl, ?_⟩) ?_ ?_
          rotate_left
          ·intro w'
           go_simp
           with_reducible rfl
          rotate_left
          ·simp only [Act.put, nrm]
           rfl
          refine take_ (i := 0) (N := some 29) (v := ?_) (a' := ?_) #[true, true, true, true, false, false, false] rfl rfl (by kernel_rfl) (fun _ _ _ h => h) (Or.inl ⟨by rfl, ?_⟩) hHeld ?_ ?_
          rotate_left
          ·rintro w' ⟨s0, s1, s2, s3, s4, s5⟩
           go_simp
           with_reducible rfl
          rotate_left
          ·simp only [Act.put, nrm]
           rfl
          refine take_ (i := 4) (N := some 33) (v := ?_) (a' := ?_) #[true, true, true, true, true, false, false] rfl rfl (by kernel_rfl) (fun _ _ _ h => h) (Or.inl ⟨by rfl, ?_⟩) hHeld ?_ ?_
          rotate_left
          ·rintro w' ⟨s0, s1, s2, s3, s4, s5⟩
           go_simp
           with_reducible rfl
          rotate_left
          ·simp only [Act.put, nrm]
           rfl
          refine one_ (i := 5) (N := some 34) #[true, true, true, true, true, true, false] rfl rfl (by kernel_rfl) (by decide) (fun K hK => ?_)
          refine goes_ Tryd.func32 (by kernel_rfl) rfl #[.agg #[.int .i64 a0_0], .agg #[.int .i64 ((rd_T48 l1 x8_3).f0), .int .i64 ((rd_T48 l1 x8_3).f1), .int .i64 ((rd_T48 l1 x8_3).f2), .string ((rd_T48 l1 x8_3).f3), .int .i64 ((rd_T48 l1 x8_3).f4)]] (by rfl) rfl rfl (by (try simp only [List.map_toArray, List.map_cons, List.map_nil]); first | done | rfl | (simp only [List.length_drop, List.length_take]; rfl)) ?_
          with_reducible refine (signalbenchref30_item.calls k3 a0_0 ((rd_T48 l1 x8_3).f0) ((rd_T48 l1 x8_3).f1) ((rd_T48 l1 x8_3).f2) ((rd_T48 l1 x8_3).f3) ((rd_T48 l1 x8_3).f4) t272 _ A15.out).mono ?_
          rintro e w20 ⟨rfl, hb⟩
          refine ⟨_, rfl, ?_⟩
          have n0_ := Aside0.mk (Kd.R_below (rkw HO_7.out) hb)
          have n1_ := Aside0.mk (blkb BK266.out hb)
          have n2_ := Aside0.mk (below_step (hbw HB.out) hb)
          clear HO_7
          clear BK266
          clear HB
          have HO_7 := n0_
          have BK266 := n1_
          have HB := n2_
          clear n0_ n1_ n2_
          (try clear hb)
          (try clear hb2)
          (try clear hk)
          (try clear hi)
          refine hK.out _ _ ⟨(blk_cell BK266.out 0).trans rfl, ((HB.out.cell (World.block_lt_of_cell? w _ hw271_0)).trans hw271_0), ((HB.out.cell (World.block_lt_of_cell? w _ hw271_1)).trans hw271_1), ((HB.out.cell (World.block_lt_of_cell? w _ hw271_2)).trans hw271_2), ((HB.out.cell (World.block_lt_of_cell? w _ hw271_3)).trans hw271_3), ((HB.out.cell (World.block_lt_of_cell? w _ hw271_4)).trans hw271_4)⟩ (fun hHeld => ?_)
          clear hK K
          refine norm_ (a' := ?_) ?_ ?_
          rotate_left
          ·show Act.put _ (some 34) _ = _
           simp only [Act.put, nrm]
           rfl
          refine pure_ (i := 6) (N := some 9) (v := ?_) (a' := ?_) #[true, true, true, true, true, true, true] rfl rfl (by kernel_rfl) (fun _ _ _ h => h) (Or.inl ⟨by rfl, ?_⟩) ?_ ?_
          rotate_left
          ·intro w'
           go_simp
           with_reducible rfl
          rotate_left
          ·simp only [Act.put, nrm]
           rfl
          refine done_ (by kernel_rfl) ?_
          try go_wp2
          go_ret2
          exact ⟨_, by first | rfl | (simp [errW_none, errW_some] <;> rfl) | (simp [*, errW_none, errW_some] <;> rfl), by first | exact Kd.R_nil _ _ _ _ _ | exact Kd.N_nil _ _ _ _ _ | exact Kd.V_nil _ _ _ _ _ | exact Kd.Q_nil _ _ _ _ _ | exact Kd.S_nil _ _ _ _ _, by repeat (first | (with_reducible first | exact HB.out | apply below_alloc | apply pw_below_drewN | apply below_drew1 | refine below_set ?_ GE266.out) | exact HB.out)⟩
        ·rw [if_neg c14] at H
         exact absurd H (by simp)
       ·rw [if_neg c13] at H
        have c13b0 : decide (x8_3 < (l1.length : Int)) = false := decide_eq_false c13
        clear c13
        have H' := Aside0.mk H
        clear H
        go_wp2
        go_loopg [7, 10] k3 (fun kq v7 v10 w' => ∃ (x7_4 : List (S48)) (x10_4 : Int), v10 = .int .i64 x10_4 ∧ Aside0 (signalbenchref30_Encode.l1 kq l1 x7_4 x10_4 a0_0 = some (r1, r2)) ∧ Aside0 (kq ≤ k3) ∧ Aside0 (Kd.R k48 48 w' w.heap.size (fun _ => True) v7 x7_4) ∧ Aside0 (w'.heap[gb266]? = some (.cells #[.int .i64 a0_0] 23 (0, 0))) ∧ Aside0 (Below w.heap.size w w'))
        case atStart => exact ⟨(y268), (0), (by first | rfl | (simp; done) | (simp [*]; done)), H', ⟨Nat.le_refl _⟩, ⟨by (with_reducible repeat (first | apply Kd.R_alloc | apply Kd.R_drewN | apply Kd.R_drew)); exact HO_7.out⟩, ⟨by (with_reducible repeat (first | refine blk_drewN ?_ _ | refine blk_drew ?_ | refine blk_alloc ?_ _)); exact BK266.out⟩, ⟨by repeat (first | (with_reducible first | exact HB.out | apply below_alloc | apply pw_below_drewN | apply below_drew1 | refine below_set ?_ GE266.out) | exact HB.out)⟩⟩
        case round =>
         clear H'
         try clear c1
         try clear c2
         try clear p2
         try clear q2
         try clear hx2
         try clear c3
         try clear p6
         try clear c8
         try clear c8b0
         try clear c8b1
         try clear c10
         try clear c10b0
         try clear c10b1
         try clear c13
         try clear c13b0
         try clear c14
         try clear c14b0
         try clear c15
         try clear c16
         try clear c16b0
         try clear c16b1
         try clear hcz6_0
         try clear hfz6_0
         try clear hx271_0
         try clear hx271_1
         try clear hx271_2
         try clear hx271_3
         try clear hx271_4
         try clear p2
         try clear p271
         try clear q271
         obtain ⟨x7_4, x10_4, rfl, HA, HK4, HO_7, BK266, HB⟩ := hrel
         cases gk with
         | zero => exact absurd HA.out (by simp [signalbenchref30_Encode.l1])
         | succ k4 =>
          have H := HA.out
          clear HA
          simp only [signalbenchref30_Encode.l1] at H
          have HC21 := Aside0.mk H
          clear H
          go_upto_if 41 with (fail)
          go_cut [] (fun wc => ∃ (kq : Nat), Aside0 (signalbenchref30_Encode.j4 kq l1 x7_4 x10_4 a0_0 = some (r1, r2)) ∧ Aside0 (kq ≤ k4) ∧ Aside0 (Kd.R k48 48 wc w.heap.size (fun _ => True) u7 x7_4) ∧ Aside0 (wc.heap[gb266]? = some (.cells #[.int .i64 a0_0] 23 (0, 0))) ∧ Aside0 (Below w.heap.size w wc))
          case first =>
           have H := HC21.out
           clear HC21
           by_cases c22 : x10_4 < (l1.length : Int)
           ·rw [if_pos c22] at H
            have c22b0 : decide (x10_4 < (l1.length : Int)) = true := decide_eq_true c22
            clear c22
            (first | rw [c22b0] | (simp only [i64_w, i32_w]; rw [c22b0]) | skip)
            have H' := Aside0.mk H
            clear H
            go_wp2
            go_meet
            case rel => exact ⟨_, H', ⟨by have := HJ3.out; have := HJ8.out; have := HK3.out; have := HK4.out; first | omega | exact Nat.le_refl _⟩, ⟨by (with_reducible repeat (first | apply Kd.R_alloc | apply Kd.R_drewN | apply Kd.R_drew)); exact HO_7.out⟩, ⟨by (with_reducible repeat (first | refine blk_drewN ?_ _ | refine blk_drew ?_ | refine blk_alloc ?_ _)); exact BK266.out⟩, ⟨by repeat (first | (with_reducible first | exact HB.out | apply below_alloc | apply pw_below_drewN | apply below_drew1 | refine below_set ?_ GE266.out) | exact HB.out)⟩⟩
           ·rw [if_neg c22] at H
            have c22b0 : decide (x10_4 < (l1.length : Int)) = false := decide_eq_false c22
            clear c22
            (first | rw [c22b0] | (simp only [i64_w, i32_w]; rw [c22b0]) | skip)
            simp only [Option.some.injEq, Prod.mk.injEq] at H
            obtain ⟨rfl, rfl⟩ := H
            go_wp2
            go_ret2
            exact ⟨_, by first | rfl | (simp [errW_none, errW_some] <;> rfl) | (simp [*, errW_none, errW_some] <;> rfl), by (with_reducible repeat (first | apply Kd.R_alloc | apply Kd.R_drewN | apply Kd.R_drew)); exact HO_7.out, by repeat (first | (with_reducible first | exact HB.out | apply below_alloc | apply pw_below_drewN | apply below_drew1 | refine below_set ?_ GE266.out) | exact HB.out)⟩
          case rest =>
           clear HC21
           try clear c1
           try clear c2
           try clear p2
           try clear q2
           try clear hx2
           try clear c3
           try clear p6
           try clear c8
           try clear c8b0
           try clear c8b1
           try clear c10
           try clear c10b0
           try clear c10b1
           try clear c13
           try clear c13b0
           try clear c14
           try clear c14b0
           try clear c15
           try clear c16
           try clear c16b0
           try clear c16b1
           try clear c22
           try clear c22b0
           try clear hcz6_0
           try clear hfz6_0
           try clear hx271_0
           try clear hx271_1
           try clear hx271_2
           try clear hx271_3
           try clear hx271_4
           try clear p2
           try clear p271
           try clear p6
           try clear q2
           try clear q271
           obtain ⟨kq, HA, HJ20, HO_7, BK266, HB⟩ := hcut
           cases kq with
           | zero => exact absurd HA.out (by simp [signalbenchref30_Encode.j4])
           | succ kj20 =>
            have H := HA.out
            clear HA
            simp only [signalbenchref30_Encode.j4] at H
            by_cases c23 : 0 ≤ x10_4
            ·rw [if_pos c23] at H
             have c23b0 : decide (0 ≤ x10_4) = true := decide_eq_true c23
             clear c23
             by_cases c24 : x10_4 < (l1.length : Int)
             ·rw [if_pos c24] at H
              have c24b0 : decide (x10_4 < (l1.length : Int)) = true := decide_eq_true c24
              clear c24
              replace H := Option.bind_eq_some_iff.mp H
              obtain ⟨t274, A250, H⟩ := H
              replace H : (if (wrap64 ((x7_4.length : Int) + (t274.size : Int))) > 262144 then (some (([] : List (S48)), 6)) else (signalbenchref30_Encode.j5 kj20 l1 x7_4 x10_4 t274 a0_0)) = some (r1, r2) := H
              have A25 := Aside0.mk A250
              clear A250
              have HC26 := Aside0.mk H
              clear H
              have p273 : 0 ≤ (x10_4 : Int) := of_decide_eq_true (by first | (with_reducible assumption) | assumption)
              have q273 : x10_4 < (l1.length : Int) := of_decide_eq_true (by first | (with_reducible assumption) | assumption)
              obtain ⟨ad273, e273, hx273_0, hx273_1, hx273_2, hx273_3, hx273_4⟩ := at_T48 HR1.out x10_4 p273 q273
              cases e273
              replace hx273_0 := (HB.out.cell (World.block_lt_of_cell? w _ hx273_0)).trans hx273_0
              replace hx273_1 := (HB.out.cell (World.block_lt_of_cell? w _ hx273_1)).trans hx273_1
              replace hx273_2 := (HB.out.cell (World.block_lt_of_cell? w _ hx273_2)).trans hx273_2
              replace hx273_3 := (HB.out.cell (World.block_lt_of_cell? w _ hx273_3)).trans hx273_3
              replace hx273_4 := (HB.out.cell (World.block_lt_of_cell? w _ hx273_4)).trans hx273_4
              replace p273 := eq_true p273
              replace q273 := eq_true q273
              go_upto_if 54 with (first | ((with_reducible refine gate_callee (f := 33) rfl ?_); refine goesL_ (some 48) rfl rfl Tryd.func33 (by kernel_rfl) rfl #[.agg #[.int .i64 ((rd_T48 l1 x10_4).f0), .int .i64 ((rd_T48 l1 x10_4).f1), .int .i64 ((rd_T48 l1 x10_4).f2), .string ((rd_T48 l1 x10_4).f3), .int .i64 ((rd_T48 l1 x10_4).f4)]] rfl (by (try simp only [List.map_toArray, List.map_cons, List.map_nil]); first | done | rfl | (simp only [List.length_drop, List.length_take]; rfl)) ?_; (with_reducible refine (signalbenchref30_bytes.calls kj20 ((rd_T48 l1 x10_4).f0) ((rd_T48 l1 x10_4).f1) ((rd_T48 l1 x10_4).f2) ((rd_T48 l1 x10_4).f3) ((rd_T48 l1 x10_4).f4) t274 _ A25.out).mono ?_); rintro e w27 ⟨rfl, hb⟩; refine ⟨_, rfl, ?_⟩; have n0_ := Aside0.mk (Kd.R_below (rkw HO_7.out) hb); have n1_ := Aside0.mk (blkb BK266.out hb); have n2_ := Aside0.mk (below_step (hbw HB.out) hb); clear HO_7; clear BK266; clear HB; have HO_7 := n0_; have BK266 := n1_; have HB := n2_; clear n0_ n1_ n2_; (try clear hb); (try clear hb2); (try clear hk); (try clear hi); obtain ⟨Ao28, co28, eo28⟩ := Kd.R_slice HO_7.out; subst eo28))
              (try simp only [Act.put, List.setIfInBounds_toArray, List.set_cons_zero, List.set_cons_succ])
              go_cut [] (fun wc => ∃ (kq : Nat), Aside0 (signalbenchref30_Encode.j5 kq l1 x7_4 x10_4 t274 a0_0 = some (r1, r2)) ∧ Aside0 (kq ≤ kj20) ∧ Aside0 (Kd.R k48 48 wc w.heap.size (fun _ => True) (.slice Ao28 x7_4.length co28) x7_4) ∧ Aside0 (wc.heap[gb266]? = some (.cells #[.int .i64 a0_0] 23 (0, 0))) ∧ Aside0 (Below w.heap.size w wc))
              case first =>
               have H := HC26.out
               clear HC26
               by_cases c29 : (wrap64 ((x7_4.length : Int) + (t274.size : Int))) > 262144
               ·rw [if_pos c29] at H
                have c29b0 : decide (262144 < (wrap64 ((x7_4.length : Int) + (t274.size : Int)))) = true := decide_eq_true c29
                clear c29
                (first | rw [c29b0] | (simp only [i64_w, i32_w]; rw [c29b0]) | skip)
                simp only [Option.some.injEq, Prod.mk.injEq] at H
                obtain ⟨rfl, rfl⟩ := H
                go_wp2
                go_ret2
                exact ⟨_, by first | rfl | (simp [errW_none, errW_some] <;> rfl) | (simp [*, errW_none, errW_some] <;> rfl), by first | exact Kd.R_nil _ _ _ _ _ | exact Kd.N_nil _ _ _ _ _ | exact Kd.V_nil _ _ _ _ _ | exact Kd.Q_nil _ _ _ _ _ | exact Kd.S_nil _ _ _ _ _, by repeat (first | (with_reducible first | exact HB.out | apply below_alloc | apply pw_below_drewN | apply below_drew1 | refine below_set ?_ GE266.out) | exact HB.out)⟩
               ·rw [if_neg c29] at H
                have c29b0 : decide (262144 < (wrap64 ((x7_4.length : Int) + (t274.size : Int)))) = false := decide_eq_false c29
                clear c29
                (first | rw [c29b0] | (simp only [i64_w, i32_w]; rw [c29b0]) | skip)
                have H' := Aside0.mk H
                clear H
                go_wp2
                go_meet
                case rel => exact ⟨_, H', ⟨by have := HJ3.out; have := HJ8.out; have := HK3.out; have := HK4.out; have := HJ20.out; first | omega | exact Nat.le_refl _⟩, ⟨by (with_reducible repeat (first | apply Kd.R_alloc | apply Kd.R_drewN | apply Kd.R_drew)); exact HO_7.out⟩, ⟨by (with_reducible repeat (first | refine blk_drewN ?_ _ | refine blk_drew ?_ | refine blk_alloc ?_ _)); exact BK266.out⟩, ⟨by repeat (first | (with_reducible first | exact HB.out | apply below_alloc | apply pw_below_drewN | apply below_drew1 | refine below_set ?_ GE266.out) | exact HB.out)⟩⟩
              case rest =>
               clear HC26
               try clear c1
               try clear c2
               try clear p2
               try clear q2
               try clear hx2
               try clear c3
               try clear p6
               try clear c8
               try clear c8b0
               try clear c8b1
               try clear c10
               try clear c10b0
               try clear c10b1
               try clear c13
               try clear c13b0
               try clear c14
               try clear c14b0
               try clear c15
               try clear c16
               try clear c16b0
               try clear c16b1
               try clear c22
               try clear c22b0
               try clear c23
               try clear c23b0
               try clear c24
               try clear c24b0
               try clear p27
               try clear q27
               try clear hx27
               try clear c29
               try clear c29b0
               try clear hcz6_0
               try clear hfz6_0
               try clear hx271_0
               try clear hx271_1
               try clear hx271_2
               try clear hx271_3
               try clear hx271_4
               try clear hx273_0
               try clear hx273_1
               try clear hx273_2
               try clear hx273_3
               try clear hx273_4
               try clear p2
               try clear p271
               try clear p273
               try clear p6
               try clear q2
               try clear q271
               try clear q273
               obtain ⟨kq, HA, HJ25, HO_7, BK266, HB⟩ := hcut
               cases kq with
               | zero => exact absurd HA.out (by simp [signalbenchref30_Encode.j5])
               | succ kj25 =>
                have H := HA.out
                clear HA
                simp only [signalbenchref30_Encode.j5] at H
                have H' := Aside0.mk H
                clear H
                go_wp2
                go_loopg [7, 12] kj25 (fun kq v7 v12 w' => ∃ (x7_7 : List (S48)) (x12_7 : Int), v12 = .int .i64 x12_7 ∧ Aside0 (signalbenchref30_Encode.l2 kq l1 x7_7 x10_4 t274 x12_7 a0_0 = some (r1, r2)) ∧ Aside0 (kq ≤ kj25) ∧ Aside0 (Kd.R k48 48 w' w.heap.size (fun _ => True) v7 x7_7) ∧ Aside0 (w'.heap[gb266]? = some (.cells #[.int .i64 a0_0] 23 (0, 0))) ∧ Aside0 (Below w.heap.size w w'))
                case atStart => exact ⟨(x7_4), (0), (by first | rfl | (simp; done) | (simp [*]; done)), H', ⟨Nat.le_refl _⟩, ⟨by (with_reducible repeat (first | apply Kd.R_alloc | apply Kd.R_drewN | apply Kd.R_drew)); exact HO_7.out⟩, ⟨by (with_reducible repeat (first | refine blk_drewN ?_ _ | refine blk_drew ?_ | refine blk_alloc ?_ _)); exact BK266.out⟩, ⟨by repeat (first | (with_reducible first | exact HB.out | apply below_alloc | apply pw_below_drewN | apply below_drew1 | refine below_set ?_ GE266.out) | exact HB.out)⟩⟩
                case round =>
                 clear H'
                 try clear c1
                 try clear c2
                 try clear p2
                 try clear q2
                 try clear hx2
                 try clear c3
                 try clear p6
                 try clear c8
                 try clear c8b0
                 try clear c8b1
                 try clear c10
                 try clear c10b0
                 try clear c10b1
                 try clear c13
                 try clear c13b0
                 try clear c14
                 try clear c14b0
                 try clear c15
                 try clear c16
                 try clear c16b0
                 try clear c16b1
                 try clear c22
                 try clear c22b0
                 try clear c23
                 try clear c23b0
                 try clear c24
                 try clear c24b0
                 try clear p27
                 try clear q27
                 try clear hx27
                 try clear c29
                 try clear c29b0
                 try clear hcz6_0
                 try clear hfz6_0
                 try clear hx271_0
                 try clear hx271_1
                 try clear hx271_2
                 try clear hx271_3
                 try clear hx271_4
                 try clear hx273_0
                 try clear hx273_1
                 try clear hx273_2
                 try clear hx273_3
                 try clear hx273_4
                 try clear p2
                 try clear p27
                 try clear p271
                 try clear p273
                 try clear p6
                 try clear q2
                 try clear q27
                 try clear q271
                 try clear q273
                 obtain ⟨x7_7, x12_7, rfl, HA, HK7, HO_7, BK266, HB⟩ := hrel
                 cases gk with
                 | zero => exact absurd HA.out (by simp [signalbenchref30_Encode.l2])
                 | succ k7 =>
                  have H := HA.out
                  clear HA
                  simp only [signalbenchref30_Encode.l2] at H
                  by_cases c30 : x12_7 < (t274.size : Int)
                  ·rw [if_pos c30] at H
                   have c30b0 : decide (x12_7 < (t274.size : Int)) = true := decide_eq_true c30
                   clear c30
                   by_cases c31 : 0 ≤ x12_7
                   ·rw [if_pos c31] at H
                    have c31b0 : decide (0 ≤ x12_7) = true := decide_eq_true c31
                    clear c31
                    by_cases c33 : x12_7 = 0
                    ·rw [if_pos c33] at H
                     have c33b0 : (x12_7 == 0) = true := beq_iff_eq.mpr c33
                     have c33b1 : (x12_7 != 0) = false := bne_eq_false_iff_eq.mpr c33
                     clear c33
                     by_cases c34 : 0 ≤ x10_4
                     ·rw [if_pos c34] at H
                      have c34b0 : decide (0 ≤ x10_4) = true := decide_eq_true c34
                      clear c34
                      by_cases c35 : x10_4 < (l1.length : Int)
                      ·rw [if_pos c35] at H
                       have c35b0 : decide (x10_4 < (l1.length : Int)) = true := decide_eq_true c35
                       clear c35
                       by_cases c36 : x7_7.length < 2932031007402
                       ·rw [if_pos c36] at H
                        have LMc36 := Aside0.mk c36
                        clear c36
                        obtain ⟨y277, hy277⟩ : ∃ y_ : List (S48), y_ = (x7_7 ++ [(⟨wrap64 ((wrap64 (a0_0 + 1)) + ((rd_T48 l1 x10_4).f0)), wrap64 (bt t274 x12_7), 0, (⟨#[]⟩ : ByteArray), 0⟩ : S48)]) := ⟨_, rfl⟩
                        replace H : (signalbenchref30_Encode.l2 k7 l1 y277 x10_4 t274 (wrap64 (x12_7 + 1)) a0_0) = some (r1, r2) := by first | (rw [hy277]; with_reducible exact H) | (have H2_ := (Option.bind_some _ _).symm.trans H; rw [hy277]; with_reducible exact H2_) | (have H2_ := (Option.bind_some _ _).symm.trans H; with_reducible exact H2_) | with_reducible exact H | (rw [hy277]; exact H) | exact H
                        have Ny277 := Aside0.mk hy277
                        clear hy277
                        have H' := Aside0.mk H
                        clear H
                        have p32 : 0 ≤ (x12_7 : Int) := of_decide_eq_true (by first | (with_reducible assumption) | assumption)
                        have q32 : x12_7 < (t274.size : Int) := of_decide_eq_true (by first | (with_reducible assumption) | assumption)
                        have hx32 := bt_at t274 x12_7
                        replace p32 := eq_true p32
                        replace q32 := eq_true q32
                        try go_wp2_with (first | ((with_reducible refine gate_dst (N := 13) rfl ?_); refine box_event ?hg (N := 13) ?hd (cs := #[.int .i64 0, .int .i64 0, .int .i64 0, .string (⟨#[]⟩ : ByteArray), .int .i64 0]) (t := 48) ?hr ?_; (case hd => rfl); (case hg => rfl); (case hr => first | (go_simp; done) | (go_simp; rfl)); intro gb275 hg w37 hbox hb; have n0_ := Aside0.mk (Kd.R_below (Kd.R_elderB (rkw HO_7.out) gb275 (Nat.le_of_eq hg.symm)) hb); have n1_ := Aside0.mk (blkb BK266.out hb); have n2_ := Aside0.mk (below_step (hbw HB.out) hb); have n3_ := Aside0.mk (hbox); have n4_ := Aside0.mk ((by rw [hg]; exact (below_size (hbw HB.out)) : w.heap.size ≤ gb275)); have n5_ := Aside0.mk ((by rw [hg]; exact (below_size (hbw HB.out)) : w.heap.size ≤ gb275)); have n6_ := Aside0.mk ((by rw [hg]; exact Nat.ne_of_lt (blkl BK266.out) : gb266 ≠ gb275)); have n7_ := Aside0.mk ((by rw [hg]; exact Nat.ne_of_gt (blkl BK266.out) : gb275 ≠ gb266)); clear HO_7; clear BK266; clear HB; have HO_7 := n0_; have BK266 := n1_; have HB := n2_; have BK275 := n3_; have GW275 := n4_; have GE275 := n5_; have NB266_275 := n6_; have NB275_266 := n7_; clear n0_ n1_ n2_ n3_ n4_ n5_ n6_ n7_; clear hb hbox hg; have hnb38 := NB275_266.out; have hnc38 := NB266_275.out; have hcz39_0 : w37.cell? ⟨gb275, 0, none⟩ = some (.int .i64 0) := (blk_cell BK275.out 0).trans rfl; have hcz39_1 : w37.cell? ⟨gb275, 1, none⟩ = some (.int .i64 0) := (blk_cell BK275.out 1).trans rfl; have hcz39_2 : w37.cell? ⟨gb275, 2, none⟩ = some (.int .i64 0) := (blk_cell BK275.out 2).trans rfl; have hcz39_3 : w37.cell? ⟨gb275, 3, none⟩ = some (.string (⟨#[]⟩ : ByteArray)) := (blk_cell BK275.out 3).trans rfl; have hcz39_4 : w37.cell? ⟨gb275, 4, none⟩ = some (.int .i64 0) := (blk_cell BK275.out 4).trans rfl; have hfz39_0 := blk_frozen BK275.out 0; have hfz39_1 := blk_frozen BK275.out 1; have hfz39_2 := blk_frozen BK275.out 2; have hfz39_3 := blk_frozen BK275.out 3; have hfz39_4 := blk_frozen BK275.out 4))
                        have n0_ : Aside0 (Kd.R k48 48 (((((w37.setCell ⟨gb275, 0, none⟩ (.int .i64 0)).setCell ⟨gb275, 1, none⟩ (.int .i64 (wrap64 (bt t274 x12_7)))).setCell ⟨gb275, 2, none⟩ (.int .i64 0)).setCell ⟨gb275, 3, none⟩ (.string (⟨#[]⟩ : ByteArray))).setCell ⟨gb275, 4, none⟩ (.int .i64 0)) w.heap.size (fun k_ => k_ ≠ gb275) u7 x7_7) := ⟨by (with_reducible repeat (first | apply Kd.R_alloc | apply Kd.R_drewN | apply Kd.R_drew)); exact Kd.R_mono (Kd.R_far (p := ⟨gb275, 4, none⟩) (Kd.R_far (p := ⟨gb275, 3, none⟩) (Kd.R_far (p := ⟨gb275, 2, none⟩) (Kd.R_far (p := ⟨gb275, 1, none⟩) (Kd.R_far (p := ⟨gb275, 0, none⟩) (Kd.R_mono HO_7.out (fun k_ hk => (⟨hk, hk.2⟩ : _ ∧ k_ ≠ gb275))) (fun _ hk => hk.2) (.int .i64 0)) (fun _ hk => hk.2) (.int .i64 (wrap64 (bt t274 x12_7)))) (fun _ hk => hk.2) (.int .i64 0)) (fun _ hk => hk.2) (.string (⟨#[]⟩ : ByteArray))) (fun _ hk => hk.2) (.int .i64 0)) (fun _ hk => hk.1.2)⟩
                        have n1_ : Aside0 ((((((w37.setCell ⟨gb275, 0, none⟩ (.int .i64 0)).setCell ⟨gb275, 1, none⟩ (.int .i64 (wrap64 (bt t274 x12_7)))).setCell ⟨gb275, 2, none⟩ (.int .i64 0)).setCell ⟨gb275, 3, none⟩ (.string (⟨#[]⟩ : ByteArray))).setCell ⟨gb275, 4, none⟩ (.int .i64 0)).heap[gb266]? = some (.cells #[.int .i64 a0_0] 23 (0, 0))) := ⟨by (with_reducible repeat (first | refine blk_drewN ?_ _ | refine blk_drew ?_ | refine blk_alloc ?_ _)); refine blk_far ?_ NB266_275.out _; (with_reducible repeat (first | refine blk_drewN ?_ _ | refine blk_drew ?_ | refine blk_alloc ?_ _)); refine blk_far ?_ NB266_275.out _; (with_reducible repeat (first | refine blk_drewN ?_ _ | refine blk_drew ?_ | refine blk_alloc ?_ _)); refine blk_far ?_ NB266_275.out _; (with_reducible repeat (first | refine blk_drewN ?_ _ | refine blk_drew ?_ | refine blk_alloc ?_ _)); refine blk_far ?_ NB266_275.out _; (with_reducible repeat (first | refine blk_drewN ?_ _ | refine blk_drew ?_ | refine blk_alloc ?_ _)); refine blk_far ?_ NB266_275.out _; (with_reducible repeat (first | refine blk_drewN ?_ _ | refine blk_drew ?_ | refine blk_alloc ?_ _)); exact BK266.out⟩
                        have n2_ : Aside0 ((((((w37.setCell ⟨gb275, 0, none⟩ (.int .i64 0)).setCell ⟨gb275, 1, none⟩ (.int .i64 (wrap64 (bt t274 x12_7)))).setCell ⟨gb275, 2, none⟩ (.int .i64 0)).setCell ⟨gb275, 3, none⟩ (.string (⟨#[]⟩ : ByteArray))).setCell ⟨gb275, 4, none⟩ (.int .i64 0)).heap[gb275]? = some (.cells #[.int .i64 0, .int .i64 (wrap64 (bt t274 x12_7)), .int .i64 0, .string (⟨#[]⟩ : ByteArray), .int .i64 0] 48 (0, 0))) := ⟨by (with_reducible repeat (first | refine blk_drewN ?_ _ | refine blk_drew ?_ | refine blk_alloc ?_ _)); refine blk_put (cs := #[.int .i64 0, .int .i64 (wrap64 (bt t274 x12_7)), .int .i64 0, .string (⟨#[]⟩ : ByteArray), .int .i64 0]) ?_ 4 _ rfl; (with_reducible repeat (first | refine blk_drewN ?_ _ | refine blk_drew ?_ | refine blk_alloc ?_ _)); refine blk_put (cs := #[.int .i64 0, .int .i64 (wrap64 (bt t274 x12_7)), .int .i64 0, .string (⟨#[]⟩ : ByteArray), .int .i64 0]) ?_ 3 _ rfl; (with_reducible repeat (first | refine blk_drewN ?_ _ | refine blk_drew ?_ | refine blk_alloc ?_ _)); refine blk_put (cs := #[.int .i64 0, .int .i64 (wrap64 (bt t274 x12_7)), .int .i64 0, .string (⟨#[]⟩ : ByteArray), .int .i64 0]) ?_ 2 _ rfl; (with_reducible repeat (first | refine blk_drewN ?_ _ | refine blk_drew ?_ | refine blk_alloc ?_ _)); refine blk_put (cs := #[.int .i64 0, .int .i64 0, .int .i64 0, .string (⟨#[]⟩ : ByteArray), .int .i64 0]) ?_ 1 _ rfl; (with_reducible repeat (first | refine blk_drewN ?_ _ | refine blk_drew ?_ | refine blk_alloc ?_ _)); refine blk_put (cs := #[.int .i64 0, .int .i64 0, .int .i64 0, .string (⟨#[]⟩ : ByteArray), .int .i64 0]) ?_ 0 _ rfl; (with_reducible repeat (first | refine blk_drewN ?_ _ | refine blk_drew ?_ | refine blk_alloc ?_ _)); exact BK275.out⟩
                        have n3_ : Aside0 (Below w.heap.size w (((((w37.setCell ⟨gb275, 0, none⟩ (.int .i64 0)).setCell ⟨gb275, 1, none⟩ (.int .i64 (wrap64 (bt t274 x12_7)))).setCell ⟨gb275, 2, none⟩ (.int .i64 0)).setCell ⟨gb275, 3, none⟩ (.string (⟨#[]⟩ : ByteArray))).setCell ⟨gb275, 4, none⟩ (.int .i64 0))) := ⟨by repeat (first | (with_reducible first | exact HB.out | apply below_alloc | apply pw_below_drewN | apply below_drew1 | refine below_set ?_ GE266.out | refine below_set ?_ GE275.out) | exact HB.out)⟩
                        (try clear HO_7)
                        (try clear BK266)
                        (try clear BK275)
                        (try clear HB)
                        generalize (((((w37.setCell ⟨gb275, 0, none⟩ (.int .i64 0)).setCell ⟨gb275, 1, none⟩ (.int .i64 (wrap64 (bt t274 x12_7)))).setCell ⟨gb275, 2, none⟩ (.int .i64 0)).setCell ⟨gb275, 3, none⟩ (.string (⟨#[]⟩ : ByteArray))).setCell ⟨gb275, 4, none⟩ (.int .i64 0)) = w40 at n0_ n1_ n2_ n3_ ⊢
                        have HO_7 := n0_
                        have BK266 := n1_
                        have BK275 := n2_
                        have HB := n3_
                        clear n0_ n1_ n2_ n3_
                        have n0_ := Aside0.mk (Kd.R_drew HO_7.out)
                        have n1_ := Aside0.mk (blk_drew BK266.out)
                        have n2_ := Aside0.mk (blk_drew BK275.out)
                        have n3_ := Aside0.mk (below_drew1 HB.out)
                        clear HO_7
                        clear BK266
                        clear BK275
                        clear HB
                        have HO_7 := n0_
                        have BK266 := n1_
                        have BK275 := n2_
                        have HB := n3_
                        clear n0_ n1_ n2_ n3_
                        have p276 : 0 ≤ (x10_4 : Int) := of_decide_eq_true (by first | (with_reducible assumption) | assumption)
                        have q276 : x10_4 < (l1.length : Int) := of_decide_eq_true (by first | (with_reducible assumption) | assumption)
                        obtain ⟨ad276, e276, hx276_0, hx276_1, hx276_2, hx276_3, hx276_4⟩ := at_T48 HR1.out x10_4 p276 q276
                        have hw276_4 := hx276_4
                        have hw276_3 := hx276_3
                        have hw276_2 := hx276_2
                        have hw276_1 := hx276_1
                        have hw276_0 := hx276_0
                        obtain rfl : ad273 = ad276 := (by injection e276)
                        replace hx276_0 := (HB.out.cell (World.block_lt_of_cell? w _ hx276_0)).trans hx276_0
                        replace hx276_1 := (HB.out.cell (World.block_lt_of_cell? w _ hx276_1)).trans hx276_1
                        replace hx276_2 := (HB.out.cell (World.block_lt_of_cell? w _ hx276_2)).trans hx276_2
                        replace hx276_3 := (HB.out.cell (World.block_lt_of_cell? w _ hx276_3)).trans hx276_3
                        replace hx276_4 := (HB.out.cell (World.block_lt_of_cell? w _ hx276_4)).trans hx276_4
                        replace p276 := eq_true p276
                        replace q276 := eq_true q276
                        refine start_ (n := 11) (S := fun w' => w'.cell? ⟨gb266, 0, none⟩ = some (.int .i64 a0_0) ∧ w'.cell? (ad273.add ((x10_4).toNat * 5)) = some (.int .i64 ((rd_T48 l1 x10_4).f0)) ∧ w'.cell? ⟨(ad273.add ((x10_4).toNat * 5)).block, (ad273.add ((x10_4).toNat * 5)).off + 1, none⟩ = some (.int .i64 ((rd_T48 l1 x10_4).f1)) ∧ w'.cell? ⟨(ad273.add ((x10_4).toNat * 5)).block, (ad273.add ((x10_4).toNat * 5)).off + 2, none⟩ = some (.int .i64 ((rd_T48 l1 x10_4).f2)) ∧ w'.cell? ⟨(ad273.add ((x10_4).toNat * 5)).block, (ad273.add ((x10_4).toNat * 5)).off + 3, none⟩ = some (.string ((rd_T48 l1 x10_4).f3)) ∧ w'.cell? ⟨(ad273.add ((x10_4).toNat * 5)).block, (ad273.add ((x10_4).toNat * 5)).off + 4, none⟩ = some (.int .i64 ((rd_T48 l1 x10_4).f4))) (ds := []) #[false, false, false, false, false, false, false, false, false, false, false] (by kernel_rfl) rfl rfl ⟨(blk_cell BK266.out 0).trans rfl, ((HB.out.cell (World.block_lt_of_cell? w _ hw276_0)).trans hw276_0), ((HB.out.cell (World.block_lt_of_cell? w _ hw276_1)).trans hw276_1), ((HB.out.cell (World.block_lt_of_cell? w _ hw276_2)).trans hw276_2), ((HB.out.cell (World.block_lt_of_cell? w _ hw276_3)).trans hw276_3), ((HB.out.cell (World.block_lt_of_cell? w _ hw276_4)).trans hw276_4)⟩ (fun hHeld => ?_); refine with_tabW signalbenchref30_Encode.tab24 signalbenchref30_Encode.bits24 (fun HT_ HW_ => ?_)
                        generalize w40.drew = w41 at HO_7 BK266 BK275 HB hx276_0 hx276_1 hx276_2 hx276_3 hx276_4 hHeld ⊢
                        refine pstep 0 (some 68) #[true, false, false, false, false, false, false, false, false, false, false] HT_.out ?_
                        refine pstep 3 (some 71) #[true, false, false, true, false, false, false, false, false, false, false] HT_.out ?_
                        refine pstep 4 (some 72) #[true, false, false, true, true, false, false, false, false, false, false] HT_.out ?_
                        refine pstep 5 (some 73) #[true, false, false, true, true, true, false, false, false, false, false] HT_.out ?_
                        refine pstep 6 (some 74) #[true, false, false, true, true, true, true, false, false, false, false] HT_.out ?_
                        refine take_ (i := 1) (N := some 69) (v := ?_) (a' := ?_) #[true, true, false, true, true, true, true, false, false, false, false] rfl rfl (take_ofW HT_.out HW_.out (by kernel_rfl)) (fun _ _ _ h => h) (Or.inl ⟨by rfl, ?_⟩) hHeld ?_ ?_
                        rotate_left
                        ·rintro w' ⟨s0, s1, s2, s3, s4, s5⟩
                         go_simp
                         with_reducible rfl
                        rotate_left
                        ·simp only [Act.put, nrm]
                         rfl
                        refine pstep 2 (some 70) #[true, true, true, true, true, true, true, false, false, false, false] HT_.out ?_
                        refine take_ (i := 7) (N := some 75) (v := ?_) (a' := ?_) #[true, true, true, true, true, true, true, true, false, false, false] rfl rfl (take_ofW HT_.out HW_.out (by kernel_rfl)) (fun _ _ _ h => h) (Or.inl ⟨by rfl, ?_⟩) hHeld ?_ ?_
                        rotate_left
                        ·rintro w' ⟨s0, s1, s2, s3, s4, s5⟩
                         go_simp
                         with_reducible rfl
                        rotate_left
                        ·simp only [Act.put, nrm]
                         rfl
                        refine pstep 8 (some 76) #[true, true, true, true, true, true, true, true, true, false, false] HT_.out ?_
                        refine pstep 9 (some 77) #[true, true, true, true, true, true, true, true, true, true, false] HT_.out ?_
                        refine one_ (i := 10) (N := none) #[true, true, true, true, true, true, true, true, true, true, true] rfl rfl (one_of HT_.out (by kernel_rfl)) (by decide) (fun K hK => ?_)
                        have hs42 : w41.cell? ⟨gb275, 0, none⟩ = some (.int .i64 0) := (blk_cell BK275.out 0).trans rfl
                        have hfs42 := blk_frozen BK275.out 0
                        have hns42_0 := NB266_275.out
                        have hms42_0 := NB275_266.out
                        refine skip_ (w1 := ?_) (by rfl) rfl ?_ ?_
                        rotate_left
                        ·go_simp
                         rfl
                        refine hK.out _ _ ⟨((cell_far (p := ⟨gb275, _, none⟩) NB266_275.out _).trans (hHeld.1)), ((cell_far (p := ⟨gb275, _, none⟩) (by have e_ := Nat.ne_of_lt (Nat.lt_of_lt_of_le (by have := World.block_lt_of_cell? _ _ hw276_0; first | rwa [add_block] at this | exact this) GW275.out); first | exact e_ | (rw [add_block]; exact e_) | (show (Addr.add _ _).block ≠ _; rw [add_block]; exact e_) | (dsimp only; exact e_)) _).trans (hHeld.2.1)), ((cell_far (p := ⟨gb275, _, none⟩) (by have e_ := Nat.ne_of_lt (Nat.lt_of_lt_of_le (by have := World.block_lt_of_cell? _ _ hw276_1; first | rwa [add_block] at this | exact this) GW275.out); first | exact e_ | (rw [add_block]; exact e_) | (show (Addr.add _ _).block ≠ _; rw [add_block]; exact e_) | (dsimp only; exact e_)) _).trans (hHeld.2.2.1)), ((cell_far (p := ⟨gb275, _, none⟩) (by have e_ := Nat.ne_of_lt (Nat.lt_of_lt_of_le (by have := World.block_lt_of_cell? _ _ hw276_2; first | rwa [add_block] at this | exact this) GW275.out); first | exact e_ | (rw [add_block]; exact e_) | (show (Addr.add _ _).block ≠ _; rw [add_block]; exact e_) | (dsimp only; exact e_)) _).trans (hHeld.2.2.2.1)), ((cell_far (p := ⟨gb275, _, none⟩) (by have e_ := Nat.ne_of_lt (Nat.lt_of_lt_of_le (by have := World.block_lt_of_cell? _ _ hw276_3; first | rwa [add_block] at this | exact this) GW275.out); first | exact e_ | (rw [add_block]; exact e_) | (show (Addr.add _ _).block ≠ _; rw [add_block]; exact e_) | (dsimp only; exact e_)) _).trans (hHeld.2.2.2.2.1)), ((cell_far (p := ⟨gb275, _, none⟩) (by have e_ := Nat.ne_of_lt (Nat.lt_of_lt_of_le (by have := World.block_lt_of_cell? _ _ hw276_4; first | rwa [add_block] at this | exact this) GW275.out); first | exact e_ | (rw [add_block]; exact e_) | (show (Addr.add _ _).block ≠ _; rw [add_block]; exact e_) | (dsimp only; exact e_)) _).trans (hHeld.2.2.2.2.2))⟩ (fun hHeld => ?_)
                        clear hK K
                        refine done_ (done_of HT_.out (by kernel_rfl)) ?_
                        have hcz43_0 : w41.cell? ⟨gb275, 0, none⟩ = some (.int .i64 0) := (blk_cell BK275.out 0).trans rfl
                        have hcz43_1 : w41.cell? ⟨gb275, 1, none⟩ = some (.int .i64 (wrap64 (bt t274 x12_7))) := (blk_cell BK275.out 1).trans rfl
                        have hcz43_2 : w41.cell? ⟨gb275, 2, none⟩ = some (.int .i64 0) := (blk_cell BK275.out 2).trans rfl
                        have hcz43_3 : w41.cell? ⟨gb275, 3, none⟩ = some (.string (⟨#[]⟩ : ByteArray)) := (blk_cell BK275.out 3).trans rfl
                        have hcz43_4 : w41.cell? ⟨gb275, 4, none⟩ = some (.int .i64 0) := (blk_cell BK275.out 4).trans rfl
                        have hfz43_0 := blk_frozen BK275.out 0
                        have hfz43_1 := blk_frozen BK275.out 1
                        have hfz43_2 := blk_frozen BK275.out 2
                        have hfz43_3 := blk_frozen BK275.out 3
                        have hfz43_4 := blk_frozen BK275.out 4
                        try go_wp2_with (first | ((with_reducible refine gate_builtin (b := .append) (xs := #[.tmp 78, .tmp 80]) rfl ?_); at_builtin; refine Kd.R_append k48 (w0 := w) w.heap.size rfl (.tmp 78) (.tmp 80) 39 48 (.agg #[(.int .i64 0), (.int .i64 0), (.int .i64 0), (.string ⟨#[]⟩), (.int .i64 0)]) 48 rfl Tryd.underlying39 info48 rfl (by decide) (by omega) u7 x7_7 (⟨wrap64 ((wrap64 (a0_0 + 1)) + ((rd_T48 l1 x10_4).f0)), wrap64 (bt t274 x12_7), 0, (⟨#[]⟩ : ByteArray), 0⟩ : S48) [.int .i64 (wrap64 ((wrap64 (a0_0 + 1)) + ((rd_T48 l1 x10_4).f0))), .int .i64 (wrap64 (bt t274 x12_7)), .int .i64 0, .string (⟨#[]⟩ : ByteArray), .int .i64 0] (fun k_ => k_ ≠ gb275) (fun _ => False) rfl (by first | (go_simp; done) | (go_simp; rfl)) ?aP (fun _ hk => hk.elim) ?aF ?aO ?aB ?aS ?aL ?_; (case aP => exact k48_mkM _ _ _ (⟨wrap64 ((wrap64 (a0_0 + 1)) + ((rd_T48 l1 x10_4).f0)), wrap64 (bt t274 x12_7), 0, (⟨#[]⟩ : ByteArray), 0⟩ : S48)); (case aB => exact (hbw HB.out)); (case aF => exact (fun k_ hk => Kd.freshB (g := gb275) (o := .cells #[.int .i64 (wrap64 ((wrap64 (a0_0 + 1)) + ((rd_T48 l1 x10_4).f0))), .int .i64 (wrap64 (bt t274 x12_7)), .int .i64 0, .string (⟨#[]⟩ : ByteArray), .int .i64 0] 48 (0, 0)) (by (with_reducible repeat (first | refine blk_drewN ?_ _ | refine blk_drew ?_ | refine blk_alloc ?_ _)); refine blk_put (cs := #[.int .i64 0, .int .i64 (wrap64 (bt t274 x12_7)), .int .i64 0, .string (⟨#[]⟩ : ByteArray), .int .i64 0]) ?_ 0 _ rfl; (with_reducible repeat (first | refine blk_drewN ?_ _ | refine blk_drew ?_ | refine blk_alloc ?_ _)); exact BK275.out) k_ hk)); (case aO => exact (by (with_reducible repeat (first | apply Kd.R_alloc | apply Kd.R_drewN | apply Kd.R_drew)); exact Kd.R_mono (Kd.R_far (p := ⟨gb275, 0, none⟩) (Kd.R_mono HO_7.out (fun k_ hk => (⟨hk, hk⟩ : _ ∧ k_ ≠ gb275))) (fun _ hk => hk.2) (.int .i64 (wrap64 ((wrap64 (a0_0 + 1)) + ((rd_T48 l1 x10_4).f0))))) (fun _ hk => hk.1))); (case aS => exact (below_size (hbw HB.out))); (case aL => have := LMc36.out; omega); intro v278 w44 ho hb hg hat; rw [← Ny277.out] at ho; have n0_ := Aside0.mk (blk_grown (g := gb266) (o := .cells #[.int .i64 a0_0] 23 (0, 0)) (by (with_reducible repeat (first | refine blk_drewN ?_ _ | refine blk_drew ?_ | refine blk_alloc ?_ _)); refine blk_far ?_ NB266_275.out _; (with_reducible repeat (first | refine blk_drewN ?_ _ | refine blk_drew ?_ | refine blk_alloc ?_ _)); exact BK266.out) hg (Kd.R_ne HO_7.out BK266.out (by decide))); have n1_ := Aside0.mk (blk_grown (g := gb275) (o := .cells #[.int .i64 (wrap64 ((wrap64 (a0_0 + 1)) + ((rd_T48 l1 x10_4).f0))), .int .i64 (wrap64 (bt t274 x12_7)), .int .i64 0, .string (⟨#[]⟩ : ByteArray), .int .i64 0] 48 (0, 0)) (by (with_reducible repeat (first | refine blk_drewN ?_ _ | refine blk_drew ?_ | refine blk_alloc ?_ _)); refine blk_put (cs := #[.int .i64 0, .int .i64 (wrap64 (bt t274 x12_7)), .int .i64 0, .string (⟨#[]⟩ : ByteArray), .int .i64 0]) ?_ 0 _ rfl; (with_reducible repeat (first | refine blk_drewN ?_ _ | refine blk_drew ?_ | refine blk_alloc ?_ _)); exact BK275.out) hg (Kd.R_away HO_7.out (fun _ hk => hk))); have n2_ := Aside0.mk (hb); have n3_ := Aside0.mk (ho); clear BK266; clear BK275; clear HB; clear HO_7; have BK266 := n0_; have BK275 := n1_; have HB := n2_; have HO279 := n3_; clear n0_ n1_ n2_ n3_; clear ho hb hg hat))
                        go_roundg k7
                        case measure => have := HJ3.out; have := HJ8.out; have := HK3.out; have := HK4.out; have := HJ20.out; have := HJ25.out; have := HK7.out; omega
                        case rel => exact ⟨(y277), (wrap64 (x12_7 + 1)), (by first | rfl | (simp; done) | (simp [*]; done)), H', ⟨by have := HJ3.out; have := HJ8.out; have := HK3.out; have := HK4.out; have := HJ20.out; have := HJ25.out; have := HK7.out; omega⟩, ⟨by (with_reducible repeat (first | apply Kd.R_alloc | apply Kd.R_drewN | apply Kd.R_drew)); exact Kd.R_mono HO279.out (fun _ hk => trivial)⟩, ⟨by (with_reducible repeat (first | refine blk_drewN ?_ _ | refine blk_drew ?_ | refine blk_alloc ?_ _)); exact BK266.out⟩, ⟨by repeat (first | (with_reducible first | exact HB.out | apply below_alloc | apply pw_below_drewN | apply below_drew1 | refine below_set ?_ GE266.out | refine below_set ?_ GE275.out) | exact HB.out)⟩⟩
                       ·rw [if_neg c36] at H
                        exact absurd H (by simp)
                      ·rw [if_neg c35] at H
                       exact absurd H (by simp)
                     ·rw [if_neg c34] at H
                      exact absurd H (by simp)
                    ·rw [if_neg c33] at H
                     have c33b0 : (x12_7 == 0) = false := beq_eq_false_iff_ne.mpr c33
                     have c33b1 : (x12_7 != 0) = true := bne_iff_ne.mpr c33
                     by_cases c45 : x7_7.length < 2932031007402
                     ·rw [if_pos c45] at H
                      have LMc45 := Aside0.mk c45
                      clear c45
                      obtain ⟨y280, hy280⟩ : ∃ y_ : List (S48), y_ = (x7_7 ++ [(⟨0, wrap64 (bt t274 x12_7), 0, (⟨#[]⟩ : ByteArray), 0⟩ : S48)]) := ⟨_, rfl⟩
                      replace H : (signalbenchref30_Encode.l2 k7 l1 y280 x10_4 t274 (wrap64 (x12_7 + 1)) a0_0) = some (r1, r2) := by first | (rw [hy280]; with_reducible exact H) | (have H2_ := (Option.bind_some _ _).symm.trans H; rw [hy280]; with_reducible exact H2_) | (have H2_ := (Option.bind_some _ _).symm.trans H; with_reducible exact H2_) | with_reducible exact H | (rw [hy280]; exact H) | exact H
                      have Ny280 := Aside0.mk hy280
                      clear hy280
                      have H' := Aside0.mk H
                      clear H
                      have p32 : 0 ≤ (x12_7 : Int) := of_decide_eq_true (by first | (with_reducible assumption) | assumption)
                      have q32 : x12_7 < (t274.size : Int) := of_decide_eq_true (by first | (with_reducible assumption) | assumption)
                      have hx32 := bt_at t274 x12_7
                      replace p32 := eq_true p32
                      replace q32 := eq_true q32
                      go_wp2_with (first | ((with_reducible refine gate_dst (N := 13) rfl ?_); refine box_event ?hg (N := 13) ?hd (cs := #[.int .i64 0, .int .i64 0, .int .i64 0, .string (⟨#[]⟩ : ByteArray), .int .i64 0]) (t := 48) ?hr ?_; (case hd => rfl); (case hg => rfl); (case hr => first | (go_simp; done) | (go_simp; rfl)); intro gb275 hg w46 hbox hb; have n0_ := Aside0.mk (Kd.R_below (Kd.R_elderB (rkw HO_7.out) gb275 (Nat.le_of_eq hg.symm)) hb); have n1_ := Aside0.mk (blkb BK266.out hb); have n2_ := Aside0.mk (below_step (hbw HB.out) hb); have n3_ := Aside0.mk (hbox); have n4_ := Aside0.mk ((by rw [hg]; exact (below_size (hbw HB.out)) : w.heap.size ≤ gb275)); have n5_ := Aside0.mk ((by rw [hg]; exact (below_size (hbw HB.out)) : w.heap.size ≤ gb275)); have n6_ := Aside0.mk ((by rw [hg]; exact Nat.ne_of_lt (blkl BK266.out) : gb266 ≠ gb275)); have n7_ := Aside0.mk ((by rw [hg]; exact Nat.ne_of_gt (blkl BK266.out) : gb275 ≠ gb266)); clear HO_7; clear BK266; clear HB; have HO_7 := n0_; have BK266 := n1_; have HB := n2_; have BK275 := n3_; have GW275 := n4_; have GE275 := n5_; have NB266_275 := n6_; have NB275_266 := n7_; clear n0_ n1_ n2_ n3_ n4_ n5_ n6_ n7_; clear hb hbox hg; have hnb47 := NB275_266.out; have hnc47 := NB266_275.out; have hcz48_0 : w46.cell? ⟨gb275, 0, none⟩ = some (.int .i64 0) := (blk_cell BK275.out 0).trans rfl; have hcz48_1 : w46.cell? ⟨gb275, 1, none⟩ = some (.int .i64 0) := (blk_cell BK275.out 1).trans rfl; have hcz48_2 : w46.cell? ⟨gb275, 2, none⟩ = some (.int .i64 0) := (blk_cell BK275.out 2).trans rfl; have hcz48_3 : w46.cell? ⟨gb275, 3, none⟩ = some (.string (⟨#[]⟩ : ByteArray)) := (blk_cell BK275.out 3).trans rfl; have hcz48_4 : w46.cell? ⟨gb275, 4, none⟩ = some (.int .i64 0) := (blk_cell BK275.out 4).trans rfl; have hfz48_0 := blk_frozen BK275.out 0; have hfz48_1 := blk_frozen BK275.out 1; have hfz48_2 := blk_frozen BK275.out 2; have hfz48_3 := blk_frozen BK275.out 3; have hfz48_4 := blk_frozen BK275.out 4) | ((with_reducible refine gate_builtin (b := .append) (xs := #[.tmp 78, .tmp 80]) rfl ?_); at_builtin; refine Kd.R_append k48 (w0 := w) w.heap.size rfl (.tmp 78) (.tmp 80) 39 48 (.agg #[(.int .i64 0), (.int .i64 0), (.int .i64 0), (.string ⟨#[]⟩), (.int .i64 0)]) 48 rfl Tryd.underlying39 info48 rfl (by decide) (by omega) u7 x7_7 (⟨0, wrap64 (bt t274 x12_7), 0, (⟨#[]⟩ : ByteArray), 0⟩ : S48) [.int .i64 0, .int .i64 (wrap64 (bt t274 x12_7)), .int .i64 0, .string (⟨#[]⟩ : ByteArray), .int .i64 0] (fun k_ => k_ ≠ gb275) (fun _ => False) rfl (by first | (go_simp; done) | (go_simp; rfl)) ?aP (fun _ hk => hk.elim) ?aF ?aO ?aB ?aS ?aL ?_; (case aP => exact k48_mkM _ _ _ (⟨0, wrap64 (bt t274 x12_7), 0, (⟨#[]⟩ : ByteArray), 0⟩ : S48)); (case aB => exact (hbw HB.out)); (case aF => exact (fun k_ hk => Kd.freshB (g := gb275) (o := .cells #[.int .i64 0, .int .i64 (wrap64 (bt t274 x12_7)), .int .i64 0, .string (⟨#[]⟩ : ByteArray), .int .i64 0] 48 (0, 0)) (by (with_reducible repeat (first | refine blk_drewN ?_ _ | refine blk_drew ?_ | refine blk_alloc ?_ _)); refine blk_put (cs := #[.int .i64 0, .int .i64 (wrap64 (bt t274 x12_7)), .int .i64 0, .string (⟨#[]⟩ : ByteArray), .int .i64 0]) ?_ 4 _ rfl; (with_reducible repeat (first | refine blk_drewN ?_ _ | refine blk_drew ?_ | refine blk_alloc ?_ _)); refine blk_put (cs := #[.int .i64 0, .int .i64 (wrap64 (bt t274 x12_7)), .int .i64 0, .string (⟨#[]⟩ : ByteArray), .int .i64 0]) ?_ 3 _ rfl; (with_reducible repeat (first | refine blk_drewN ?_ _ | refine blk_drew ?_ | refine blk_alloc ?_ _)); refine blk_put (cs := #[.int .i64 0, .int .i64 (wrap64 (bt t274 x12_7)), .int .i64 0, .string (⟨#[]⟩ : ByteArray), .int .i64 0]) ?_ 2 _ rfl; (with_reducible repeat (first | refine blk_drewN ?_ _ | refine blk_drew ?_ | refine blk_alloc ?_ _)); refine blk_put (cs := #[.int .i64 0, .int .i64 0, .int .i64 0, .string (⟨#[]⟩ : ByteArray), .int .i64 0]) ?_ 1 _ rfl; (with_reducible repeat (first | refine blk_drewN ?_ _ | refine blk_drew ?_ | refine blk_alloc ?_ _)); refine blk_put (cs := #[.int .i64 0, .int .i64 0, .int .i64 0, .string (⟨#[]⟩ : ByteArray), .int .i64 0]) ?_ 0 _ rfl; (with_reducible repeat (first | refine blk_drewN ?_ _ | refine blk_drew ?_ | refine blk_alloc ?_ _)); exact BK275.out) k_ hk)); (case aO => exact (by (with_reducible repeat (first | apply Kd.R_alloc | apply Kd.R_drewN | apply Kd.R_drew)); exact Kd.R_mono (Kd.R_far (p := ⟨gb275, 4, none⟩) (Kd.R_far (p := ⟨gb275, 3, none⟩) (Kd.R_far (p := ⟨gb275, 2, none⟩) (Kd.R_far (p := ⟨gb275, 1, none⟩) (Kd.R_far (p := ⟨gb275, 0, none⟩) (Kd.R_mono HO_7.out (fun k_ hk => (⟨hk, hk.2⟩ : _ ∧ k_ ≠ gb275))) (fun _ hk => hk.2) (.int .i64 0)) (fun _ hk => hk.2) (.int .i64 (wrap64 (bt t274 x12_7)))) (fun _ hk => hk.2) (.int .i64 0)) (fun _ hk => hk.2) (.string (⟨#[]⟩ : ByteArray))) (fun _ hk => hk.2) (.int .i64 0)) (fun _ hk => hk.1.2))); (case aS => exact (below_size (hbw HB.out))); (case aL => have := LMc45.out; omega); intro v281 w49 ho hb hg hat; rw [← Ny280.out] at ho; have n0_ := Aside0.mk (blk_grown (g := gb266) (o := .cells #[.int .i64 a0_0] 23 (0, 0)) (by (with_reducible repeat (first | refine blk_drewN ?_ _ | refine blk_drew ?_ | refine blk_alloc ?_ _)); refine blk_far ?_ NB266_275.out _; (with_reducible repeat (first | refine blk_drewN ?_ _ | refine blk_drew ?_ | refine blk_alloc ?_ _)); refine blk_far ?_ NB266_275.out _; (with_reducible repeat (first | refine blk_drewN ?_ _ | refine blk_drew ?_ | refine blk_alloc ?_ _)); refine blk_far ?_ NB266_275.out _; (with_reducible repeat (first | refine blk_drewN ?_ _ | refine blk_drew ?_ | refine blk_alloc ?_ _)); refine blk_far ?_ NB266_275.out _; (with_reducible repeat (first | refine blk_drewN ?_ _ | refine blk_drew ?_ | refine blk_alloc ?_ _)); refine blk_far ?_ NB266_275.out _; (with_reducible repeat (first | refine blk_drewN ?_ _ | refine blk_drew ?_ | refine blk_alloc ?_ _)); exact BK266.out) hg (Kd.R_ne HO_7.out BK266.out (by decide))); have n1_ := Aside0.mk (blk_grown (g := gb275) (o := .cells #[.int .i64 0, .int .i64 (wrap64 (bt t274 x12_7)), .int .i64 0, .string (⟨#[]⟩ : ByteArray), .int .i64 0] 48 (0, 0)) (by (with_reducible repeat (first | refine blk_drewN ?_ _ | refine blk_drew ?_ | refine blk_alloc ?_ _)); refine blk_put (cs := #[.int .i64 0, .int .i64 (wrap64 (bt t274 x12_7)), .int .i64 0, .string (⟨#[]⟩ : ByteArray), .int .i64 0]) ?_ 4 _ rfl; (with_reducible repeat (first | refine blk_drewN ?_ _ | refine blk_drew ?_ | refine blk_alloc ?_ _)); refine blk_put (cs := #[.int .i64 0, .int .i64 (wrap64 (bt t274 x12_7)), .int .i64 0, .string (⟨#[]⟩ : ByteArray), .int .i64 0]) ?_ 3 _ rfl; (with_reducible repeat (first | refine blk_drewN ?_ _ | refine blk_drew ?_ | refine blk_alloc ?_ _)); refine blk_put (cs := #[.int .i64 0, .int .i64 (wrap64 (bt t274 x12_7)), .int .i64 0, .string (⟨#[]⟩ : ByteArray), .int .i64 0]) ?_ 2 _ rfl; (with_reducible repeat (first | refine blk_drewN ?_ _ | refine blk_drew ?_ | refine blk_alloc ?_ _)); refine blk_put (cs := #[.int .i64 0, .int .i64 0, .int .i64 0, .string (⟨#[]⟩ : ByteArray), .int .i64 0]) ?_ 1 _ rfl; (with_reducible repeat (first | refine blk_drewN ?_ _ | refine blk_drew ?_ | refine blk_alloc ?_ _)); refine blk_put (cs := #[.int .i64 0, .int .i64 0, .int .i64 0, .string (⟨#[]⟩ : ByteArray), .int .i64 0]) ?_ 0 _ rfl; (with_reducible repeat (first | refine blk_drewN ?_ _ | refine blk_drew ?_ | refine blk_alloc ?_ _)); exact BK275.out) hg (Kd.R_away HO_7.out (fun _ hk => hk.2))); have n2_ := Aside0.mk (hb); have n3_ := Aside0.mk (ho); clear BK266; clear BK275; clear HB; clear HO_7; have BK266 := n0_; have BK275 := n1_; have HB := n2_; have HO282 := n3_; clear n0_ n1_ n2_ n3_; clear ho hb hg hat))
                      go_roundg k7
                      case measure => have := HJ3.out; have := HJ8.out; have := HK3.out; have := HK4.out; have := HJ20.out; have := HJ25.out; have := HK7.out; omega
                      case rel => exact ⟨(y280), (wrap64 (x12_7 + 1)), (by first | rfl | (simp; done) | (simp [*]; done)), H', ⟨by have := HJ3.out; have := HJ8.out; have := HK3.out; have := HK4.out; have := HJ20.out; have := HJ25.out; have := HK7.out; omega⟩, ⟨by (with_reducible repeat (first | apply Kd.R_alloc | apply Kd.R_drewN | apply Kd.R_drew)); exact Kd.R_mono HO282.out (fun _ hk => trivial)⟩, ⟨by (with_reducible repeat (first | refine blk_drewN ?_ _ | refine blk_drew ?_ | refine blk_alloc ?_ _)); exact BK266.out⟩, ⟨by repeat (first | (with_reducible first | exact HB.out | apply below_alloc | apply pw_below_drewN | apply below_drew1 | refine below_set ?_ GE266.out | refine below_set ?_ GE275.out) | exact HB.out)⟩⟩
                     ·rw [if_neg c45] at H
                      exact absurd H (by simp)
                   ·rw [if_neg c31] at H
                    exact absurd H (by simp)
                  ·rw [if_neg c30] at H
                   have c30b0 : decide (x12_7 < (t274.size : Int)) = false := decide_eq_false c30
                   clear c30
                   have H' := Aside0.mk H
                   clear H
                   go_wp2
                   go_roundg k7
                   case measure => have := HJ3.out; have := HJ8.out; have := HK3.out; have := HK4.out; have := HJ20.out; have := HJ25.out; have := HK7.out; omega
                   case rel => exact ⟨(x7_7), (wrap64 (x10_4 + 1)), (by first | rfl | (simp; done) | (simp [*]; done)), H', ⟨by have := HJ3.out; have := HJ8.out; have := HK3.out; have := HK4.out; have := HJ20.out; have := HJ25.out; have := HK7.out; omega⟩, ⟨by (with_reducible repeat (first | apply Kd.R_alloc | apply Kd.R_drewN | apply Kd.R_drew)); exact HO_7.out⟩, ⟨by (with_reducible repeat (first | refine blk_drewN ?_ _ | refine blk_drew ?_ | refine blk_alloc ?_ _)); exact BK266.out⟩, ⟨by repeat (first | (with_reducible first | exact HB.out | apply below_alloc | apply pw_below_drewN | apply below_drew1 | refine below_set ?_ GE266.out) | exact HB.out)⟩⟩
             ·rw [if_neg c24] at H
              exact absurd H (by simp)
            ·rw [if_neg c23] at H
             exact absurd H (by simp)

end Go.Proofs.YtmalhgidhieamaaDoor.PModbusEncodes
