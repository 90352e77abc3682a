-- Written by a program of this session (wip/tools/pr.py), which calls the kit's print with changes of its own.
import Derived.Test.YtgcifmaefoeobaaPScrambleRoundTripsx0
import Derived.Test.YtgcifmaefoeobaaPScrambleRoundTripsx3
namespace Go.Proofs.Ytgcifmaefoeobaa.PScrambleRoundTrips
open Go.RowKit Go.Proofs.YtgcifmaefoeobaaW.PrintWords Go.Proofs.YtgcifmaefoeobaaW.PrintLast Go.Proofs.YtgcifmaefoeobaaW.PrintMore
attribute [local go_sem] max2_int min2_int max_two min_two max_three min_three max_four min_four   -- for this text's walks alone
set_option linter.unusedVariables false
set_option linter.unusedSimpArgs false

/-! ### scramble_Encode: function 13 -/
mutual
def scramble_Encode.j0 : Nat → List (S46) → Int → Int → Option ((List (S46)) × Int)
 | 0, _, _, _ => none
 | k + 1, x1, x107000, x107001 => if (x1.length : Int) > 1024 then (some (([] : List (S46)), 6)) else (scramble_Encode.j1 k x1 x107000 x107001)
def scramble_Encode.j1 : Nat → List (S46) → Int → Int → Option ((List (S46)) × Int)
 | 0, _, _, _ => none
 | k + 1, x1, x107000, x107001 => if 0 ≤ (x1.length : Int) then (if ((x1.length : Int) : Int).toNat ≤ 5864062014805 then (scramble_Encode.l0 k 0 (List.replicate 0 z46) x1 (x1.length : Int) 0 x107000 x107001) else (none)) else (none)
def scramble_Encode.l0 : Nat → Int → List (S46) → List (S46) → Int → Int → Int → Int → Option ((List (S46)) × Int)
 | 0, _, _, _, _, _, _, _ => none
 | k + 1, x7, x8, x26, x27, x28, x107000, x107001 => if x28 < x27 then (scramble_Encode.j3 k x7 x8 x26 x27 x28 x107000 x107001) else (some (x8, 0))
def scramble_Encode.j3 : Nat → Int → List (S46) → List (S46) → Int → Int → Int → Int → Option ((List (S46)) × Int)
 | 0, _, _, _, _, _, _, _ => none
 | k + 1, x7, x8, x26, x27, x28, x107000, x107001 => if 0 ≤ x28 then (if x28 < (x26.length : Int) then ((scramble_check.f k ((rd_T46 x26 x28).f0) ((rd_T46 x26 x28).f1) ((rd_T46 x26 x28).f2) ((rd_T46 x26 x28).f3) ((rd_T46 x26 x28).f4)).bind fun t113 => (if t113 = 0 then (scramble_Encode.j4 k x7 x8 x26 x27 x28 x107000 x107001 ((rd_T46 x26 x28).f0) ((rd_T46 x26 x28).f1) ((rd_T46 x26 x28).f2) ((rd_T46 x26 x28).f3) ((rd_T46 x26 x28).f4)) else (some (([] : List (S46)), t113)))) else (none)) else (none)
def scramble_Encode.j4 : Nat → Int → List (S46) → List (S46) → Int → Int → Int → Int → Int → Int → Int → ByteArray → Int → Option ((List (S46)) × Int)
 | 0, _, _, _, _, _, _, _, _, _, _, _, _ => none
 | k + 1, x7, x8, x26, x27, x28, x107000, x107001, x113000, x113001, x113002, x113003, x113004 => if x113003.size ≤ 140737488355328 then ((some (bytesOf x113003 : List Int)).bind fun y114 => (scramble_Encode.l1 k x7 x8 y114 x26 x27 x28 (y114.length : Int) 0 x107000 x107001 x113000 x113001 x113002 x113003 x113004)) else (none)
def scramble_Encode.l1 : Nat → Int → List (S46) → List Int → List (S46) → Int → Int → Int → Int → Int → Int → Int → Int → Int → ByteArray → Int → Option ((List (S46)) × Int)
 | 0, _, _, _, _, _, _, _, _, _, _, _, _, _, _, _ => none
 | k + 1, x7, x8, x12, x26, x27, x28, x41, x42, x107000, x107001, x113000, x113001, x113002, x113003, x113004 => if x42 < x41 then (if 0 ≤ x42 then (if x42 < (x12.length : Int) then ((scramble_parity.f k x107000 x107001 x7).bind fun t118 => ((scramble_insert.f x107000 x107001 x7 (Go.bits .xor .i64 (((rd x12 x42) - 48) % 256) t118)).bind fun t119 => (scramble_Encode.l1 k t119 x8 (x12.set (x42 : Int).toNat ((48 + ((Go.bits .xor .i64 (((rd x12 x42) - 48) % 256) t118) % 256)) % 256)) x26 x27 x28 x41 (wrap64 (x42 + 1)) x107000 x107001 x113000 x113001 x113002 x113003 x113004))) else (none)) else (none)) else (if x8.length < 2932031007402 then (scramble_Encode.l0 k x7 (x8 ++ [(⟨x113000, 0, 0, strOfNums x12, 0⟩ : S46)]) x26 x27 (wrap64 (x28 + 1)) x107000 x107001) else (none))
end
def scramble_Encode.f (k : Nat) (a0_0 : Int) (a0_1 : Int) (l1 : List (S46)) : Option ((List (S46)) × Int) := (scramble_Check.f k a0_0 a0_1).bind fun t107 => (if t107 = 0 then (scramble_Encode.j0 k l1 a0_0 a0_1) else (some (([] : List (S46)), t107)))
theorem scramble_Encode.mono_l : ∀ k, (∀ y0 y1 y2, LeO (scramble_Encode.j0 k y0 y1 y2) (scramble_Encode.j0 (k + 1) y0 y1 y2)) ∧ (∀ y0 y1 y2, LeO (scramble_Encode.j1 k y0 y1 y2) (scramble_Encode.j1 (k + 1) y0 y1 y2)) ∧ (∀ y0 y1 y2 y3 y4 y5 y6, LeO (scramble_Encode.l0 k y0 y1 y2 y3 y4 y5 y6) (scramble_Encode.l0 (k + 1) y0 y1 y2 y3 y4 y5 y6)) ∧ (∀ y0 y1 y2 y3 y4 y5 y6, LeO (scramble_Encode.j3 k y0 y1 y2 y3 y4 y5 y6) (scramble_Encode.j3 (k + 1) y0 y1 y2 y3 y4 y5 y6)) ∧ (∀ y0 y1 y2 y3 y4 y5 y6 y7 y8 y9 y10 y11, LeO (scramble_Encode.j4 k y0 y1 y2 y3 y4 y5 y6 y7 y8 y9 y10 y11) (scramble_Encode.j4 (k + 1) y0 y1 y2 y3 y4 y5 y6 y7 y8 y9 y10 y11)) ∧ (∀ y0 y1 y2 y3 y4 y5 y6 y7 y8 y9 y10 y11 y12 y13 y14, LeO (scramble_Encode.l1 k y0 y1 y2 y3 y4 y5 y6 y7 y8 y9 y10 y11 y12 y13 y14) (scramble_Encode.l1 (k + 1) y0 y1 y2 y3 y4 y5 y6 y7 y8 y9 y10 y11 y12 y13 y14))
 | 0 => ⟨fun _ _ _ r h => by simp [scramble_Encode.j0] at h, fun _ _ _ r h => by simp [scramble_Encode.j1] at h, fun _ _ _ _ _ _ _ r h => by simp [scramble_Encode.l0] at h, fun _ _ _ _ _ _ _ r h => by simp [scramble_Encode.j3] at h, fun _ _ _ _ _ _ _ _ _ _ _ _ r h => by simp [scramble_Encode.j4] at h, fun _ _ _ _ _ _ _ _ _ _ _ _ _ _ _ r h => by simp [scramble_Encode.l1] at h⟩
 | k + 1 => by
  obtain ⟨ih0, ih1, ih2, ih3, ih4, ih5⟩ := scramble_Encode.mono_l k
  refine ⟨?_, ?_, ?_, ?_, ?_, ?_⟩
  ·intro y0 y1 y2
   unfold scramble_Encode.j0
   repeat' first
   | (with_reducible exact ih0 _ _ _)
   | (with_reducible exact ih1 _ _ _)
   | (with_reducible exact ih2 _ _ _ _ _ _ _)
   | (with_reducible exact ih3 _ _ _ _ _ _ _)
   | (with_reducible exact ih4 _ _ _ _ _ _ _ _ _ _ _ _)
   | (with_reducible exact ih5 _ _ _ _ _ _ _ _ _ _ _ _ _ _ _)
   | (with_reducible exact scramble_Check.mono _ _ _)
   | (with_reducible exact scramble_check.mono _ _ _ _ _ _)
   | (with_reducible exact scramble_parity.mono _ _ _ _)
   | (with_reducible exact LeO.refl _)
   | (with_reducible exact LeO.none _)
   | (with_reducible refine LeO.ite ?_ ?_)
   | (with_reducible refine LeO.bind ?_ (fun _ => ?_))
   | exact ih0 _ _ _
   | exact ih1 _ _ _
   | exact ih2 _ _ _ _ _ _ _
   | exact ih3 _ _ _ _ _ _ _
   | exact ih4 _ _ _ _ _ _ _ _ _ _ _ _
   | exact ih5 _ _ _ _ _ _ _ _ _ _ _ _ _ _ _
   | exact scramble_Check.mono _ _ _
   | exact scramble_check.mono _ _ _ _ _ _
   | exact scramble_parity.mono _ _ _ _
   | exact LeO.none _
   | refine LeO.ite ?_ ?_
   | refine LeO.bind ?_ (fun _ => ?_)
  ·intro y0 y1 y2
   unfold scramble_Encode.j1
   repeat' first
   | (with_reducible exact ih0 _ _ _)
   | (with_reducible exact ih1 _ _ _)
   | (with_reducible exact ih2 _ _ _ _ _ _ _)
   | (with_reducible exact ih3 _ _ _ _ _ _ _)
   | (with_reducible exact ih4 _ _ _ _ _ _ _ _ _ _ _ _)
   | (with_reducible exact ih5 _ _ _ _ _ _ _ _ _ _ _ _ _ _ _)
   | (with_reducible exact scramble_Check.mono _ _ _)
   | (with_reducible exact scramble_check.mono _ _ _ _ _ _)
   | (with_reducible exact scramble_parity.mono _ _ _ _)
   | (with_reducible exact LeO.refl _)
   | (with_reducible exact LeO.none _)
   | (with_reducible refine LeO.ite ?_ ?_)
   | (with_reducible refine LeO.bind ?_ (fun _ => ?_))
   | exact ih0 _ _ _
   | exact ih1 _ _ _
   | exact ih2 _ _ _ _ _ _ _
   | exact ih3 _ _ _ _ _ _ _
   | exact ih4 _ _ _ _ _ _ _ _ _ _ _ _
   | exact ih5 _ _ _ _ _ _ _ _ _ _ _ _ _ _ _
   | exact scramble_Check.mono _ _ _
   | exact scramble_check.mono _ _ _ _ _ _
   | exact scramble_parity.mono _ _ _ _
   | exact LeO.none _
   | refine LeO.ite ?_ ?_
   | refine LeO.bind ?_ (fun _ => ?_)
  ·intro y0 y1 y2 y3 y4 y5 y6
   unfold scramble_Encode.l0
   repeat' first
   | (with_reducible exact ih0 _ _ _)
   | (with_reducible exact ih1 _ _ _)
   | (with_reducible exact ih2 _ _ _ _ _ _ _)
   | (with_reducible exact ih3 _ _ _ _ _ _ _)
   | (with_reducible exact ih4 _ _ _ _ _ _ _ _ _ _ _ _)
   | (with_reducible exact ih5 _ _ _ _ _ _ _ _ _ _ _ _ _ _ _)
   | (with_reducible exact scramble_Check.mono _ _ _)
   | (with_reducible exact scramble_check.mono _ _ _ _ _ _)
   | (with_reducible exact scramble_parity.mono _ _ _ _)
   | (with_reducible exact LeO.refl _)
   | (with_reducible exact LeO.none _)
   | (with_reducible refine LeO.ite ?_ ?_)
   | (with_reducible refine LeO.bind ?_ (fun _ => ?_))
   | exact ih0 _ _ _
   | exact ih1 _ _ _
   | exact ih2 _ _ _ _ _ _ _
   | exact ih3 _ _ _ _ _ _ _
   | exact ih4 _ _ _ _ _ _ _ _ _ _ _ _
   | exact ih5 _ _ _ _ _ _ _ _ _ _ _ _ _ _ _
   | exact scramble_Check.mono _ _ _
   | exact scramble_check.mono _ _ _ _ _ _
   | exact scramble_parity.mono _ _ _ _
   | exact LeO.none _
   | refine LeO.ite ?_ ?_
   | refine LeO.bind ?_ (fun _ => ?_)
  ·intro y0 y1 y2 y3 y4 y5 y6
   unfold scramble_Encode.j3
   repeat' first
   | (with_reducible exact ih0 _ _ _)
   | (with_reducible exact ih1 _ _ _)
   | (with_reducible exact ih2 _ _ _ _ _ _ _)
   | (with_reducible exact ih3 _ _ _ _ _ _ _)
   | (with_reducible exact ih4 _ _ _ _ _ _ _ _ _ _ _ _)
   | (with_reducible exact ih5 _ _ _ _ _ _ _ _ _ _ _ _ _ _ _)
   | (with_reducible exact scramble_Check.mono _ _ _)
   | (with_reducible exact scramble_check.mono _ _ _ _ _ _)
   | (with_reducible exact scramble_parity.mono _ _ _ _)
   | (with_reducible exact LeO.refl _)
   | (with_reducible exact LeO.none _)
   | (with_reducible refine LeO.ite ?_ ?_)
   | (with_reducible refine LeO.bind ?_ (fun _ => ?_))
   | exact ih0 _ _ _
   | exact ih1 _ _ _
   | exact ih2 _ _ _ _ _ _ _
   | exact ih3 _ _ _ _ _ _ _
   | exact ih4 _ _ _ _ _ _ _ _ _ _ _ _
   | exact ih5 _ _ _ _ _ _ _ _ _ _ _ _ _ _ _
   | exact scramble_Check.mono _ _ _
   | exact scramble_check.mono _ _ _ _ _ _
   | exact scramble_parity.mono _ _ _ _
   | exact LeO.none _
   | refine LeO.ite ?_ ?_
   | refine LeO.bind ?_ (fun _ => ?_)
  ·intro y0 y1 y2 y3 y4 y5 y6 y7 y8 y9 y10 y11
   unfold scramble_Encode.j4
   repeat' first
   | (with_reducible exact ih0 _ _ _)
   | (with_reducible exact ih1 _ _ _)
   | (with_reducible exact ih2 _ _ _ _ _ _ _)
   | (with_reducible exact ih3 _ _ _ _ _ _ _)
   | (with_reducible exact ih4 _ _ _ _ _ _ _ _ _ _ _ _)
   | (with_reducible exact ih5 _ _ _ _ _ _ _ _ _ _ _ _ _ _ _)
   | (with_reducible exact scramble_Check.mono _ _ _)
   | (with_reducible exact scramble_check.mono _ _ _ _ _ _)
   | (with_reducible exact scramble_parity.mono _ _ _ _)
   | (with_reducible exact LeO.refl _)
   | (with_reducible exact LeO.none _)
   | (with_reducible refine LeO.ite ?_ ?_)
   | (with_reducible refine LeO.bind ?_ (fun _ => ?_))
   | exact ih0 _ _ _
   | exact ih1 _ _ _
   | exact ih2 _ _ _ _ _ _ _
   | exact ih3 _ _ _ _ _ _ _
   | exact ih4 _ _ _ _ _ _ _ _ _ _ _ _
   | exact ih5 _ _ _ _ _ _ _ _ _ _ _ _ _ _ _
   | exact scramble_Check.mono _ _ _
   | exact scramble_check.mono _ _ _ _ _ _
   | exact scramble_parity.mono _ _ _ _
   | exact LeO.none _
   | refine LeO.ite ?_ ?_
   | refine LeO.bind ?_ (fun _ => ?_)
  ·intro y0 y1 y2 y3 y4 y5 y6 y7 y8 y9 y10 y11 y12 y13 y14
   unfold scramble_Encode.l1
   repeat' first
   | (with_reducible exact ih0 _ _ _)
   | (with_reducible exact ih1 _ _ _)
   | (with_reducible exact ih2 _ _ _ _ _ _ _)
   | (with_reducible exact ih3 _ _ _ _ _ _ _)
   | (with_reducible exact ih4 _ _ _ _ _ _ _ _ _ _ _ _)
   | (with_reducible exact ih5 _ _ _ _ _ _ _ _ _ _ _ _ _ _ _)
   | (with_reducible exact scramble_Check.mono _ _ _)
   | (with_reducible exact scramble_check.mono _ _ _ _ _ _)
   | (with_reducible exact scramble_parity.mono _ _ _ _)
   | (with_reducible exact LeO.refl _)
   | (with_reducible exact LeO.none _)
   | (with_reducible refine LeO.ite ?_ ?_)
   | (with_reducible refine LeO.bind ?_ (fun _ => ?_))
   | exact ih0 _ _ _
   | exact ih1 _ _ _
   | exact ih2 _ _ _ _ _ _ _
   | exact ih3 _ _ _ _ _ _ _
   | exact ih4 _ _ _ _ _ _ _ _ _ _ _ _
   | exact ih5 _ _ _ _ _ _ _ _ _ _ _ _ _ _ _
   | exact scramble_Check.mono _ _ _
   | exact scramble_check.mono _ _ _ _ _ _
   | exact scramble_parity.mono _ _ _ _
   | exact LeO.none _
   | refine LeO.ite ?_ ?_
   | refine LeO.bind ?_ (fun _ => ?_)
theorem scramble_Encode.mono : ∀ a0 a1 a2 k, LeO (scramble_Encode.f k a0 a1 a2) (scramble_Encode.f (k + 1) a0 a1 a2) := by
 intro a0 a1 a2 k
 obtain ⟨ih0, ih1, ih2, ih3, ih4, ih5⟩ := scramble_Encode.mono_l k
 unfold scramble_Encode.f
 repeat' first
   | (with_reducible exact ih0 _ _ _)
   | (with_reducible exact ih1 _ _ _)
   | (with_reducible exact ih2 _ _ _ _ _ _ _)
   | (with_reducible exact ih3 _ _ _ _ _ _ _)
   | (with_reducible exact ih4 _ _ _ _ _ _ _ _ _ _ _ _)
   | (with_reducible exact ih5 _ _ _ _ _ _ _ _ _ _ _ _ _ _ _)
   | (with_reducible exact scramble_Check.mono _ _ _)
   | (with_reducible exact scramble_check.mono _ _ _ _ _ _)
   | (with_reducible exact scramble_parity.mono _ _ _ _)
   | (with_reducible exact LeO.refl _)
   | (with_reducible exact LeO.none _)
   | (with_reducible refine LeO.ite ?_ ?_)
   | (with_reducible refine LeO.bind ?_ (fun _ => ?_))
   | exact ih0 _ _ _
   | exact ih1 _ _ _
   | exact ih2 _ _ _ _ _ _ _
   | exact ih3 _ _ _ _ _ _ _
   | exact ih4 _ _ _ _ _ _ _ _ _ _ _ _
   | exact ih5 _ _ _ _ _ _ _ _ _ _ _ _ _ _ _
   | exact scramble_Check.mono _ _ _
   | exact scramble_check.mono _ _ _ _ _ _
   | exact scramble_parity.mono _ _ _ _
   | exact LeO.none _
   | refine LeO.ite ?_ ?_
   | refine LeO.bind ?_ (fun _ => ?_)
def scramble_Encode.T18 : Bool × List (List Nat × List Nat) := (true, [([], []), ([], []), ([0, 1], [0, 1]), ([2], [2]), ([3], [3]), ([4], [4]), ([], []), ([], []), ([6, 7], [6, 7]), ([5, 8], [5, 8]), ([9, 8, 0, 1, 2, 3, 4, 5, 6, 7, 8, 9], [9])])
def scramble_Encode.B18 : List Nat := [0, 0, 3, 7, 15, 31, 0, 0, 192, 511, 1023]
theorem scramble_Encode.tab18 : rtab .any (opsOf Try.f13 18) = scramble_Encode.T18 := by kernel_rfl
theorem scramble_Encode.bits18 : waitsOk scramble_Encode.T18.2 scramble_Encode.B18 = true := by kernel_rfl
set_option maxHeartbeats 8000000 in
set_option maxRecDepth 100000 in
theorem scramble_Encode.calls (k : Nat) (a0_0 : Int) (a0_1 : Int) (A1 : Option Addr) (c1 : Nat) (l1 : List (S46)) (r1 : List (S46)) (r2 : Int) (w : World) (hr1 : Kd.C k46 w A1 l1.length l1) (hc1 : l1.length ≤ c1) (h : scramble_Encode.f k a0_0 a0_1 l1 = some (r1, r2)) :
  Calls Try.prog 13 #[.agg #[.int .i64 a0_0, .int .i64 a0_1], .slice A1 l1.length c1] w fun e w' => ∃ v0_ : Value, e = .returned (.tuple #[v0_, .int .i64 r2]) ∧ Kd.R k46 46 w' w.heap.size (fun _ => True) v0_ r1 ∧ Below w.heap.size w w' := by
 have hu23 := Try.underlying23
 have hu46 := Try.underlying46
 have HR1 := Aside0.mk hr1
 have HC1 := Aside0.mk hc1
 clear hr1 hc1
 have HB := Aside0.mk (Below.refl w.heap.size w)
 have H : ((scramble_Check.f k a0_0 a0_1).bind fun t107 => (if t107 = 0 then (scramble_Encode.j0 k l1 a0_0 a0_1) else (some (([] : List (S46)), t107)))) = some (r1, r2) := h
 clear h
 replace H := Option.bind_eq_some_iff.mp H
 obtain ⟨t107, A30, H⟩ := H
 replace H : (if t107 = 0 then (scramble_Encode.j0 k l1 a0_0 a0_1) else (some (([] : List (S46)), t107))) = some (r1, r2) := H
 have A3 := Aside0.mk A30
 clear A30
 have HC4 := Aside0.mk H
 clear H
 go_enter Try.func13, Try.ntmps13
 go_upto_if 18 with (first | ((with_reducible refine gate_dst (N := 2) rfl ?_); refine box_event ?hg (N := 2) ?hd (cs := #[.int .i64 a0_0, .int .i64 a0_1]) (t := 23) ?hr ?_; (case hd => rfl); (case hg => rfl); (case hr => first | (go_simp; done) | (go_simp; rfl)); intro gb106 hg w5 hbox hb; have n0_ := Aside0.mk (below_step (hbw HB.out) hb); have n1_ := Aside0.mk (hbox); have n2_ := Aside0.mk ((by rw [hg]; exact (below_size (hbw HB.out)) : w.heap.size ≤ gb106)); have n3_ := Aside0.mk ((by rw [hg]; exact (below_size (hbw HB.out)) : w.heap.size ≤ gb106)); clear HB; have HB := n0_; have BK106 := n1_; have GW106 := n2_; have GE106 := n3_; clear n0_ n1_ n2_ n3_; clear hb hbox hg; have hcz6_0 : w5.cell? ⟨gb106, 0, none⟩ = some (.int .i64 a0_0) := (blk_cell BK106.out 0).trans rfl; have hcz6_1 : w5.cell? ⟨gb106, 1, none⟩ = some (.int .i64 a0_1) := (blk_cell BK106.out 1).trans rfl; have hfz6_0 := blk_frozen BK106.out 0; have hfz6_1 := blk_frozen BK106.out 1) | ((with_reducible refine gate_callee (f := 9) rfl ?_); refine goesL_ (some 16) rfl rfl Try.func9 (by kernel_rfl) rfl #[.agg #[.int .i64 a0_0, .int .i64 a0_1]] rfl (by (try simp only [List.map_toArray, List.map_cons, List.map_nil]); first | done | rfl | (simp only [List.length_drop, List.length_take]; rfl)) ?_; (with_reducible refine (scramble_Check.calls k a0_0 a0_1 t107 _ A3.out).mono ?_); rintro e w7 ⟨rfl, hb⟩; refine ⟨_, rfl, ?_⟩; have n0_ := Aside0.mk (blkb BK106.out hb); have n1_ := Aside0.mk (below_step (hbw HB.out) hb); clear BK106; clear HB; have BK106 := n0_; have HB := n1_; clear n0_ n1_; (try clear hb); (try clear hb2); (try clear hk); (try clear hi)))
 (try simp only [Act.put, List.setIfInBounds_toArray, List.set_cons_zero, List.set_cons_succ])
 go_cut [] (fun wc => ∃ (kq : Nat), Aside0 (scramble_Encode.j0 kq l1 a0_0 a0_1 = some (r1, r2)) ∧ Aside0 (kq ≤ k) ∧ Aside0 (wc.heap[gb106]? = some (.cells #[.int .i64 a0_0, .int .i64 a0_1] 23 (0, 0))) ∧ Aside0 (Below w.heap.size w wc))
 case first =>
  have H := HC4.out
  clear HC4
  by_cases c8 : t107 = 0
  ·rw [if_pos c8] at H
   have c8b0 : (t107 == 0) = true := beq_iff_eq.mpr c8
   have c8b1 : (t107 != 0) = false := bne_eq_false_iff_eq.mpr c8
   clear c8
   (first | rw [c8b0] | (simp only [i64_w, i32_w]; rw [c8b0]) | skip)
   have H' := Aside0.mk H
   clear H
   go_wp2
   go_meet
   case rel => exact ⟨_, H', ⟨by first | omega | exact Nat.le_refl _⟩, ⟨by (with_reducible repeat (first | refine blk_drewN ?_ _ | refine blk_drew ?_ | refine blk_alloc ?_ _)); exact BK106.out⟩, ⟨by repeat (first | (with_reducible first | exact HB.out | apply below_alloc | apply pw_below_drewN | apply below_drew1 | refine below_set ?_ GE106.out) | exact HB.out)⟩⟩
  ·rw [if_neg c8] at H
   have c8b0 : (t107 == 0) = false := beq_eq_false_iff_ne.mpr c8
   have c8b1 : (t107 != 0) = true := bne_iff_ne.mpr c8
   (first | rw [c8b0] | (simp only [i64_w, i32_w]; rw [c8b0]) | skip)
   simp only [Option.some.injEq, Prod.mk.injEq] at H
   obtain ⟨rfl, rfl⟩ := H
   go_wp2
   go_ret2
   exact ⟨_, by first | rfl | (simp [errW_none, errW_some] <;> rfl) | (simp [*, errW_none, errW_some] <;> rfl), by first | exact Kd.R_nil _ _ _ _ _ | exact Kd.N_nil _ _ _ _ _ | exact Kd.V_nil _ _ _ _ _ | exact Kd.Q_nil _ _ _ _ _ | exact Kd.S_nil _ _ _ _ _, by repeat (first | (with_reducible first | exact HB.out | apply below_alloc | apply pw_below_drewN | apply below_drew1 | refine below_set ?_ GE106.out) | exact HB.out)⟩
 case rest =>
  clear HC4
  try clear c1
  try clear p2
  try clear c8
  try clear c8b0
  try clear c8b1
  try clear hcz6_0
  try clear hcz6_1
  try clear hfz6_0
  try clear hfz6_1
  obtain ⟨kq, HA, HJ3, BK106, HB⟩ := hcut
  cases kq with
  | zero => exact absurd HA.out (by simp [scramble_Encode.j0])
  | succ kj3 =>
   have H := HA.out
   clear HA
   simp only [scramble_Encode.j0] at H
   have HC9 := Aside0.mk H
   clear H
   go_upto_if 22 with (fail)
   go_cut [] (fun wc => ∃ (kq : Nat), Aside0 (scramble_Encode.j1 kq l1 a0_0 a0_1 = some (r1, r2)) ∧ Aside0 (kq ≤ kj3) ∧ Aside0 (wc.heap[gb106]? = some (.cells #[.int .i64 a0_0, .int .i64 a0_1] 23 (0, 0))) ∧ Aside0 (Below w.heap.size w wc))
   case first =>
    have H := HC9.out
    clear HC9
    by_cases c10 : (l1.length : Int) > 1024
    ·rw [if_pos c10] at H
     have c10b0 : decide (1024 < (l1.length : Int)) = true := decide_eq_true c10
     have c10b1 : decide (1024 < l1.length) = true := decide_eq_true (by omega)
     clear c10
     (first | rw [c10b0] | (simp only [i64_w, i32_w]; rw [c10b0]) | skip)
     simp only [Option.some.injEq, Prod.mk.injEq] at H
     obtain ⟨rfl, rfl⟩ := H
     go_wp2
     go_ret2
     exact ⟨_, by first | rfl | (simp [errW_none, errW_some] <;> rfl) | (simp [*, errW_none, errW_some] <;> rfl), by first | exact Kd.R_nil _ _ _ _ _ | exact Kd.N_nil _ _ _ _ _ | exact Kd.V_nil _ _ _ _ _ | exact Kd.Q_nil _ _ _ _ _ | exact Kd.S_nil _ _ _ _ _, by repeat (first | (with_reducible first | exact HB.out | apply below_alloc | apply pw_below_drewN | apply below_drew1 | refine below_set ?_ GE106.out) | exact HB.out)⟩
    ·rw [if_neg c10] at H
     have c10b0 : decide (1024 < (l1.length : Int)) = false := decide_eq_false c10
     have c10b1 : decide (1024 < l1.length) = false := decide_eq_false (by omega)
     clear c10
     (first | rw [c10b0] | (simp only [i64_w, i32_w]; rw [c10b0]) | skip)
     have H' := Aside0.mk H
     clear H
     go_wp2
     go_meet
     case rel => exact ⟨_, H', ⟨by have := HJ3.out; first | omega | exact Nat.le_refl _⟩, ⟨by (with_reducible repeat (first | refine blk_drewN ?_ _ | refine blk_drew ?_ | refine blk_alloc ?_ _)); exact BK106.out⟩, ⟨by repeat (first | (with_reducible first | exact HB.out | apply below_alloc | apply pw_below_drewN | apply below_drew1 | refine below_set ?_ GE106.out) | exact HB.out)⟩⟩
   case rest =>
    clear HC9
    try clear c1
    try clear p2
    try clear c8
    try clear c8b0
    try clear c8b1
    try clear c9
    try clear c10
    try clear c10b0
    try clear c10b1
    try clear hcz6_0
    try clear hcz6_1
    try clear hfz6_0
    try clear hfz6_1
    try clear p2
    obtain ⟨kq, HA, HJ8, BK106, HB⟩ := hcut
    cases kq with
    | zero => exact absurd HA.out (by simp [scramble_Encode.j1])
    | succ kj8 =>
     have H := HA.out
     clear HA
     simp only [scramble_Encode.j1] at H
     by_cases c11 : 0 ≤ (l1.length : Int)
     ·rw [if_pos c11] at H
      have c11b0 := eq_true c11
      have c11b1 : decide (0 ≤ (l1.length : Int)) = true := decide_eq_true c11
      clear c11
      by_cases c12 : ((l1.length : Int) : Int).toNat ≤ 5864062014805
      ·rw [if_pos c12] at H
       have c12b0 := eq_true c12
       have c12b1 : decide (((l1.length : Int) : Int).toNat ≤ 5864062014805) = true := decide_eq_true c12
       clear c12
       obtain ⟨y108, hy108⟩ : ∃ y_ : List (S46), y_ = (List.replicate 0 z46) := ⟨_, rfl⟩
       replace H : (scramble_Encode.l0 kj8 0 y108 l1 (l1.length : Int) 0 a0_0 a0_1) = some (r1, r2) := by first | (rw [hy108]; with_reducible exact H) | (have H2_ := (Option.bind_some _ _).symm.trans H; rw [hy108]; with_reducible exact H2_) | (have H2_ := (Option.bind_some _ _).symm.trans H; with_reducible exact H2_) | with_reducible exact H | (rw [hy108]; exact H) | exact H
       have Ny108 := Aside0.mk hy108
       clear hy108
       have H' := Aside0.mk H
       clear H
       go_wp2_with (first | ((with_reducible refine gate_dst (N := 25) rfl ?_); refine Kd.R_makeC k46 _ 46 rfl (N := 25) rfl 34 _ _ rfl 0 (l1.length : Int) rfl rfl Try.underlying34 (.agg #[(.int .i64 0), (.int .i64 0), (.int .i64 0), (.string ⟨#[]⟩), (.int .i64 0)]) 48 info46 rfl (by decide) (by omega) z46 (ok := fun _ => True) (okp := fun _ => True) (k46_mkM _ _ _ z46 ) (fun _ hk => hk) trivial (Int.le_refl 0) (of_decide_eq_true (by first | (with_reducible assumption) | assumption)) (Nat.le_trans (Nat.mul_le_mul_right _ (of_decide_eq_true (by first | (with_reducible assumption) | assumption) : (l1.length : Int).toNat ≤ 5864062014805)) (by omega)) (Below.refl _ _) (Nat.le_refl _) ?_; intro v109 w13 ho14 hb hg_ hnew_; clear hg_ hnew_; (first | rw [← Ny108.out] at ho14 | (simp only [Int.reduceToNat] at ho14; rw [← Ny108.out] at ho14)); have n0_ := Aside0.mk (Kd.R_lower ho14 (below_size (hbw HB.out))); have n1_ := Aside0.mk (blkb BK106.out hb); have n2_ := Aside0.mk (below_step (hbw HB.out) hb); clear BK106; clear HB; have HO110 := n0_; have BK106 := n1_; have HB := n2_; clear n0_ n1_ n2_; clear hb ho14))
       go_loopg [7, 8, 28] kj8 (fun kq v7 v8 v28 w' => ∃ (x7_3 : Int) (x8_3 : List (S46)) (x28_3 : Int), v7 = .int .i64 x7_3 ∧ v28 = .int .i64 x28_3 ∧ Aside0 (scramble_Encode.l0 kq x7_3 x8_3 l1 (l1.length : Int) x28_3 a0_0 a0_1 = some (r1, r2)) ∧ Aside0 (kq ≤ kj8) ∧ Aside0 (Kd.R k46 46 w' w.heap.size (fun _ => True) v8 x8_3) ∧ Aside0 (w'.heap[gb106]? = some (.cells #[.int .i64 a0_0, .int .i64 a0_1] 23 (0, 0))) ∧ Aside0 (Below w.heap.size w w'))
       case atStart => exact ⟨(0), (y108), (0), (by first | rfl | (simp; done) | (simp [*]; done)), (by first | rfl | (simp; done) | (simp [*]; done)), H', ⟨Nat.le_refl _⟩, ⟨by (with_reducible repeat (first | apply Kd.R_alloc | apply Kd.R_drewN | apply Kd.R_drew)); exact HO110.out⟩, ⟨by (with_reducible repeat (first | refine blk_drewN ?_ _ | refine blk_drew ?_ | refine blk_alloc ?_ _)); exact BK106.out⟩, ⟨by repeat (first | (with_reducible first | exact HB.out | apply below_alloc | apply pw_below_drewN | apply below_drew1 | refine below_set ?_ GE106.out) | exact HB.out)⟩⟩
       case round =>
        clear H'
        try clear c1
        try clear p2
        try clear c8
        try clear c8b0
        try clear c8b1
        try clear c9
        try clear c10
        try clear c10b0
        try clear c10b1
        try clear c11
        try clear c11b0
        try clear c11b1
        try clear c12
        try clear c12b0
        try clear c12b1
        try clear c13
        try clear hcz6_0
        try clear hcz6_1
        try clear hfz6_0
        try clear hfz6_1
        try clear p2
        obtain ⟨x7_3, x8_3, x28_3, rfl, rfl, HA, HK3, HO_8, BK106, HB⟩ := hrel
        cases gk with
        | zero => exact absurd HA.out (by simp [scramble_Encode.l0])
        | succ k3 =>
         have H := HA.out
         clear HA
         simp only [scramble_Encode.l0] at H
         have HC15 := Aside0.mk H
         clear H
         go_upto_if 29 with (fail)
         go_cut [] (fun wc => ∃ (kq : Nat), Aside0 (scramble_Encode.j3 kq x7_3 x8_3 l1 (l1.length : Int) x28_3 a0_0 a0_1 = some (r1, r2)) ∧ Aside0 (kq ≤ k3) ∧ Aside0 (Kd.R k46 46 wc w.heap.size (fun _ => True) u8 x8_3) ∧ Aside0 (wc.heap[gb106]? = some (.cells #[.int .i64 a0_0, .int .i64 a0_1] 23 (0, 0))) ∧ Aside0 (Below w.heap.size w wc))
         case first =>
          have H := HC15.out
          clear HC15
          by_cases c16 : x28_3 < (l1.length : Int)
          ·rw [if_pos c16] at H
           have c16b0 : decide (x28_3 < (l1.length : Int)) = true := decide_eq_true c16
           clear c16
           (first | rw [c16b0] | (simp only [i64_w, i32_w]; rw [c16b0]) | skip)
           have H' := Aside0.mk H
           clear H
           go_wp2
           go_meet
           case rel => exact ⟨_, H', ⟨by have := HJ3.out; have := HJ8.out; have := HK3.out; first | omega | exact Nat.le_refl _⟩, ⟨by (with_reducible repeat (first | apply Kd.R_alloc | apply Kd.R_drewN | apply Kd.R_drew)); exact HO_8.out⟩, ⟨by (with_reducible repeat (first | refine blk_drewN ?_ _ | refine blk_drew ?_ | refine blk_alloc ?_ _)); exact BK106.out⟩, ⟨by repeat (first | (with_reducible first | exact HB.out | apply below_alloc | apply pw_below_drewN | apply below_drew1 | refine below_set ?_ GE106.out) | exact HB.out)⟩⟩
          ·rw [if_neg c16] at H
           have c16b0 : decide (x28_3 < (l1.length : Int)) = false := decide_eq_false c16
           clear c16
           (first | rw [c16b0] | (simp only [i64_w, i32_w]; rw [c16b0]) | skip)
           simp only [Option.some.injEq, Prod.mk.injEq] at H
           obtain ⟨rfl, rfl⟩ := H
           go_wp2
           go_ret2
           exact ⟨_, by first | rfl | (simp [errW_none, errW_some] <;> rfl) | (simp [*, errW_none, errW_some] <;> rfl), by (with_reducible repeat (first | apply Kd.R_alloc | apply Kd.R_drewN | apply Kd.R_drew)); exact HO_8.out, by repeat (first | (with_reducible first | exact HB.out | apply below_alloc | apply pw_below_drewN | apply below_drew1 | refine below_set ?_ GE106.out) | exact HB.out)⟩
         case rest =>
          clear HC15
          try clear c1
          try clear p2
          try clear c8
          try clear c8b0
          try clear c8b1
          try clear c9
          try clear c10
          try clear c10b0
          try clear c10b1
          try clear c11
          try clear c11b0
          try clear c11b1
          try clear c12
          try clear c12b0
          try clear c12b1
          try clear c13
          try clear c16
          try clear c16b0
          try clear hcz6_0
          try clear hcz6_1
          try clear hfz6_0
          try clear hfz6_1
          try clear p2
          obtain ⟨kq, HA, HJ14, HO_8, BK106, HB⟩ := hcut
          cases kq with
          | zero => exact absurd HA.out (by simp [scramble_Encode.j3])
          | succ kj14 =>
           have H := HA.out
           clear HA
           simp only [scramble_Encode.j3] at H
           by_cases c17 : 0 ≤ x28_3
           ·rw [if_pos c17] at H
            have c17b0 : decide (0 ≤ x28_3) = true := decide_eq_true c17
            clear c17
            by_cases c18 : x28_3 < (l1.length : Int)
            ·rw [if_pos c18] at H
             have c18b0 : decide (x28_3 < (l1.length : Int)) = true := decide_eq_true c18
             clear c18
             replace H := Option.bind_eq_some_iff.mp H
             obtain ⟨t113, A190, H⟩ := H
             replace H : (if t113 = 0 then (scramble_Encode.j4 kj14 x7_3 x8_3 l1 (l1.length : Int) x28_3 a0_0 a0_1 ((rd_T46 l1 x28_3).f0) ((rd_T46 l1 x28_3).f1) ((rd_T46 l1 x28_3).f2) ((rd_T46 l1 x28_3).f3) ((rd_T46 l1 x28_3).f4)) else (some (([] : List (S46)), t113))) = some (r1, r2) := H
             have A19 := Aside0.mk A190
             clear A190
             have HC20 := Aside0.mk H
             clear H
             have p111 : 0 ≤ (x28_3 : Int) := of_decide_eq_true (by first | (with_reducible assumption) | assumption)
             have q111 : x28_3 < (l1.length : Int) := of_decide_eq_true (by first | (with_reducible assumption) | assumption)
             obtain ⟨ad111, e111, hx111_0, hx111_1, hx111_2, hx111_3, hx111_4⟩ := at_T46 HR1.out x28_3 p111 q111
             cases e111
             replace hx111_0 := (HB.out.cell (World.block_lt_of_cell? w _ hx111_0)).trans hx111_0
             replace hx111_1 := (HB.out.cell (World.block_lt_of_cell? w _ hx111_1)).trans hx111_1
             replace hx111_2 := (HB.out.cell (World.block_lt_of_cell? w _ hx111_2)).trans hx111_2
             replace hx111_3 := (HB.out.cell (World.block_lt_of_cell? w _ hx111_3)).trans hx111_3
             replace hx111_4 := (HB.out.cell (World.block_lt_of_cell? w _ hx111_4)).trans hx111_4
             replace p111 := eq_true p111
             replace q111 := eq_true q111
             go_upto_if 35 with (first | ((with_reducible refine gate_dst (N := 10) rfl ?_); refine box_event ?hg (N := 10) ?hd (cs := #[.int .i64 0, .int .i64 0, .int .i64 0, .string (⟨#[]⟩ : ByteArray), .int .i64 0]) (t := 46) ?hr ?_; (case hd => rfl); (case hg => rfl); (case hr => first | (go_simp; done) | (go_simp; rfl)); intro gb112 hg w21 hbox hb; have n0_ := Aside0.mk (Kd.R_below (Kd.R_elderB (rkw HO_8.out) gb112 (Nat.le_of_eq hg.symm)) hb); have n1_ := Aside0.mk (blkb BK106.out hb); have n2_ := Aside0.mk (below_step (hbw HB.out) hb); have n3_ := Aside0.mk (hbox); have n4_ := Aside0.mk ((by rw [hg]; exact (below_size (hbw HB.out)) : w.heap.size ≤ gb112)); have n5_ := Aside0.mk ((by rw [hg]; exact (below_size (hbw HB.out)) : w.heap.size ≤ gb112)); have n6_ := Aside0.mk ((by rw [hg]; exact Nat.ne_of_lt (blkl BK106.out) : gb106 ≠ gb112)); have n7_ := Aside0.mk ((by rw [hg]; exact Nat.ne_of_gt (blkl BK106.out) : gb112 ≠ gb106)); clear HO_8; clear BK106; clear HB; have HO_8 := n0_; have BK106 := n1_; have HB := n2_; have BK112 := n3_; have GW112 := n4_; have GE112 := n5_; have NB106_112 := n6_; have NB112_106 := n7_; clear n0_ n1_ n2_ n3_ n4_ n5_ n6_ n7_; clear hb hbox hg; have hnb22 := NB112_106.out; have hnc22 := NB106_112.out; have hcz23_0 : w21.cell? ⟨gb112, 0, none⟩ = some (.int .i64 0) := (blk_cell BK112.out 0).trans rfl; have hcz23_1 : w21.cell? ⟨gb112, 1, none⟩ = some (.int .i64 0) := (blk_cell BK112.out 1).trans rfl; have hcz23_2 : w21.cell? ⟨gb112, 2, none⟩ = some (.int .i64 0) := (blk_cell BK112.out 2).trans rfl; have hcz23_3 : w21.cell? ⟨gb112, 3, none⟩ = some (.string (⟨#[]⟩ : ByteArray)) := (blk_cell BK112.out 3).trans rfl; have hcz23_4 : w21.cell? ⟨gb112, 4, none⟩ = some (.int .i64 0) := (blk_cell BK112.out 4).trans rfl; have hfz23_0 := blk_frozen BK112.out 0; have hfz23_1 := blk_frozen BK112.out 1; have hfz23_2 := blk_frozen BK112.out 2; have hfz23_3 := blk_frozen BK112.out 3; have hfz23_4 := blk_frozen BK112.out 4) | ((with_reducible refine gate_callee (f := 31) rfl ?_); refine goesL_ (some 33) rfl rfl Try.func31 (by kernel_rfl) rfl #[.agg #[.int .i64 ((rd_T46 l1 x28_3).f0), .int .i64 ((rd_T46 l1 x28_3).f1), .int .i64 ((rd_T46 l1 x28_3).f2), .string ((rd_T46 l1 x28_3).f3), .int .i64 ((rd_T46 l1 x28_3).f4)]] rfl (by (try simp only [List.map_toArray, List.map_cons, List.map_nil]); first | done | rfl | (simp only [List.length_drop, List.length_take]; rfl)) ?_; (with_reducible refine (scramble_check.calls kj14 ((rd_T46 l1 x28_3).f0) ((rd_T46 l1 x28_3).f1) ((rd_T46 l1 x28_3).f2) ((rd_T46 l1 x28_3).f3) ((rd_T46 l1 x28_3).f4) t113 _ A19.out).mono ?_); rintro e w24 ⟨rfl, hb⟩; refine ⟨_, rfl, ?_⟩; have n0_ := Aside0.mk (Kd.R_below (by (with_reducible repeat (first | apply Kd.R_alloc | apply Kd.R_drewN | apply Kd.R_drew)); exact (Kd.R_mono (Kd.R_far (p := ⟨gb112, 4, none⟩) (Kd.R_far (p := ⟨gb112, 3, none⟩) (Kd.R_far (p := ⟨gb112, 2, none⟩) (Kd.R_far (p := ⟨gb112, 1, none⟩) (Kd.R_far (p := ⟨gb112, 0, none⟩) (Kd.R_mono HO_8.out (fun k_ hk => (⟨hk, hk.2⟩ : _ ∧ k_ ≠ gb112))) (fun _ hk => hk.2) (.int .i64 ((rd_T46 l1 x28_3).f0))) (fun _ hk => hk.2) (.int .i64 ((rd_T46 l1 x28_3).f1))) (fun _ hk => hk.2) (.int .i64 ((rd_T46 l1 x28_3).f2))) (fun _ hk => hk.2) (.string ((rd_T46 l1 x28_3).f3))) (fun _ hk => hk.2) (.int .i64 ((rd_T46 l1 x28_3).f4))) (fun _ h_ => h_.1))) hb); have n1_ := Aside0.mk (blk_below (g := gb106) (o := .cells #[.int .i64 a0_0, .int .i64 a0_1] 23 (0, 0)) (by (with_reducible repeat (first | refine blk_drewN ?_ _ | refine blk_drew ?_ | refine blk_alloc ?_ _)); refine blk_far ?_ NB106_112.out _; (with_reducible repeat (first | refine blk_drewN ?_ _ | refine blk_drew ?_ | refine blk_alloc ?_ _)); refine blk_far ?_ NB106_112.out _; (with_reducible repeat (first | refine blk_drewN ?_ _ | refine blk_drew ?_ | refine blk_alloc ?_ _)); refine blk_far ?_ NB106_112.out _; (with_reducible repeat (first | refine blk_drewN ?_ _ | refine blk_drew ?_ | refine blk_alloc ?_ _)); refine blk_far ?_ NB106_112.out _; (with_reducible repeat (first | refine blk_drewN ?_ _ | refine blk_drew ?_ | refine blk_alloc ?_ _)); refine blk_far ?_ NB106_112.out _; (with_reducible repeat (first | refine blk_drewN ?_ _ | refine blk_drew ?_ | refine blk_alloc ?_ _)); exact BK106.out) hb); have n2_ := Aside0.mk (blk_below (g := gb112) (o := .cells #[.int .i64 ((rd_T46 l1 x28_3).f0), .int .i64 ((rd_T46 l1 x28_3).f1), .int .i64 ((rd_T46 l1 x28_3).f2), .string ((rd_T46 l1 x28_3).f3), .int .i64 ((rd_T46 l1 x28_3).f4)] 46 (0, 0)) (by (with_reducible repeat (first | refine blk_drewN ?_ _ | refine blk_drew ?_ | refine blk_alloc ?_ _)); refine blk_put (cs := #[.int .i64 ((rd_T46 l1 x28_3).f0), .int .i64 ((rd_T46 l1 x28_3).f1), .int .i64 ((rd_T46 l1 x28_3).f2), .string ((rd_T46 l1 x28_3).f3), .int .i64 0]) ?_ 4 _ rfl; (with_reducible repeat (first | refine blk_drewN ?_ _ | refine blk_drew ?_ | refine blk_alloc ?_ _)); refine blk_put (cs := #[.int .i64 ((rd_T46 l1 x28_3).f0), .int .i64 ((rd_T46 l1 x28_3).f1), .int .i64 ((rd_T46 l1 x28_3).f2), .string (⟨#[]⟩ : ByteArray), .int .i64 0]) ?_ 3 _ rfl; (with_reducible repeat (first | refine blk_drewN ?_ _ | refine blk_drew ?_ | refine blk_alloc ?_ _)); refine blk_put (cs := #[.int .i64 ((rd_T46 l1 x28_3).f0), .int .i64 ((rd_T46 l1 x28_3).f1), .int .i64 0, .string (⟨#[]⟩ : ByteArray), .int .i64 0]) ?_ 2 _ rfl; (with_reducible repeat (first | refine blk_drewN ?_ _ | refine blk_drew ?_ | refine blk_alloc ?_ _)); refine blk_put (cs := #[.int .i64 ((rd_T46 l1 x28_3).f0), .int .i64 0, .int .i64 0, .string (⟨#[]⟩ : ByteArray), .int .i64 0]) ?_ 1 _ rfl; (with_reducible repeat (first | refine blk_drewN ?_ _ | refine blk_drew ?_ | refine blk_alloc ?_ _)); refine blk_put (cs := #[.int .i64 0, .int .i64 0, .int .i64 0, .string (⟨#[]⟩ : ByteArray), .int .i64 0]) ?_ 0 _ rfl; (with_reducible repeat (first | refine blk_drewN ?_ _ | refine blk_drew ?_ | refine blk_alloc ?_ _)); exact BK112.out) hb); have n3_ := Aside0.mk (below_step (hbw HB.out) hb); clear HO_8; clear BK106; clear BK112; clear HB; have HO_8 := n0_; have BK106 := n1_; have BK112 := n2_; have HB := n3_; clear n0_ n1_ n2_ n3_; (try clear hb); (try clear hb2); (try clear hk); (try clear hi)))
             (try simp only [Act.put, List.setIfInBounds_toArray, List.set_cons_zero, List.set_cons_succ])
             go_cut [] (fun wc => ∃ (kq : Nat), Aside0 (scramble_Encode.j4 kq x7_3 x8_3 l1 (l1.length : Int) x28_3 a0_0 a0_1 ((rd_T46 l1 x28_3).f0) ((rd_T46 l1 x28_3).f1) ((rd_T46 l1 x28_3).f2) ((rd_T46 l1 x28_3).f3) ((rd_T46 l1 x28_3).f4) = some (r1, r2)) ∧ Aside0 (kq ≤ kj14) ∧ Aside0 (Kd.R k46 46 wc w.heap.size (fun k_ => k_ ≠ gb112) u8 x8_3) ∧ Aside0 (wc.heap[gb106]? = some (.cells #[.int .i64 a0_0, .int .i64 a0_1] 23 (0, 0))) ∧ Aside0 (wc.heap[gb112]? = some (.cells #[.int .i64 ((rd_T46 l1 x28_3).f0), .int .i64 ((rd_T46 l1 x28_3).f1), .int .i64 ((rd_T46 l1 x28_3).f2), .string ((rd_T46 l1 x28_3).f3), .int .i64 ((rd_T46 l1 x28_3).f4)] 46 (0, 0))) ∧ Aside0 (Below w.heap.size w wc))
             case first =>
              have H := HC20.out
              clear HC20
              by_cases c25 : t113 = 0
              ·rw [if_pos c25] at H
               have c25b0 : (t113 == 0) = true := beq_iff_eq.mpr c25
               have c25b1 : (t113 != 0) = false := bne_eq_false_iff_eq.mpr c25
               clear c25
               (first | rw [c25b0] | (simp only [i64_w, i32_w]; rw [c25b0]) | skip)
               have H' := Aside0.mk H
               clear H
               go_wp2
               go_meet
               case rel => exact ⟨_, H', ⟨by have := HJ3.out; have := HJ8.out; have := HK3.out; have := HJ14.out; first | omega | exact Nat.le_refl _⟩, ⟨by (with_reducible repeat (first | apply Kd.R_alloc | apply Kd.R_drewN | apply Kd.R_drew)); exact Kd.R_mono HO_8.out (fun _ hk => hk.2)⟩, ⟨by (with_reducible repeat (first | refine blk_drewN ?_ _ | refine blk_drew ?_ | refine blk_alloc ?_ _)); exact BK106.out⟩, ⟨by (with_reducible repeat (first | refine blk_drewN ?_ _ | refine blk_drew ?_ | refine blk_alloc ?_ _)); exact BK112.out⟩, ⟨by repeat (first | (with_reducible first | exact HB.out | apply below_alloc | apply pw_below_drewN | apply below_drew1 | refine below_set ?_ GE106.out | refine below_set ?_ GE112.out) | exact HB.out)⟩⟩
              ·rw [if_neg c25] at H
               have c25b0 : (t113 == 0) = false := beq_eq_false_iff_ne.mpr c25
               have c25b1 : (t113 != 0) = true := bne_iff_ne.mpr c25
               (first | rw [c25b0] | (simp only [i64_w, i32_w]; rw [c25b0]) | skip)
               simp only [Option.some.injEq, Prod.mk.injEq] at H
               obtain ⟨rfl, rfl⟩ := H
               go_wp2
               go_ret2
               exact ⟨_, by first | rfl | (simp [errW_none, errW_some] <;> rfl) | (simp [*, errW_none, errW_some] <;> rfl), by first | exact Kd.R_nil _ _ _ _ _ | exact Kd.N_nil _ _ _ _ _ | exact Kd.V_nil _ _ _ _ _ | exact Kd.Q_nil _ _ _ _ _ | exact Kd.S_nil _ _ _ _ _, by repeat (first | (with_reducible first | exact HB.out | apply below_alloc | apply pw_below_drewN | apply below_drew1 | refine below_set ?_ GE106.out | refine below_set ?_ GE112.out) | exact HB.out)⟩
             case rest =>
              clear HC20
              try clear c1
              try clear p1
              try clear q1
              try clear hx1
              try clear c2
              try clear p2
              try clear c3
              try clear c8
              try clear c8b0
              try clear c8b1
              try clear c9
              try clear c10
              try clear c10b0
              try clear c10b1
              try clear c11
              try clear c11b0
              try clear c11b1
              try clear p11
              try clear q11
              try clear hx11
              try clear c12
              try clear c12b0
              try clear c12b1
              try clear c13
              try clear c16
              try clear c16b0
              try clear c17
              try clear c17b0
              try clear c18
              try clear c18b0
              try clear c22
              try clear c25
              try clear c25b0
              try clear c25b1
              try clear hcz23_0
              try clear hcz23_1
              try clear hcz23_2
              try clear hcz23_3
              try clear hcz23_4
              try clear hcz6_0
              try clear hcz6_1
              try clear hfz23_0
              try clear hfz23_1
              try clear hfz23_2
              try clear hfz23_3
              try clear hfz23_4
              try clear hfz6_0
              try clear hfz6_1
              try clear hx111_0
              try clear hx111_1
              try clear hx111_2
              try clear hx111_3
              try clear hx111_4
              try clear p111
              try clear p2
              try clear q111
              obtain ⟨kq, HA, HJ19, HO_8, BK106, BK112, HB⟩ := hcut
              cases kq with
              | zero => exact absurd HA.out (by simp [scramble_Encode.j4])
              | succ kj19 =>
               have H := HA.out
               clear HA
               simp only [scramble_Encode.j4] at H
               by_cases c26 : ((rd_T46 l1 x28_3).f3).size ≤ 140737488355328
               ·rw [if_pos c26] at H
                have c26b0 := eq_true c26
                have c26b1 : decide (((rd_T46 l1 x28_3).f3).size ≤ 140737488355328) = true := decide_eq_true c26
                clear c26
                obtain ⟨y114, hy114⟩ : ∃ y_ : List Int, y_ = (bytesOf ((rd_T46 l1 x28_3).f3)) := ⟨_, rfl⟩
                replace H : (scramble_Encode.l1 kj19 x7_3 x8_3 y114 l1 (l1.length : Int) x28_3 (y114.length : Int) 0 a0_0 a0_1 ((rd_T46 l1 x28_3).f0) ((rd_T46 l1 x28_3).f1) ((rd_T46 l1 x28_3).f2) ((rd_T46 l1 x28_3).f3) ((rd_T46 l1 x28_3).f4)) = some (r1, r2) := by first | (rw [hy114]; with_reducible exact H) | (have H2_ := (Option.bind_some _ _).symm.trans H; rw [hy114]; with_reducible exact H2_) | (have H2_ := (Option.bind_some _ _).symm.trans H; with_reducible exact H2_) | with_reducible exact H | (rw [hy114]; exact H) | exact H
                have Ny114 := Aside0.mk hy114
                clear hy114
                have H' := Aside0.mk H
                clear H
                have hnb27 := NB112_106.out
                have hnc27 := NB106_112.out
                have hcz28_0 : wc.cell? ⟨gb112, 0, none⟩ = some (.int .i64 ((rd_T46 l1 x28_3).f0)) := (blk_cell BK112.out 0).trans rfl
                have hcz28_1 : wc.cell? ⟨gb112, 1, none⟩ = some (.int .i64 ((rd_T46 l1 x28_3).f1)) := (blk_cell BK112.out 1).trans rfl
                have hcz28_2 : wc.cell? ⟨gb112, 2, none⟩ = some (.int .i64 ((rd_T46 l1 x28_3).f2)) := (blk_cell BK112.out 2).trans rfl
                have hcz28_3 : wc.cell? ⟨gb112, 3, none⟩ = some (.string ((rd_T46 l1 x28_3).f3)) := (blk_cell BK112.out 3).trans rfl
                have hcz28_4 : wc.cell? ⟨gb112, 4, none⟩ = some (.int .i64 ((rd_T46 l1 x28_3).f4)) := (blk_cell BK112.out 4).trans rfl
                have hfz28_0 := blk_frozen BK112.out 0
                have hfz28_1 := blk_frozen BK112.out 1
                have hfz28_2 := blk_frozen BK112.out 2
                have hfz28_3 := blk_frozen BK112.out 3
                have hfz28_4 := blk_frozen BK112.out 4
                go_wp2_with (first | ((with_reducible refine gate_dst (N := 39) rfl ?_); refine Kd.B_conv _ 5 rfl (N := 39) rfl 9 51 _ rfl ((rd_T46 l1 x28_3).f3) rfl Try.underlying9 Try.underlying51 Try.underlying5 (of_decide_eq_true (by first | (with_reducible assumption) | assumption)) (ok := fun _ => True) trivial (Below.refl _ _) (Nat.le_refl _) ?_; intro v115 w29 ho30 hb hg_ hnew_; clear hg_ hnew_; (first | rw [← Ny114.out] at ho30 | (simp only [Int.reduceToNat] at ho30; rw [← Ny114.out] at ho30)); have n0_ := Aside0.mk (Kd.R_below (rkw HO_8.out) hb); have n1_ := Aside0.mk (Kd.B_lower ho30 (below_size (hbw HB.out))); have n2_ := Aside0.mk (blkb BK106.out hb); have n3_ := Aside0.mk (blkb BK112.out hb); have n4_ := Aside0.mk (below_step (hbw HB.out) hb); clear HO_8; clear BK106; clear BK112; clear HB; have HO_8 := n0_; have HO116 := n1_; have BK106 := n2_; have BK112 := n3_; have HB := n4_; clear n0_ n1_ n2_ n3_ n4_; clear hb ho30; obtain ⟨Ao31, co31, eo31⟩ := Kd.B_slice HO116.out; subst eo31))
                go_loopg [7, 42] kj19 (fun kq v7 v42 w' => ∃ (x7_6 : Int) (x12_6 : List Int) (x42_6 : Int), v7 = .int .i64 x7_6 ∧ v42 = .int .i64 x42_6 ∧ Aside0 (scramble_Encode.l1 kq x7_6 x8_3 x12_6 l1 (l1.length : Int) x28_3 (y114.length : Int) x42_6 a0_0 a0_1 ((rd_T46 l1 x28_3).f0) ((rd_T46 l1 x28_3).f1) ((rd_T46 l1 x28_3).f2) ((rd_T46 l1 x28_3).f3) ((rd_T46 l1 x28_3).f4) = some (r1, r2)) ∧ Aside0 (kq ≤ kj19) ∧ Aside0 (Kd.R k46 46 w' w.heap.size (fun k_ => k_ ≠ gb112) u8 x8_3) ∧ Aside0 (Kd.B (Kd.int .u8) 5 w' w.heap.size (fun _ => True) (.slice Ao31 y114.length co31) x12_6) ∧ Aside0 (w'.heap[gb106]? = some (.cells #[.int .i64 a0_0, .int .i64 a0_1] 23 (0, 0))) ∧ Aside0 (w'.heap[gb112]? = some (.cells #[.int .i64 ((rd_T46 l1 x28_3).f0), .int .i64 ((rd_T46 l1 x28_3).f1), .int .i64 ((rd_T46 l1 x28_3).f2), .string ((rd_T46 l1 x28_3).f3), .int .i64 ((rd_T46 l1 x28_3).f4)] 46 (0, 0))) ∧ Aside0 (Below w.heap.size w w'))
                case atStart => exact ⟨(x7_3), (y114), (0), (by first | rfl | (simp; done) | (simp [*]; done)), (by first | rfl | (simp; done) | (simp [*]; done)), H', ⟨Nat.le_refl _⟩, ⟨by (with_reducible repeat (first | apply Kd.R_alloc | apply Kd.R_drewN | apply Kd.R_drew)); exact HO_8.out⟩, ⟨by (with_reducible repeat (first | apply Kd.B_alloc | apply Kd.B_drewN | apply Kd.B_drew)); exact HO116.out⟩, ⟨by (with_reducible repeat (first | refine blk_drewN ?_ _ | refine blk_drew ?_ | refine blk_alloc ?_ _)); exact BK106.out⟩, ⟨by (with_reducible repeat (first | refine blk_drewN ?_ _ | refine blk_drew ?_ | refine blk_alloc ?_ _)); exact BK112.out⟩, ⟨by repeat (first | (with_reducible first | exact HB.out | apply below_alloc | apply pw_below_drewN | apply below_drew1 | refine below_set ?_ GE106.out | refine below_set ?_ GE112.out) | exact HB.out)⟩⟩
                case round =>
                 clear H'
                 try clear c1
                 try clear p1
                 try clear q1
                 try clear hx1
                 try clear c2
                 try clear p2
                 try clear c3
                 try clear c8
                 try clear c8b0
                 try clear c8b1
                 try clear c9
                 try clear c10
                 try clear c10b0
                 try clear c10b1
                 try clear c11
                 try clear c11b0
                 try clear c11b1
                 try clear p11
                 try clear q11
                 try clear hx11
                 try clear c12
                 try clear c12b0
                 try clear c12b1
                 try clear c13
                 try clear c16
                 try clear c16b0
                 try clear c17
                 try clear c17b0
                 try clear c18
                 try clear c18b0
                 try clear c22
                 try clear c25
                 try clear c25b0
                 try clear c25b1
                 try clear c26
                 try clear c26b0
                 try clear c26b1
                 try clear c27
                 try clear c31
                 try clear hcz23_0
                 try clear hcz23_1
                 try clear hcz23_2
                 try clear hcz23_3
                 try clear hcz23_4
                 try clear hcz28_0
                 try clear hcz28_1
                 try clear hcz28_2
                 try clear hcz28_3
                 try clear hcz28_4
                 try clear hcz6_0
                 try clear hcz6_1
                 try clear hfz23_0
                 try clear hfz23_1
                 try clear hfz23_2
                 try clear hfz23_3
                 try clear hfz23_4
                 try clear hfz28_0
                 try clear hfz28_1
                 try clear hfz28_2
                 try clear hfz28_3
                 try clear hfz28_4
                 try clear hfz6_0
                 try clear hfz6_1
                 try clear hx111_0
                 try clear hx111_1
                 try clear hx111_2
                 try clear hx111_3
                 try clear hx111_4
                 try clear p1
                 try clear p11
                 try clear p111
                 try clear p2
                 try clear q1
                 try clear q11
                 try clear q111
                 obtain ⟨x7_6, x12_6, x42_6, rfl, rfl, HA, HK6, HO_8, HO_12, BK106, BK112, HB⟩ := hrel
                 have hl12_6 := (Kd.B_reads' HO_12.out).1
                 rw [hl12_6] at HO_12
                 (try simp only [hl12_6])
                 (try simp only [hl12_6] at BK106)
                 (try simp only [hl12_6] at BK112)
                 (try simp only [hl12_6] at HO_8)
                 cases gk with
                 | zero => exact absurd HA.out (by simp [scramble_Encode.l1])
                 | succ k6 =>
                  have H := HA.out
                  clear HA
                  simp only [scramble_Encode.l1] at H
                  by_cases c32 : x42_6 < (y114.length : Int)
                  ·rw [if_pos c32] at H
                   have c32b0 : decide (x42_6 < (y114.length : Int)) = true := decide_eq_true c32
                   (try rw [hl12_6] at c32b0)
                   clear c32
                   by_cases c33 : 0 ≤ x42_6
                   ·rw [if_pos c33] at H
                    have c33b0 : decide (0 ≤ x42_6) = true := decide_eq_true c33
                    clear c33
                    by_cases c34 : x42_6 < (x12_6.length : Int)
                    ·rw [if_pos c34] at H
                     have c34b0 : decide (x42_6 < (x12_6.length : Int)) = true := decide_eq_true c34
                     (try rw [hl12_6] at c34b0)
                     clear c34
                     replace H := Option.bind_eq_some_iff.mp H
                     obtain ⟨t118, A350, H⟩ := H
                     replace H : ((scramble_insert.f a0_0 a0_1 x7_6 (Go.bits .xor .i64 (((rd x12_6 x42_6) - 48) % 256) t118)).bind fun t119 => (scramble_Encode.l1 k6 t119 x8_3 (x12_6.set (x42_6 : Int).toNat ((48 + ((Go.bits .xor .i64 (((rd x12_6 x42_6) - 48) % 256) t118) % 256)) % 256)) l1 (l1.length : Int) x28_3 (y114.length : Int) (wrap64 (x42_6 + 1)) a0_0 a0_1 ((rd_T46 l1 x28_3).f0) ((rd_T46 l1 x28_3).f1) ((rd_T46 l1 x28_3).f2) ((rd_T46 l1 x28_3).f3) ((rd_T46 l1 x28_3).f4))) = some (r1, r2) := H
                     have A35 := Aside0.mk A350
                     clear A350
                     replace H := Option.bind_eq_some_iff.mp H
                     obtain ⟨t119, A360, H⟩ := H
                     replace H : (scramble_Encode.l1 k6 t119 x8_3 (x12_6.set (x42_6 : Int).toNat ((48 + ((Go.bits .xor .i64 (((rd x12_6 x42_6) - 48) % 256) t118) % 256)) % 256)) l1 (l1.length : Int) x28_3 (y114.length : Int) (wrap64 (x42_6 + 1)) a0_0 a0_1 ((rd_T46 l1 x28_3).f0) ((rd_T46 l1 x28_3).f1) ((rd_T46 l1 x28_3).f2) ((rd_T46 l1 x28_3).f3) ((rd_T46 l1 x28_3).f4)) = some (r1, r2) := H
                     have A36 := Aside0.mk A360
                     clear A360
                     obtain ⟨y120, hy120⟩ : ∃ y_ : List Int, y_ = (x12_6.set (x42_6 : Int).toNat ((48 + ((Go.bits .xor .i64 (((rd x12_6 x42_6) - 48) % 256) t118) % 256)) % 256)) := ⟨_, rfl⟩
                     replace H : (scramble_Encode.l1 k6 t119 x8_3 y120 l1 (l1.length : Int) x28_3 (y114.length : Int) (wrap64 (x42_6 + 1)) a0_0 a0_1 ((rd_T46 l1 x28_3).f0) ((rd_T46 l1 x28_3).f1) ((rd_T46 l1 x28_3).f2) ((rd_T46 l1 x28_3).f3) ((rd_T46 l1 x28_3).f4)) = some (r1, r2) := by first | (rw [hy120]; with_reducible exact H) | (have H2_ := (Option.bind_some _ _).symm.trans H; rw [hy120]; with_reducible exact H2_) | (have H2_ := (Option.bind_some _ _).symm.trans H; with_reducible exact H2_) | with_reducible exact H | (rw [hy120]; exact H) | exact H
                     have Ny120 := Aside0.mk hy120
                     clear hy120
                     have H' := Aside0.mk H
                     clear H
                     try go_wp2
                     have n0_ := Aside0.mk (Kd.R_drew HO_8.out)
                     have n1_ := Aside0.mk (Kd.B_drew HO_12.out)
                     have n2_ := Aside0.mk (blk_drew BK106.out)
                     have n3_ := Aside0.mk (blk_drew BK112.out)
                     have n4_ := Aside0.mk (below_drew1 HB.out)
                     clear HO_8
                     clear HO_12
                     clear BK106
                     clear BK112
                     clear HB
                     have HO_8 := n0_
                     have HO_12 := n1_
                     have BK106 := n2_
                     have BK112 := n3_
                     have HB := n4_
                     clear n0_ n1_ n2_ n3_ n4_
                     have p117 : 0 ≤ (x42_6 : Int) := of_decide_eq_true (by first | (with_reducible assumption) | assumption)
                     have q117 : x42_6 < (x12_6.length : Int) := of_decide_eq_true (by first | (with_reducible assumption) | assumption)
                     obtain ⟨ad117, e117, hx117_0⟩ := Kd.at_int (Kd.B_reads' HO_12.out).2.2 x42_6 p117 q117
                     cases e117
                     replace p117 := eq_true p117
                     replace q117 := eq_true q117
                     refine start_ (n := 11) (S := fun w' => w'.cell? ⟨gb106, 0, none⟩ = some (.int .i64 a0_0) ∧ w'.cell? ⟨gb106, 1, none⟩ = some (.int .i64 a0_1) ∧ w'.cell? (ad117.add (x42_6).toNat) = some (.int .u8 (rd x12_6 x42_6))) (ds := []) #[false, false, false, false, false, false, false, false, false, false, false] (by kernel_rfl) rfl rfl ⟨(blk_cell BK106.out 0).trans rfl, (blk_cell BK106.out 1).trans rfl, hx117_0⟩ (fun hHeld => ?_); refine with_tabW scramble_Encode.tab18 scramble_Encode.bits18 (fun HT_ HW_ => ?_)
                     generalize wr.drew = w38 at HO_8 HO_12 BK106 BK112 HB hx117_0 hHeld ⊢
                     refine pstep 0 (some 45) #[true, false, false, false, false, false, false, false, false, false, false] HT_.out ?_
                     refine pstep 1 (some 46) #[true, true, false, false, false, false, false, false, false, false, false] HT_.out ?_
                     refine pstep 2 (some 47) #[true, true, true, false, false, false, false, false, false, false, false] HT_.out ?_
                     refine pstep 7 (some 52) #[true, true, true, false, false, false, false, true, false, false, false] HT_.out ?_
                     refine take_ (i := 3) (N := some 48) (v := ?_) (a' := ?_) #[true, true, true, true, false, false, false, true, false, false, false] rfl rfl (take_ofW HT_.out HW_.out (by kernel_rfl)) (fun _ _ _ h => h) (Or.inl ⟨by rfl, ?_⟩) hHeld ?_ ?_
                     rotate_left
                     ·rintro w' ⟨s0, s1, s2⟩
                      go_simp
                      with_reducible rfl
                     rotate_left
                     ·simp only [Act.put, nrm]
                      rfl
                     refine pstep 4 (some 49) #[true, true, true, true, true, false, false, true, false, false, false] HT_.out ?_
                     refine pstep 5 (some 50) #[true, true, true, true, true, true, false, true, false, false, false] HT_.out ?_
                     refine take_ (i := 6) (N := some 51) (v := ?_) (a' := ?_) #[true, true, true, true, true, true, true, true, false, false, false] rfl rfl (take_ofW HT_.out HW_.out (by kernel_rfl)) (fun _ _ _ h => h) (Or.inl ⟨by rfl, ?_⟩) hHeld ?_ ?_
                     rotate_left
                     ·rintro w' ⟨s0, s1, s2⟩
                      go_simp
                      with_reducible rfl
                     rotate_left
                     ·simp only [Act.put, nrm]
                      rfl
                     refine one_ (i := 8) (N := some 53) #[true, true, true, true, true, true, true, true, true, false, false] rfl rfl (one_of HT_.out (by kernel_rfl)) (by decide) (fun K hK => ?_)
                     refine goes_ Try.func29 (by kernel_rfl) rfl #[.agg #[.int .i64 a0_0, .int .i64 a0_1], .int .i64 x7_6] (by rfl) rfl rfl (by (try simp only [List.map_toArray, List.map_cons, List.map_nil]); first | done | rfl | (simp only [List.length_drop, List.length_take]; rfl)) ?_
                     with_reducible refine (scramble_parity.calls k6 a0_0 a0_1 x7_6 t118 _ A35.out).mono ?_
                     rintro e w39 ⟨rfl, hb⟩
                     have HS2_ := (hb.cell (World.block_lt_of_cell? _ _ (hHeld.2.2))).trans (hHeld.2.2)
                     refine ⟨_, rfl, ?_⟩
                     have n0_ := Aside0.mk (Kd.R_below (rkw HO_8.out) hb)
                     have n1_ := Aside0.mk (Kd.B_below (by (with_reducible repeat (first | apply Kd.B_alloc | apply Kd.B_drewN | apply Kd.B_drew)); exact HO_12.out) hb)
                     have n2_ := Aside0.mk (blkb BK106.out hb)
                     have n3_ := Aside0.mk (blkb BK112.out hb)
                     have n4_ := Aside0.mk (below_step (hbw HB.out) hb)
                     clear HO_8
                     clear HO_12
                     clear BK106
                     clear BK112
                     clear HB
                     have HO_8 := n0_
                     have HO_12 := n1_
                     have BK106 := n2_
                     have BK112 := n3_
                     have HB := n4_
                     clear n0_ n1_ n2_ n3_ n4_
                     (try clear hb)
                     (try clear hb2)
                     (try clear hk)
                     (try clear hi)
                     refine hK.out _ _ ⟨(blk_cell BK106.out 0).trans rfl, (blk_cell BK106.out 1).trans rfl, HS2_⟩ (fun hHeld => ?_)
                     clear hK K
                     refine norm_ (a' := ?_) ?_ ?_
                     rotate_left
                     ·show Act.put _ (some 53) _ = _
                      simp only [Act.put, nrm]
                      rfl
                     refine pstep 9 (some 54) #[true, true, true, true, true, true, true, true, true, true, false] HT_.out ?_
                     refine pstep 10 (some 14) #[true, true, true, true, true, true, true, true, true, true, true] HT_.out ?_
                     refine done_ (done_of HT_.out (by kernel_rfl)) ?_
                     have hnb40 := NB106_112.out
                     have hnc40 := NB112_106.out
                     have hcz41_0 : w39.cell? ⟨gb106, 0, none⟩ = some (.int .i64 a0_0) := (blk_cell BK106.out 0).trans rfl
                     have hcz41_1 : w39.cell? ⟨gb106, 1, none⟩ = some (.int .i64 a0_1) := (blk_cell BK106.out 1).trans rfl
                     have hfz41_0 := blk_frozen BK106.out 0
                     have hfz41_1 := blk_frozen BK106.out 1
                     try go_wp2_with (first | ((with_reducible refine gate_callee (f := 30) rfl ?_); refine goesL_ (some 58) rfl rfl Try.func30 (by kernel_rfl) rfl #[.agg #[.int .i64 a0_0, .int .i64 a0_1], .int .i64 x7_6, .int .i64 (Go.bits .xor .i64 (((rd x12_6 x42_6) - 48) % 256) t118)] rfl (by (try simp only [List.map_toArray, List.map_cons, List.map_nil]); first | done | rfl | (simp only [List.length_drop, List.length_take]; rfl)) ?_; (with_reducible refine (scramble_insert.calls a0_0 a0_1 x7_6 (Go.bits .xor .i64 (((rd x12_6 x42_6) - 48) % 256) t118) t119 _ A36.out).mono ?_); rintro e w42 ⟨rfl, hb⟩; refine ⟨_, rfl, ?_⟩; have n0_ := Aside0.mk (Kd.R_below (rkw HO_8.out) hb); have n1_ := Aside0.mk (Kd.B_below (by (with_reducible repeat (first | apply Kd.B_alloc | apply Kd.B_drewN | apply Kd.B_drew)); exact HO_12.out) hb); have n2_ := Aside0.mk (blkb BK106.out hb); have n3_ := Aside0.mk (blkb BK112.out hb); have n4_ := Aside0.mk (below_step (hbw HB.out) hb); clear HO_8; clear HO_12; clear BK106; clear BK112; clear HB; have HO_8 := n0_; have HO_12 := n1_; have BK106 := n2_; have BK112 := n3_; have HB := n4_; clear n0_ n1_ n2_ n3_ n4_; (try clear hb); (try clear hb2); (try clear hk); (try clear hi); have p37 : 0 ≤ (x42_6 : Int) := of_decide_eq_true (by first | (with_reducible assumption) | assumption); have q37 : (x42_6 : Int) < ((x12_6.length : Int) : Int) := of_decide_eq_true (by first | (with_reducible assumption) | assumption); obtain ⟨go37, co37, eo37, gb37, gl37, cl37, HG37⟩ := Kd.B_form HO_12.out (by omega); (first | cases eo37 | (injection eo37 with ea_ en_ ec_; (first | subst ea_ | (injection ea_ with ea_; subst ea_)); subst ec_; clear en_)); have GB37 := Aside0.mk gb37; have GG37 := Aside0.mk HG37; clear gb37 gl37 HG37; (first | simp only [add_plain] at hx117_0 | skip); obtain ⟨hx37_0, hf37_0⟩ := Kd.B_celln 0 HO_12.out (x42_6 : Int) p37 q37; replace p37 := eq_true p37; replace q37 := eq_true q37; obtain ⟨hy43_, hz43_⟩ := Kd.B_celln 0 HO_12.out (x42_6 : Int) (of_decide_eq_true (by first | (with_reducible assumption) | assumption)) (of_decide_eq_true (by first | (with_reducible assumption) | assumption)); have HP43 := Kd.B_putg HO_12.out (x42_6 : Int) ((48 + ((Go.bits .xor .i64 (((rd x12_6 x42_6) - 48) % 256) t118) % 256)) % 256)) | ((with_reducible refine gate_store (t := 5) (p := 64) rfl ?_); refine store_event (t := 5) (p := 64) (v := ?vo_w44) (w1 := (w42.setCell ⟨go37, (x42_6 : Int).toNat, none⟩ (.int .u8 ((48 + ((Go.bits .xor .i64 (((rd x12_6 x42_6) - 48) % 256) t118) % 256)) % 256)))) ?hg ?ho ?hn ?hr ?_; (case ho => rfl); (case hg => rfl); (case hn => rfl); (case hr => first | (go_simp; done) | (go_simp; rfl)); intro w44 hw; have hg : w42.grownBy w44 (some go37) := (by rw [hw]; exact HP43.2); have hp_ : Kd.B (Kd.int .u8) 5 w44 w.heap.size (fun _ => True) (.slice (some ⟨go37, 0, none⟩) x12_6.length co31) y120 := (by rw [hw, Ny120.out]; exact HP43.1); clear HP43; have n0_ := Aside0.mk (Kd.R_overM' (v := (.slice (some ⟨go37, 0, none⟩) x12_6.length co31)) (rkw HO_8.out) (Kd.B_typed HO_12.out) (by decide) hg); have n1_ := Aside0.mk (hp_); have n2_ := Aside0.mk (blkg BK106.out hg (Kd.B_ne HO_12.out BK106.out (by decide))); have n3_ := Aside0.mk (blkg BK112.out hg (Kd.B_ne HO_12.out BK112.out (by decide))); have n4_ := Aside0.mk ((by rw [hw]; exact below_set (HB.out) GB37.out : Below w.heap.size w w44)); clear HO_8; clear HO_12; clear BK106; clear BK112; clear HB; have HO_8 := n0_; have HO_12 := n1_; have BK106 := n2_; have BK112 := n3_; have HB := n4_; clear n0_ n1_ n2_ n3_ n4_; clear hg hw hp_))
                     (try simp only [← hl12_6])
                     go_roundg k6
                     case measure => have := HJ3.out; have := HJ8.out; have := HK3.out; have := HJ14.out; have := HJ19.out; have := HK6.out; omega
                     case rel => exact ⟨(t119), (y120), (wrap64 (x42_6 + 1)), (by first | rfl | (simp; done) | (simp [*]; done)), (by first | rfl | (simp; done) | (simp [*]; done)), H', ⟨by have := HJ3.out; have := HJ8.out; have := HK3.out; have := HJ14.out; have := HJ19.out; have := HK6.out; omega⟩, ⟨by (try simp only [hl12_6]); (with_reducible repeat (first | apply Kd.R_alloc | apply Kd.R_drewN | apply Kd.R_drew)); exact HO_8.out⟩, ⟨by (try simp only [hl12_6]); (with_reducible repeat (first | apply Kd.B_alloc | apply Kd.B_drewN | apply Kd.B_drew)); exact HO_12.out⟩, ⟨by (try simp only [hl12_6]); (with_reducible repeat (first | refine blk_drewN ?_ _ | refine blk_drew ?_ | refine blk_alloc ?_ _)); exact BK106.out⟩, ⟨by (try simp only [hl12_6]); (with_reducible repeat (first | refine blk_drewN ?_ _ | refine blk_drew ?_ | refine blk_alloc ?_ _)); exact BK112.out⟩, ⟨by repeat (first | (with_reducible first | exact HB.out | apply below_alloc | apply pw_below_drewN | apply below_drew1 | refine below_set ?_ GE106.out | refine below_set ?_ GE112.out) | exact HB.out)⟩⟩
                    ·rw [if_neg c34] at H
                     exact absurd H (by simp)
                   ·rw [if_neg c33] at H
                    exact absurd H (by simp)
                  ·rw [if_neg c32] at H
                   have c32b0 : decide (x42_6 < (y114.length : Int)) = false := decide_eq_false c32
                   (try rw [hl12_6] at c32b0)
                   clear c32
                   by_cases c45 : x8_3.length < 2932031007402
                   ·rw [if_pos c45] at H
                    have LMc45 := Aside0.mk c45
                    clear c45
                    obtain ⟨y121, hy121⟩ : ∃ y_ : List (S46), y_ = (x8_3 ++ [(⟨((rd_T46 l1 x28_3).f0), 0, 0, strOfNums x12_6, 0⟩ : S46)]) := ⟨_, rfl⟩
                    replace H : (scramble_Encode.l0 k6 x7_6 y121 l1 (l1.length : Int) (wrap64 (x28_3 + 1)) a0_0 a0_1) = some (r1, r2) := by first | (rw [hy121]; with_reducible exact H) | (have H2_ := (Option.bind_some _ _).symm.trans H; rw [hy121]; with_reducible exact H2_) | (have H2_ := (Option.bind_some _ _).symm.trans H; with_reducible exact H2_) | with_reducible exact H | (rw [hy121]; exact H) | exact H
                    have Ny121 := Aside0.mk hy121
                    clear hy121
                    have H' := Aside0.mk H
                    clear H
                    have hnb46 := NB112_106.out
                    have hnc46 := NB106_112.out
                    have hcz47_0 : wr.cell? ⟨gb112, 0, none⟩ = some (.int .i64 ((rd_T46 l1 x28_3).f0)) := (blk_cell BK112.out 0).trans rfl
                    have hcz47_1 : wr.cell? ⟨gb112, 1, none⟩ = some (.int .i64 ((rd_T46 l1 x28_3).f1)) := (blk_cell BK112.out 1).trans rfl
                    have hcz47_2 : wr.cell? ⟨gb112, 2, none⟩ = some (.int .i64 ((rd_T46 l1 x28_3).f2)) := (blk_cell BK112.out 2).trans rfl
                    have hcz47_3 : wr.cell? ⟨gb112, 3, none⟩ = some (.string ((rd_T46 l1 x28_3).f3)) := (blk_cell BK112.out 3).trans rfl
                    have hcz47_4 : wr.cell? ⟨gb112, 4, none⟩ = some (.int .i64 ((rd_T46 l1 x28_3).f4)) := (blk_cell BK112.out 4).trans rfl
                    have hfz47_0 := blk_frozen BK112.out 0
                    have hfz47_1 := blk_frozen BK112.out 1
                    have hfz47_2 := blk_frozen BK112.out 2
                    have hfz47_3 := blk_frozen BK112.out 3
                    have hfz47_4 := blk_frozen BK112.out 4
                    have hcv48 := Kd.B_string (P := Try.prog) Try.underlying51 Try.underlying5 Try.underlying9 HO_12.out
                    go_wp2_with (first | ((with_reducible refine gate_builtin (b := .append) (xs := #[.tmp 66, .tmp 72]) rfl ?_); at_builtin; refine Kd.R_append k46 (w0 := w) w.heap.size rfl (.tmp 66) (.tmp 72) 34 46 (.agg #[(.int .i64 0), (.int .i64 0), (.int .i64 0), (.string ⟨#[]⟩), (.int .i64 0)]) 48 rfl Try.underlying34 info46 rfl (by decide) (by omega) u8 x8_3 (⟨((rd_T46 l1 x28_3).f0), 0, 0, strOfNums x12_6, 0⟩ : S46) [.int .i64 ((rd_T46 l1 x28_3).f0), .int .i64 0, .int .i64 0, .string (strOfNums x12_6), .int .i64 0] (fun k_ => k_ ≠ gb112) (fun _ => False) rfl rfl ?aP (fun _ hk => hk.elim) ?aF ?aO ?aB ?aS ?aL ?_; (case aP => exact k46_mkM _ _ _ (⟨((rd_T46 l1 x28_3).f0), 0, 0, strOfNums x12_6, 0⟩ : S46)); (case aB => exact (hbw HB.out)); (case aF => exact (fun k_ hk => Kd.freshB (g := gb112) (o := .cells #[.int .i64 ((rd_T46 l1 x28_3).f0), .int .i64 ((rd_T46 l1 x28_3).f1), .int .i64 ((rd_T46 l1 x28_3).f2), .string ((rd_T46 l1 x28_3).f3), .int .i64 ((rd_T46 l1 x28_3).f4)] 46 (0, 0)) (bkw BK112.out) k_ hk)); (case aO => exact (rkw HO_8.out)); (case aS => exact (below_size (hbw HB.out))); (case aL => have := LMc45.out; omega); intro v122 w49 ho hb hg hat; rw [← Ny121.out] at ho; have n0_ := Aside0.mk (Kd.B_over' (by (with_reducible repeat (first | apply Kd.B_alloc | apply Kd.B_drewN | apply Kd.B_drew)); exact HO_12.out) (Kd.R_typed (rkw HO_8.out)) (by decide) hg); have n1_ := Aside0.mk (blkg BK106.out hg (Kd.R_ne HO_8.out BK106.out (by decide))); have n2_ := Aside0.mk (blkg BK112.out hg (Kd.R_away HO_8.out (fun _ hk => hk))); have n3_ := Aside0.mk (hb); have n4_ := Aside0.mk (ho); clear HO_12; clear BK106; clear BK112; clear HB; clear HO_8; have HO_12 := n0_; have BK106 := n1_; have BK112 := n2_; have HB := n3_; have HO123 := n4_; clear n0_ n1_ n2_ n3_ n4_; clear ho hb hg hat))
                    (try simp only [← hl12_6])
                    go_roundg k6
                    case measure => have := HJ3.out; have := HJ8.out; have := HK3.out; have := HJ14.out; have := HJ19.out; have := HK6.out; omega
                    case rel => exact ⟨(x7_6), (y121), (wrap64 (x28_3 + 1)), (by first | rfl | (simp; done) | (simp [*]; done)), (by first | rfl | (simp; done) | (simp [*]; done)), H', ⟨by have := HJ3.out; have := HJ8.out; have := HK3.out; have := HJ14.out; have := HJ19.out; have := HK6.out; omega⟩, ⟨by (try simp only [hl12_6]); (with_reducible repeat (first | apply Kd.R_alloc | apply Kd.R_drewN | apply Kd.R_drew)); exact Kd.R_mono HO123.out (fun _ hk => trivial)⟩, ⟨by (try simp only [hl12_6]); (with_reducible repeat (first | refine blk_drewN ?_ _ | refine blk_drew ?_ | refine blk_alloc ?_ _)); exact BK106.out⟩, ⟨by repeat (first | (with_reducible first | exact HB.out | apply below_alloc | apply pw_below_drewN | apply below_drew1 | refine below_set ?_ GE106.out | refine below_set ?_ GE112.out) | exact HB.out)⟩⟩
                   ·rw [if_neg c45] at H
                    exact absurd H (by simp)
               ·rw [if_neg c26] at H
                exact absurd H (by simp)
            ·rw [if_neg c18] at H
             exact absurd H (by simp)
           ·rw [if_neg c17] at H
            exact absurd H (by simp)
      ·rw [if_neg c12] at H
       exact absurd H (by simp)
     ·rw [if_neg c11] at H
      exact absurd H (by simp)

end Go.Proofs.Ytgcifmaefoeobaa.PScrambleRoundTrips
