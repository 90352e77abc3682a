-- Written by a program of this session (wip/tools/pr.py), which calls the kit's print with changes of its own.
import Derived.Test.YtgcifmaefoeobaaPScrambleLinearx0
import Derived.Test.YtgcifmaefoeobaaPScrambleLinearx3
import Derived.Test.YtgcifmaefoeobaaPScrambleLinearx7
import Derived.Test.YtgcifmaefoeobaaPScrambleLinearx8
namespace Go.Proofs.Ytgcifmaefoeobaa.PScrambleLinear
open Go.RowKit Go.Proofs.YtgcifmaefoeobaaW.PrintWords Go.Proofs.YtgcifmaefoeobaaW.PrintLast Go.Proofs.YtgcifmaefoeobaaW.PrintMore
attribute [local go_sem] max2_int min2_int max_two min_two max_three min_three max_four min_four   -- for this text's walks alone
set_option linter.unusedVariables false
set_option linter.unusedSimpArgs false

/-! ### signalbenchlaw20_ScrambleLinear: function 8 -/
mutual
def signalbenchlaw20_ScrambleLinear.j0 : Nat → ByteArray → ByteArray → Bool → Int → Int → Option (Bool)
 | 0, _, _, _, _, _ => none
 | k + 1, x1, x2, x32, x225000, x225001 => if x32 = true then ((signalbenchlaw20_awake.f k).bind fun t228 => (some t228)) else (signalbenchlaw20_ScrambleLinear.j1 k x1 x2 x225000 x225001)
def signalbenchlaw20_ScrambleLinear.j1 : Nat → ByteArray → ByteArray → Int → Int → Option (Bool)
 | 0, _, _, _, _ => none
 | k + 1, x1, x2, x225000, x225001 => if 0 ≤ (x1.size : Int) then (if ((x1.size : Int) : Int).toNat ≤ 281474976710656 then (signalbenchlaw20_ScrambleLinear.l0 k x1 x2 (List.replicate 0 0) 0 x225000 x225001) else (none)) else (none)
def signalbenchlaw20_ScrambleLinear.l0 : Nat → ByteArray → ByteArray → List Int → Int → Int → Int → Option (Bool)
 | 0, _, _, _, _, _, _ => none
 | k + 1, x1, x2, x7, x8, x225000, x225001 => if x8 < (x1.size : Int) then (if 0 ≤ x8 then (if x8 < (x2.size : Int) then (if (bt x1 x8) = (bt x2 x8) then (if x7.length < 140737488355328 then (signalbenchlaw20_ScrambleLinear.l0 k x1 x2 (x7 ++ [48]) (wrap64 (x8 + 1)) x225000 x225001) else (none)) else (if x7.length < 140737488355328 then (signalbenchlaw20_ScrambleLinear.l0 k x1 x2 (x7 ++ [49]) (wrap64 (x8 + 1)) x225000 x225001) else (none))) else (none)) else (none)) else ((signalbenchlaw20_bits.f k x1).bind fun t238 => ((scramble_Decode.f k x225000 x225001 t238).bind fun t241 => ((signalbenchlaw20_told.f k t241).bind fun t244 => ((signalbenchlaw20_bits.f k x2).bind fun t245 => ((scramble_Decode.f k x225000 x225001 t245).bind fun t248 => ((signalbenchlaw20_told.f k t248).bind fun t251 => ((signalbenchlaw20_bits.f k (strOfNums x7)).bind fun t252 => ((scramble_Decode.f k x225000 x225001 t252).bind fun t255 => ((signalbenchlaw20_told.f k t255).bind fun t258 => (if (t244.size : Int) = (x1.size : Int) then (if (t251.size : Int) = (x1.size : Int) then (signalbenchlaw20_ScrambleLinear.j3 k x1 t244 t251 t258 ((t258.size : Int) != (x1.size : Int))) else (signalbenchlaw20_ScrambleLinear.j3 k x1 t244 t251 t258 true)) else (signalbenchlaw20_ScrambleLinear.j3 k x1 t244 t251 t258 true)))))))))))
def signalbenchlaw20_ScrambleLinear.j3 : Nat → ByteArray → ByteArray → ByteArray → ByteArray → Bool → Option (Bool)
 | 0, _, _, _, _, _ => none
 | k + 1, x1, x9, x10, x11, x90 => if x90 = true then (some false) else (signalbenchlaw20_ScrambleLinear.j4 k x1 x9 x10 x11)
def signalbenchlaw20_ScrambleLinear.j4 : Nat → ByteArray → ByteArray → ByteArray → ByteArray → Option (Bool)
 | 0, _, _, _, _ => none
 | k + 1, x1, x9, x10, x11 => signalbenchlaw20_ScrambleLinear.l1 k x1 x9 x10 x11 0
def signalbenchlaw20_ScrambleLinear.l1 : Nat → ByteArray → ByteArray → ByteArray → ByteArray → Int → Option (Bool)
 | 0, _, _, _, _, _ => none
 | k + 1, x1, x9, x10, x11, x12 => if x12 < (x1.size : Int) then (if 0 ≤ x12 then (if x12 < (x9.size : Int) then (if x12 < (x10.size : Int) then (if x12 < (x11.size : Int) then (if (((bt x9 x12) == (bt x10 x12)) != ((bt x11 x12) == 48)) = true then (some false) else (signalbenchlaw20_ScrambleLinear.l1 k x1 x9 x10 x11 (wrap64 (x12 + 1)))) else (none)) else (none)) else (none)) else (none)) else ((signalbenchlaw20_awake.f k).bind fun t259 => (some t259))
end
def signalbenchlaw20_ScrambleLinear.f (k : Nat) (a0_0 : Int) (a0_1 : Int) (a1 : ByteArray) (a2 : ByteArray) : Option (Bool) := (scramble_Check.f k a0_0 a0_1).bind fun t225 => (if t225 = 0 then ((signalbenchlaw20_valid.f k a1 2000).bind fun t226 => (if t226 = true then ((signalbenchlaw20_valid.f k a2 2000).bind fun t227 => (if t227 = true then (signalbenchlaw20_ScrambleLinear.j0 k a1 a2 ((a1.size : Int) != (a2.size : Int)) a0_0 a0_1) else (signalbenchlaw20_ScrambleLinear.j0 k a1 a2 true a0_0 a0_1))) else (signalbenchlaw20_ScrambleLinear.j0 k a1 a2 true a0_0 a0_1))) else (signalbenchlaw20_ScrambleLinear.j0 k a1 a2 true a0_0 a0_1))
theorem signalbenchlaw20_ScrambleLinear.mono_l : ∀ k, (∀ y0 y1 y2 y3 y4, LeO (signalbenchlaw20_ScrambleLinear.j0 k y0 y1 y2 y3 y4) (signalbenchlaw20_ScrambleLinear.j0 (k + 1) y0 y1 y2 y3 y4)) ∧ (∀ y0 y1 y2 y3, LeO (signalbenchlaw20_ScrambleLinear.j1 k y0 y1 y2 y3) (signalbenchlaw20_ScrambleLinear.j1 (k + 1) y0 y1 y2 y3)) ∧ (∀ y0 y1 y2 y3 y4 y5, LeO (signalbenchlaw20_ScrambleLinear.l0 k y0 y1 y2 y3 y4 y5) (signalbenchlaw20_ScrambleLinear.l0 (k + 1) y0 y1 y2 y3 y4 y5)) ∧ (∀ y0 y1 y2 y3 y4, LeO (signalbenchlaw20_ScrambleLinear.j3 k y0 y1 y2 y3 y4) (signalbenchlaw20_ScrambleLinear.j3 (k + 1) y0 y1 y2 y3 y4)) ∧ (∀ y0 y1 y2 y3, LeO (signalbenchlaw20_ScrambleLinear.j4 k y0 y1 y2 y3) (signalbenchlaw20_ScrambleLinear.j4 (k + 1) y0 y1 y2 y3)) ∧ (∀ y0 y1 y2 y3 y4, LeO (signalbenchlaw20_ScrambleLinear.l1 k y0 y1 y2 y3 y4) (signalbenchlaw20_ScrambleLinear.l1 (k + 1) y0 y1 y2 y3 y4))
 | 0 => ⟨fun _ _ _ _ _ r h => by simp [signalbenchlaw20_ScrambleLinear.j0] at h, fun _ _ _ _ r h => by simp [signalbenchlaw20_ScrambleLinear.j1] at h, fun _ _ _ _ _ _ r h => by simp [signalbenchlaw20_ScrambleLinear.l0] at h, fun _ _ _ _ _ r h => by simp [signalbenchlaw20_ScrambleLinear.j3] at h, fun _ _ _ _ r h => by simp [signalbenchlaw20_ScrambleLinear.j4] at h, fun _ _ _ _ _ r h => by simp [signalbenchlaw20_ScrambleLinear.l1] at h⟩
 | k + 1 => by
  obtain ⟨ih0, ih1, ih2, ih3, ih4, ih5⟩ := signalbenchlaw20_ScrambleLinear.mono_l k
  refine ⟨?_, ?_, ?_, ?_, ?_, ?_⟩
  ·intro y0 y1 y2 y3 y4
   unfold signalbenchlaw20_ScrambleLinear.j0
   repeat' first
   | (with_reducible exact ih0 _ _ _ _ _)
   | (with_reducible exact ih1 _ _ _ _)
   | (with_reducible exact ih2 _ _ _ _ _ _)
   | (with_reducible exact ih3 _ _ _ _ _)
   | (with_reducible exact ih4 _ _ _ _)
   | (with_reducible exact ih5 _ _ _ _ _)
   | (with_reducible exact scramble_Check.mono _ _ _)
   | (with_reducible exact scramble_Decode.mono _ _ _ _)
   | (with_reducible exact signalbenchlaw20_awake.mono _)
   | (with_reducible exact signalbenchlaw20_bits.mono _ _)
   | (with_reducible exact signalbenchlaw20_told.mono _ _)
   | (with_reducible exact signalbenchlaw20_valid.mono _ _ _)
   | (with_reducible exact LeO.refl _)
   | (with_reducible exact LeO.none _)
   | (with_reducible refine LeO.ite ?_ ?_)
   | (with_reducible refine LeO.bind ?_ (fun _ => ?_))
   | exact ih0 _ _ _ _ _
   | exact ih1 _ _ _ _
   | exact ih2 _ _ _ _ _ _
   | exact ih3 _ _ _ _ _
   | exact ih4 _ _ _ _
   | exact ih5 _ _ _ _ _
   | exact scramble_Check.mono _ _ _
   | exact scramble_Decode.mono _ _ _ _
   | exact signalbenchlaw20_awake.mono _
   | exact signalbenchlaw20_bits.mono _ _
   | exact signalbenchlaw20_told.mono _ _
   | exact signalbenchlaw20_valid.mono _ _ _
   | exact LeO.none _
   | refine LeO.ite ?_ ?_
   | refine LeO.bind ?_ (fun _ => ?_)
  ·intro y0 y1 y2 y3
   unfold signalbenchlaw20_ScrambleLinear.j1
   repeat' first
   | (with_reducible exact ih0 _ _ _ _ _)
   | (with_reducible exact ih1 _ _ _ _)
   | (with_reducible exact ih2 _ _ _ _ _ _)
   | (with_reducible exact ih3 _ _ _ _ _)
   | (with_reducible exact ih4 _ _ _ _)
   | (with_reducible exact ih5 _ _ _ _ _)
   | (with_reducible exact scramble_Check.mono _ _ _)
   | (with_reducible exact scramble_Decode.mono _ _ _ _)
   | (with_reducible exact signalbenchlaw20_awake.mono _)
   | (with_reducible exact signalbenchlaw20_bits.mono _ _)
   | (with_reducible exact signalbenchlaw20_told.mono _ _)
   | (with_reducible exact signalbenchlaw20_valid.mono _ _ _)
   | (with_reducible exact LeO.refl _)
   | (with_reducible exact LeO.none _)
   | (with_reducible refine LeO.ite ?_ ?_)
   | (with_reducible refine LeO.bind ?_ (fun _ => ?_))
   | exact ih0 _ _ _ _ _
   | exact ih1 _ _ _ _
   | exact ih2 _ _ _ _ _ _
   | exact ih3 _ _ _ _ _
   | exact ih4 _ _ _ _
   | exact ih5 _ _ _ _ _
   | exact scramble_Check.mono _ _ _
   | exact scramble_Decode.mono _ _ _ _
   | exact signalbenchlaw20_awake.mono _
   | exact signalbenchlaw20_bits.mono _ _
   | exact signalbenchlaw20_told.mono _ _
   | exact signalbenchlaw20_valid.mono _ _ _
   | exact LeO.none _
   | refine LeO.ite ?_ ?_
   | refine LeO.bind ?_ (fun _ => ?_)
  ·intro y0 y1 y2 y3 y4 y5
   unfold signalbenchlaw20_ScrambleLinear.l0
   repeat' first
   | (with_reducible exact ih0 _ _ _ _ _)
   | (with_reducible exact ih1 _ _ _ _)
   | (with_reducible exact ih2 _ _ _ _ _ _)
   | (with_reducible exact ih3 _ _ _ _ _)
   | (with_reducible exact ih4 _ _ _ _)
   | (with_reducible exact ih5 _ _ _ _ _)
   | (with_reducible exact scramble_Check.mono _ _ _)
   | (with_reducible exact scramble_Decode.mono _ _ _ _)
   | (with_reducible exact signalbenchlaw20_awake.mono _)
   | (with_reducible exact signalbenchlaw20_bits.mono _ _)
   | (with_reducible exact signalbenchlaw20_told.mono _ _)
   | (with_reducible exact signalbenchlaw20_valid.mono _ _ _)
   | (with_reducible exact LeO.refl _)
   | (with_reducible exact LeO.none _)
   | (with_reducible refine LeO.ite ?_ ?_)
   | (with_reducible refine LeO.bind ?_ (fun _ => ?_))
   | exact ih0 _ _ _ _ _
   | exact ih1 _ _ _ _
   | exact ih2 _ _ _ _ _ _
   | exact ih3 _ _ _ _ _
   | exact ih4 _ _ _ _
   | exact ih5 _ _ _ _ _
   | exact scramble_Check.mono _ _ _
   | exact scramble_Decode.mono _ _ _ _
   | exact signalbenchlaw20_awake.mono _
   | exact signalbenchlaw20_bits.mono _ _
   | exact signalbenchlaw20_told.mono _ _
   | exact signalbenchlaw20_valid.mono _ _ _
   | exact LeO.none _
   | refine LeO.ite ?_ ?_
   | refine LeO.bind ?_ (fun _ => ?_)
  ·intro y0 y1 y2 y3 y4
   unfold signalbenchlaw20_ScrambleLinear.j3
   repeat' first
   | (with_reducible exact ih0 _ _ _ _ _)
   | (with_reducible exact ih1 _ _ _ _)
   | (with_reducible exact ih2 _ _ _ _ _ _)
   | (with_reducible exact ih3 _ _ _ _ _)
   | (with_reducible exact ih4 _ _ _ _)
   | (with_reducible exact ih5 _ _ _ _ _)
   | (with_reducible exact scramble_Check.mono _ _ _)
   | (with_reducible exact scramble_Decode.mono _ _ _ _)
   | (with_reducible exact signalbenchlaw20_awake.mono _)
   | (with_reducible exact signalbenchlaw20_bits.mono _ _)
   | (with_reducible exact signalbenchlaw20_told.mono _ _)
   | (with_reducible exact signalbenchlaw20_valid.mono _ _ _)
   | (with_reducible exact LeO.refl _)
   | (with_reducible exact LeO.none _)
   | (with_reducible refine LeO.ite ?_ ?_)
   | (with_reducible refine LeO.bind ?_ (fun _ => ?_))
   | exact ih0 _ _ _ _ _
   | exact ih1 _ _ _ _
   | exact ih2 _ _ _ _ _ _
   | exact ih3 _ _ _ _ _
   | exact ih4 _ _ _ _
   | exact ih5 _ _ _ _ _
   | exact scramble_Check.mono _ _ _
   | exact scramble_Decode.mono _ _ _ _
   | exact signalbenchlaw20_awake.mono _
   | exact signalbenchlaw20_bits.mono _ _
   | exact signalbenchlaw20_told.mono _ _
   | exact signalbenchlaw20_valid.mono _ _ _
   | exact LeO.none _
   | refine LeO.ite ?_ ?_
   | refine LeO.bind ?_ (fun _ => ?_)
  ·intro y0 y1 y2 y3
   unfold signalbenchlaw20_ScrambleLinear.j4
   repeat' first
   | (with_reducible exact ih0 _ _ _ _ _)
   | (with_reducible exact ih1 _ _ _ _)
   | (with_reducible exact ih2 _ _ _ _ _ _)
   | (with_reducible exact ih3 _ _ _ _ _)
   | (with_reducible exact ih4 _ _ _ _)
   | (with_reducible exact ih5 _ _ _ _ _)
   | (with_reducible exact scramble_Check.mono _ _ _)
   | (with_reducible exact scramble_Decode.mono _ _ _ _)
   | (with_reducible exact signalbenchlaw20_awake.mono _)
   | (with_reducible exact signalbenchlaw20_bits.mono _ _)
   | (with_reducible exact signalbenchlaw20_told.mono _ _)
   | (with_reducible exact signalbenchlaw20_valid.mono _ _ _)
   | (with_reducible exact LeO.refl _)
   | (with_reducible exact LeO.none _)
   | (with_reducible refine LeO.ite ?_ ?_)
   | (with_reducible refine LeO.bind ?_ (fun _ => ?_))
   | exact ih0 _ _ _ _ _
   | exact ih1 _ _ _ _
   | exact ih2 _ _ _ _ _ _
   | exact ih3 _ _ _ _ _
   | exact ih4 _ _ _ _
   | exact ih5 _ _ _ _ _
   | exact scramble_Check.mono _ _ _
   | exact scramble_Decode.mono _ _ _ _
   | exact signalbenchlaw20_awake.mono _
   | exact signalbenchlaw20_bits.mono _ _
   | exact signalbenchlaw20_told.mono _ _
   | exact signalbenchlaw20_valid.mono _ _ _
   | exact LeO.none _
   | refine LeO.ite ?_ ?_
   | refine LeO.bind ?_ (fun _ => ?_)
  ·intro y0 y1 y2 y3 y4
   unfold signalbenchlaw20_ScrambleLinear.l1
   repeat' first
   | (with_reducible exact ih0 _ _ _ _ _)
   | (with_reducible exact ih1 _ _ _ _)
   | (with_reducible exact ih2 _ _ _ _ _ _)
   | (with_reducible exact ih3 _ _ _ _ _)
   | (with_reducible exact ih4 _ _ _ _)
   | (with_reducible exact ih5 _ _ _ _ _)
   | (with_reducible exact scramble_Check.mono _ _ _)
   | (with_reducible exact scramble_Decode.mono _ _ _ _)
   | (with_reducible exact signalbenchlaw20_awake.mono _)
   | (with_reducible exact signalbenchlaw20_bits.mono _ _)
   | (with_reducible exact signalbenchlaw20_told.mono _ _)
   | (with_reducible exact signalbenchlaw20_valid.mono _ _ _)
   | (with_reducible exact LeO.refl _)
   | (with_reducible exact LeO.none _)
   | (with_reducible refine LeO.ite ?_ ?_)
   | (with_reducible refine LeO.bind ?_ (fun _ => ?_))
   | exact ih0 _ _ _ _ _
   | exact ih1 _ _ _ _
   | exact ih2 _ _ _ _ _ _
   | exact ih3 _ _ _ _ _
   | exact ih4 _ _ _ _
   | exact ih5 _ _ _ _ _
   | exact scramble_Check.mono _ _ _
   | exact scramble_Decode.mono _ _ _ _
   | exact signalbenchlaw20_awake.mono _
   | exact signalbenchlaw20_bits.mono _ _
   | exact signalbenchlaw20_told.mono _ _
   | exact signalbenchlaw20_valid.mono _ _ _
   | exact LeO.none _
   | refine LeO.ite ?_ ?_
   | refine LeO.bind ?_ (fun _ => ?_)
theorem signalbenchlaw20_ScrambleLinear.mono : ∀ a0 a1 a2 a3 k, LeO (signalbenchlaw20_ScrambleLinear.f k a0 a1 a2 a3) (signalbenchlaw20_ScrambleLinear.f (k + 1) a0 a1 a2 a3) := by
 intro a0 a1 a2 a3 k
 obtain ⟨ih0, ih1, ih2, ih3, ih4, ih5⟩ := signalbenchlaw20_ScrambleLinear.mono_l k
 unfold signalbenchlaw20_ScrambleLinear.f
 repeat' first
   | (with_reducible exact ih0 _ _ _ _ _)
   | (with_reducible exact ih1 _ _ _ _)
   | (with_reducible exact ih2 _ _ _ _ _ _)
   | (with_reducible exact ih3 _ _ _ _ _)
   | (with_reducible exact ih4 _ _ _ _)
   | (with_reducible exact ih5 _ _ _ _ _)
   | (with_reducible exact scramble_Check.mono _ _ _)
   | (with_reducible exact scramble_Decode.mono _ _ _ _)
   | (with_reducible exact signalbenchlaw20_awake.mono _)
   | (with_reducible exact signalbenchlaw20_bits.mono _ _)
   | (with_reducible exact signalbenchlaw20_told.mono _ _)
   | (with_reducible exact signalbenchlaw20_valid.mono _ _ _)
   | (with_reducible exact LeO.refl _)
   | (with_reducible exact LeO.none _)
   | (with_reducible refine LeO.ite ?_ ?_)
   | (with_reducible refine LeO.bind ?_ (fun _ => ?_))
   | exact ih0 _ _ _ _ _
   | exact ih1 _ _ _ _
   | exact ih2 _ _ _ _ _ _
   | exact ih3 _ _ _ _ _
   | exact ih4 _ _ _ _
   | exact ih5 _ _ _ _ _
   | exact scramble_Check.mono _ _ _
   | exact scramble_Decode.mono _ _ _ _
   | exact signalbenchlaw20_awake.mono _
   | exact signalbenchlaw20_bits.mono _ _
   | exact signalbenchlaw20_told.mono _ _
   | exact signalbenchlaw20_valid.mono _ _ _
   | exact LeO.none _
   | refine LeO.ite ?_ ?_
   | refine LeO.bind ?_ (fun _ => ?_)
def signalbenchlaw20_ScrambleLinear.T18 : Bool × List (List Nat × List Nat) := (true, [([], []), ([], []), ([0, 1], [0, 1]), ([], []), ([], []), ([3, 4], [3, 4]), ([2, 5], [2, 5]), ([], []), ([], []), ([7, 8], [7, 8]), ([9], [9]), ([6, 10], [6, 10])])
def signalbenchlaw20_ScrambleLinear.B18 : List Nat := [0, 0, 3, 0, 0, 24, 63, 0, 0, 384, 896, 2047]
theorem signalbenchlaw20_ScrambleLinear.tab18 : rtab .any (opsOf Try.f8 18) = signalbenchlaw20_ScrambleLinear.T18 := by kernel_rfl
theorem signalbenchlaw20_ScrambleLinear.bits18 : waitsOk signalbenchlaw20_ScrambleLinear.T18.2 signalbenchlaw20_ScrambleLinear.B18 = true := by kernel_rfl
set_option maxHeartbeats 8000000 in
set_option maxRecDepth 100000 in
theorem signalbenchlaw20_ScrambleLinear.calls (k : Nat) (a0_0 : Int) (a0_1 : Int) (a1 : ByteArray) (a2 : ByteArray) (r : Bool) (w : World) (h : signalbenchlaw20_ScrambleLinear.f k a0_0 a0_1 a1 a2 = some r) :
  Calls Try.prog 8 #[.agg #[.int .i64 a0_0, .int .i64 a0_1], .string a1, .string a2] w fun e w' => e = .returned (.bool r) ∧ Below w.heap.size w w' := by
 have hu23 := Try.underlying23
 have HB := Aside0.mk (Below.refl w.heap.size w)
 have H : ((scramble_Check.f k a0_0 a0_1).bind fun t225 => (if t225 = 0 then ((signalbenchlaw20_valid.f k a1 2000).bind fun t226 => (if t226 = true then ((signalbenchlaw20_valid.f k a2 2000).bind fun t227 => (if t227 = true then (signalbenchlaw20_ScrambleLinear.j0 k a1 a2 ((a1.size : Int) != (a2.size : Int)) a0_0 a0_1) else (signalbenchlaw20_ScrambleLinear.j0 k a1 a2 true a0_0 a0_1))) else (signalbenchlaw20_ScrambleLinear.j0 k a1 a2 true a0_0 a0_1))) else (signalbenchlaw20_ScrambleLinear.j0 k a1 a2 true a0_0 a0_1))) = some r := h
 clear h
 have HC4 := Aside0.mk H
 clear H
 go_enter Try.func8, Try.ntmps8
 go_upto_region 1 with (first | ((with_reducible refine gate_dst (N := 3) rfl ?_); (try (refine gate_guard (by rfl) ?_; dsimp only)); refine box_event ?hg (N := 3) ?hd (cs := #[.int .i64 a0_0, .int .i64 a0_1]) (t := 23) ?hr ?_; (case hd => rfl); (case hg => rfl); (case hr => first | (go_simp; done) | (go_simp; rfl)); intro gb224 hg w5 hbox hb; have n0_ := Aside0.mk (below_step (hbw HB.out) hb); have n1_ := Aside0.mk (hbox); have n2_ := Aside0.mk ((by rw [hg]; exact (below_size (hbw HB.out)) : w.heap.size ≤ gb224)); have n3_ := Aside0.mk ((by rw [hg]; exact (below_size (hbw HB.out)) : w.heap.size ≤ gb224)); clear HB; have HB := n0_; have BK224 := n1_; have GW224 := n2_; have GE224 := n3_; clear n0_ n1_ n2_ n3_; clear hb hbox hg))
 (try simp only [Act.put, List.setIfInBounds_toArray, List.set_cons_zero, List.set_cons_succ])
 go_cut [32] (fun v32 wc => ∃ (kq : Nat) (x32_3 : Bool), v32 = .bool x32_3 ∧ Aside0 (signalbenchlaw20_ScrambleLinear.j0 kq a1 a2 x32_3 a0_0 a0_1 = some r) ∧ Aside0 (kq ≤ k) ∧ Aside0 (wc.heap[gb224]? = some (.cells #[.int .i64 a0_0, .int .i64 a0_1] 23 (0, 0))) ∧ Aside0 (Below w.heap.size w wc))
 case first =>
  have H := HC4.out
  clear HC4
  replace H := Option.bind_eq_some_iff.mp H
  obtain ⟨t225, A60, H⟩ := H
  replace H : (if t225 = 0 then ((signalbenchlaw20_valid.f k a1 2000).bind fun t226 => (if t226 = true then ((signalbenchlaw20_valid.f k a2 2000).bind fun t227 => (if t227 = true then (signalbenchlaw20_ScrambleLinear.j0 k a1 a2 ((a1.size : Int) != (a2.size : Int)) a0_0 a0_1) else (signalbenchlaw20_ScrambleLinear.j0 k a1 a2 true a0_0 a0_1))) else (signalbenchlaw20_ScrambleLinear.j0 k a1 a2 true a0_0 a0_1))) else (signalbenchlaw20_ScrambleLinear.j0 k a1 a2 true a0_0 a0_1)) = some r := H
  have A6 := Aside0.mk A60
  clear A60
  by_cases c7 : t225 = 0
  ·rw [if_pos c7] at H
   have c7b0 : (t225 == 0) = true := beq_iff_eq.mpr c7
   have c7b1 : (t225 != 0) = false := bne_eq_false_iff_eq.mpr c7
   clear c7
   (first | rw [c7b0] | (simp only [i64_w, i32_w]; rw [c7b0]) | skip)
   replace H := Option.bind_eq_some_iff.mp H
   obtain ⟨t226, A80, H⟩ := H
   replace H : (if t226 = true then ((signalbenchlaw20_valid.f k a2 2000).bind fun t227 => (if t227 = true then (signalbenchlaw20_ScrambleLinear.j0 k a1 a2 ((a1.size : Int) != (a2.size : Int)) a0_0 a0_1) else (signalbenchlaw20_ScrambleLinear.j0 k a1 a2 true a0_0 a0_1))) else (signalbenchlaw20_ScrambleLinear.j0 k a1 a2 true a0_0 a0_1)) = some r := H
   have A8 := Aside0.mk A80
   clear A80
   by_cases c9 : t226 = true
   ·subst c9
    have H1 : ((signalbenchlaw20_valid.f k a2 2000).bind fun t227 => (if t227 = true then (signalbenchlaw20_ScrambleLinear.j0 k a1 a2 ((a1.size : Int) != (a2.size : Int)) a0_0 a0_1) else (signalbenchlaw20_ScrambleLinear.j0 k a1 a2 true a0_0 a0_1))) = some r := by rw [if_pos rfl] at H; exact H
    clear H
    have H := H1
    clear H1
    replace H := Option.bind_eq_some_iff.mp H
    obtain ⟨t227, A100, H⟩ := H
    replace H : (if t227 = true then (signalbenchlaw20_ScrambleLinear.j0 k a1 a2 ((a1.size : Int) != (a2.size : Int)) a0_0 a0_1) else (signalbenchlaw20_ScrambleLinear.j0 k a1 a2 true a0_0 a0_1)) = some r := H
    have A10 := Aside0.mk A100
    clear A100
    by_cases c11 : t227 = true
    ·subst c11
     have H1 : (signalbenchlaw20_ScrambleLinear.j0 k a1 a2 ((a1.size : Int) != (a2.size : Int)) a0_0 a0_1) = some r := by rw [if_pos rfl] at H; exact H
     clear H
     have H := H1
     clear H1
     have H' := Aside0.mk H
     clear H
     have hcz12_0 : w5.cell? ⟨gb224, 0, none⟩ = some (.int .i64 a0_0) := (blk_cell BK224.out 0).trans rfl
     have hcz12_1 : w5.cell? ⟨gb224, 1, none⟩ = some (.int .i64 a0_1) := (blk_cell BK224.out 1).trans rfl
     have hfz12_0 := blk_frozen BK224.out 0
     have hfz12_1 := blk_frozen BK224.out 1
     go_wp2_with (first | ((with_reducible refine gate_callee (f := 9) rfl ?_); refine goesL_ (some 14) rfl rfl Try.func9 (by kernel_rfl) rfl #[.agg #[.int .i64 a0_0, .int .i64 a0_1]] rfl (by (try simp only [List.map_toArray, List.map_cons, List.map_nil]); first | done | rfl | (simp only [List.length_drop, List.length_take]; rfl)) ?_; (with_reducible refine (scramble_Check.calls k a0_0 a0_1 t225 _ A6.out).mono ?_); rintro e w13 ⟨rfl, hb⟩; refine ⟨_, rfl, ?_⟩; have n0_ := Aside0.mk (blkb BK224.out hb); have n1_ := Aside0.mk (below_step (hbw HB.out) hb); clear BK224; clear HB; have BK224 := n0_; have HB := n1_; clear n0_ n1_; (try clear hb); (try clear hb2); (try clear hk); (try clear hi)) | (go_at_call 24; (with_reducible refine (signalbenchlaw20_valid.calls k a1 2000 true _ A8.out).mono ?_); rintro e w' ⟨rfl, ⟨nd, rfl⟩⟩) | (go_at_call 24; (with_reducible refine (signalbenchlaw20_valid.calls k a2 2000 true _ A10.out).mono ?_); rintro e w' ⟨rfl, ⟨nd, rfl⟩⟩))
     go_meet
     case rel => exact ⟨_, (((a1.size : Int) != (a2.size : Int))), (by first | rfl | (simp; done) | (simp [*]; done)), H', ⟨by first | omega | exact Nat.le_refl _⟩, ⟨by (with_reducible repeat (first | refine blk_drewN ?_ _ | refine blk_drew ?_ | refine blk_alloc ?_ _)); exact BK224.out⟩, ⟨by repeat (first | (with_reducible first | exact HB.out | apply below_alloc | apply pw_below_drewN | apply below_drew1 | refine below_set ?_ GE224.out) | exact HB.out)⟩⟩
    ·replace c11 := Bool.eq_false_iff.mpr c11
     subst c11
     have H1 : (signalbenchlaw20_ScrambleLinear.j0 k a1 a2 true a0_0 a0_1) = some r := by rw [if_neg (show ¬ (false = true) by decide)] at H; exact H
     clear H
     have H := H1
     clear H1
     have H' := Aside0.mk H
     clear H
     have hcz14_0 : w5.cell? ⟨gb224, 0, none⟩ = some (.int .i64 a0_0) := (blk_cell BK224.out 0).trans rfl
     have hcz14_1 : w5.cell? ⟨gb224, 1, none⟩ = some (.int .i64 a0_1) := (blk_cell BK224.out 1).trans rfl
     have hfz14_0 := blk_frozen BK224.out 0
     have hfz14_1 := blk_frozen BK224.out 1
     go_wp2_with (first | ((with_reducible refine gate_callee (f := 9) rfl ?_); refine goesL_ (some 14) rfl rfl Try.func9 (by kernel_rfl) rfl #[.agg #[.int .i64 a0_0, .int .i64 a0_1]] rfl (by (try simp only [List.map_toArray, List.map_cons, List.map_nil]); first | done | rfl | (simp only [List.length_drop, List.length_take]; rfl)) ?_; (with_reducible refine (scramble_Check.calls k a0_0 a0_1 t225 _ A6.out).mono ?_); rintro e w15 ⟨rfl, hb⟩; refine ⟨_, rfl, ?_⟩; have n0_ := Aside0.mk (blkb BK224.out hb); have n1_ := Aside0.mk (below_step (hbw HB.out) hb); clear BK224; clear HB; have BK224 := n0_; have HB := n1_; clear n0_ n1_; (try clear hb); (try clear hb2); (try clear hk); (try clear hi)) | (go_at_call 24; (with_reducible refine (signalbenchlaw20_valid.calls k a1 2000 true _ A8.out).mono ?_); rintro e w' ⟨rfl, ⟨nd, rfl⟩⟩) | (go_at_call 24; (with_reducible refine (signalbenchlaw20_valid.calls k a2 2000 false _ A10.out).mono ?_); rintro e w' ⟨rfl, ⟨nd, rfl⟩⟩))
     go_meet
     case rel => exact ⟨_, (true), (by first | rfl | (simp; done) | (simp [*]; done)), H', ⟨by first | omega | exact Nat.le_refl _⟩, ⟨by (with_reducible repeat (first | refine blk_drewN ?_ _ | refine blk_drew ?_ | refine blk_alloc ?_ _)); exact BK224.out⟩, ⟨by repeat (first | (with_reducible first | exact HB.out | apply below_alloc | apply pw_below_drewN | apply below_drew1 | refine below_set ?_ GE224.out) | exact HB.out)⟩⟩
   ·replace c9 := Bool.eq_false_iff.mpr c9
    subst c9
    have H1 : (signalbenchlaw20_ScrambleLinear.j0 k a1 a2 true a0_0 a0_1) = some r := by rw [if_neg (show ¬ (false = true) by decide)] at H; exact H
    clear H
    have H := H1
    clear H1
    have H' := Aside0.mk H
    clear H
    have hcz16_0 : w5.cell? ⟨gb224, 0, none⟩ = some (.int .i64 a0_0) := (blk_cell BK224.out 0).trans rfl
    have hcz16_1 : w5.cell? ⟨gb224, 1, none⟩ = some (.int .i64 a0_1) := (blk_cell BK224.out 1).trans rfl
    have hfz16_0 := blk_frozen BK224.out 0
    have hfz16_1 := blk_frozen BK224.out 1
    go_wp2_with (first | ((with_reducible refine gate_callee (f := 9) rfl ?_); refine goesL_ (some 14) rfl rfl Try.func9 (by kernel_rfl) rfl #[.agg #[.int .i64 a0_0, .int .i64 a0_1]] rfl (by (try simp only [List.map_toArray, List.map_cons, List.map_nil]); first | done | rfl | (simp only [List.length_drop, List.length_take]; rfl)) ?_; (with_reducible refine (scramble_Check.calls k a0_0 a0_1 t225 _ A6.out).mono ?_); rintro e w17 ⟨rfl, hb⟩; refine ⟨_, rfl, ?_⟩; have n0_ := Aside0.mk (blkb BK224.out hb); have n1_ := Aside0.mk (below_step (hbw HB.out) hb); clear BK224; clear HB; have BK224 := n0_; have HB := n1_; clear n0_ n1_; (try clear hb); (try clear hb2); (try clear hk); (try clear hi)) | (go_at_call 24; (with_reducible refine (signalbenchlaw20_valid.calls k a1 2000 false _ A8.out).mono ?_); rintro e w' ⟨rfl, ⟨nd, rfl⟩⟩))
    go_meet
    case rel => exact ⟨_, (true), (by first | rfl | (simp; done) | (simp [*]; done)), H', ⟨by first | omega | exact Nat.le_refl _⟩, ⟨by (with_reducible repeat (first | refine blk_drewN ?_ _ | refine blk_drew ?_ | refine blk_alloc ?_ _)); exact BK224.out⟩, ⟨by repeat (first | (with_reducible first | exact HB.out | apply below_alloc | apply pw_below_drewN | apply below_drew1 | refine below_set ?_ GE224.out) | exact HB.out)⟩⟩
  ·rw [if_neg c7] at H
   have c7b0 : (t225 == 0) = false := beq_eq_false_iff_ne.mpr c7
   have c7b1 : (t225 != 0) = true := bne_iff_ne.mpr c7
   (first | rw [c7b0] | (simp only [i64_w, i32_w]; rw [c7b0]) | skip)
   have H' := Aside0.mk H
   clear H
   have hcz18_0 : w5.cell? ⟨gb224, 0, none⟩ = some (.int .i64 a0_0) := (blk_cell BK224.out 0).trans rfl
   have hcz18_1 : w5.cell? ⟨gb224, 1, none⟩ = some (.int .i64 a0_1) := (blk_cell BK224.out 1).trans rfl
   have hfz18_0 := blk_frozen BK224.out 0
   have hfz18_1 := blk_frozen BK224.out 1
   go_wp2_with (first | ((with_reducible refine gate_callee (f := 9) rfl ?_); refine goesL_ (some 14) rfl rfl Try.func9 (by kernel_rfl) rfl #[.agg #[.int .i64 a0_0, .int .i64 a0_1]] rfl (by (try simp only [List.map_toArray, List.map_cons, List.map_nil]); first | done | rfl | (simp only [List.length_drop, List.length_take]; rfl)) ?_; (with_reducible refine (scramble_Check.calls k a0_0 a0_1 t225 _ A6.out).mono ?_); rintro e w19 ⟨rfl, hb⟩; refine ⟨_, rfl, ?_⟩; have n0_ := Aside0.mk (blkb BK224.out hb); have n1_ := Aside0.mk (below_step (hbw HB.out) hb); clear BK224; clear HB; have BK224 := n0_; have HB := n1_; clear n0_ n1_; (try clear hb); (try clear hb2); (try clear hk); (try clear hi)))
   go_meet
   case rel => exact ⟨_, (true), (by first | rfl | (simp; done) | (simp [*]; done)), H', ⟨by first | omega | exact Nat.le_refl _⟩, ⟨by (with_reducible repeat (first | refine blk_drewN ?_ _ | refine blk_drew ?_ | refine blk_alloc ?_ _)); exact BK224.out⟩, ⟨by repeat (first | (with_reducible first | exact HB.out | apply below_alloc | apply pw_below_drewN | apply below_drew1 | refine below_set ?_ GE224.out) | exact HB.out)⟩⟩
 case rest =>
  clear HC4
  try clear c1
  try clear p2
  try clear c7
  try clear c7b0
  try clear c7b1
  try clear c8
  try clear c9
  try clear c11
  try clear hcz12_0
  try clear hcz12_1
  try clear hcz14_0
  try clear hcz14_1
  try clear hcz16_0
  try clear hcz16_1
  try clear hcz18_0
  try clear hcz18_1
  try clear hfz12_0
  try clear hfz12_1
  try clear hfz14_0
  try clear hfz14_1
  try clear hfz16_0
  try clear hfz16_1
  try clear hfz18_0
  try clear hfz18_1
  obtain ⟨kq, x32_3, rfl, HA, HJ3, BK224, HB⟩ := hcut
  cases kq with
  | zero => exact absurd HA.out (by simp [signalbenchlaw20_ScrambleLinear.j0])
  | succ kj3 =>
   have H := HA.out
   clear HA
   simp only [signalbenchlaw20_ScrambleLinear.j0] at H
   have HC20 := Aside0.mk H
   clear H
   go_upto_if 32 with (fail)
   go_cut [] (fun wc => ∃ (kq : Nat), Aside0 (signalbenchlaw20_ScrambleLinear.j1 kq a1 a2 a0_0 a0_1 = some r) ∧ Aside0 (kq ≤ kj3) ∧ Aside0 (wc.heap[gb224]? = some (.cells #[.int .i64 a0_0, .int .i64 a0_1] 23 (0, 0))) ∧ Aside0 (Below w.heap.size w wc))
   case first =>
    have H := HC20.out
    clear HC20
    by_cases c21 : x32_3 = true
    ·subst c21
     have H1 : ((signalbenchlaw20_awake.f kj3).bind fun t228 => (some t228)) = some r := by rw [if_pos rfl] at H; exact H
     clear H
     have H := H1
     clear H1
     replace H := Option.bind_eq_some_iff.mp H
     obtain ⟨t228, A220, H⟩ := H
     replace H : (some t228) = some r := H
     have A22 := Aside0.mk A220
     clear A220
     obtain rfl := Option.some.inj H
     go_wp2_with (first | ((with_reducible refine gate_callee (f := 11) rfl ?_); refine goesL_ (some 33) rfl rfl Try.func11 (by kernel_rfl) rfl #[] rfl (by (try simp only [List.map_toArray, List.map_cons, List.map_nil]); first | done | rfl | (simp only [List.length_drop, List.length_take]; rfl)) ?_; (with_reducible refine (signalbenchlaw20_awake.calls kj3  t228 _ A22.out).mono ?_); rintro e w23 ⟨rfl, hb⟩; refine ⟨_, rfl, ?_⟩; have n0_ := Aside0.mk (blkb BK224.out hb); have n1_ := Aside0.mk (below_step (hbw HB.out) hb); clear BK224; clear HB; have BK224 := n0_; have HB := n1_; clear n0_ n1_; (try clear hb); (try clear hb2); (try clear hk); (try clear hi)))
     go_ret
     exact ⟨by first | rfl | (simp [errW_none, errW_some] <;> rfl) | (simp [*, errW_none, errW_some] <;> rfl), by repeat (first | (with_reducible first | exact HB.out | apply below_alloc | apply pw_below_drewN | apply below_drew1 | refine below_set ?_ GE224.out) | exact HB.out)⟩
    ·replace c21 := Bool.eq_false_iff.mpr c21
     subst c21
     have H1 : (signalbenchlaw20_ScrambleLinear.j1 kj3 a1 a2 a0_0 a0_1) = some r := by rw [if_neg (show ¬ (false = true) by decide)] at H; exact H
     clear H
     have H := H1
     clear H1
     have H' := Aside0.mk H
     clear H
     go_wp2
     go_meet
     case rel => exact ⟨_, H', ⟨by have := HJ3.out; first | omega | exact Nat.le_refl _⟩, ⟨by (with_reducible repeat (first | refine blk_drewN ?_ _ | refine blk_drew ?_ | refine blk_alloc ?_ _)); exact BK224.out⟩, ⟨by repeat (first | (with_reducible first | exact HB.out | apply below_alloc | apply pw_below_drewN | apply below_drew1 | refine below_set ?_ GE224.out) | exact HB.out)⟩⟩
   case rest =>
    clear HC20
    try clear c1
    try clear c2
    try clear p2
    try clear c7
    try clear c7b0
    try clear c7b1
    try clear c8
    try clear c9
    try clear c11
    try clear c21
    try clear hcz12_0
    try clear hcz12_1
    try clear hcz14_0
    try clear hcz14_1
    try clear hcz16_0
    try clear hcz16_1
    try clear hcz18_0
    try clear hcz18_1
    try clear hfz12_0
    try clear hfz12_1
    try clear hfz14_0
    try clear hfz14_1
    try clear hfz16_0
    try clear hfz16_1
    try clear hfz18_0
    try clear hfz18_1
    try clear p2
    obtain ⟨kq, HA, HJ19, BK224, HB⟩ := hcut
    cases kq with
    | zero => exact absurd HA.out (by simp [signalbenchlaw20_ScrambleLinear.j1])
    | succ kj19 =>
     have H := HA.out
     clear HA
     simp only [signalbenchlaw20_ScrambleLinear.j1] at H
     by_cases c24 : 0 ≤ (a1.size : Int)
     ·rw [if_pos c24] at H
      have c24b0 := eq_true c24
      have c24b1 : decide (0 ≤ (a1.size : Int)) = true := decide_eq_true c24
      clear c24
      by_cases c25 : ((a1.size : Int) : Int).toNat ≤ 281474976710656
      ·rw [if_pos c25] at H
       have c25b0 := eq_true c25
       have c25b1 : decide (((a1.size : Int) : Int).toNat ≤ 281474976710656) = true := decide_eq_true c25
       clear c25
       obtain ⟨y229, hy229⟩ : ∃ y_ : List Int, y_ = (List.replicate 0 0) := ⟨_, rfl⟩
       replace H : (signalbenchlaw20_ScrambleLinear.l0 kj19 a1 a2 y229 0 a0_0 a0_1) = some r := by first | (rw [hy229]; with_reducible exact H) | (have H2_ := (Option.bind_some _ _).symm.trans H; rw [hy229]; with_reducible exact H2_) | (have H2_ := (Option.bind_some _ _).symm.trans H; with_reducible exact H2_) | with_reducible exact H | (rw [hy229]; exact H) | exact H
       have Ny229 := Aside0.mk hy229
       clear hy229
       have H' := Aside0.mk H
       clear H
       go_wp2_with (first | ((with_reducible refine gate_dst (N := 36) rfl ?_); (try (refine gate_guard (by rfl) ?_; dsimp only)); refine Kd.R_makeC (Kd.int .u8) _ 5 rfl (N := 36) rfl 51 _ _ rfl 0 (a1.size : Int) rfl rfl Try.underlying51 (.int .u8 0) 1 info5 rfl (by decide) (by omega) 0 (ok := fun _ => True) (okp := fun _ => True) rfl (fun _ hk => hk) trivial (Int.le_refl 0) (of_decide_eq_true (by first | (with_reducible assumption) | assumption)) (Nat.le_trans (Nat.mul_le_mul_right _ (of_decide_eq_true (by first | (with_reducible assumption) | assumption) : (a1.size : Int).toNat ≤ 281474976710656)) (by omega)) (Below.refl _ _) (Nat.le_refl _) ?_; intro v230 w26 ho27 hb hg_ hnew_; clear hg_ hnew_; (first | rw [← Ny229.out] at ho27 | (simp only [Int.reduceToNat] at ho27; rw [← Ny229.out] at ho27)); have n0_ := Aside0.mk (Kd.R_lower ho27 (below_size (hbw HB.out))); have n1_ := Aside0.mk (blkb BK224.out hb); have n2_ := Aside0.mk (below_step (hbw HB.out) hb); clear BK224; clear HB; have HO231 := n0_; have BK224 := n1_; have HB := n2_; clear n0_ n1_ n2_; clear hb ho27))
       go_loopg [7, 8] kj19 (fun kq v7 v8 w' => ∃ (x7_3 : List Int) (x8_3 : Int), v8 = .int .i64 x8_3 ∧ Aside0 (signalbenchlaw20_ScrambleLinear.l0 kq a1 a2 x7_3 x8_3 a0_0 a0_1 = some r) ∧ Aside0 (kq ≤ kj19) ∧ Aside0 (Kd.R (Kd.int .u8) 5 w' w.heap.size (fun _ => True) v7 x7_3) ∧ Aside0 (w'.heap[gb224]? = some (.cells #[.int .i64 a0_0, .int .i64 a0_1] 23 (0, 0))) ∧ Aside0 (Below w.heap.size w w'))
       case atStart => exact ⟨(y229), (0), (by first | rfl | (simp; done) | (simp [*]; done)), H', ⟨Nat.le_refl _⟩, ⟨by (with_reducible repeat (first | apply Kd.R_alloc | apply Kd.R_drewN | apply Kd.R_drew)); exact HO231.out⟩, ⟨by (with_reducible repeat (first | refine blk_drewN ?_ _ | refine blk_drew ?_ | refine blk_alloc ?_ _)); exact BK224.out⟩, ⟨by repeat (first | (with_reducible first | exact HB.out | apply below_alloc | apply pw_below_drewN | apply below_drew1 | refine below_set ?_ GE224.out) | exact HB.out)⟩⟩
       case round =>
        clear H'
        try clear c1
        try clear c2
        try clear p2
        try clear c7
        try clear c7b0
        try clear c7b1
        try clear c8
        try clear c9
        try clear c11
        try clear c21
        try clear c24
        try clear c24b0
        try clear c24b1
        try clear c25
        try clear c25b0
        try clear c25b1
        try clear hcz12_0
        try clear hcz12_1
        try clear hcz14_0
        try clear hcz14_1
        try clear hcz16_0
        try clear hcz16_1
        try clear hcz18_0
        try clear hcz18_1
        try clear hfz12_0
        try clear hfz12_1
        try clear hfz14_0
        try clear hfz14_1
        try clear hfz16_0
        try clear hfz16_1
        try clear hfz18_0
        try clear hfz18_1
        try clear p2
        obtain ⟨x7_3, x8_3, rfl, HA, HK3, HO_7, BK224, HB⟩ := hrel
        cases gk with
        | zero => exact absurd HA.out (by simp [signalbenchlaw20_ScrambleLinear.l0])
        | succ k3 =>
         have H := HA.out
         clear HA
         simp only [signalbenchlaw20_ScrambleLinear.l0] at H
         by_cases c28 : x8_3 < (a1.size : Int)
         ·rw [if_pos c28] at H
          have c28b0 : decide (x8_3 < (a1.size : Int)) = true := decide_eq_true c28
          clear c28
          by_cases c29 : 0 ≤ x8_3
          ·rw [if_pos c29] at H
           have c29b0 : decide (0 ≤ x8_3) = true := decide_eq_true c29
           clear c29
           by_cases c31 : x8_3 < (a2.size : Int)
           ·rw [if_pos c31] at H
            have c31b0 : decide (x8_3 < (a2.size : Int)) = true := decide_eq_true c31
            clear c31
            by_cases c33 : (bt a1 x8_3) = (bt a2 x8_3)
            ·rw [if_pos c33] at H
             have c33b0 : ((bt a1 x8_3) == (bt a2 x8_3)) = true := beq_iff_eq.mpr c33
             have c33b1 : ((bt a1 x8_3) != (bt a2 x8_3)) = false := bne_eq_false_iff_eq.mpr c33
             clear c33
             by_cases c34 : x7_3.length < 140737488355328
             ·rw [if_pos c34] at H
              have LMc34 := Aside0.mk c34
              clear c34
              obtain ⟨y232, hy232⟩ : ∃ y_ : List Int, y_ = (x7_3 ++ [48]) := ⟨_, rfl⟩
              replace H : (signalbenchlaw20_ScrambleLinear.l0 k3 a1 a2 y232 (wrap64 (x8_3 + 1)) a0_0 a0_1) = some r := by first | (rw [hy232]; with_reducible exact H) | (have H2_ := (Option.bind_some _ _).symm.trans H; rw [hy232]; with_reducible exact H2_) | (have H2_ := (Option.bind_some _ _).symm.trans H; with_reducible exact H2_) | with_reducible exact H | (rw [hy232]; exact H) | exact H
              have Ny232 := Aside0.mk hy232
              clear hy232
              have H' := Aside0.mk H
              clear H
              try go_wp2
              have n0_ := Aside0.mk (Kd.R_drew HO_7.out)
              have n1_ := Aside0.mk (blk_drew BK224.out)
              have n2_ := Aside0.mk (below_drew1 HB.out)
              clear HO_7
              clear BK224
              clear HB
              have HO_7 := n0_
              have BK224 := n1_
              have HB := n2_
              clear n0_ n1_ n2_
              have p30 : 0 ≤ (x8_3 : Int) := of_decide_eq_true (by first | (with_reducible assumption) | assumption)
              have q30 : x8_3 < (a1.size : Int) := of_decide_eq_true (by first | (with_reducible assumption) | assumption)
              have hx30 := bt_at a1 x8_3
              replace p30 := eq_true p30
              replace q30 := eq_true q30
              have p32 : 0 ≤ (x8_3 : Int) := of_decide_eq_true (by first | (with_reducible assumption) | assumption)
              have q32 : x8_3 < (a2.size : Int) := of_decide_eq_true (by first | (with_reducible assumption) | assumption)
              have hx32 := bt_at a2 x8_3
              replace p32 := eq_true p32
              replace q32 := eq_true q32
              refine start_ (n := 7) (S := fun w' => True) (ds := []) #[false, false, false, false, false, false, false] (by kernel_rfl) rfl rfl trivial (fun hHeld => ?_)
              generalize wr.drew = w35 at HO_7 BK224 HB hHeld ⊢
              refine pure_ (i := 0) (N := some 43) (v := ?_) (a' := ?_) #[true, false, false, false, false, false, false] rfl rfl (by kernel_rfl) (fun _ _ _ h => h) (Or.inl ⟨by rfl, ?_⟩) ?_ ?_
              rotate_left
              ·intro w'
               go_simp
               with_reducible rfl
              rotate_left
              ·simp only [Act.put, nrm]
               rfl
              refine pure_ (i := 1) (N := some 44) (v := ?_) (a' := ?_) #[true, true, false, false, false, false, false] rfl rfl (by kernel_rfl) (fun _ _ _ h => h) (Or.inl ⟨by rfl, ?_⟩) ?_ ?_
              rotate_left
              ·intro w'
               go_simp
               with_reducible rfl
              rotate_left
              ·simp only [Act.put, nrm]
               rfl
              refine pure_ (i := 3) (N := some 46) (v := ?_) (a' := ?_) #[true, true, false, true, false, false, false] rfl rfl (by kernel_rfl) (fun _ _ _ h => h) (Or.inl ⟨by rfl, ?_⟩) ?_ ?_
              rotate_left
              ·intro w'
               go_simp
               with_reducible rfl
              rotate_left
              ·simp only [Act.put, nrm]
               rfl
              refine pure_ (i := 4) (N := some 47) (v := ?_) (a' := ?_) #[true, true, false, true, true, false, false] rfl rfl (by kernel_rfl) (fun _ _ _ h => h) (Or.inl ⟨by rfl, ?_⟩) ?_ ?_
              rotate_left
              ·intro w'
               go_simp
               with_reducible rfl
              rotate_left
              ·simp only [Act.put, nrm]
               rfl
              refine take_ (i := 2) (N := some 45) (v := ?_) (a' := ?_) #[true, true, true, true, true, false, false] rfl rfl (by kernel_rfl) (fun _ _ _ h => h) (Or.inl ⟨by rfl, ?_⟩) hHeld ?_ ?_
              rotate_left
              ·intro w' _
               go_simp
               with_reducible rfl
              rotate_left
              ·simp only [Act.put, nrm]
               rfl
              refine take_ (i := 5) (N := some 48) (v := ?_) (a' := ?_) #[true, true, true, true, true, true, false] rfl rfl (by kernel_rfl) (fun _ _ _ h => h) (Or.inl ⟨by rfl, ?_⟩) hHeld ?_ ?_
              rotate_left
              ·intro w' _
               go_simp
               with_reducible rfl
              rotate_left
              ·simp only [Act.put, nrm]
               rfl
              refine pure_ (i := 6) (N := some 49) (v := ?_) (a' := ?_) #[true, true, true, true, true, true, true] rfl rfl (by kernel_rfl) (fun _ _ _ h => h) (Or.inl ⟨by rfl, ?_⟩) ?_ ?_
              rotate_left
              ·intro w'
               go_simp
               with_reducible rfl
              rotate_left
              ·simp only [Act.put, nrm]
               rfl
              refine done_ (by kernel_rfl) ?_
              try go_wp2_with (first | ((with_reducible refine gate_builtin (b := .append) (xs := #[.tmp 50, .tmp 51]) rfl ?_); (try (refine gate_guard (by rfl) ?_; dsimp only)); at_builtin; refine Kd.R_append (Kd.int .u8) (w0 := w) w.heap.size rfl (.tmp 50) (.tmp 51) 51 5 (.int .u8 0) 1 rfl Try.underlying51 info5 rfl (by decide) (by omega) u7 x7_3 48 [.int .u8 48] (fun _ => True) (fun _ => False) rfl rfl ?aP (fun _ hk => hk.elim) ?aF ?aO ?aB ?aS ?aL ?_; (case aP => exact rfl); (case aB => exact (hbw HB.out)); (case aF => exact (fun _ _ => trivial)); (case aO => exact (rkw HO_7.out)); (case aS => exact (below_size (hbw HB.out))); (case aL => have := LMc34.out; omega); intro v233 w36 ho hb hg hat; rw [← Ny232.out] at ho; have n0_ := Aside0.mk (blkg BK224.out hg (Kd.R_ne HO_7.out BK224.out (by decide))); have n1_ := Aside0.mk (hb); have n2_ := Aside0.mk (ho); clear BK224; clear HB; clear HO_7; have BK224 := n0_; have HB := n1_; have HO234 := n2_; clear n0_ n1_ n2_; clear ho hb hg hat))
              go_roundg k3
              case measure => have := HJ3.out; have := HJ19.out; have := HK3.out; omega
              case rel => exact ⟨(y232), (wrap64 (x8_3 + 1)), (by first | rfl | (simp; done) | (simp [*]; done)), H', ⟨by have := HJ3.out; have := HJ19.out; have := HK3.out; omega⟩, ⟨by (with_reducible repeat (first | apply Kd.R_alloc | apply Kd.R_drewN | apply Kd.R_drew)); exact HO234.out⟩, ⟨by (with_reducible repeat (first | refine blk_drewN ?_ _ | refine blk_drew ?_ | refine blk_alloc ?_ _)); exact BK224.out⟩, ⟨by repeat (first | (with_reducible first | exact HB.out | apply below_alloc | apply pw_below_drewN | apply below_drew1 | refine below_set ?_ GE224.out) | exact HB.out)⟩⟩
             ·rw [if_neg c34] at H
              exact absurd H (by simp)
            ·rw [if_neg c33] at H
             have c33b0 : ((bt a1 x8_3) == (bt a2 x8_3)) = false := beq_eq_false_iff_ne.mpr c33
             have c33b1 : ((bt a1 x8_3) != (bt a2 x8_3)) = true := bne_iff_ne.mpr c33
             by_cases c37 : x7_3.length < 140737488355328
             ·rw [if_pos c37] at H
              have LMc37 := Aside0.mk c37
              clear c37
              obtain ⟨y235, hy235⟩ : ∃ y_ : List Int, y_ = (x7_3 ++ [49]) := ⟨_, rfl⟩
              replace H : (signalbenchlaw20_ScrambleLinear.l0 k3 a1 a2 y235 (wrap64 (x8_3 + 1)) a0_0 a0_1) = some r := by first | (rw [hy235]; with_reducible exact H) | (have H2_ := (Option.bind_some _ _).symm.trans H; rw [hy235]; with_reducible exact H2_) | (have H2_ := (Option.bind_some _ _).symm.trans H; with_reducible exact H2_) | with_reducible exact H | (rw [hy235]; exact H) | exact H
              have Ny235 := Aside0.mk hy235
              clear hy235
              have H' := Aside0.mk H
              clear H
              try go_wp2
              have n0_ := Aside0.mk (Kd.R_drew HO_7.out)
              have n1_ := Aside0.mk (blk_drew BK224.out)
              have n2_ := Aside0.mk (below_drew1 HB.out)
              clear HO_7
              clear BK224
              clear HB
              have HO_7 := n0_
              have BK224 := n1_
              have HB := n2_
              clear n0_ n1_ n2_
              have p30 : 0 ≤ (x8_3 : Int) := of_decide_eq_true (by first | (with_reducible assumption) | assumption)
              have q30 : x8_3 < (a1.size : Int) := of_decide_eq_true (by first | (with_reducible assumption) | assumption)
              have hx30 := bt_at a1 x8_3
              replace p30 := eq_true p30
              replace q30 := eq_true q30
              have p32 : 0 ≤ (x8_3 : Int) := of_decide_eq_true (by first | (with_reducible assumption) | assumption)
              have q32 : x8_3 < (a2.size : Int) := of_decide_eq_true (by first | (with_reducible assumption) | assumption)
              have hx32 := bt_at a2 x8_3
              replace p32 := eq_true p32
              replace q32 := eq_true q32
              refine start_ (n := 7) (S := fun w' => True) (ds := []) #[false, false, false, false, false, false, false] (by kernel_rfl) rfl rfl trivial (fun hHeld => ?_)
              generalize wr.drew = w38 at HO_7 BK224 HB hHeld ⊢
              refine pure_ (i := 0) (N := some 43) (v := ?_) (a' := ?_) #[true, false, false, false, false, false, false] rfl rfl (by kernel_rfl) (fun _ _ _ h => h) (Or.inl ⟨by rfl, ?_⟩) ?_ ?_
              rotate_left
              ·intro w'
               go_simp
               with_reducible rfl
              rotate_left
              ·simp only [Act.put, nrm]
               rfl
              refine pure_ (i := 1) (N := some 44) (v := ?_) (a' := ?_) #[true, true, false, false, false, false, false] rfl rfl (by kernel_rfl) (fun _ _ _ h => h) (Or.inl ⟨by rfl, ?_⟩) ?_ ?_
              rotate_left
              ·intro w'
               go_simp
               with_reducible rfl
              rotate_left
              ·simp only [Act.put, nrm]
               rfl
              refine pure_ (i := 3) (N := some 46) (v := ?_) (a' := ?_) #[true, true, false, true, false, false, false] rfl rfl (by kernel_rfl) (fun _ _ _ h => h) (Or.inl ⟨by rfl, ?_⟩) ?_ ?_
              rotate_left
              ·intro w'
               go_simp
               with_reducible rfl
              rotate_left
              ·simp only [Act.put, nrm]
               rfl
              refine pure_ (i := 4) (N := some 47) (v := ?_) (a' := ?_) #[true, true, false, true, true, false, false] rfl rfl (by kernel_rfl) (fun _ _ _ h => h) (Or.inl ⟨by rfl, ?_⟩) ?_ ?_
              rotate_left
              ·intro w'
               go_simp
               with_reducible rfl
              rotate_left
              ·simp only [Act.put, nrm]
               rfl
              refine take_ (i := 2) (N := some 45) (v := ?_) (a' := ?_) #[true, true, true, true, true, false, false] rfl rfl (by kernel_rfl) (fun _ _ _ h => h) (Or.inl ⟨by rfl, ?_⟩) hHeld ?_ ?_
              rotate_left
              ·intro w' _
               go_simp
               with_reducible rfl
              rotate_left
              ·simp only [Act.put, nrm]
               rfl
              refine take_ (i := 5) (N := some 48) (v := ?_) (a' := ?_) #[true, true, true, true, true, true, false] rfl rfl (by kernel_rfl) (fun _ _ _ h => h) (Or.inl ⟨by rfl, ?_⟩) hHeld ?_ ?_
              rotate_left
              ·intro w' _
               go_simp
               with_reducible rfl
              rotate_left
              ·simp only [Act.put, nrm]
               rfl
              refine pure_ (i := 6) (N := some 49) (v := ?_) (a' := ?_) #[true, true, true, true, true, true, true] rfl rfl (by kernel_rfl) (fun _ _ _ h => h) (Or.inl ⟨by rfl, ?_⟩) ?_ ?_
              rotate_left
              ·intro w'
               go_simp
               with_reducible rfl
              rotate_left
              ·simp only [Act.put, nrm]
               rfl
              refine done_ (by kernel_rfl) ?_
              try go_wp2_with (first | ((with_reducible refine gate_builtin (b := .append) (xs := #[.tmp 53, .tmp 54]) rfl ?_); (try (refine gate_guard (by rfl) ?_; dsimp only)); at_builtin; refine Kd.R_append (Kd.int .u8) (w0 := w) w.heap.size rfl (.tmp 53) (.tmp 54) 51 5 (.int .u8 0) 1 rfl Try.underlying51 info5 rfl (by decide) (by omega) u7 x7_3 49 [.int .u8 49] (fun _ => True) (fun _ => False) rfl rfl ?aP (fun _ hk => hk.elim) ?aF ?aO ?aB ?aS ?aL ?_; (case aP => exact rfl); (case aB => exact (hbw HB.out)); (case aF => exact (fun _ _ => trivial)); (case aO => exact (rkw HO_7.out)); (case aS => exact (below_size (hbw HB.out))); (case aL => have := LMc37.out; omega); intro v236 w39 ho hb hg hat; rw [← Ny235.out] at ho; have n0_ := Aside0.mk (blkg BK224.out hg (Kd.R_ne HO_7.out BK224.out (by decide))); have n1_ := Aside0.mk (hb); have n2_ := Aside0.mk (ho); clear BK224; clear HB; clear HO_7; have BK224 := n0_; have HB := n1_; have HO237 := n2_; clear n0_ n1_ n2_; clear ho hb hg hat))
              go_roundg k3
              case measure => have := HJ3.out; have := HJ19.out; have := HK3.out; omega
              case rel => exact ⟨(y235), (wrap64 (x8_3 + 1)), (by first | rfl | (simp; done) | (simp [*]; done)), H', ⟨by have := HJ3.out; have := HJ19.out; have := HK3.out; omega⟩, ⟨by (with_reducible repeat (first | apply Kd.R_alloc | apply Kd.R_drewN | apply Kd.R_drew)); exact HO237.out⟩, ⟨by (with_reducible repeat (first | refine blk_drewN ?_ _ | refine blk_drew ?_ | refine blk_alloc ?_ _)); exact BK224.out⟩, ⟨by repeat (first | (with_reducible first | exact HB.out | apply below_alloc | apply pw_below_drewN | apply below_drew1 | refine below_set ?_ GE224.out) | exact HB.out)⟩⟩
             ·rw [if_neg c37] at H
              exact absurd H (by simp)
           ·rw [if_neg c31] at H
            exact absurd H (by simp)
          ·rw [if_neg c29] at H
           exact absurd H (by simp)
         ·rw [if_neg c28] at H
          have c28b0 : decide (x8_3 < (a1.size : Int)) = false := decide_eq_false c28
          clear c28
          replace H := Option.bind_eq_some_iff.mp H
          obtain ⟨t238, A400, H⟩ := H
          replace H : ((scramble_Decode.f k3 a0_0 a0_1 t238).bind fun t241 => ((signalbenchlaw20_told.f k3 t241).bind fun t244 => ((signalbenchlaw20_bits.f k3 a2).bind fun t245 => ((scramble_Decode.f k3 a0_0 a0_1 t245).bind fun t248 => ((signalbenchlaw20_told.f k3 t248).bind fun t251 => ((signalbenchlaw20_bits.f k3 (strOfNums x7_3)).bind fun t252 => ((scramble_Decode.f k3 a0_0 a0_1 t252).bind fun t255 => ((signalbenchlaw20_told.f k3 t255).bind fun t258 => (if (t244.size : Int) = (a1.size : Int) then (if (t251.size : Int) = (a1.size : Int) then (signalbenchlaw20_ScrambleLinear.j3 k3 a1 t244 t251 t258 ((t258.size : Int) != (a1.size : Int))) else (signalbenchlaw20_ScrambleLinear.j3 k3 a1 t244 t251 t258 true)) else (signalbenchlaw20_ScrambleLinear.j3 k3 a1 t244 t251 t258 true)))))))))) = some r := H
          have A40 := Aside0.mk A400
          clear A400
          replace H := Option.bind_eq_some_iff.mp H
          obtain ⟨t241, A410, H⟩ := H
          replace H : ((signalbenchlaw20_told.f k3 t241).bind fun t244 => ((signalbenchlaw20_bits.f k3 a2).bind fun t245 => ((scramble_Decode.f k3 a0_0 a0_1 t245).bind fun t248 => ((signalbenchlaw20_told.f k3 t248).bind fun t251 => ((signalbenchlaw20_bits.f k3 (strOfNums x7_3)).bind fun t252 => ((scramble_Decode.f k3 a0_0 a0_1 t252).bind fun t255 => ((signalbenchlaw20_told.f k3 t255).bind fun t258 => (if (t244.size : Int) = (a1.size : Int) then (if (t251.size : Int) = (a1.size : Int) then (signalbenchlaw20_ScrambleLinear.j3 k3 a1 t244 t251 t258 ((t258.size : Int) != (a1.size : Int))) else (signalbenchlaw20_ScrambleLinear.j3 k3 a1 t244 t251 t258 true)) else (signalbenchlaw20_ScrambleLinear.j3 k3 a1 t244 t251 t258 true))))))))) = some r := H
          have A41 := Aside0.mk A410
          clear A410
          replace H := Option.bind_eq_some_iff.mp H
          obtain ⟨t244, A420, H⟩ := H
          replace H : ((signalbenchlaw20_bits.f k3 a2).bind fun t245 => ((scramble_Decode.f k3 a0_0 a0_1 t245).bind fun t248 => ((signalbenchlaw20_told.f k3 t248).bind fun t251 => ((signalbenchlaw20_bits.f k3 (strOfNums x7_3)).bind fun t252 => ((scramble_Decode.f k3 a0_0 a0_1 t252).bind fun t255 => ((signalbenchlaw20_told.f k3 t255).bind fun t258 => (if (t244.size : Int) = (a1.size : Int) then (if (t251.size : Int) = (a1.size : Int) then (signalbenchlaw20_ScrambleLinear.j3 k3 a1 t244 t251 t258 ((t258.size : Int) != (a1.size : Int))) else (signalbenchlaw20_ScrambleLinear.j3 k3 a1 t244 t251 t258 true)) else (signalbenchlaw20_ScrambleLinear.j3 k3 a1 t244 t251 t258 true)))))))) = some r := H
          have A42 := Aside0.mk A420
          clear A420
          replace H := Option.bind_eq_some_iff.mp H
          obtain ⟨t245, A430, H⟩ := H
          replace H : ((scramble_Decode.f k3 a0_0 a0_1 t245).bind fun t248 => ((signalbenchlaw20_told.f k3 t248).bind fun t251 => ((signalbenchlaw20_bits.f k3 (strOfNums x7_3)).bind fun t252 => ((scramble_Decode.f k3 a0_0 a0_1 t252).bind fun t255 => ((signalbenchlaw20_told.f k3 t255).bind fun t258 => (if (t244.size : Int) = (a1.size : Int) then (if (t251.size : Int) = (a1.size : Int) then (signalbenchlaw20_ScrambleLinear.j3 k3 a1 t244 t251 t258 ((t258.size : Int) != (a1.size : Int))) else (signalbenchlaw20_ScrambleLinear.j3 k3 a1 t244 t251 t258 true)) else (signalbenchlaw20_ScrambleLinear.j3 k3 a1 t244 t251 t258 true))))))) = some r := H
          have A43 := Aside0.mk A430
          clear A430
          replace H := Option.bind_eq_some_iff.mp H
          obtain ⟨t248, A440, H⟩ := H
          replace H : ((signalbenchlaw20_told.f k3 t248).bind fun t251 => ((signalbenchlaw20_bits.f k3 (strOfNums x7_3)).bind fun t252 => ((scramble_Decode.f k3 a0_0 a0_1 t252).bind fun t255 => ((signalbenchlaw20_told.f k3 t255).bind fun t258 => (if (t244.size : Int) = (a1.size : Int) then (if (t251.size : Int) = (a1.size : Int) then (signalbenchlaw20_ScrambleLinear.j3 k3 a1 t244 t251 t258 ((t258.size : Int) != (a1.size : Int))) else (signalbenchlaw20_ScrambleLinear.j3 k3 a1 t244 t251 t258 true)) else (signalbenchlaw20_ScrambleLinear.j3 k3 a1 t244 t251 t258 true)))))) = some r := H
          have A44 := Aside0.mk A440
          clear A440
          replace H := Option.bind_eq_some_iff.mp H
          obtain ⟨t251, A450, H⟩ := H
          replace H : ((signalbenchlaw20_bits.f k3 (strOfNums x7_3)).bind fun t252 => ((scramble_Decode.f k3 a0_0 a0_1 t252).bind fun t255 => ((signalbenchlaw20_told.f k3 t255).bind fun t258 => (if (t244.size : Int) = (a1.size : Int) then (if (t251.size : Int) = (a1.size : Int) then (signalbenchlaw20_ScrambleLinear.j3 k3 a1 t244 t251 t258 ((t258.size : Int) != (a1.size : Int))) else (signalbenchlaw20_ScrambleLinear.j3 k3 a1 t244 t251 t258 true)) else (signalbenchlaw20_ScrambleLinear.j3 k3 a1 t244 t251 t258 true))))) = some r := H
          have A45 := Aside0.mk A450
          clear A450
          replace H := Option.bind_eq_some_iff.mp H
          obtain ⟨t252, A460, H⟩ := H
          replace H : ((scramble_Decode.f k3 a0_0 a0_1 t252).bind fun t255 => ((signalbenchlaw20_told.f k3 t255).bind fun t258 => (if (t244.size : Int) = (a1.size : Int) then (if (t251.size : Int) = (a1.size : Int) then (signalbenchlaw20_ScrambleLinear.j3 k3 a1 t244 t251 t258 ((t258.size : Int) != (a1.size : Int))) else (signalbenchlaw20_ScrambleLinear.j3 k3 a1 t244 t251 t258 true)) else (signalbenchlaw20_ScrambleLinear.j3 k3 a1 t244 t251 t258 true)))) = some r := H
          have A46 := Aside0.mk A460
          clear A460
          replace H := Option.bind_eq_some_iff.mp H
          obtain ⟨t255, A470, H⟩ := H
          replace H : ((signalbenchlaw20_told.f k3 t255).bind fun t258 => (if (t244.size : Int) = (a1.size : Int) then (if (t251.size : Int) = (a1.size : Int) then (signalbenchlaw20_ScrambleLinear.j3 k3 a1 t244 t251 t258 ((t258.size : Int) != (a1.size : Int))) else (signalbenchlaw20_ScrambleLinear.j3 k3 a1 t244 t251 t258 true)) else (signalbenchlaw20_ScrambleLinear.j3 k3 a1 t244 t251 t258 true))) = some r := H
          have A47 := Aside0.mk A470
          clear A470
          replace H := Option.bind_eq_some_iff.mp H
          obtain ⟨t258, A480, H⟩ := H
          replace H : (if (t244.size : Int) = (a1.size : Int) then (if (t251.size : Int) = (a1.size : Int) then (signalbenchlaw20_ScrambleLinear.j3 k3 a1 t244 t251 t258 ((t258.size : Int) != (a1.size : Int))) else (signalbenchlaw20_ScrambleLinear.j3 k3 a1 t244 t251 t258 true)) else (signalbenchlaw20_ScrambleLinear.j3 k3 a1 t244 t251 t258 true)) = some r := H
          have A48 := Aside0.mk A480
          clear A480
          have HC49 := Aside0.mk H
          clear H
          try go_wp2
          have n0_ := Aside0.mk (Kd.R_drew HO_7.out)
          have n1_ := Aside0.mk (blk_drew BK224.out)
          have n2_ := Aside0.mk (below_drew1 HB.out)
          clear HO_7
          clear BK224
          clear HB
          have HO_7 := n0_
          have BK224 := n1_
          have HB := n2_
          clear n0_ n1_ n2_
          refine start_ (n := 6) (S := fun w' => w'.cell? ⟨gb224, 0, none⟩ = some (.int .i64 a0_0) ∧ w'.cell? ⟨gb224, 1, none⟩ = some (.int .i64 a0_1)) (ds := []) #[false, false, false, false, false, false] (by kernel_rfl) rfl rfl ⟨(blk_cell BK224.out 0).trans rfl, (blk_cell BK224.out 1).trans rfl⟩ (fun hHeld => ?_)
          generalize wr.drew = w50 at HO_7 BK224 HB hHeld ⊢
          refine pure_ (i := 1) (N := some 57) (v := ?_) (a' := ?_) #[false, true, false, false, false, false] rfl rfl (by kernel_rfl) (fun _ _ _ h => h) (Or.inl ⟨by rfl, ?_⟩) ?_ ?_
          rotate_left
          ·intro w'
           go_simp
           with_reducible rfl
          rotate_left
          ·simp only [Act.put, nrm]
           rfl
          refine take_ (i := 0) (N := some 56) (v := ?_) (a' := ?_) #[true, true, false, false, false, false] rfl rfl (by kernel_rfl) (fun _ _ _ h => h) (Or.inl ⟨by rfl, ?_⟩) hHeld ?_ ?_
          rotate_left
          ·rintro w' ⟨s0, s1⟩
           go_simp
           with_reducible rfl
          rotate_left
          ·simp only [Act.put, nrm]
           rfl
          refine one_ (i := 2) (N := some 58) #[true, true, true, false, false, false] rfl rfl (by kernel_rfl) (by decide) (fun K hK => ?_)
          refine goes_ Try.func23 (by kernel_rfl) rfl #[.string a1] (by rfl) rfl rfl (by (try simp only [List.map_toArray, List.map_cons, List.map_nil]); first | done | rfl | (simp only [List.length_drop, List.length_take]; rfl)) ?_
          with_reducible refine (signalbenchlaw20_bits.calls k3 a1 t238 _ A40.out).mono ?_
          rintro e w51 ⟨v239, rfl, ho0, hb⟩
          refine ⟨_, rfl, ?_⟩
          have n0_ := Aside0.mk (Kd.R_below (rkw HO_7.out) hb)
          have n1_ := Aside0.mk (Kd.R_lower ho0 (below_size (hbw HB.out)))
          have n2_ := Aside0.mk (blkb BK224.out hb)
          have n3_ := Aside0.mk (below_step (hbw HB.out) hb)
          clear HO_7
          clear BK224
          clear HB
          have HO_7 := n0_
          have HO240 := n1_
          have BK224 := n2_
          have HB := n3_
          clear n0_ n1_ n2_ n3_
          (try clear hb)
          (try clear hb2)
          (try clear hk)
          (try clear hi)
          (try clear ho0)
          obtain ⟨Ao52, co52, eo52⟩ := Kd.R_slice HO240.out
          (first | subst eo52 | (injection eo52 with f1_ f2_ f3_; have f4_ := f1_.symm; have f5_ := f3_.symm; clear f1_ f2_ f3_; subst f4_; subst f5_))
          refine hK.out _ _ ⟨(blk_cell BK224.out 0).trans rfl, (blk_cell BK224.out 1).trans rfl⟩ (fun hHeld => ?_)
          clear hK K
          refine norm_ (a' := ?_) ?_ ?_
          rotate_left
          ·show Act.put _ (some 58) _ = _
           simp only [Act.put, nrm]
           rfl
          refine one_ (i := 3) (N := some 59) #[true, true, true, true, false, false] rfl rfl (by kernel_rfl) (by decide) (fun K hK => ?_)
          refine goes_ Try.func16 (by kernel_rfl) rfl #[.agg #[.int .i64 a0_0, .int .i64 a0_1], .slice Ao52 t238.length co52] (by rfl) rfl rfl (by (try simp only [List.map_toArray, List.map_cons, List.map_nil]); first | done | rfl | (simp only [List.length_drop, List.length_take]; rfl)) ?_
          with_reducible refine (scramble_Decode.calls k3 a0_0 a0_1 _ _ t238 t241 _ ?side1 ?side2 A41.out).mono ?_
          (case side1 => repeat (first | exact (Kd.R_reads' HO240.out).2.2 | (with_reducible refine Kd.C_alloc ?_ _) | (with_reducible refine Kd.C_drewN ?_ _) | (with_reducible refine Kd.C_drew ?_)))
          (case side2 => exact (Kd.R_reads' HO240.out).2.1)
          rintro e w53 ⟨v242, rfl, ho0, hb⟩
          refine ⟨_, rfl, ?_⟩
          have n0_ := Aside0.mk (Kd.R_below (rkw HO_7.out) hb)
          have n1_ := Aside0.mk (Kd.R_elder' (rkw HO240.out) (Kd.R_base ho0) hb)
          have n2_ := Aside0.mk (Kd.R_lower (Kd.R_new' ho0 (Kd.R_lt (rkw HO240.out))) (below_size (hbw HB.out)))
          have n3_ := Aside0.mk (blkb BK224.out hb)
          have n4_ := Aside0.mk (below_step (hbw HB.out) hb)
          clear HO_7
          clear HO240
          clear BK224
          clear HB
          have HO_7 := n0_
          have HO240 := n1_
          have HO243 := n2_
          have BK224 := n3_
          have HB := n4_
          clear n0_ n1_ n2_ n3_ n4_
          (try clear hb)
          (try clear hb2)
          (try clear hk)
          (try clear hi)
          (try clear ho0)
          obtain ⟨Ao54, co54, eo54⟩ := Kd.R_slice HO243.out
          (first | subst eo54 | (injection eo54 with f1_ f2_ f3_; have f4_ := f1_.symm; have f5_ := f3_.symm; clear f1_ f2_ f3_; subst f4_; subst f5_))
          refine hK.out _ _ ⟨(blk_cell BK224.out 0).trans rfl, (blk_cell BK224.out 1).trans rfl⟩ (fun hHeld => ?_)
          clear hK K
          refine norm_ (a' := ?_) ?_ ?_
          rotate_left
          ·show Act.put _ (some 59) _ = _
           simp only [Act.put, nrm]
           rfl
          refine one_ (i := 4) (N := some 60) #[true, true, true, true, true, false] rfl rfl (by kernel_rfl) (by decide) (fun K hK => ?_)
          refine goes_ Try.func25 (by kernel_rfl) rfl #[.slice Ao54 t241.length co54] (by rfl) rfl rfl (by (try simp only [List.map_toArray, List.map_cons, List.map_nil]); first | done | rfl | (simp only [List.length_drop, List.length_take]; rfl)) ?_
          with_reducible refine (signalbenchlaw20_told.calls k3 _ _ t241 t244 _ ?side1 ?side2 A42.out).mono ?_
          (case side1 => repeat (first | exact (Kd.R_reads' HO243.out).2.2 | (with_reducible refine Kd.C_alloc ?_ _) | (with_reducible refine Kd.C_drewN ?_ _) | (with_reducible refine Kd.C_drew ?_)))
          (case side2 => exact (Kd.R_reads' HO243.out).2.1)
          rintro e w55 ⟨rfl, hb⟩
          refine ⟨_, rfl, ?_⟩
          have n0_ := Aside0.mk (Kd.R_below (rkw HO_7.out) hb)
          have n1_ := Aside0.mk (Kd.R_below (rkw HO240.out) hb)
          have n2_ := Aside0.mk (Kd.R_below (rkw HO243.out) hb)
          have n3_ := Aside0.mk (blkb BK224.out hb)
          have n4_ := Aside0.mk (below_step (hbw HB.out) hb)
          clear HO_7
          clear HO240
          clear HO243
          clear BK224
          clear HB
          have HO_7 := n0_
          have HO240 := n1_
          have HO243 := n2_
          have BK224 := n3_
          have HB := n4_
          clear n0_ n1_ n2_ n3_ n4_
          (try clear hb)
          (try clear hb2)
          (try clear hk)
          (try clear hi)
          refine hK.out _ _ ⟨(blk_cell BK224.out 0).trans rfl, (blk_cell BK224.out 1).trans rfl⟩ (fun hHeld => ?_)
          clear hK K
          refine norm_ (a' := ?_) ?_ ?_
          rotate_left
          ·show Act.put _ (some 60) _ = _
           simp only [Act.put, nrm]
           rfl
          refine pure_ (i := 5) (N := some 9) (v := ?_) (a' := ?_) #[true, true, true, true, true, true] rfl rfl (by kernel_rfl) (fun _ _ _ h => h) (Or.inl ⟨by rfl, ?_⟩) ?_ ?_
          rotate_left
          ·intro w'
           go_simp
           with_reducible rfl
          rotate_left
          ·simp only [Act.put, nrm]
           rfl
          refine done_ (by kernel_rfl) ?_
          try go_wp2
          have n0_ := Aside0.mk (Kd.R_drew HO_7.out)
          have n1_ := Aside0.mk (Kd.R_drew HO240.out)
          have n2_ := Aside0.mk (Kd.R_drew HO243.out)
          have n3_ := Aside0.mk (blk_drew BK224.out)
          have n4_ := Aside0.mk (below_drew1 HB.out)
          clear HO_7
          clear HO240
          clear HO243
          clear BK224
          clear HB
          have HO_7 := n0_
          have HO240 := n1_
          have HO243 := n2_
          have BK224 := n3_
          have HB := n4_
          clear n0_ n1_ n2_ n3_ n4_
          refine start_ (n := 6) (S := fun w' => w'.cell? ⟨gb224, 0, none⟩ = some (.int .i64 a0_0) ∧ w'.cell? ⟨gb224, 1, none⟩ = some (.int .i64 a0_1)) (ds := []) #[false, false, false, false, false, false] (by kernel_rfl) rfl rfl ⟨(blk_cell BK224.out 0).trans rfl, (blk_cell BK224.out 1).trans rfl⟩ (fun hHeld => ?_)
          generalize w55.drew = w56 at HO_7 HO240 HO243 BK224 HB hHeld ⊢
          refine pure_ (i := 1) (N := some 62) (v := ?_) (a' := ?_) #[false, true, false, false, false, false] rfl rfl (by kernel_rfl) (fun _ _ _ h => h) (Or.inl ⟨by rfl, ?_⟩) ?_ ?_
          rotate_left
          ·intro w'
           go_simp
           with_reducible rfl
          rotate_left
          ·simp only [Act.put, nrm]
           rfl
          refine take_ (i := 0) (N := some 61) (v := ?_) (a' := ?_) #[true, true, false, false, false, false] rfl rfl (by kernel_rfl) (fun _ _ _ h => h) (Or.inl ⟨by rfl, ?_⟩) hHeld ?_ ?_
          rotate_left
          ·rintro w' ⟨s0, s1⟩
           go_simp
           with_reducible rfl
          rotate_left
          ·simp only [Act.put, nrm]
           rfl
          refine one_ (i := 2) (N := some 63) #[true, true, true, false, false, false] rfl rfl (by kernel_rfl) (by decide) (fun K hK => ?_)
          refine goes_ Try.func23 (by kernel_rfl) rfl #[.string a2] (by rfl) rfl rfl (by (try simp only [List.map_toArray, List.map_cons, List.map_nil]); first | done | rfl | (simp only [List.length_drop, List.length_take]; rfl)) ?_
          with_reducible refine (signalbenchlaw20_bits.calls k3 a2 t245 _ A43.out).mono ?_
          rintro e w57 ⟨v246, rfl, ho0, hb⟩
          refine ⟨_, rfl, ?_⟩
          have n0_ := Aside0.mk (Kd.R_below (rkw HO_7.out) hb)
          have n1_ := Aside0.mk (Kd.R_elder' (rkw HO240.out) (Kd.R_base ho0) hb)
          have n2_ := Aside0.mk (Kd.R_elder' (rkw HO243.out) (Kd.R_base ho0) hb)
          have n3_ := Aside0.mk (Kd.R_lower (Kd.R_new' (Kd.R_new' ho0 (Kd.R_lt (rkw HO240.out))) (Kd.R_lt (rkw HO243.out))) (below_size (hbw HB.out)))
          have n4_ := Aside0.mk (blkb BK224.out hb)
          have n5_ := Aside0.mk (below_step (hbw HB.out) hb)
          clear HO_7
          clear HO240
          clear HO243
          clear BK224
          clear HB
          have HO_7 := n0_
          have HO240 := n1_
          have HO243 := n2_
          have HO247 := n3_
          have BK224 := n4_
          have HB := n5_
          clear n0_ n1_ n2_ n3_ n4_ n5_
          (try clear hb)
          (try clear hb2)
          (try clear hk)
          (try clear hi)
          (try clear ho0)
          obtain ⟨Ao58, co58, eo58⟩ := Kd.R_slice HO247.out
          (first | subst eo58 | (injection eo58 with f1_ f2_ f3_; have f4_ := f1_.symm; have f5_ := f3_.symm; clear f1_ f2_ f3_; subst f4_; subst f5_))
          refine hK.out _ _ ⟨(blk_cell BK224.out 0).trans rfl, (blk_cell BK224.out 1).trans rfl⟩ (fun hHeld => ?_)
          clear hK K
          refine norm_ (a' := ?_) ?_ ?_
          rotate_left
          ·show Act.put _ (some 63) _ = _
           simp only [Act.put, nrm]
           rfl
          refine one_ (i := 3) (N := some 64) #[true, true, true, true, false, false] rfl rfl (by kernel_rfl) (by decide) (fun K hK => ?_)
          refine goes_ Try.func16 (by kernel_rfl) rfl #[.agg #[.int .i64 a0_0, .int .i64 a0_1], .slice Ao58 t245.length co58] (by rfl) rfl rfl (by (try simp only [List.map_toArray, List.map_cons, List.map_nil]); first | done | rfl | (simp only [List.length_drop, List.length_take]; rfl)) ?_
          with_reducible refine (scramble_Decode.calls k3 a0_0 a0_1 _ _ t245 t248 _ ?side1 ?side2 A44.out).mono ?_
          (case side1 => repeat (first | exact (Kd.R_reads' HO247.out).2.2 | (with_reducible refine Kd.C_alloc ?_ _) | (with_reducible refine Kd.C_drewN ?_ _) | (with_reducible refine Kd.C_drew ?_)))
          (case side2 => exact (Kd.R_reads' HO247.out).2.1)
          rintro e w59 ⟨v249, rfl, ho0, hb⟩
          refine ⟨_, rfl, ?_⟩
          have n0_ := Aside0.mk (Kd.R_below (rkw HO_7.out) hb)
          have n1_ := Aside0.mk (Kd.R_elder' (rkw HO240.out) (Kd.R_base ho0) hb)
          have n2_ := Aside0.mk (Kd.R_elder' (rkw HO243.out) (Kd.R_base ho0) hb)
          have n3_ := Aside0.mk (Kd.R_elder' (rkw HO247.out) (Kd.R_base ho0) hb)
          have n4_ := Aside0.mk (Kd.R_lower (Kd.R_new' (Kd.R_new' (Kd.R_new' ho0 (Kd.R_lt (rkw HO240.out))) (Kd.R_lt (rkw HO243.out))) (Kd.R_lt (rkw HO247.out))) (below_size (hbw HB.out)))
          have n5_ := Aside0.mk (blkb BK224.out hb)
          have n6_ := Aside0.mk (below_step (hbw HB.out) hb)
          clear HO_7
          clear HO240
          clear HO243
          clear HO247
          clear BK224
          clear HB
          have HO_7 := n0_
          have HO240 := n1_
          have HO243 := n2_
          have HO247 := n3_
          have HO250 := n4_
          have BK224 := n5_
          have HB := n6_
          clear n0_ n1_ n2_ n3_ n4_ n5_ n6_
          (try clear hb)
          (try clear hb2)
          (try clear hk)
          (try clear hi)
          (try clear ho0)
          obtain ⟨Ao60, co60, eo60⟩ := Kd.R_slice HO250.out
          (first | subst eo60 | (injection eo60 with f1_ f2_ f3_; have f4_ := f1_.symm; have f5_ := f3_.symm; clear f1_ f2_ f3_; subst f4_; subst f5_))
          refine hK.out _ _ ⟨(blk_cell BK224.out 0).trans rfl, (blk_cell BK224.out 1).trans rfl⟩ (fun hHeld => ?_)
          clear hK K
          refine norm_ (a' := ?_) ?_ ?_
          rotate_left
          ·show Act.put _ (some 64) _ = _
           simp only [Act.put, nrm]
           rfl
          refine one_ (i := 4) (N := some 65) #[true, true, true, true, true, false] rfl rfl (by kernel_rfl) (by decide) (fun K hK => ?_)
          refine goes_ Try.func25 (by kernel_rfl) rfl #[.slice Ao60 t248.length co60] (by rfl) rfl rfl (by (try simp only [List.map_toArray, List.map_cons, List.map_nil]); first | done | rfl | (simp only [List.length_drop, List.length_take]; rfl)) ?_
          with_reducible refine (signalbenchlaw20_told.calls k3 _ _ t248 t251 _ ?side1 ?side2 A45.out).mono ?_
          (case side1 => repeat (first | exact (Kd.R_reads' HO250.out).2.2 | (with_reducible refine Kd.C_alloc ?_ _) | (with_reducible refine Kd.C_drewN ?_ _) | (with_reducible refine Kd.C_drew ?_)))
          (case side2 => exact (Kd.R_reads' HO250.out).2.1)
          rintro e w61 ⟨rfl, hb⟩
          refine ⟨_, rfl, ?_⟩
          have n0_ := Aside0.mk (Kd.R_below (rkw HO_7.out) hb)
          have n1_ := Aside0.mk (Kd.R_below (rkw HO240.out) hb)
          have n2_ := Aside0.mk (Kd.R_below (rkw HO243.out) hb)
          have n3_ := Aside0.mk (Kd.R_below (rkw HO247.out) hb)
          have n4_ := Aside0.mk (Kd.R_below (rkw HO250.out) hb)
          have n5_ := Aside0.mk (blkb BK224.out hb)
          have n6_ := Aside0.mk (below_step (hbw HB.out) hb)
          clear HO_7
          clear HO240
          clear HO243
          clear HO247
          clear HO250
          clear BK224
          clear HB
          have HO_7 := n0_
          have HO240 := n1_
          have HO243 := n2_
          have HO247 := n3_
          have HO250 := n4_
          have BK224 := n5_
          have HB := n6_
          clear n0_ n1_ n2_ n3_ n4_ n5_ n6_
          (try clear hb)
          (try clear hb2)
          (try clear hk)
          (try clear hi)
          refine hK.out _ _ ⟨(blk_cell BK224.out 0).trans rfl, (blk_cell BK224.out 1).trans rfl⟩ (fun hHeld => ?_)
          clear hK K
          refine norm_ (a' := ?_) ?_ ?_
          rotate_left
          ·show Act.put _ (some 65) _ = _
           simp only [Act.put, nrm]
           rfl
          refine pure_ (i := 5) (N := some 10) (v := ?_) (a' := ?_) #[true, true, true, true, true, true] rfl rfl (by kernel_rfl) (fun _ _ _ h => h) (Or.inl ⟨by rfl, ?_⟩) ?_ ?_
          rotate_left
          ·intro w'
           go_simp
           with_reducible rfl
          rotate_left
          ·simp only [Act.put, nrm]
           rfl
          refine done_ (by kernel_rfl) ?_
          try go_wp2
          have n0_ := Aside0.mk (Kd.R_drew HO_7.out)
          have n1_ := Aside0.mk (Kd.R_drew HO240.out)
          have n2_ := Aside0.mk (Kd.R_drew HO243.out)
          have n3_ := Aside0.mk (Kd.R_drew HO247.out)
          have n4_ := Aside0.mk (Kd.R_drew HO250.out)
          have n5_ := Aside0.mk (blk_drew BK224.out)
          have n6_ := Aside0.mk (below_drew1 HB.out)
          clear HO_7
          clear HO240
          clear HO243
          clear HO247
          clear HO250
          clear BK224
          clear HB
          have HO_7 := n0_
          have HO240 := n1_
          have HO243 := n2_
          have HO247 := n3_
          have HO250 := n4_
          have BK224 := n5_
          have HB := n6_
          clear n0_ n1_ n2_ n3_ n4_ n5_ n6_
          refine start_ (n := 7) (S := fun w' => w'.cell? ⟨gb224, 0, none⟩ = some (.int .i64 a0_0) ∧ w'.cell? ⟨gb224, 1, none⟩ = some (.int .i64 a0_1)) (ds := []) #[false, false, false, false, false, false, false] (by kernel_rfl) rfl rfl ⟨(blk_cell BK224.out 0).trans rfl, (blk_cell BK224.out 1).trans rfl⟩ (fun hHeld => ?_)
          generalize w61.drew = w62 at HO_7 HO240 HO243 HO247 HO250 BK224 HB hHeld ⊢
          refine pure_ (i := 1) (N := some 67) (v := ?_) (a' := ?_) #[false, true, false, false, false, false, false] rfl rfl (by kernel_rfl) (fun _ _ _ h => h) (Or.inl ⟨by rfl, ?_⟩) ?_ ?_
          rotate_left
          ·intro w'
           go_simp
           with_reducible rfl
          rotate_left
          ·simp only [Act.put, nrm]
           rfl
          refine take_ (i := 0) (N := some 66) (v := ?_) (a' := ?_) #[true, true, false, false, false, false, false] rfl rfl (by kernel_rfl) (fun _ _ _ h => h) (Or.inl ⟨by rfl, ?_⟩) hHeld ?_ ?_
          rotate_left
          ·rintro w' ⟨s0, s1⟩
           go_simp
           with_reducible rfl
          rotate_left
          ·simp only [Act.put, nrm]
           rfl
          refine one_ (i := 2) (N := some 68) #[true, true, true, false, false, false, false] rfl rfl (by kernel_rfl) (by decide) (fun K hK => ?_)
          have hcv63 := own_string (P := Try.prog) Try.underlying51 Try.underlying5 Try.underlying9 (Kd.own_of_R HO_7.out)
          refine value_ (w1 := ?_) (v := ?_) (by rfl) rfl ?_ ?_
          rotate_left 2
          ·go_simp
           constructor
           ·rfl
           ·rfl
          clear hcv63
          refine hK.out _ _ ⟨(blk_cell BK224.out 0).trans rfl, (blk_cell BK224.out 1).trans rfl⟩ (fun hHeld => ?_)
          clear hK K
          refine norm_ (a' := ?_) ?_ ?_
          rotate_left
          ·show Act.put _ (some 68) _ = _
           simp only [Act.put, nrm]
           rfl
          refine one_ (i := 3) (N := some 69) #[true, true, true, true, false, false, false] rfl rfl (by kernel_rfl) (by decide) (fun K hK => ?_)
          refine goes_ Try.func23 (by kernel_rfl) rfl #[.string (strOfNums x7_3)] (by rfl) rfl rfl (by (try simp only [List.map_toArray, List.map_cons, List.map_nil]); first | done | rfl | (simp only [List.length_drop, List.length_take]; rfl)) ?_
          with_reducible refine (signalbenchlaw20_bits.calls k3 (strOfNums x7_3) t252 _ A46.out).mono ?_
          rintro e w64 ⟨v253, rfl, ho0, hb⟩
          refine ⟨_, rfl, ?_⟩
          have n0_ := Aside0.mk (Kd.R_below (rkw HO_7.out) hb)
          have n1_ := Aside0.mk (Kd.R_elder' (rkw HO240.out) (Kd.R_base ho0) hb)
          have n2_ := Aside0.mk (Kd.R_elder' (rkw HO243.out) (Kd.R_base ho0) hb)
          have n3_ := Aside0.mk (Kd.R_elder' (rkw HO247.out) (Kd.R_base ho0) hb)
          have n4_ := Aside0.mk (Kd.R_elder' (rkw HO250.out) (Kd.R_base ho0) hb)
          have n5_ := Aside0.mk (Kd.R_lower (Kd.R_new' (Kd.R_new' (Kd.R_new' (Kd.R_new' ho0 (Kd.R_lt (rkw HO240.out))) (Kd.R_lt (rkw HO243.out))) (Kd.R_lt (rkw HO247.out))) (Kd.R_lt (rkw HO250.out))) (below_size (hbw HB.out)))
          have n6_ := Aside0.mk (blkb BK224.out hb)
          have n7_ := Aside0.mk (below_step (hbw HB.out) hb)
          clear HO_7
          clear HO240
          clear HO243
          clear HO247
          clear HO250
          clear BK224
          clear HB
          have HO_7 := n0_
          have HO240 := n1_
          have HO243 := n2_
          have HO247 := n3_
          have HO250 := n4_
          have HO254 := n5_
          have BK224 := n6_
          have HB := n7_
          clear n0_ n1_ n2_ n3_ n4_ n5_ n6_ n7_
          (try clear hb)
          (try clear hb2)
          (try clear hk)
          (try clear hi)
          (try clear ho0)
          obtain ⟨Ao65, co65, eo65⟩ := Kd.R_slice HO254.out
          (first | subst eo65 | (injection eo65 with f1_ f2_ f3_; have f4_ := f1_.symm; have f5_ := f3_.symm; clear f1_ f2_ f3_; subst f4_; subst f5_))
          refine hK.out _ _ ⟨(blk_cell BK224.out 0).trans rfl, (blk_cell BK224.out 1).trans rfl⟩ (fun hHeld => ?_)
          clear hK K
          refine norm_ (a' := ?_) ?_ ?_
          rotate_left
          ·show Act.put _ (some 69) _ = _
           simp only [Act.put, nrm]
           rfl
          refine one_ (i := 4) (N := some 70) #[true, true, true, true, true, false, false] rfl rfl (by kernel_rfl) (by decide) (fun K hK => ?_)
          refine goes_ Try.func16 (by kernel_rfl) rfl #[.agg #[.int .i64 a0_0, .int .i64 a0_1], .slice Ao65 t252.length co65] (by rfl) rfl rfl (by (try simp only [List.map_toArray, List.map_cons, List.map_nil]); first | done | rfl | (simp only [List.length_drop, List.length_take]; rfl)) ?_
          with_reducible refine (scramble_Decode.calls k3 a0_0 a0_1 _ _ t252 t255 _ ?side1 ?side2 A47.out).mono ?_
          (case side1 => repeat (first | exact (Kd.R_reads' HO254.out).2.2 | (with_reducible refine Kd.C_alloc ?_ _) | (with_reducible refine Kd.C_drewN ?_ _) | (with_reducible refine Kd.C_drew ?_)))
          (case side2 => exact (Kd.R_reads' HO254.out).2.1)
          rintro e w66 ⟨v256, rfl, ho0, hb⟩
          refine ⟨_, rfl, ?_⟩
          have n0_ := Aside0.mk (Kd.R_below (rkw HO_7.out) hb)
          have n1_ := Aside0.mk (Kd.R_elder' (rkw HO240.out) (Kd.R_base ho0) hb)
          have n2_ := Aside0.mk (Kd.R_elder' (rkw HO243.out) (Kd.R_base ho0) hb)
          have n3_ := Aside0.mk (Kd.R_elder' (rkw HO247.out) (Kd.R_base ho0) hb)
          have n4_ := Aside0.mk (Kd.R_elder' (rkw HO250.out) (Kd.R_base ho0) hb)
          have n5_ := Aside0.mk (Kd.R_elder' (rkw HO254.out) (Kd.R_base ho0) hb)
          have n6_ := Aside0.mk (Kd.R_lower (Kd.R_new' (Kd.R_new' (Kd.R_new' (Kd.R_new' (Kd.R_new' ho0 (Kd.R_lt (rkw HO240.out))) (Kd.R_lt (rkw HO243.out))) (Kd.R_lt (rkw HO247.out))) (Kd.R_lt (rkw HO250.out))) (Kd.R_lt (rkw HO254.out))) (below_size (hbw HB.out)))
          have n7_ := Aside0.mk (blkb BK224.out hb)
          have n8_ := Aside0.mk (below_step (hbw HB.out) hb)
          clear HO_7
          clear HO240
          clear HO243
          clear HO247
          clear HO250
          clear HO254
          clear BK224
          clear HB
          have HO_7 := n0_
          have HO240 := n1_
          have HO243 := n2_
          have HO247 := n3_
          have HO250 := n4_
          have HO254 := n5_
          have HO257 := n6_
          have BK224 := n7_
          have HB := n8_
          clear n0_ n1_ n2_ n3_ n4_ n5_ n6_ n7_ n8_
          (try clear hb)
          (try clear hb2)
          (try clear hk)
          (try clear hi)
          (try clear ho0)
          obtain ⟨Ao67, co67, eo67⟩ := Kd.R_slice HO257.out
          (first | subst eo67 | (injection eo67 with f1_ f2_ f3_; have f4_ := f1_.symm; have f5_ := f3_.symm; clear f1_ f2_ f3_; subst f4_; subst f5_))
          refine hK.out _ _ ⟨(blk_cell BK224.out 0).trans rfl, (blk_cell BK224.out 1).trans rfl⟩ (fun hHeld => ?_)
          clear hK K
          refine norm_ (a' := ?_) ?_ ?_
          rotate_left
          ·show Act.put _ (some 70) _ = _
           simp only [Act.put, nrm]
           rfl
          refine one_ (i := 5) (N := some 71) #[true, true, true, true, true, true, false] rfl rfl (by kernel_rfl) (by decide) (fun K hK => ?_)
          refine goes_ Try.func25 (by kernel_rfl) rfl #[.slice Ao67 t255.length co67] (by rfl) rfl rfl (by (try simp only [List.map_toArray, List.map_cons, List.map_nil]); first | done | rfl | (simp only [List.length_drop, List.length_take]; rfl)) ?_
          with_reducible refine (signalbenchlaw20_told.calls k3 _ _ t255 t258 _ ?side1 ?side2 A48.out).mono ?_
          (case side1 => repeat (first | exact (Kd.R_reads' HO257.out).2.2 | (with_reducible refine Kd.C_alloc ?_ _) | (with_reducible refine Kd.C_drewN ?_ _) | (with_reducible refine Kd.C_drew ?_)))
          (case side2 => exact (Kd.R_reads' HO257.out).2.1)
          rintro e w68 ⟨rfl, hb⟩
          refine ⟨_, rfl, ?_⟩
          have n0_ := Aside0.mk (Kd.R_below (rkw HO_7.out) hb)
          have n1_ := Aside0.mk (Kd.R_below (rkw HO240.out) hb)
          have n2_ := Aside0.mk (Kd.R_below (rkw HO243.out) hb)
          have n3_ := Aside0.mk (Kd.R_below (rkw HO247.out) hb)
          have n4_ := Aside0.mk (Kd.R_below (rkw HO250.out) hb)
          have n5_ := Aside0.mk (Kd.R_below (rkw HO254.out) hb)
          have n6_ := Aside0.mk (Kd.R_below (rkw HO257.out) hb)
          have n7_ := Aside0.mk (blkb BK224.out hb)
          have n8_ := Aside0.mk (below_step (hbw HB.out) hb)
          clear HO_7
          clear HO240
          clear HO243
          clear HO247
          clear HO250
          clear HO254
          clear HO257
          clear BK224
          clear HB
          have HO_7 := n0_
          have HO240 := n1_
          have HO243 := n2_
          have HO247 := n3_
          have HO250 := n4_
          have HO254 := n5_
          have HO257 := n6_
          have BK224 := n7_
          have HB := n8_
          clear n0_ n1_ n2_ n3_ n4_ n5_ n6_ n7_ n8_
          (try clear hb)
          (try clear hb2)
          (try clear hk)
          (try clear hi)
          refine hK.out _ _ ⟨(blk_cell BK224.out 0).trans rfl, (blk_cell BK224.out 1).trans rfl⟩ (fun hHeld => ?_)
          clear hK K
          refine norm_ (a' := ?_) ?_ ?_
          rotate_left
          ·show Act.put _ (some 71) _ = _
           simp only [Act.put, nrm]
           rfl
          refine pure_ (i := 6) (N := some 11) (v := ?_) (a' := ?_) #[true, true, true, true, true, true, true] rfl rfl (by kernel_rfl) (fun _ _ _ h => h) (Or.inl ⟨by rfl, ?_⟩) ?_ ?_
          rotate_left
          ·intro w'
           go_simp
           with_reducible rfl
          rotate_left
          ·simp only [Act.put, nrm]
           rfl
          refine done_ (by kernel_rfl) ?_
          go_upto_region 13 with (fail)
          go_cut [90] (fun v90 wc => ∃ (kq : Nat) (x90_48 : Bool), v90 = .bool x90_48 ∧ Aside0 (signalbenchlaw20_ScrambleLinear.j3 kq a1 t244 t251 t258 x90_48 = some r) ∧ Aside0 (kq ≤ k3) ∧ Aside0 (wc.heap[gb224]? = some (.cells #[.int .i64 a0_0, .int .i64 a0_1] 23 (0, 0))) ∧ Aside0 (Below w.heap.size w wc))
          case first =>
           have H := HC49.out
           clear HC49
           by_cases c69 : (t244.size : Int) = (a1.size : Int)
           ·rw [if_pos c69] at H
            have c69b0 : ((t244.size : Int) == (a1.size : Int)) = true := beq_iff_eq.mpr c69
            have c69b1 : ((t244.size : Int) != (a1.size : Int)) = false := bne_eq_false_iff_eq.mpr c69
            have c69b2 : (t244.size == a1.size) = true := by first | simpa using c69 | (simp at c69 ⊢; omega)
            clear c69
            (first | rw [c69b0] | (simp only [i64_w, i32_w]; rw [c69b0]) | skip)
            by_cases c70 : (t251.size : Int) = (a1.size : Int)
            ·rw [if_pos c70] at H
             have c70b0 : ((t251.size : Int) == (a1.size : Int)) = true := beq_iff_eq.mpr c70
             have c70b1 : ((t251.size : Int) != (a1.size : Int)) = false := bne_eq_false_iff_eq.mpr c70
             have c70b2 : (t251.size == a1.size) = true := by first | simpa using c70 | (simp at c70 ⊢; omega)
             clear c70
             have H' := Aside0.mk H
             clear H
             go_wp2
             go_meet
             case rel => exact ⟨_, (((t258.size : Int) != (a1.size : Int))), (by first | rfl | (simp; done) | (simp [*]; done)), H', ⟨by have := HJ3.out; have := HJ19.out; have := HK3.out; first | omega | exact Nat.le_refl _⟩, ⟨by (with_reducible repeat (first | refine blk_drewN ?_ _ | refine blk_drew ?_ | refine blk_alloc ?_ _)); exact BK224.out⟩, ⟨by repeat (first | (with_reducible first | exact HB.out | apply below_alloc | apply pw_below_drewN | apply below_drew1 | refine below_set ?_ GE224.out) | exact HB.out)⟩⟩
            ·rw [if_neg c70] at H
             have c70b0 : ((t251.size : Int) == (a1.size : Int)) = false := beq_eq_false_iff_ne.mpr c70
             have c70b1 : ((t251.size : Int) != (a1.size : Int)) = true := bne_iff_ne.mpr c70
             have c70b2 : (t251.size == a1.size) = false := by first | simpa using c70 | (simp at c70 ⊢; omega)
             have H' := Aside0.mk H
             clear H
             go_wp2
             go_meet
             case rel => exact ⟨_, (true), (by first | rfl | (simp; done) | (simp [*]; done)), H', ⟨by have := HJ3.out; have := HJ19.out; have := HK3.out; first | omega | exact Nat.le_refl _⟩, ⟨by (with_reducible repeat (first | refine blk_drewN ?_ _ | refine blk_drew ?_ | refine blk_alloc ?_ _)); exact BK224.out⟩, ⟨by repeat (first | (with_reducible first | exact HB.out | apply below_alloc | apply pw_below_drewN | apply below_drew1 | refine below_set ?_ GE224.out) | exact HB.out)⟩⟩
           ·rw [if_neg c69] at H
            have c69b0 : ((t244.size : Int) == (a1.size : Int)) = false := beq_eq_false_iff_ne.mpr c69
            have c69b1 : ((t244.size : Int) != (a1.size : Int)) = true := bne_iff_ne.mpr c69
            have c69b2 : (t244.size == a1.size) = false := by first | simpa using c69 | (simp at c69 ⊢; omega)
            (first | rw [c69b0] | (simp only [i64_w, i32_w]; rw [c69b0]) | skip)
            have H' := Aside0.mk H
            clear H
            go_wp2
            go_meet
            case rel => exact ⟨_, (true), (by first | rfl | (simp; done) | (simp [*]; done)), H', ⟨by have := HJ3.out; have := HJ19.out; have := HK3.out; first | omega | exact Nat.le_refl _⟩, ⟨by (with_reducible repeat (first | refine blk_drewN ?_ _ | refine blk_drew ?_ | refine blk_alloc ?_ _)); exact BK224.out⟩, ⟨by repeat (first | (with_reducible first | exact HB.out | apply below_alloc | apply pw_below_drewN | apply below_drew1 | refine below_set ?_ GE224.out) | exact HB.out)⟩⟩
          case rest =>
           clear HC49
           try clear c1
           try clear c2
           try clear p2
           try clear c6
           try clear hcv6
           try clear c7
           try clear c16
           try clear c23
           try clear c25
           try clear c28
           try clear c28b0
           try clear hcv63
           try clear c69
           try clear c69b0
           try clear c69b1
           try clear c69b2
           try clear c70
           try clear c70b0
           try clear c70b1
           try clear c70b2
           obtain ⟨kq, x90_48, rfl, HA, HJ48, BK224, HB⟩ := hcut
           cases kq with
           | zero => exact absurd HA.out (by simp [signalbenchlaw20_ScrambleLinear.j3])
           | succ kj48 =>
            have H := HA.out
            clear HA
            simp only [signalbenchlaw20_ScrambleLinear.j3] at H
            have HC71 := Aside0.mk H
            clear H
            go_upto_if 90 with (fail)
            go_cut [] (fun wc => ∃ (kq : Nat), Aside0 (signalbenchlaw20_ScrambleLinear.j4 kq a1 t244 t251 t258 = some r) ∧ Aside0 (kq ≤ kj48) ∧ Aside0 (wc.heap[gb224]? = some (.cells #[.int .i64 a0_0, .int .i64 a0_1] 23 (0, 0))) ∧ Aside0 (Below w.heap.size w wc))
            case first =>
             have H := HC71.out
             clear HC71
             by_cases c72 : x90_48 = true
             ·subst c72
              have H1 : (some false) = some r := by rw [if_pos rfl] at H; exact H
              clear H
              have H := H1
              clear H1
              obtain rfl := Option.some.inj H
              go_wp2
              go_ret
              exact ⟨by first | rfl | (simp [errW_none, errW_some] <;> rfl) | (simp [*, errW_none, errW_some] <;> rfl), by repeat (first | (with_reducible first | exact HB.out | apply below_alloc | apply pw_below_drewN | apply below_drew1 | refine below_set ?_ GE224.out) | exact HB.out)⟩
             ·replace c72 := Bool.eq_false_iff.mpr c72
              subst c72
              have H1 : (signalbenchlaw20_ScrambleLinear.j4 kj48 a1 t244 t251 t258) = some r := by rw [if_neg (show ¬ (false = true) by decide)] at H; exact H
              clear H
              have H := H1
              clear H1
              have H' := Aside0.mk H
              clear H
              go_wp2
              go_meet
              case rel => exact ⟨_, H', ⟨by have := HJ3.out; have := HJ19.out; have := HK3.out; have := HJ48.out; first | omega | exact Nat.le_refl _⟩, ⟨by (with_reducible repeat (first | refine blk_drewN ?_ _ | refine blk_drew ?_ | refine blk_alloc ?_ _)); exact BK224.out⟩, ⟨by repeat (first | (with_reducible first | exact HB.out | apply below_alloc | apply pw_below_drewN | apply below_drew1 | refine below_set ?_ GE224.out) | exact HB.out)⟩⟩
            case rest =>
             clear HC71
             try clear c1
             try clear c2
             try clear p2
             try clear c6
             try clear hcv6
             try clear c7
             try clear c16
             try clear c23
             try clear c25
             try clear c28
             try clear c28b0
             try clear hcv63
             try clear c69
             try clear c69b0
             try clear c69b1
             try clear c69b2
             try clear c70
             try clear c70b0
             try clear c70b1
             try clear c70b2
             try clear c72
             try clear p2
             obtain ⟨kq, HA, HJ70, BK224, HB⟩ := hcut
             cases kq with
             | zero => exact absurd HA.out (by simp [signalbenchlaw20_ScrambleLinear.j4])
             | succ kj70 =>
              have H := HA.out
              clear HA
              simp only [signalbenchlaw20_ScrambleLinear.j4] at H
              have H' := Aside0.mk H
              clear H
              go_wp2
              go_loopg [12] kj70 (fun kq v12 w' => ∃ (x12_6 : Int), v12 = .int .i64 x12_6 ∧ Aside0 (signalbenchlaw20_ScrambleLinear.l1 kq a1 t244 t251 t258 x12_6 = some r) ∧ Aside0 (kq ≤ kj70) ∧ Aside0 (w'.heap[gb224]? = some (.cells #[.int .i64 a0_0, .int .i64 a0_1] 23 (0, 0))) ∧ Aside0 (Below w.heap.size w w'))
              case atStart => exact ⟨(0), (by first | rfl | (simp; done) | (simp [*]; done)), H', ⟨Nat.le_refl _⟩, ⟨by (with_reducible repeat (first | refine blk_drewN ?_ _ | refine blk_drew ?_ | refine blk_alloc ?_ _)); exact BK224.out⟩, ⟨by repeat (first | (with_reducible first | exact HB.out | apply below_alloc | apply pw_below_drewN | apply below_drew1 | refine below_set ?_ GE224.out) | exact HB.out)⟩⟩
              case round =>
               clear H'
               try clear c1
               try clear c2
               try clear p2
               try clear c6
               try clear hcv6
               try clear c7
               try clear c16
               try clear c23
               try clear c25
               try clear c28
               try clear c28b0
               try clear hcv63
               try clear c69
               try clear c69b0
               try clear c69b1
               try clear c69b2
               try clear c70
               try clear c70b0
               try clear c70b1
               try clear c70b2
               try clear c72
               try clear p2
               obtain ⟨x12_6, rfl, HA, HK6, BK224, HB⟩ := hrel
               cases gk with
               | zero => exact absurd HA.out (by simp [signalbenchlaw20_ScrambleLinear.l1])
               | succ k6 =>
                have H := HA.out
                clear HA
                simp only [signalbenchlaw20_ScrambleLinear.l1] at H
                by_cases c73 : x12_6 < (a1.size : Int)
                ·rw [if_pos c73] at H
                 have c73b0 : decide (x12_6 < (a1.size : Int)) = true := decide_eq_true c73
                 clear c73
                 by_cases c74 : 0 ≤ x12_6
                 ·rw [if_pos c74] at H
                  have c74b0 : decide (0 ≤ x12_6) = true := decide_eq_true c74
                  clear c74
                  by_cases c75 : x12_6 < (t244.size : Int)
                  ·rw [if_pos c75] at H
                   have c75b0 : decide (x12_6 < (t244.size : Int)) = true := decide_eq_true c75
                   clear c75
                   by_cases c77 : x12_6 < (t251.size : Int)
                   ·rw [if_pos c77] at H
                    have c77b0 : decide (x12_6 < (t251.size : Int)) = true := decide_eq_true c77
                    clear c77
                    by_cases c79 : x12_6 < (t258.size : Int)
                    ·rw [if_pos c79] at H
                     have c79b0 : decide (x12_6 < (t258.size : Int)) = true := decide_eq_true c79
                     clear c79
                     by_cases c81 : (((bt t244 x12_6) == (bt t251 x12_6)) != ((bt t258 x12_6) == 48)) = true
                     ·rw [if_pos c81] at H
                      have c81b0 : (((bt t244 x12_6) == (bt t251 x12_6)) != ((bt t258 x12_6) == 48)) = true := c81
                      (try (have c81b1 : decide (((bt t244 x12_6) == (bt t251 x12_6)) = ((bt t258 x12_6) == 48)) = false := by simpa using c81))
                      (try (have c81b2 : (((bt t244 x12_6) == (bt t251 x12_6)) == ((bt t258 x12_6) == 48)) = false := by simpa using c81))
                      (try (have c81b3 : ¬ (((bt t244 x12_6) == (bt t251 x12_6)) = ((bt t258 x12_6) == 48)) := by simpa using c81))
                      clear c81
                      obtain rfl := Option.some.inj H
                      try go_wp2
                      have n0_ := Aside0.mk (blk_drew BK224.out)
                      have n1_ := Aside0.mk (below_drew1 HB.out)
                      clear BK224
                      clear HB
                      have BK224 := n0_
                      have HB := n1_
                      clear n0_ n1_
                      have p76 : 0 ≤ (x12_6 : Int) := of_decide_eq_true (by first | (with_reducible assumption) | assumption)
                      have q76 : x12_6 < (t244.size : Int) := of_decide_eq_true (by first | (with_reducible assumption) | assumption)
                      have hx76 := bt_at t244 x12_6
                      replace p76 := eq_true p76
                      replace q76 := eq_true q76
                      have p78 : 0 ≤ (x12_6 : Int) := of_decide_eq_true (by first | (with_reducible assumption) | assumption)
                      have q78 : x12_6 < (t251.size : Int) := of_decide_eq_true (by first | (with_reducible assumption) | assumption)
                      have hx78 := bt_at t251 x12_6
                      replace p78 := eq_true p78
                      replace q78 := eq_true q78
                      have p80 : 0 ≤ (x12_6 : Int) := of_decide_eq_true (by first | (with_reducible assumption) | assumption)
                      have q80 : x12_6 < (t258.size : Int) := of_decide_eq_true (by first | (with_reducible assumption) | assumption)
                      have hx80 := bt_at t258 x12_6
                      replace p80 := eq_true p80
                      replace q80 := eq_true q80
                      refine start_ (n := 12) (S := fun w' => True) (ds := []) #[false, false, false, false, false, false, false, false, false, false, false, false] (by kernel_rfl) rfl rfl trivial (fun hHeld => ?_); refine with_tabW signalbenchlaw20_ScrambleLinear.tab18 signalbenchlaw20_ScrambleLinear.bits18 (fun HT_ HW_ => ?_)
                      generalize wr.drew = w82 at BK224 HB hHeld ⊢
                      refine pstep 0 (some 97) #[true, false, false, false, false, false, false, false, false, false, false, false] HT_.out ?_
                      refine pstep 1 (some 98) #[true, true, false, false, false, false, false, false, false, false, false, false] HT_.out ?_
                      refine pstep 3 (some 100) #[true, true, false, true, false, false, false, false, false, false, false, false] HT_.out ?_
                      refine pstep 4 (some 101) #[true, true, false, true, true, false, false, false, false, false, false, false] HT_.out ?_
                      refine pstep 7 (some 104) #[true, true, false, true, true, false, false, true, false, false, false, false] HT_.out ?_
                      refine pstep 8 (some 105) #[true, true, false, true, true, false, false, true, true, false, false, false] HT_.out ?_
                      refine take_ (i := 2) (N := some 99) (v := ?_) (a' := ?_) #[true, true, true, true, true, false, false, true, true, false, false, false] rfl rfl (take_ofW HT_.out HW_.out (by kernel_rfl)) (fun _ _ _ h => h) (Or.inl ⟨by rfl, ?_⟩) hHeld ?_ ?_
                      rotate_left
                      ·intro w' _
                       go_simp
                       with_reducible rfl
                      rotate_left
                      ·simp only [Act.put, nrm]
                       rfl
                      refine take_ (i := 5) (N := some 102) (v := ?_) (a' := ?_) #[true, true, true, true, true, true, false, true, true, false, false, false] rfl rfl (take_ofW HT_.out HW_.out (by kernel_rfl)) (fun _ _ _ h => h) (Or.inl ⟨by rfl, ?_⟩) hHeld ?_ ?_
                      rotate_left
                      ·intro w' _
                       go_simp
                       with_reducible rfl
                      rotate_left
                      ·simp only [Act.put, nrm]
                       rfl
                      refine pstep 6 (some 103) #[true, true, true, true, true, true, true, true, true, false, false, false] HT_.out ?_
                      refine take_ (i := 9) (N := some 106) (v := ?_) (a' := ?_) #[true, true, true, true, true, true, true, true, true, true, false, false] rfl rfl (take_ofW HT_.out HW_.out (by kernel_rfl)) (fun _ _ _ h => h) (Or.inl ⟨by rfl, ?_⟩) hHeld ?_ ?_
                      rotate_left
                      ·intro w' _
                       go_simp
                       with_reducible rfl
                      rotate_left
                      ·simp only [Act.put, nrm]
                       rfl
                      refine pstep 10 (some 107) #[true, true, true, true, true, true, true, true, true, true, true, false] HT_.out ?_
                      refine pstep 11 (some 108) #[true, true, true, true, true, true, true, true, true, true, true, true] HT_.out ?_
                      refine done_ (done_of HT_.out (by kernel_rfl)) ?_
                      try go_wp2
                      go_ret
                      exact ⟨by first | rfl | (simp [errW_none, errW_some] <;> rfl) | (simp [*, errW_none, errW_some] <;> rfl), by repeat (first | (with_reducible first | exact HB.out | apply below_alloc | apply pw_below_drewN | apply below_drew1 | refine below_set ?_ GE224.out) | exact HB.out)⟩
                     ·rw [if_neg c81] at H
                      have c81b0 : (((bt t244 x12_6) == (bt t251 x12_6)) != ((bt t258 x12_6) == 48)) = false := by simpa using c81
                      (try (have c81b1 : decide (((bt t244 x12_6) == (bt t251 x12_6)) = ((bt t258 x12_6) == 48)) = true := by simpa using c81))
                      (try (have c81b2 : (((bt t244 x12_6) == (bt t251 x12_6)) == ((bt t258 x12_6) == 48)) = true := by simpa using c81))
                      clear c81
                      have H' := Aside0.mk H
                      clear H
                      try go_wp2
                      have n0_ := Aside0.mk (blk_drew BK224.out)
                      have n1_ := Aside0.mk (below_drew1 HB.out)
                      clear BK224
                      clear HB
                      have BK224 := n0_
                      have HB := n1_
                      clear n0_ n1_
                      have p76 : 0 ≤ (x12_6 : Int) := of_decide_eq_true (by first | (with_reducible assumption) | assumption)
                      have q76 : x12_6 < (t244.size : Int) := of_decide_eq_true (by first | (with_reducible assumption) | assumption)
                      have hx76 := bt_at t244 x12_6
                      replace p76 := eq_true p76
                      replace q76 := eq_true q76
                      have p78 : 0 ≤ (x12_6 : Int) := of_decide_eq_true (by first | (with_reducible assumption) | assumption)
                      have q78 : x12_6 < (t251.size : Int) := of_decide_eq_true (by first | (with_reducible assumption) | assumption)
                      have hx78 := bt_at t251 x12_6
                      replace p78 := eq_true p78
                      replace q78 := eq_true q78
                      have p80 : 0 ≤ (x12_6 : Int) := of_decide_eq_true (by first | (with_reducible assumption) | assumption)
                      have q80 : x12_6 < (t258.size : Int) := of_decide_eq_true (by first | (with_reducible assumption) | assumption)
                      have hx80 := bt_at t258 x12_6
                      replace p80 := eq_true p80
                      replace q80 := eq_true q80
                      refine start_ (n := 12) (S := fun w' => True) (ds := []) #[false, false, false, false, false, false, false, false, false, false, false, false] (by kernel_rfl) rfl rfl trivial (fun hHeld => ?_); refine with_tabW signalbenchlaw20_ScrambleLinear.tab18 signalbenchlaw20_ScrambleLinear.bits18 (fun HT_ HW_ => ?_)
                      generalize wr.drew = w83 at BK224 HB hHeld ⊢
                      refine pstep 0 (some 97) #[true, false, false, false, false, false, false, false, false, false, false, false] HT_.out ?_
                      refine pstep 1 (some 98) #[true, true, false, false, false, false, false, false, false, false, false, false] HT_.out ?_
                      refine pstep 3 (some 100) #[true, true, false, true, false, false, false, false, false, false, false, false] HT_.out ?_
                      refine pstep 4 (some 101) #[true, true, false, true, true, false, false, false, false, false, false, false] HT_.out ?_
                      refine pstep 7 (some 104) #[true, true, false, true, true, false, false, true, false, false, false, false] HT_.out ?_
                      refine pstep 8 (some 105) #[true, true, false, true, true, false, false, true, true, false, false, false] HT_.out ?_
                      refine take_ (i := 2) (N := some 99) (v := ?_) (a' := ?_) #[true, true, true, true, true, false, false, true, true, false, false, false] rfl rfl (take_ofW HT_.out HW_.out (by kernel_rfl)) (fun _ _ _ h => h) (Or.inl ⟨by rfl, ?_⟩) hHeld ?_ ?_
                      rotate_left
                      ·intro w' _
                       go_simp
                       with_reducible rfl
                      rotate_left
                      ·simp only [Act.put, nrm]
                       rfl
                      refine take_ (i := 5) (N := some 102) (v := ?_) (a' := ?_) #[true, true, true, true, true, true, false, true, true, false, false, false] rfl rfl (take_ofW HT_.out HW_.out (by kernel_rfl)) (fun _ _ _ h => h) (Or.inl ⟨by rfl, ?_⟩) hHeld ?_ ?_
                      rotate_left
                      ·intro w' _
                       go_simp
                       with_reducible rfl
                      rotate_left
                      ·simp only [Act.put, nrm]
                       rfl
                      refine pstep 6 (some 103) #[true, true, true, true, true, true, true, true, true, false, false, false] HT_.out ?_
                      refine take_ (i := 9) (N := some 106) (v := ?_) (a' := ?_) #[true, true, true, true, true, true, true, true, true, true, false, false] rfl rfl (take_ofW HT_.out HW_.out (by kernel_rfl)) (fun _ _ _ h => h) (Or.inl ⟨by rfl, ?_⟩) hHeld ?_ ?_
                      rotate_left
                      ·intro w' _
                       go_simp
                       with_reducible rfl
                      rotate_left
                      ·simp only [Act.put, nrm]
                       rfl
                      refine pstep 10 (some 107) #[true, true, true, true, true, true, true, true, true, true, true, false] HT_.out ?_
                      refine pstep 11 (some 108) #[true, true, true, true, true, true, true, true, true, true, true, true] HT_.out ?_
                      refine done_ (done_of HT_.out (by kernel_rfl)) ?_
                      try go_wp2
                      go_roundg k6
                      case measure => have := HJ3.out; have := HJ19.out; have := HK3.out; have := HJ48.out; have := HJ70.out; have := HK6.out; omega
                      case rel => exact ⟨(wrap64 (x12_6 + 1)), (by first | rfl | (simp; done) | (simp [*]; done)), H', ⟨by have := HJ3.out; have := HJ19.out; have := HK3.out; have := HJ48.out; have := HJ70.out; have := HK6.out; omega⟩, ⟨by (with_reducible repeat (first | refine blk_drewN ?_ _ | refine blk_drew ?_ | refine blk_alloc ?_ _)); exact BK224.out⟩, ⟨by repeat (first | (with_reducible first | exact HB.out | apply below_alloc | apply pw_below_drewN | apply below_drew1 | refine below_set ?_ GE224.out) | exact HB.out)⟩⟩
                    ·rw [if_neg c79] at H
                     exact absurd H (by simp)
                   ·rw [if_neg c77] at H
                    exact absurd H (by simp)
                  ·rw [if_neg c75] at H
                   exact absurd H (by simp)
                 ·rw [if_neg c74] at H
                  exact absurd H (by simp)
                ·rw [if_neg c73] at H
                 have c73b0 : decide (x12_6 < (a1.size : Int)) = false := decide_eq_false c73
                 clear c73
                 replace H := Option.bind_eq_some_iff.mp H
                 obtain ⟨t259, A840, H⟩ := H
                 replace H : (some t259) = some r := H
                 have A84 := Aside0.mk A840
                 clear A840
                 obtain rfl := Option.some.inj H
                 go_wp2_with (first | ((with_reducible refine gate_callee (f := 11) rfl ?_); refine goesL_ (some 109) rfl rfl Try.func11 (by kernel_rfl) rfl #[] rfl (by (try simp only [List.map_toArray, List.map_cons, List.map_nil]); first | done | rfl | (simp only [List.length_drop, List.length_take]; rfl)) ?_; (with_reducible refine (signalbenchlaw20_awake.calls k6  t259 _ A84.out).mono ?_); rintro e w85 ⟨rfl, hb⟩; refine ⟨_, rfl, ?_⟩; have n0_ := Aside0.mk (blkb BK224.out hb); have n1_ := Aside0.mk (below_step (hbw HB.out) hb); clear BK224; clear HB; have BK224 := n0_; have HB := n1_; clear n0_ n1_; (try clear hb); (try clear hb2); (try clear hk); (try clear hi)))
                 go_ret
                 exact ⟨by first | rfl | (simp [errW_none, errW_some] <;> rfl) | (simp [*, errW_none, errW_some] <;> rfl), by repeat (first | (with_reducible first | exact HB.out | apply below_alloc | apply pw_below_drewN | apply below_drew1 | refine below_set ?_ GE224.out) | exact HB.out)⟩
      ·rw [if_neg c25] at H
       exact absurd H (by simp)
     ·rw [if_neg c24] at H
      exact absurd H (by simp)

/-- THE ONE PURE STATEMENT of signalbenchlaw20_ScrambleLinear: yours. -/
def signalbenchlaw20_ScrambleLinear.Pure : Prop := ∀ (a0_0 : Int) (a0_1 : Int) (a1 : ByteArray) (a2 : ByteArray), (Lit.int .i64 a0_0).wf = true → (Lit.int .i64 a0_1).wf = true → a1.size ≤ 140737488351232 → a2.size ≤ 140737488351232 → ∃ k, signalbenchlaw20_ScrambleLinear.f k a0_0 a0_1 a1 a2 = some true
theorem signalbenchlaw20_ScrambleLinear.walk (P : signalbenchlaw20_ScrambleLinear.Pure) (a0_0 : Int) (a0_1 : Int) (a1 : ByteArray) (a2 : ByteArray) (w : World)  (w0_ : (Lit.int .i64 a0_0).wf = true) (w1_ : (Lit.int .i64 a0_1).wf = true) (w2_ : a1.size ≤ 140737488351232) (w3_ : a2.size ≤ 140737488351232) :
  Calls Try.prog 8 #[.agg #[.int .i64 a0_0, .int .i64 a0_1], .string a1, .string a2] w fun e w' => e = .returned (.bool true) ∧ Below w.heap.size w w' := by
 obtain ⟨k, h⟩ := P a0_0 a0_1 a1 a2 w0_ w1_ w2_ w3_
 refine (signalbenchlaw20_ScrambleLinear.calls k a0_0 a0_1 a1 a2 true w  h).mono ?_
 rintro e w' ⟨rfl, hd⟩
 exact ⟨rfl, hd⟩

end Go.Proofs.Ytgcifmaefoeobaa.PScrambleLinear
