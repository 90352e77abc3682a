-- Written by a program of this session (wip/tools/pr.py), which calls the kit's print with changes of its own.
import Derived.Test.YtpgeomgaphodkaaPStuffDecodesx0
import Derived.Test.YtpgeomgaphodkaaPStuffDecodesx1
import Derived.Test.YtpgeomgaphodkaaPStuffDecodesx2
import Derived.Test.YtpgeomgaphodkaaPStuffDecodesx5
import Derived.Test.YtpgeomgaphodkaaPStuffDecodesx6
import Derived.Test.YtpgeomgaphodkaaPStuffDecodesx7
namespace Go.Proofs.Ytpgeomgaphodkaa.PStuffDecodes
open Go.RowKit Go.Proofs.YtpgeomgaphodkaaW.PrintWords Go.Proofs.YtpgeomgaphodkaaW.PrintLast Go.Proofs.YtpgeomgaphodkaaW.PrintMore
attribute [local go_sem] max2_int min2_int max_two min_two max_three min_three max_four min_four   -- for this text's walks alone
set_option linter.unusedVariables false
set_option linter.unusedSimpArgs false

attribute [local go_sem high] eqA33
/-! ### signalbenchlaw19_awake: function 9 -/
def signalbenchlaw19_awake.j0 : Nat → List (S45) → List (S45) → Bool → Int → Bool → Option (Bool)
 | 0, _, _, _, _, _ => none
 | k + 1, x2, x4, x37, x198000, x198001 => if x37 = true then (some false) else ((signalbenchlaw19_ideal.f k x2).bind fun t212 => ((stuff_Decode.f k x198000 x198001 t212).bind fun t215 => (if 0 < (x2.length : Int) then (if ((rd_T45 x2 0).f3).toList = ([49, 49, 49, 49, 49, 48, 49] : List UInt8) then (if 0 < (x4.length : Int) then (if ((rd_T45 x4 0).f3).toList = ([48, 48, 48, 49, 49, 49, 48, 49] : List UInt8) then (if (t215.length : Int) = 6 then (if 5 < (t215.length : Int) then (if (((rd_T33 t215 5).f0) == 2 && (((rd_T33 t215 5).f1) == 6 && (((rd_T33 t215 5).f2) == 7 && (((rd_T33 t215 5).f3) == 1 && (((rd_T33 t215 5).f4) == 0 && ((((rd_T33 t215 5).f5).toList) == ([] : List UInt8) && (((rd_T33 t215 5).f6) == 0))))))) = true then ((stuff_Check.f x198000 x198001).bind fun t221 => (if t221 = 0 then ((stuff_Check.f 17 false).bind fun t222 => (some (t222 == 2))) else (some false))) else (some false)) else (none)) else (some false)) else (some false)) else (none)) else (some false)) else (none))))
def signalbenchlaw19_awake.f (k : Nat)  : Option (Bool) := (stuff_Encode.f k 5 true (([(⟨0, 0, 0, (⟨#[49, 49, 49, 49, 49, 49]⟩ : ByteArray), 0⟩ : S45)] : List (S45)))).bind fun bt201 => ((stuff_Encode.f k 3 false (([(⟨0, 0, 0, (⟨#[48, 48, 48, 49, 49, 49]⟩ : ByteArray), 0⟩ : S45)] : List (S45)))).bind fun bt208 => (if (bt201.1.length : Int) = 1 then (if (bt208.1.length : Int) = 1 then (if bt201.2 = 0 then (signalbenchlaw19_awake.j0 k bt201.1 bt208.1 (bt208.2 != 0) 5 true) else (signalbenchlaw19_awake.j0 k bt201.1 bt208.1 true 5 true)) else (signalbenchlaw19_awake.j0 k bt201.1 bt208.1 true 5 true)) else (signalbenchlaw19_awake.j0 k bt201.1 bt208.1 true 5 true)))
theorem signalbenchlaw19_awake.mono_l : ∀ k, (∀ y0 y1 y2 y3 y4, LeO (signalbenchlaw19_awake.j0 k y0 y1 y2 y3 y4) (signalbenchlaw19_awake.j0 (k + 1) y0 y1 y2 y3 y4))
 | 0 => fun _ _ _ _ _ r h => by simp [signalbenchlaw19_awake.j0] at h
 | k + 1 => by
  have ih0 := signalbenchlaw19_awake.mono_l k
  ·intro y0 y1 y2 y3 y4
   unfold signalbenchlaw19_awake.j0
   repeat' first
   | (with_reducible exact ih0 _ _ _ _ _)
   | (with_reducible exact signalbenchlaw19_ideal.mono _ _)
   | (with_reducible exact stuff_Decode.mono _ _ _ _)
   | (with_reducible exact stuff_Encode.mono _ _ _ _)
   | (with_reducible exact LeO.refl _)
   | (with_reducible exact LeO.none _)
   | (with_reducible refine LeO.ite ?_ ?_)
   | (with_reducible refine LeO.bind ?_ (fun _ => ?_))
   | exact ih0 _ _ _ _ _
   | exact signalbenchlaw19_ideal.mono _ _
   | exact stuff_Decode.mono _ _ _ _
   | exact stuff_Encode.mono _ _ _ _
   | exact LeO.none _
   | refine LeO.ite ?_ ?_
   | refine LeO.bind ?_ (fun _ => ?_)
theorem signalbenchlaw19_awake.mono : ∀ k, LeO (signalbenchlaw19_awake.f k ) (signalbenchlaw19_awake.f (k + 1) ) := by
 intro  k
 have ih0 := signalbenchlaw19_awake.mono_l k
 unfold signalbenchlaw19_awake.f
 repeat' first
   | (with_reducible exact ih0 _ _ _ _ _)
   | (with_reducible exact signalbenchlaw19_ideal.mono _ _)
   | (with_reducible exact stuff_Decode.mono _ _ _ _)
   | (with_reducible exact stuff_Encode.mono _ _ _ _)
   | (with_reducible exact LeO.refl _)
   | (with_reducible exact LeO.none _)
   | (with_reducible refine LeO.ite ?_ ?_)
   | (with_reducible refine LeO.bind ?_ (fun _ => ?_))
   | exact ih0 _ _ _ _ _
   | exact signalbenchlaw19_ideal.mono _ _
   | exact stuff_Decode.mono _ _ _ _
   | exact stuff_Encode.mono _ _ _ _
   | exact LeO.none _
   | refine LeO.ite ?_ ?_
   | refine LeO.bind ?_ (fun _ => ?_)
set_option maxHeartbeats 8000000 in
set_option maxRecDepth 100000 in
theorem signalbenchlaw19_awake.calls (k : Nat)  (r : Bool) (w : World) (h : signalbenchlaw19_awake.f k  = some r) :
  Calls Try.prog 9 #[] w fun e w' => e = .returned (.bool r) ∧ Below w.heap.size w w' := by
 have hu23 := Try.underlying23; have hu45 := Try.underlying45; have hu33 := Try.underlying33; have HB := Aside0.mk (Below.refl w.heap.size w); have H : ((stuff_Encode.f k 5 true (([(⟨0, 0, 0, (⟨#[49, 49, 49, 49, 49, 49]⟩ : ByteArray), 0⟩ : S45)] : List (S45)))).bind fun bt201 => ((stuff_Encode.f k 3 false (([(⟨0, 0, 0, (⟨#[48, 48, 48, 49, 49, 49]⟩ : ByteArray), 0⟩ : S45)] : List (S45)))).bind fun bt208 => (if (bt201.1.length : Int) = 1 then (if (bt208.1.length : Int) = 1 then (if bt201.2 = 0 then (signalbenchlaw19_awake.j0 k bt201.1 bt208.1 (bt208.2 != 0) 5 true) else (signalbenchlaw19_awake.j0 k bt201.1 bt208.1 true 5 true)) else (signalbenchlaw19_awake.j0 k bt201.1 bt208.1 true 5 true)) else (signalbenchlaw19_awake.j0 k bt201.1 bt208.1 true 5 true)))) = some r := h; clear h; obtain ⟨y198, hy198⟩ : ∃ y_ : List (S45), y_ = (([(⟨0, 0, 0, (⟨#[49, 49, 49, 49, 49, 49]⟩ : ByteArray), 0⟩ : S45)] : List (S45))) := ⟨_, rfl⟩
 replace H : ((stuff_Encode.f k 5 true y198).bind fun bt201 => ((stuff_Encode.f k 3 false (([(⟨0, 0, 0, (⟨#[48, 48, 48, 49, 49, 49]⟩ : ByteArray), 0⟩ : S45)] : List (S45)))).bind fun bt208 => (if (bt201.1.length : Int) = 1 then (if (bt208.1.length : Int) = 1 then (if bt201.2 = 0 then (signalbenchlaw19_awake.j0 k bt201.1 bt208.1 (bt208.2 != 0) 5 true) else (signalbenchlaw19_awake.j0 k bt201.1 bt208.1 true 5 true)) else (signalbenchlaw19_awake.j0 k bt201.1 bt208.1 true 5 true)) else (signalbenchlaw19_awake.j0 k bt201.1 bt208.1 true 5 true)))) = some r := by first | (rw [hy198]; with_reducible exact H) | (have H2_ := (Option.bind_some _ _).symm.trans H; rw [hy198]; with_reducible exact H2_) | (have H2_ := (Option.bind_some _ _).symm.trans H; with_reducible exact H2_) | with_reducible exact H | (rw [hy198]; exact H) | exact H
 have Ny198 := Aside0.mk hy198; clear hy198; replace H := Option.bind_eq_some_iff.mp H; obtain ⟨⟨t201, t204⟩, A10, H⟩ := H; replace H : ((stuff_Encode.f k 3 false (([(⟨0, 0, 0, (⟨#[48, 48, 48, 49, 49, 49]⟩ : ByteArray), 0⟩ : S45)] : List (S45)))).bind fun bt208 => (if (t201.length : Int) = 1 then (if (bt208.1.length : Int) = 1 then (if t204 = 0 then (signalbenchlaw19_awake.j0 k t201 bt208.1 (bt208.2 != 0) 5 true) else (signalbenchlaw19_awake.j0 k t201 bt208.1 true 5 true)) else (signalbenchlaw19_awake.j0 k t201 bt208.1 true 5 true)) else (signalbenchlaw19_awake.j0 k t201 bt208.1 true 5 true))) = some r := H; have A1 := Aside0.mk A10; clear A10; obtain ⟨y205, hy205⟩ : ∃ y_ : List (S45), y_ = (([(⟨0, 0, 0, (⟨#[48, 48, 48, 49, 49, 49]⟩ : ByteArray), 0⟩ : S45)] : List (S45))) := ⟨_, rfl⟩
 replace H : ((stuff_Encode.f k 3 false y205).bind fun bt208 => (if (t201.length : Int) = 1 then (if (bt208.1.length : Int) = 1 then (if t204 = 0 then (signalbenchlaw19_awake.j0 k t201 bt208.1 (bt208.2 != 0) 5 true) else (signalbenchlaw19_awake.j0 k t201 bt208.1 true 5 true)) else (signalbenchlaw19_awake.j0 k t201 bt208.1 true 5 true)) else (signalbenchlaw19_awake.j0 k t201 bt208.1 true 5 true))) = some r := by first | (rw [hy205]; with_reducible exact H) | (have H2_ := (Option.bind_some _ _).symm.trans H; rw [hy205]; with_reducible exact H2_) | (have H2_ := (Option.bind_some _ _).symm.trans H; with_reducible exact H2_) | with_reducible exact H | (rw [hy205]; exact H) | exact H
 have Ny205 := Aside0.mk hy205; clear hy205; replace H := Option.bind_eq_some_iff.mp H; obtain ⟨⟨t208, t211⟩, A20, H⟩ := H; replace H : (if (t201.length : Int) = 1 then (if (t208.length : Int) = 1 then (if t204 = 0 then (signalbenchlaw19_awake.j0 k t201 t208 (t211 != 0) 5 true) else (signalbenchlaw19_awake.j0 k t201 t208 true 5 true)) else (signalbenchlaw19_awake.j0 k t201 t208 true 5 true)) else (signalbenchlaw19_awake.j0 k t201 t208 true 5 true)) = some r := H; have A2 := Aside0.mk A20; clear A20; have HC3 := Aside0.mk H; clear H
 go_enter Try.func9, Try.ntmps9
 go_upto_region 4 with (first | ((with_reducible refine gate_dst (N := 1) rfl ?_); (try (refine gate_guard (by first | rfl | (go_simp; done)) ?_; dsimp only)); refine box_event ?hg (N := 1) ?hd (cs := #[.int .i64 0, .bool false]) (t := 23) ?hr ?_; (case hd => rfl); (case hg => rfl); (case hr => first | (go_simp; done) | (go_simp; rfl)); intro gb197 hg w4 hbox hb; have n0_ := Aside0.mk (below_step (hbw HB.out) hb); have n1_ := Aside0.mk (hbox); have n2_ := bsz HB hg; have n3_ := bsz HB hg; clear HB; have HB := n0_; have BK197 := n1_; have GW197 := n2_; have GE197 := n3_; clear n0_ n1_ n2_ n3_; clear hb hbox hg; have hcz5_0 : w4.cell? ⟨gb197, 0, none⟩ = some (.int .i64 0) := ck BK197 0; have hcz5_1 : w4.cell? ⟨gb197, 1, none⟩ = some (.bool false) := ck BK197 1; have hfz5_0 := blk_frozen BK197.out 0; have hfz5_1 := blk_frozen BK197.out 1) | ((with_reducible refine gate_dst (N := 11) rfl ?_); (try (refine gate_guard (by first | rfl | (go_simp; done)) ?_; dsimp only)); refine Kd.R_lit k45 _ 45 ?hg (N := 11) ?hd (xs := ([(⟨0, 0, 0, (⟨#[49, 49, 49, 49, 49, 49]⟩ : ByteArray), 0⟩ : S45)] : List (S45))) (inner := [.int .i64 0, .int .i64 0, .int .i64 0, .string (⟨#[49, 49, 49, 49, 49, 49]⟩ : ByteArray), .int .i64 0]) (ok := fun _ => True) (okp := fun _ => True) ?hr ?hp (fun _ hk => hk) trivial (Below.refl _ _) (Nat.le_refl _) (by simp) ?_; (case hd => rfl); (case hg => rfl); (case hr => first | (go_simp; done) | (go_simp; rfl)); (case hp => exact (Reps.c5 (show Kd.M k45 _ _ _ (⟨0, 0, 0, (⟨#[49, 49, 49, 49, 49, 49]⟩ : ByteArray), 0⟩ : S45) [.int .i64 0, .int .i64 0, .int .i64 0, .string (⟨#[49, 49, 49, 49, 49, 49]⟩ : ByteArray), .int .i64 0] from (k45_mkM _ _ _ (⟨0, 0, 0, (⟨#[49, 49, 49, 49, 49, 49]⟩ : ByteArray), 0⟩ : S45) )) (Reps.none _ _))); intro v199 w6 ho7 hb hg_ hnew_; clear hg_ hnew_; (first | rw [← Ny198.out] at ho7 | (simp only [Int.reduceToNat] at ho7; rw [← Ny198.out] at ho7)); have n0_ := Aside0.mk (Kd.R_lower ho7 (below_size (hbw HB.out))); have n1_ := Aside0.mk (blk_below (g := gb197) (o := .cells #[.int .i64 5, .bool true] 23 (0, 0)) (by (with_reducible repeat (first | refine blk_drewN ?_ _ | refine blk_drew ?_ | refine blk_alloc ?_ _)); refine blk_put (cs := #[.int .i64 5, .bool false]) ?_ 1 _ rfl; (with_reducible repeat (first | refine blk_drewN ?_ _ | refine blk_drew ?_ | refine blk_alloc ?_ _)); refine blk_put (cs := #[.int .i64 0, .bool false]) ?_ 0 _ rfl; (with_reducible repeat (first | refine blk_drewN ?_ _ | refine blk_drew ?_ | refine blk_alloc ?_ _)); exact BK197.out) hb); have n2_ := Aside0.mk (below_step (hbw HB.out) hb); clear BK197; clear HB; have HO200 := n0_; have BK197 := n1_; have HB := n2_; clear n0_ n1_ n2_; clear hb ho7; obtain ⟨Ao8, co8, eo8⟩ := Kd.R_slice HO200.out; subst eo8) | ((with_reducible refine gate_callee (f := 21) rfl ?_); refine goesL_ (some 12) rfl rfl Try.func21 (by kernel_rfl) rfl #[.agg #[.int .i64 5, .bool true], .slice Ao8 y198.length co8] rfl (by (try simp only [List.map_toArray, List.map_cons, List.map_nil]); first | done | rfl | (simp only [List.length_drop, List.length_take]; rfl)) ?_; (with_reducible refine (stuff_Encode.calls k 5 true _ _ y198 t201 t204 _ ?side1 ?side2 A1.out).mono ?_); (case side1 => repeat (first | exact (Kd.R_reads' HO200.out).2.2 | (with_reducible refine Kd.C_alloc ?_ _) | (with_reducible refine Kd.C_drewN ?_ _) | (with_reducible refine Kd.C_drew ?_))); (case side2 => exact (Kd.R_reads' HO200.out).2.1); rintro e w9 ⟨v202, rfl, ho0, hb⟩; refine ⟨_, rfl, ?_⟩; have n0_ := Aside0.mk (Kd.R_elder' (rkw HO200.out) (Kd.R_base ho0) hb); have n1_ := Aside0.mk (Kd.R_lower (Kd.R_new' ho0 (Kd.R_lt (rkw HO200.out))) (below_size (hbw HB.out))); have n2_ := Aside0.mk (blkb BK197.out hb); have n3_ := Aside0.mk (below_step (hbw HB.out) hb); clear HO200; clear BK197; clear HB; have HO200 := n0_; have HO203 := n1_; have BK197 := n2_; have HB := n3_; clear n0_ n1_ n2_ n3_; (try clear hb); (try clear hb2); (try clear hk); (try clear hi); (try clear ho0)) | ((with_reducible refine gate_dst (N := 18) rfl ?_); (try (refine gate_guard (by first | rfl | (go_simp; done)) ?_; dsimp only)); refine Kd.R_lit k45 _ 45 ?hg (N := 18) ?hd (xs := ([(⟨0, 0, 0, (⟨#[48, 48, 48, 49, 49, 49]⟩ : ByteArray), 0⟩ : S45)] : List (S45))) (inner := [.int .i64 0, .int .i64 0, .int .i64 0, .string (⟨#[48, 48, 48, 49, 49, 49]⟩ : ByteArray), .int .i64 0]) (ok := fun _ => True) (okp := fun _ => True) ?hr ?hp (fun _ hk => hk) trivial (Below.refl _ _) (Nat.le_refl _) (by simp) ?_; (case hd => rfl); (case hg => rfl); (case hr => first | (go_simp; done) | (go_simp; rfl)); (case hp => exact (Reps.c5 (show Kd.M k45 _ _ _ (⟨0, 0, 0, (⟨#[48, 48, 48, 49, 49, 49]⟩ : ByteArray), 0⟩ : S45) [.int .i64 0, .int .i64 0, .int .i64 0, .string (⟨#[48, 48, 48, 49, 49, 49]⟩ : ByteArray), .int .i64 0] from (k45_mkM _ _ _ (⟨0, 0, 0, (⟨#[48, 48, 48, 49, 49, 49]⟩ : ByteArray), 0⟩ : S45) )) (Reps.none _ _))); intro v206 w10 ho11 hb hg_ hnew_; clear hg_ hnew_; (first | rw [← Ny205.out] at ho11 | (simp only [Int.reduceToNat] at ho11; rw [← Ny205.out] at ho11)); have n0_ := Aside0.mk (Kd.R_elder' (rkw HO200.out) (Kd.R_base ho11) hb); have n1_ := Aside0.mk (Kd.R_elder' (rkw HO203.out) (Kd.R_base ho11) hb); have n2_ := Aside0.mk (Kd.R_lower (Kd.R_new' (Kd.R_new' ho11 (Kd.R_lt (rkw HO200.out))) (Kd.R_lt (rkw HO203.out))) (below_size (hbw HB.out))); have n3_ := Aside0.mk (blkb BK197.out hb); have n4_ := Aside0.mk (below_step (hbw HB.out) hb); clear HO200; clear HO203; clear BK197; clear HB; have HO200 := n0_; have HO203 := n1_; have HO207 := n2_; have BK197 := n3_; have HB := n4_; clear n0_ n1_ n2_ n3_ n4_; clear hb ho11; obtain ⟨Ao12, co12, eo12⟩ := Kd.R_slice HO207.out; subst eo12) | ((with_reducible refine gate_callee (f := 21) rfl ?_); refine goesL_ (some 19) rfl rfl Try.func21 (by kernel_rfl) rfl #[.agg #[.int .i64 3, .bool false], .slice Ao12 y205.length co12] rfl (by (try simp only [List.map_toArray, List.map_cons, List.map_nil]); first | done | rfl | (simp only [List.length_drop, List.length_take]; rfl)) ?_; (with_reducible refine (stuff_Encode.calls k 3 false _ _ y205 t208 t211 _ ?side1 ?side2 A2.out).mono ?_); (case side1 => repeat (first | exact (Kd.R_reads' HO207.out).2.2 | (with_reducible refine Kd.C_alloc ?_ _) | (with_reducible refine Kd.C_drewN ?_ _) | (with_reducible refine Kd.C_drew ?_))); (case side2 => exact (Kd.R_reads' HO207.out).2.1); rintro e w13 ⟨v209, rfl, ho0, hb⟩; refine ⟨_, rfl, ?_⟩; have n0_ := Aside0.mk (Kd.R_elder' (rkw HO200.out) (Kd.R_base ho0) hb); have n1_ := Aside0.mk (Kd.R_elder' (rkw HO203.out) (Kd.R_base ho0) hb); have n2_ := Aside0.mk (Kd.R_elder' (rkw HO207.out) (Kd.R_base ho0) hb); have n3_ := Aside0.mk (Kd.R_lower (Kd.R_new' (Kd.R_new' (Kd.R_new' ho0 (Kd.R_lt (rkw HO200.out))) (Kd.R_lt (rkw HO203.out))) (Kd.R_lt (rkw HO207.out))) (below_size (hbw HB.out))); have n4_ := Aside0.mk (blkb BK197.out hb); have n5_ := Aside0.mk (below_step (hbw HB.out) hb); clear HO200; clear HO203; clear HO207; clear BK197; clear HB; have HO200 := n0_; have HO203 := n1_; have HO207 := n2_; have HO210 := n3_; have BK197 := n4_; have HB := n5_; clear n0_ n1_ n2_ n3_ n4_ n5_; (try clear hb); (try clear hb2); (try clear hk); (try clear hi); (try clear ho0)))
 (try simp only [Act.put, List.setIfInBounds_toArray, List.set_cons_zero, List.set_cons_succ])
 go_cut [37] (fun v37 wc => ∃ (kq : Nat) (x37_2 : Bool), v37 = .bool x37_2 ∧ Aside0 (signalbenchlaw19_awake.j0 kq t201 t208 x37_2 5 true = some r) ∧ Aside0 (kq ≤ k) ∧ Aside0 (Kd.R k45 45 wc w.heap.size (fun k_ => some k_ ≠ (v209 : Value).ownBlock) v202 t201) ∧ Aside0 (Kd.R k45 45 wc w.heap.size (fun k_ => some k_ ≠ (v202 : Value).ownBlock) v209 t208) ∧ Aside0 (wc.heap[gb197]? = some (.cells #[.int .i64 5, .bool true] 23 (0, 0))) ∧ Aside0 (Below w.heap.size w wc))
 case first =>
  have H := HC3.out; clear HC3
  by_cases c14 : (t201.length : Int) = 1
  ·rw [if_pos c14] at H
   have c14b0 : ((t201.length : Int) == 1) = true := beq_iff_eq.mpr c14; have c14b1 : ((t201.length : Int) != 1) = false := bne_eq_false_iff_eq.mpr c14; clear c14
   (first | rw [c14b0] | (simp only [i64_w, i32_w]; rw [c14b0]) | skip)
   by_cases c15 : (t208.length : Int) = 1
   ·rw [if_pos c15] at H
    have c15b0 : ((t208.length : Int) == 1) = true := beq_iff_eq.mpr c15; have c15b1 : ((t208.length : Int) != 1) = false := bne_eq_false_iff_eq.mpr c15; clear c15
    by_cases c16 : t204 = 0
    ·rw [if_pos c16] at H
     have c16b0 : (t204 == 0) = true := beq_iff_eq.mpr c16; have c16b1 : (t204 != 0) = false := bne_eq_false_iff_eq.mpr c16; clear c16; have H' := Aside0.mk H; clear H; obtain ⟨Ao17, co17, eo17⟩ := Kd.R_slice HO203.out; subst eo17; obtain ⟨Ao18, co18, eo18⟩ := Kd.R_slice HO210.out; subst eo18
     go_wp2
     go_meet
     case rel => exact ⟨_, ((t211 != 0)), (by first | rfl | (simp; done) | (simp [*]; done)), H', ⟨by first | omega | exact Nat.le_refl _⟩, ⟨by (with_reducible repeat (first | apply Kd.R_alloc | apply Kd.R_drewN | apply Kd.R_drew)); exact Kd.R_mono HO203.out (fun _ hk => hk.2)⟩, ⟨by (with_reducible repeat (first | apply Kd.R_alloc | apply Kd.R_drewN | apply Kd.R_drew)); exact Kd.R_mono HO210.out (fun _ hk => hk.1.2)⟩, ⟨by (with_reducible repeat (first | refine blk_drewN ?_ _ | refine blk_drew ?_ | refine blk_alloc ?_ _)); exact BK197.out⟩, ⟨by repeat (first | (with_reducible first | exact HB.out | apply below_alloc | apply pw_below_drewN | apply below_drew1 | refine below_set ?_ GE197.out) | exact HB.out)⟩⟩
    ·rw [if_neg c16] at H
     have c16b0 : (t204 == 0) = false := beq_eq_false_iff_ne.mpr c16; have c16b1 : (t204 != 0) = true := bne_iff_ne.mpr c16; have H' := Aside0.mk H; clear H; obtain ⟨Ao19, co19, eo19⟩ := Kd.R_slice HO203.out; subst eo19; obtain ⟨Ao20, co20, eo20⟩ := Kd.R_slice HO210.out; subst eo20
     go_wp2
     go_meet
     case rel => exact ⟨_, (true), (by first | rfl | (simp; done) | (simp [*]; done)), H', ⟨by first | omega | exact Nat.le_refl _⟩, ⟨by (with_reducible repeat (first | apply Kd.R_alloc | apply Kd.R_drewN | apply Kd.R_drew)); exact Kd.R_mono HO203.out (fun _ hk => hk.2)⟩, ⟨by (with_reducible repeat (first | apply Kd.R_alloc | apply Kd.R_drewN | apply Kd.R_drew)); exact Kd.R_mono HO210.out (fun _ hk => hk.1.2)⟩, ⟨by (with_reducible repeat (first | refine blk_drewN ?_ _ | refine blk_drew ?_ | refine blk_alloc ?_ _)); exact BK197.out⟩, ⟨by repeat (first | (with_reducible first | exact HB.out | apply below_alloc | apply pw_below_drewN | apply below_drew1 | refine below_set ?_ GE197.out) | exact HB.out)⟩⟩
   ·rw [if_neg c15] at H
    have c15b0 : ((t208.length : Int) == 1) = false := beq_eq_false_iff_ne.mpr c15; have c15b1 : ((t208.length : Int) != 1) = true := bne_iff_ne.mpr c15; have H' := Aside0.mk H; clear H; obtain ⟨Ao21, co21, eo21⟩ := Kd.R_slice HO203.out; subst eo21; obtain ⟨Ao22, co22, eo22⟩ := Kd.R_slice HO210.out; subst eo22
    go_wp2
    go_meet
    case rel => exact ⟨_, (true), (by first | rfl | (simp; done) | (simp [*]; done)), H', ⟨by first | omega | exact Nat.le_refl _⟩, ⟨by (with_reducible repeat (first | apply Kd.R_alloc | apply Kd.R_drewN | apply Kd.R_drew)); exact Kd.R_mono HO203.out (fun _ hk => hk.2)⟩, ⟨by (with_reducible repeat (first | apply Kd.R_alloc | apply Kd.R_drewN | apply Kd.R_drew)); exact Kd.R_mono HO210.out (fun _ hk => hk.1.2)⟩, ⟨by (with_reducible repeat (first | refine blk_drewN ?_ _ | refine blk_drew ?_ | refine blk_alloc ?_ _)); exact BK197.out⟩, ⟨by repeat (first | (with_reducible first | exact HB.out | apply below_alloc | apply pw_below_drewN | apply below_drew1 | refine below_set ?_ GE197.out) | exact HB.out)⟩⟩
  ·rw [if_neg c14] at H
   have c14b0 : ((t201.length : Int) == 1) = false := beq_eq_false_iff_ne.mpr c14; have c14b1 : ((t201.length : Int) != 1) = true := bne_iff_ne.mpr c14
   (first | rw [c14b0] | (simp only [i64_w, i32_w]; rw [c14b0]) | skip)
   have H' := Aside0.mk H; clear H; obtain ⟨Ao23, co23, eo23⟩ := Kd.R_slice HO203.out; subst eo23
   go_wp2
   go_meet
   case rel => exact ⟨_, (true), (by first | rfl | (simp; done) | (simp [*]; done)), H', ⟨by first | omega | exact Nat.le_refl _⟩, ⟨by (with_reducible repeat (first | apply Kd.R_alloc | apply Kd.R_drewN | apply Kd.R_drew)); exact Kd.R_mono HO203.out (fun _ hk => hk.2)⟩, ⟨by (with_reducible repeat (first | apply Kd.R_alloc | apply Kd.R_drewN | apply Kd.R_drew)); exact Kd.R_mono HO210.out (fun _ hk => hk.1.2)⟩, ⟨by (with_reducible repeat (first | refine blk_drewN ?_ _ | refine blk_drew ?_ | refine blk_alloc ?_ _)); exact BK197.out⟩, ⟨by repeat (first | (with_reducible first | exact HB.out | apply below_alloc | apply pw_below_drewN | apply below_drew1 | refine below_set ?_ GE197.out) | exact HB.out)⟩⟩
 case rest =>
  clear HC3
  try clear c1
  try clear c2
  try clear p2
  try clear c5
  try clear c9
  try clear c14
  try clear c14b0
  try clear c14b1
  try clear c15
  try clear c15b0
  try clear c15b1
  try clear c16
  try clear c16b0
  try clear c16b1
  try clear c21
  try clear hcz5_0
  try clear hcz5_1
  try clear hfz5_0
  try clear hfz5_1
  obtain ⟨kq, x37_2, rfl, HA, HJ2, HO_2, HO_4, BK197, HB⟩ := hcut
  cases kq with
  | zero => exact absurd HA.out (by simp [signalbenchlaw19_awake.j0])
  | succ kj2 =>
   have H := HA.out; clear HA
   simp only [signalbenchlaw19_awake.j0] at H
   by_cases c24 : x37_2 = true
   ·subst c24
    have H1 : (some false) = some r := by rw [if_pos rfl] at H; exact H
    clear H; have H := H1; clear H1; obtain rfl := Option.some.inj H
    go_wp2
    go_ret
    exact ⟨by first | rfl | (simp [errW_none, errW_some] <;> rfl) | (simp [*, errW_none, errW_some] <;> rfl), by repeat (first | (with_reducible first | exact HB.out | apply below_alloc | apply pw_below_drewN | apply below_drew1 | refine below_set ?_ GE197.out) | exact HB.out)⟩
   ·replace c24 := Bool.eq_false_iff.mpr c24
    subst c24
    have H1 : ((signalbenchlaw19_ideal.f kj2 t201).bind fun t212 => ((stuff_Decode.f kj2 5 true t212).bind fun t215 => (if 0 < (t201.length : Int) then (if ((rd_T45 t201 0).f3).toList = ([49, 49, 49, 49, 49, 48, 49] : List UInt8) then (if 0 < (t208.length : Int) then (if ((rd_T45 t208 0).f3).toList = ([48, 48, 48, 49, 49, 49, 48, 49] : List UInt8) then (if (t215.length : Int) = 6 then (if 5 < (t215.length : Int) then (if (((rd_T33 t215 5).f0) == 2 && (((rd_T33 t215 5).f1) == 6 && (((rd_T33 t215 5).f2) == 7 && (((rd_T33 t215 5).f3) == 1 && (((rd_T33 t215 5).f4) == 0 && ((((rd_T33 t215 5).f5).toList) == ([] : List UInt8) && (((rd_T33 t215 5).f6) == 0))))))) = true then ((stuff_Check.f 5 true).bind fun t221 => (if t221 = 0 then ((stuff_Check.f 17 false).bind fun t222 => (some (t222 == 2))) else (some false))) else (some false)) else (none)) else (some false)) else (some false)) else (none)) else (some false)) else (none)))) = some r := by rw [if_neg (show ¬ (false = true) by decide)] at H; exact H
    clear H; have H := H1; clear H1; replace H := Option.bind_eq_some_iff.mp H; obtain ⟨t212, A250, H⟩ := H; replace H : ((stuff_Decode.f kj2 5 true t212).bind fun t215 => (if 0 < (t201.length : Int) then (if ((rd_T45 t201 0).f3).toList = ([49, 49, 49, 49, 49, 48, 49] : List UInt8) then (if 0 < (t208.length : Int) then (if ((rd_T45 t208 0).f3).toList = ([48, 48, 48, 49, 49, 49, 48, 49] : List UInt8) then (if (t215.length : Int) = 6 then (if 5 < (t215.length : Int) then (if (((rd_T33 t215 5).f0) == 2 && (((rd_T33 t215 5).f1) == 6 && (((rd_T33 t215 5).f2) == 7 && (((rd_T33 t215 5).f3) == 1 && (((rd_T33 t215 5).f4) == 0 && ((((rd_T33 t215 5).f5).toList) == ([] : List UInt8) && (((rd_T33 t215 5).f6) == 0))))))) = true then ((stuff_Check.f 5 true).bind fun t221 => (if t221 = 0 then ((stuff_Check.f 17 false).bind fun t222 => (some (t222 == 2))) else (some false))) else (some false)) else (none)) else (some false)) else (some false)) else (none)) else (some false)) else (none))) = some r := H; have A25 := Aside0.mk A250; clear A250; replace H := Option.bind_eq_some_iff.mp H; obtain ⟨t215, A260, H⟩ := H; replace H : (if 0 < (t201.length : Int) then (if ((rd_T45 t201 0).f3).toList = ([49, 49, 49, 49, 49, 48, 49] : List UInt8) then (if 0 < (t208.length : Int) then (if ((rd_T45 t208 0).f3).toList = ([48, 48, 48, 49, 49, 49, 48, 49] : List UInt8) then (if (t215.length : Int) = 6 then (if 5 < (t215.length : Int) then (if (((rd_T33 t215 5).f0) == 2 && (((rd_T33 t215 5).f1) == 6 && (((rd_T33 t215 5).f2) == 7 && (((rd_T33 t215 5).f3) == 1 && (((rd_T33 t215 5).f4) == 0 && ((((rd_T33 t215 5).f5).toList) == ([] : List UInt8) && (((rd_T33 t215 5).f6) == 0))))))) = true then ((stuff_Check.f 5 true).bind fun t221 => (if t221 = 0 then ((stuff_Check.f 17 false).bind fun t222 => (some (t222 == 2))) else (some false))) else (some false)) else (none)) else (some false)) else (some false)) else (none)) else (some false)) else (none)) = some r := H; have A26 := Aside0.mk A260; clear A260
    by_cases c27 : 0 < (t201.length : Int)
    ·rw [if_pos c27] at H
     have c27b0 : decide (0 < (t201.length : Int)) = true := decide_eq_true c27; have c27b1 : decide (0 < t201.length) = true := decide_eq_true (by omega); clear c27
     by_cases c28 : ((rd_T45 t201 0).f3).toList = ([49, 49, 49, 49, 49, 48, 49] : List UInt8)
     ·rw [if_pos c28] at H
      have c28b0 : (((rd_T45 t201 0).f3).toList == ([49, 49, 49, 49, 49, 48, 49] : List UInt8)) = true := beq_iff_eq.mpr c28; have c28b1 : (((rd_T45 t201 0).f3).toList != ([49, 49, 49, 49, 49, 48, 49] : List UInt8)) = false := bne_eq_false_iff_eq.mpr c28; clear c28
      by_cases c29 : 0 < (t208.length : Int)
      ·rw [if_pos c29] at H
       have c29b0 : decide (0 < (t208.length : Int)) = true := decide_eq_true c29; have c29b1 : decide (0 < t208.length) = true := decide_eq_true (by omega); clear c29
       by_cases c30 : ((rd_T45 t208 0).f3).toList = ([48, 48, 48, 49, 49, 49, 48, 49] : List UInt8)
       ·rw [if_pos c30] at H
        have c30b0 : (((rd_T45 t208 0).f3).toList == ([48, 48, 48, 49, 49, 49, 48, 49] : List UInt8)) = true := beq_iff_eq.mpr c30; have c30b1 : (((rd_T45 t208 0).f3).toList != ([48, 48, 48, 49, 49, 49, 48, 49] : List UInt8)) = false := bne_eq_false_iff_eq.mpr c30; clear c30
        by_cases c31 : (t215.length : Int) = 6
        ·rw [if_pos c31] at H
         have c31b0 : ((t215.length : Int) == 6) = true := beq_iff_eq.mpr c31; have c31b1 : ((t215.length : Int) != 6) = false := bne_eq_false_iff_eq.mpr c31; clear c31
         by_cases c32 : 5 < (t215.length : Int)
         ·rw [if_pos c32] at H
          have c32b0 : decide (5 < (t215.length : Int)) = true := decide_eq_true c32; have c32b1 : decide (5 < t215.length) = true := decide_eq_true (by omega); clear c32
          by_cases c33 : (((rd_T33 t215 5).f0) == 2 && (((rd_T33 t215 5).f1) == 6 && (((rd_T33 t215 5).f2) == 7 && (((rd_T33 t215 5).f3) == 1 && (((rd_T33 t215 5).f4) == 0 && ((((rd_T33 t215 5).f5).toList) == ([] : List UInt8) && (((rd_T33 t215 5).f6) == 0))))))) = true
          ·rw [if_pos c33] at H
           have c33b0 : (((rd_T33 t215 5).f0) == 2 && (((rd_T33 t215 5).f1) == 6 && (((rd_T33 t215 5).f2) == 7 && (((rd_T33 t215 5).f3) == 1 && (((rd_T33 t215 5).f4) == 0 && ((((rd_T33 t215 5).f5).toList) == ([] : List UInt8) && (((rd_T33 t215 5).f6) == 0))))))) = true := c33; (try (have c33b1 : ((((rd_T33 t215 5).f0) = 2 ∧ (((rd_T33 t215 5).f1) = 6 ∧ (((rd_T33 t215 5).f2) = 7 ∧ (((rd_T33 t215 5).f3) = 1 ∧ (((rd_T33 t215 5).f4) = 0 ∧ ((((rd_T33 t215 5).f5).toList) = ([] : List UInt8) ∧ (((rd_T33 t215 5).f6) = 0)))))))) = True := eq_true (by simpa using c33))); (try (have c33b2 : decide (((rd_T33 t215 5).f0) = 2 && (((rd_T33 t215 5).f1) == 6 && (((rd_T33 t215 5).f2) == 7 && (((rd_T33 t215 5).f3) == 1 && (((rd_T33 t215 5).f4) == 0 && ((((rd_T33 t215 5).f5).toList) == ([] : List UInt8) && (((rd_T33 t215 5).f6) == 0))))))) = true := by simpa using c33)); (try (have c33b3 : (((rd_T33 t215 5).f0) == 2 && (((rd_T33 t215 5).f1) == 6 && (((rd_T33 t215 5).f2) == 7 && (((rd_T33 t215 5).f3) == 1 && (((rd_T33 t215 5).f4) == 0 && ((((rd_T33 t215 5).f5).toList) == ([] : List UInt8) && (((rd_T33 t215 5).f6) == 0))))))) = true := by simpa using c33)); clear c33; replace H := Option.bind_eq_some_iff.mp H; obtain ⟨t221, A340, H⟩ := H; replace H : (if t221 = 0 then ((stuff_Check.f 17 false).bind fun t222 => (some (t222 == 2))) else (some false)) = some r := H; have A34 := Aside0.mk A340; clear A340
           by_cases c35 : t221 = 0
           ·rw [if_pos c35] at H
            have c35b0 : (t221 == 0) = true := beq_iff_eq.mpr c35; have c35b1 : (t221 != 0) = false := bne_eq_false_iff_eq.mpr c35; clear c35; replace H := Option.bind_eq_some_iff.mp H; obtain ⟨t222, A360, H⟩ := H; replace H : (some (t222 == 2)) = some r := H; have A36 := Aside0.mk A360; clear A360; obtain rfl := Option.some.inj H
            try go_wp2
            have n0_ := Aside0.mk (Kd.R_drew HO_2.out); have n1_ := Aside0.mk (Kd.R_drew HO_4.out); have n2_ := Aside0.mk (blk_drew BK197.out); have n3_ := Aside0.mk (below_drew1 HB.out); clear HO_2; clear HO_4; clear BK197; clear HB; have HO_2 := n0_; have HO_4 := n1_; have BK197 := n2_; have HB := n3_; clear n0_ n1_ n2_ n3_; obtain ⟨Ao38, co38, eo38⟩ := Kd.R_slice HO_2.out
            (first | subst eo38 | (injection eo38 with f1_ f2_ f3_; have f4_ := f1_.symm; have f5_ := f3_.symm; clear f1_ f2_ f3_; subst f4_; subst f5_))
            refine start_ (n := 5) (S := fun w' => w'.cell? ⟨gb197, 0, none⟩ = some (.int .i64 5) ∧ w'.cell? ⟨gb197, 1, none⟩ = some (.bool true)) (ds := []) #[N_,N_,N_,N_,N_] (by kernel_rfl) rfl rfl ⟨ck BK197 0, ck BK197 1⟩ (fun hHeld => ?_)
            generalize wc.drew = w37 at HO_2 HO_4 BK197 HB hHeld ⊢
            refine pure_ (i := 1) (N := some 39) (v := ?_) (a' := ?_) #[N_,Y_,N_,N_,N_] rfl rfl (by kernel_rfl) (fun _ _ _ h => h) (Or.inl ⟨by rfl, ?_⟩) ?_ ?_; rotate_left
            ·intro w'
             go_simp
             with_reducible rfl
            rotate_left
            ·simp only [Act.put, nrm]
             rfl
            refine take_ (i := 0) (N := some 38) (v := ?_) (a' := ?_) #[Y_,Y_,N_,N_,N_] rfl rfl (by kernel_rfl) (fun _ _ _ h => h) (Or.inl ⟨by rfl, ?_⟩) hHeld ?_ ?_; rotate_left
            ·rintro w' ⟨s0, s1⟩
             go_simp
             with_reducible rfl
            rotate_left
            ·simp only [Act.put, nrm]
             rfl
            refine one_ (i := 2) (N := some 40) #[Y_,Y_,Y_,N_,N_] rfl rfl (by kernel_rfl) (by decide) (fun K hK => ?_); refine goes_ Try.func23 (by kernel_rfl) rfl #[.slice Ao38 t201.length co38] (by rfl) rfl rfl (by (try simp only [List.map_toArray, List.map_cons, List.map_nil]); first | done | rfl | (simp only [List.length_drop, List.length_take]; rfl)) ?_; (with_reducible refine (signalbenchlaw19_ideal.calls kj2 _ _ t201 t212 _ ?side1 ?side2 A25.out).mono ?_)
            (case side1 => repeat (first | exact (Kd.R_reads' HO_2.out).2.2 | (with_reducible refine Kd.C_alloc ?_ _) | (with_reducible refine Kd.C_drewN ?_ _) | (with_reducible refine Kd.C_drew ?_)))
            (case side2 => exact (Kd.R_reads' HO_2.out).2.1)
            rintro e w39 ⟨v213, rfl, ho0, hb⟩; refine ⟨_, rfl, ?_⟩; have n0_ := Aside0.mk (Kd.R_below (rkw HO_2.out) hb); have n1_ := Aside0.mk (Kd.R_below (rkw HO_4.out) hb); have n2_ := Aside0.mk (Kd.R_lower ho0 (below_size (hbw HB.out))); have n4_ := Aside0.mk (below_step (hbw HB.out) hb); clear HO_2; clear HO_4; clear HB; have HO_2 := n0_; have HO_4 := n1_; have HO214 := n2_; replace BK197 := bkB BK197 hb; have HB := n4_; clear n0_ n1_ n2_ n4_; (try clear hb); (try clear hb2); (try clear hk); (try clear hi); (try clear ho0); obtain ⟨Ao40, co40, eo40⟩ := Kd.R_slice HO214.out
            (first | subst eo40 | (injection eo40 with f1_ f2_ f3_; have f4_ := f1_.symm; have f5_ := f3_.symm; clear f1_ f2_ f3_; subst f4_; subst f5_))
            refine hK.out _ _ ⟨ck BK197 0, ck BK197 1⟩ (fun hHeld => ?_); clear hK K; refine norm_ (a' := ?_) ?_ ?_; rotate_left
            ·show Act.put _ (some 40) _ = _
             simp only [Act.put, nrm]
             rfl
            refine one_ (i := 3) (N := some 41) #[Y_,Y_,Y_,Y_,N_] rfl rfl (by kernel_rfl) (by decide) (fun K hK => ?_); refine goes_ Try.func18 (by kernel_rfl) rfl #[.agg #[.int .i64 5, .bool true], .slice Ao40 t212.length co40] (by rfl) rfl rfl (by (try simp only [List.map_toArray, List.map_cons, List.map_nil]); first | done | rfl | (simp only [List.length_drop, List.length_take]; rfl)) ?_; (with_reducible refine (stuff_Decode.calls kj2 5 true _ _ t212 t215 _ ?side1 ?side2 A26.out).mono ?_)
            (case side1 => repeat (first | exact (Kd.R_reads' HO214.out).2.2 | (with_reducible refine Kd.C_alloc ?_ _) | (with_reducible refine Kd.C_drewN ?_ _) | (with_reducible refine Kd.C_drew ?_)))
            (case side2 => exact (Kd.R_reads' HO214.out).2.1)
            rintro e w41 ⟨v216, rfl, ho0, hb⟩; refine ⟨_, rfl, ?_⟩; have n0_ := Aside0.mk (Kd.R_below (rkw HO_2.out) hb); have n1_ := Aside0.mk (Kd.R_below (rkw HO_4.out) hb); have n2_ := Aside0.mk (Kd.R_elder' (rkw HO214.out) (Kd.R_base ho0) hb); have n3_ := Aside0.mk (Kd.R_lower (Kd.R_new' ho0 (Kd.R_lt (rkw HO214.out))) (below_size (hbw HB.out))); have n5_ := Aside0.mk (below_step (hbw HB.out) hb); clear HO_2; clear HO_4; clear HO214; clear HB; have HO_2 := n0_; have HO_4 := n1_; have HO214 := n2_; have HO217 := n3_; replace BK197 := bkB BK197 hb; have HB := n5_; clear n0_ n1_ n2_ n3_ n5_; (try clear hb); (try clear hb2); (try clear hk); (try clear hi); (try clear ho0); refine hK.out _ _ ⟨ck BK197 0, ck BK197 1⟩ (fun hHeld => ?_); clear hK K; refine norm_ (a' := ?_) ?_ ?_; rotate_left
            ·show Act.put _ (some 41) _ = _
             simp only [Act.put, nrm]
             rfl
            refine pure_ (i := 4) (N := some 6) (v := ?_) (a' := ?_) #[Y_,Y_,Y_,Y_,Y_] rfl rfl (by kernel_rfl) (fun _ _ _ h => h) (Or.inl ⟨by rfl, ?_⟩) ?_ ?_; rotate_left
            ·intro w'
             go_simp
             with_reducible rfl
            rotate_left
            ·simp only [Act.put, nrm]
             rfl
            refine done_ (by kernel_rfl) ?_; have p218 : 0 ≤ (0 : Int) := (by omega); have q218 : 0 < (t201.length : Int) := of_decide_eq_true (by first | (with_reducible assumption) | assumption); obtain ⟨ad218, e218, hx218_0, hx218_1, hx218_2, hx218_3, hx218_4⟩ := at_T45 (Kd.R_reads' HO_2.out).2.2 0 p218 q218
            cases e218
            have qi218 : (0 < t201.length) = True := eq_true (by omega); (try rw [show ((0 : Int)).toNat = 0 from rfl] at hx218_0); (try rw [show 0 * 5 = 0 from rfl] at hx218_0); (try rw [Addr.add_zero'] at hx218_0); (try rw [show ((0 : Int)).toNat = 0 from rfl] at hx218_1); (try rw [show 0 * 5 = 0 from rfl] at hx218_1); (try rw [Addr.add_zero'] at hx218_1); (try rw [show ((0 : Int)).toNat = 0 from rfl] at hx218_2); (try rw [show 0 * 5 = 0 from rfl] at hx218_2); (try rw [Addr.add_zero'] at hx218_2); (try rw [show ((0 : Int)).toNat = 0 from rfl] at hx218_3); (try rw [show 0 * 5 = 0 from rfl] at hx218_3); (try rw [Addr.add_zero'] at hx218_3); (try rw [show ((0 : Int)).toNat = 0 from rfl] at hx218_4); (try rw [show 0 * 5 = 0 from rfl] at hx218_4); (try rw [Addr.add_zero'] at hx218_4); replace p218 := eq_true p218; replace q218 := eq_true q218; obtain ⟨Ao42, co42, eo42⟩ := Kd.R_slice HO_4.out; subst eo42; have p219 : 0 ≤ (0 : Int) := (by omega); have q219 : 0 < (t208.length : Int) := of_decide_eq_true (by first | (with_reducible assumption) | assumption); obtain ⟨ad219, e219, hx219_0, hx219_1, hx219_2, hx219_3, hx219_4⟩ := at_T45 (Kd.R_reads' HO_4.out).2.2 0 p219 q219
            cases e219
            have qi219 : (0 < t208.length) = True := eq_true (by omega); (try rw [show ((0 : Int)).toNat = 0 from rfl] at hx219_0); (try rw [show 0 * 5 = 0 from rfl] at hx219_0); (try rw [Addr.add_zero'] at hx219_0); (try rw [show ((0 : Int)).toNat = 0 from rfl] at hx219_1); (try rw [show 0 * 5 = 0 from rfl] at hx219_1); (try rw [Addr.add_zero'] at hx219_1); (try rw [show ((0 : Int)).toNat = 0 from rfl] at hx219_2); (try rw [show 0 * 5 = 0 from rfl] at hx219_2); (try rw [Addr.add_zero'] at hx219_2); (try rw [show ((0 : Int)).toNat = 0 from rfl] at hx219_3); (try rw [show 0 * 5 = 0 from rfl] at hx219_3); (try rw [Addr.add_zero'] at hx219_3); (try rw [show ((0 : Int)).toNat = 0 from rfl] at hx219_4); (try rw [show 0 * 5 = 0 from rfl] at hx219_4); (try rw [Addr.add_zero'] at hx219_4); replace p219 := eq_true p219; replace q219 := eq_true q219; obtain ⟨Ao43, co43, eo43⟩ := Kd.R_slice HO217.out; subst eo43; have p220 : 0 ≤ (5 : Int) := (by omega); have q220 : 5 < (t215.length : Int) := of_decide_eq_true (by first | (with_reducible assumption) | assumption); obtain ⟨ad220, e220, hx220_0, hx220_1, hx220_2, hx220_3, hx220_4, hx220_5, hx220_6⟩ := at_T33 (Kd.R_reads' HO217.out).2.2 5 p220 q220
            cases e220
            (try simp only [show (5 : Int).toNat = 5 from rfl, Nat.reduceMul, Nat.reduceEqDiff, Go.Addr.add, ↓reduceIte] at hx220_0); (try simp only [show (5 : Int).toNat = 5 from rfl, Nat.reduceMul, Nat.reduceEqDiff, Go.Addr.add, ↓reduceIte] at hx220_1); (try simp only [show (5 : Int).toNat = 5 from rfl, Nat.reduceMul, Nat.reduceEqDiff, Go.Addr.add, ↓reduceIte] at hx220_2); (try simp only [show (5 : Int).toNat = 5 from rfl, Nat.reduceMul, Nat.reduceEqDiff, Go.Addr.add, ↓reduceIte] at hx220_3); (try simp only [show (5 : Int).toNat = 5 from rfl, Nat.reduceMul, Nat.reduceEqDiff, Go.Addr.add, ↓reduceIte] at hx220_4); (try simp only [show (5 : Int).toNat = 5 from rfl, Nat.reduceMul, Nat.reduceEqDiff, Go.Addr.add, ↓reduceIte] at hx220_5); (try simp only [show (5 : Int).toNat = 5 from rfl, Nat.reduceMul, Nat.reduceEqDiff, Go.Addr.add, ↓reduceIte] at hx220_6); have qi220 : (5 < t215.length) = True := eq_true (by omega); (try rw [show ((5 : Int)).toNat = 5 from rfl] at hx220_0); (try rw [show 5 * 7 = 35 from rfl] at hx220_0); (try rw [show ((5 : Int)).toNat = 5 from rfl] at hx220_1); (try rw [show 5 * 7 = 35 from rfl] at hx220_1); (try rw [show ((5 : Int)).toNat = 5 from rfl] at hx220_2); (try rw [show 5 * 7 = 35 from rfl] at hx220_2); (try rw [show ((5 : Int)).toNat = 5 from rfl] at hx220_3); (try rw [show 5 * 7 = 35 from rfl] at hx220_3); (try rw [show ((5 : Int)).toNat = 5 from rfl] at hx220_4); (try rw [show 5 * 7 = 35 from rfl] at hx220_4); (try rw [show ((5 : Int)).toNat = 5 from rfl] at hx220_5); (try rw [show 5 * 7 = 35 from rfl] at hx220_5); (try rw [show ((5 : Int)).toNat = 5 from rfl] at hx220_6); (try rw [show 5 * 7 = 35 from rfl] at hx220_6); replace p220 := eq_true p220; replace q220 := eq_true q220; have hcz44_0 : w41.cell? ⟨gb197, 0, none⟩ = some (.int .i64 5) := ck BK197 0; have hcz44_1 : w41.cell? ⟨gb197, 1, none⟩ = some (.bool true) := ck BK197 1; have hfz44_0 := blk_frozen BK197.out 0; have hfz44_1 := blk_frozen BK197.out 1
            try go_wp2_with (first | (go_at_call 15; (with_reducible refine (stuff_Check.calls 5 true t221 _ A34.out).mono ?_); rintro e w45 ⟨rfl, hb⟩; have n0_ := Aside0.mk (Kd.R_below (rkw HO_2.out) hb); have n1_ := Aside0.mk (Kd.R_below (rkw HO_4.out) hb); have n2_ := Aside0.mk (Kd.R_below (rkw HO214.out) hb); have n3_ := Aside0.mk (Kd.R_below (rkw HO217.out) hb); have n4_ := Aside0.mk (blkb BK197.out hb); have n5_ := Aside0.mk (below_step (hbw HB.out) hb); clear HO_2; clear HO_4; clear HO214; clear HO217; clear BK197; clear HB; have HO_2 := n0_; have HO_4 := n1_; have HO214 := n2_; have HO217 := n3_; have BK197 := n4_; have HB := n5_; clear n0_ n1_ n2_ n3_ n4_ n5_; (try clear hb); (try clear hb2); (try clear hk); (try clear hi)) | (go_at_call 15; (with_reducible refine (stuff_Check.calls 17 false t222 _ A36.out).mono ?_); rintro e w46 ⟨rfl, hb⟩; have n0_ := Aside0.mk (Kd.R_below (rkw HO_2.out) hb); have n1_ := Aside0.mk (Kd.R_below (rkw HO_4.out) hb); have n2_ := Aside0.mk (Kd.R_below (rkw HO214.out) hb); have n3_ := Aside0.mk (Kd.R_below (rkw HO217.out) hb); have n4_ := Aside0.mk (blkb BK197.out hb); have n5_ := Aside0.mk (below_step (hbw HB.out) hb); clear HO_2; clear HO_4; clear HO214; clear HO217; clear BK197; clear HB; have HO_2 := n0_; have HO_4 := n1_; have HO214 := n2_; have HO217 := n3_; have BK197 := n4_; have HB := n5_; clear n0_ n1_ n2_ n3_ n4_ n5_; (try clear hb); (try clear hb2); (try clear hk); (try clear hi)))
            go_ret
            exact ⟨by first | rfl | (simp [errW_none, errW_some] <;> rfl) | (simp [*, errW_none, errW_some] <;> rfl), by repeat (first | (with_reducible first | exact HB.out | apply below_alloc | apply pw_below_drewN | apply below_drew1 | refine below_set ?_ GE197.out) | exact HB.out)⟩
           ·rw [if_neg c35] at H
            have c35b0 : (t221 == 0) = false := beq_eq_false_iff_ne.mpr c35; have c35b1 : (t221 != 0) = true := bne_iff_ne.mpr c35; obtain rfl := Option.some.inj H
            try go_wp2
            have n0_ := Aside0.mk (Kd.R_drew HO_2.out); have n1_ := Aside0.mk (Kd.R_drew HO_4.out); have n2_ := Aside0.mk (blk_drew BK197.out); have n3_ := Aside0.mk (below_drew1 HB.out); clear HO_2; clear HO_4; clear BK197; clear HB; have HO_2 := n0_; have HO_4 := n1_; have BK197 := n2_; have HB := n3_; clear n0_ n1_ n2_ n3_; obtain ⟨Ao48, co48, eo48⟩ := Kd.R_slice HO_2.out
            (first | subst eo48 | (injection eo48 with f1_ f2_ f3_; have f4_ := f1_.symm; have f5_ := f3_.symm; clear f1_ f2_ f3_; subst f4_; subst f5_))
            refine start_ (n := 5) (S := fun w' => w'.cell? ⟨gb197, 0, none⟩ = some (.int .i64 5) ∧ w'.cell? ⟨gb197, 1, none⟩ = some (.bool true)) (ds := []) #[N_,N_,N_,N_,N_] (by kernel_rfl) rfl rfl ⟨ck BK197 0, ck BK197 1⟩ (fun hHeld => ?_)
            generalize wc.drew = w47 at HO_2 HO_4 BK197 HB hHeld ⊢
            refine pure_ (i := 1) (N := some 39) (v := ?_) (a' := ?_) #[N_,Y_,N_,N_,N_] rfl rfl (by kernel_rfl) (fun _ _ _ h => h) (Or.inl ⟨by rfl, ?_⟩) ?_ ?_; rotate_left
            ·intro w'
             go_simp
             with_reducible rfl
            rotate_left
            ·simp only [Act.put, nrm]
             rfl
            refine take_ (i := 0) (N := some 38) (v := ?_) (a' := ?_) #[Y_,Y_,N_,N_,N_] rfl rfl (by kernel_rfl) (fun _ _ _ h => h) (Or.inl ⟨by rfl, ?_⟩) hHeld ?_ ?_; rotate_left
            ·rintro w' ⟨s0, s1⟩
             go_simp
             with_reducible rfl
            rotate_left
            ·simp only [Act.put, nrm]
             rfl
            refine one_ (i := 2) (N := some 40) #[Y_,Y_,Y_,N_,N_] rfl rfl (by kernel_rfl) (by decide) (fun K hK => ?_); refine goes_ Try.func23 (by kernel_rfl) rfl #[.slice Ao48 t201.length co48] (by rfl) rfl rfl (by (try simp only [List.map_toArray, List.map_cons, List.map_nil]); first | done | rfl | (simp only [List.length_drop, List.length_take]; rfl)) ?_; (with_reducible refine (signalbenchlaw19_ideal.calls kj2 _ _ t201 t212 _ ?side1 ?side2 A25.out).mono ?_)
            (case side1 => repeat (first | exact (Kd.R_reads' HO_2.out).2.2 | (with_reducible refine Kd.C_alloc ?_ _) | (with_reducible refine Kd.C_drewN ?_ _) | (with_reducible refine Kd.C_drew ?_)))
            (case side2 => exact (Kd.R_reads' HO_2.out).2.1)
            rintro e w49 ⟨v213, rfl, ho0, hb⟩; refine ⟨_, rfl, ?_⟩; have n0_ := Aside0.mk (Kd.R_below (rkw HO_2.out) hb); have n1_ := Aside0.mk (Kd.R_below (rkw HO_4.out) hb); have n2_ := Aside0.mk (Kd.R_lower ho0 (below_size (hbw HB.out))); have n4_ := Aside0.mk (below_step (hbw HB.out) hb); clear HO_2; clear HO_4; clear HB; have HO_2 := n0_; have HO_4 := n1_; have HO214 := n2_; replace BK197 := bkB BK197 hb; have HB := n4_; clear n0_ n1_ n2_ n4_; (try clear hb); (try clear hb2); (try clear hk); (try clear hi); (try clear ho0); obtain ⟨Ao50, co50, eo50⟩ := Kd.R_slice HO214.out
            (first | subst eo50 | (injection eo50 with f1_ f2_ f3_; have f4_ := f1_.symm; have f5_ := f3_.symm; clear f1_ f2_ f3_; subst f4_; subst f5_))
            refine hK.out _ _ ⟨ck BK197 0, ck BK197 1⟩ (fun hHeld => ?_); clear hK K; refine norm_ (a' := ?_) ?_ ?_; rotate_left
            ·show Act.put _ (some 40) _ = _
             simp only [Act.put, nrm]
             rfl
            refine one_ (i := 3) (N := some 41) #[Y_,Y_,Y_,Y_,N_] rfl rfl (by kernel_rfl) (by decide) (fun K hK => ?_); refine goes_ Try.func18 (by kernel_rfl) rfl #[.agg #[.int .i64 5, .bool true], .slice Ao50 t212.length co50] (by rfl) rfl rfl (by (try simp only [List.map_toArray, List.map_cons, List.map_nil]); first | done | rfl | (simp only [List.length_drop, List.length_take]; rfl)) ?_; (with_reducible refine (stuff_Decode.calls kj2 5 true _ _ t212 t215 _ ?side1 ?side2 A26.out).mono ?_)
            (case side1 => repeat (first | exact (Kd.R_reads' HO214.out).2.2 | (with_reducible refine Kd.C_alloc ?_ _) | (with_reducible refine Kd.C_drewN ?_ _) | (with_reducible refine Kd.C_drew ?_)))
            (case side2 => exact (Kd.R_reads' HO214.out).2.1)
            rintro e w51 ⟨v216, rfl, ho0, hb⟩; refine ⟨_, rfl, ?_⟩; have n0_ := Aside0.mk (Kd.R_below (rkw HO_2.out) hb); have n1_ := Aside0.mk (Kd.R_below (rkw HO_4.out) hb); have n2_ := Aside0.mk (Kd.R_elder' (rkw HO214.out) (Kd.R_base ho0) hb); have n3_ := Aside0.mk (Kd.R_lower (Kd.R_new' ho0 (Kd.R_lt (rkw HO214.out))) (below_size (hbw HB.out))); have n5_ := Aside0.mk (below_step (hbw HB.out) hb); clear HO_2; clear HO_4; clear HO214; clear HB; have HO_2 := n0_; have HO_4 := n1_; have HO214 := n2_; have HO217 := n3_; replace BK197 := bkB BK197 hb; have HB := n5_; clear n0_ n1_ n2_ n3_ n5_; (try clear hb); (try clear hb2); (try clear hk); (try clear hi); (try clear ho0); refine hK.out _ _ ⟨ck BK197 0, ck BK197 1⟩ (fun hHeld => ?_); clear hK K; refine norm_ (a' := ?_) ?_ ?_; rotate_left
            ·show Act.put _ (some 41) _ = _
             simp only [Act.put, nrm]
             rfl
            refine pure_ (i := 4) (N := some 6) (v := ?_) (a' := ?_) #[Y_,Y_,Y_,Y_,Y_] rfl rfl (by kernel_rfl) (fun _ _ _ h => h) (Or.inl ⟨by rfl, ?_⟩) ?_ ?_; rotate_left
            ·intro w'
             go_simp
             with_reducible rfl
            rotate_left
            ·simp only [Act.put, nrm]
             rfl
            refine done_ (by kernel_rfl) ?_; have p218 : 0 ≤ (0 : Int) := (by omega); have q218 : 0 < (t201.length : Int) := of_decide_eq_true (by first | (with_reducible assumption) | assumption); obtain ⟨ad218, e218, hx218_0, hx218_1, hx218_2, hx218_3, hx218_4⟩ := at_T45 (Kd.R_reads' HO_2.out).2.2 0 p218 q218
            cases e218
            have qi218 : (0 < t201.length) = True := eq_true (by omega); (try rw [show ((0 : Int)).toNat = 0 from rfl] at hx218_0); (try rw [show 0 * 5 = 0 from rfl] at hx218_0); (try rw [Addr.add_zero'] at hx218_0); (try rw [show ((0 : Int)).toNat = 0 from rfl] at hx218_1); (try rw [show 0 * 5 = 0 from rfl] at hx218_1); (try rw [Addr.add_zero'] at hx218_1); (try rw [show ((0 : Int)).toNat = 0 from rfl] at hx218_2); (try rw [show 0 * 5 = 0 from rfl] at hx218_2); (try rw [Addr.add_zero'] at hx218_2); (try rw [show ((0 : Int)).toNat = 0 from rfl] at hx218_3); (try rw [show 0 * 5 = 0 from rfl] at hx218_3); (try rw [Addr.add_zero'] at hx218_3); (try rw [show ((0 : Int)).toNat = 0 from rfl] at hx218_4); (try rw [show 0 * 5 = 0 from rfl] at hx218_4); (try rw [Addr.add_zero'] at hx218_4); replace p218 := eq_true p218; replace q218 := eq_true q218; obtain ⟨Ao52, co52, eo52⟩ := Kd.R_slice HO_4.out; subst eo52; have p219 : 0 ≤ (0 : Int) := (by omega); have q219 : 0 < (t208.length : Int) := of_decide_eq_true (by first | (with_reducible assumption) | assumption); obtain ⟨ad219, e219, hx219_0, hx219_1, hx219_2, hx219_3, hx219_4⟩ := at_T45 (Kd.R_reads' HO_4.out).2.2 0 p219 q219
            cases e219
            have qi219 : (0 < t208.length) = True := eq_true (by omega); (try rw [show ((0 : Int)).toNat = 0 from rfl] at hx219_0); (try rw [show 0 * 5 = 0 from rfl] at hx219_0); (try rw [Addr.add_zero'] at hx219_0); (try rw [show ((0 : Int)).toNat = 0 from rfl] at hx219_1); (try rw [show 0 * 5 = 0 from rfl] at hx219_1); (try rw [Addr.add_zero'] at hx219_1); (try rw [show ((0 : Int)).toNat = 0 from rfl] at hx219_2); (try rw [show 0 * 5 = 0 from rfl] at hx219_2); (try rw [Addr.add_zero'] at hx219_2); (try rw [show ((0 : Int)).toNat = 0 from rfl] at hx219_3); (try rw [show 0 * 5 = 0 from rfl] at hx219_3); (try rw [Addr.add_zero'] at hx219_3); (try rw [show ((0 : Int)).toNat = 0 from rfl] at hx219_4); (try rw [show 0 * 5 = 0 from rfl] at hx219_4); (try rw [Addr.add_zero'] at hx219_4); replace p219 := eq_true p219; replace q219 := eq_true q219; obtain ⟨Ao53, co53, eo53⟩ := Kd.R_slice HO217.out; subst eo53; have p220 : 0 ≤ (5 : Int) := (by omega); have q220 : 5 < (t215.length : Int) := of_decide_eq_true (by first | (with_reducible assumption) | assumption); obtain ⟨ad220, e220, hx220_0, hx220_1, hx220_2, hx220_3, hx220_4, hx220_5, hx220_6⟩ := at_T33 (Kd.R_reads' HO217.out).2.2 5 p220 q220
            cases e220
            (try simp only [show (5 : Int).toNat = 5 from rfl, Nat.reduceMul, Nat.reduceEqDiff, Go.Addr.add, ↓reduceIte] at hx220_0); (try simp only [show (5 : Int).toNat = 5 from rfl, Nat.reduceMul, Nat.reduceEqDiff, Go.Addr.add, ↓reduceIte] at hx220_1); (try simp only [show (5 : Int).toNat = 5 from rfl, Nat.reduceMul, Nat.reduceEqDiff, Go.Addr.add, ↓reduceIte] at hx220_2); (try simp only [show (5 : Int).toNat = 5 from rfl, Nat.reduceMul, Nat.reduceEqDiff, Go.Addr.add, ↓reduceIte] at hx220_3); (try simp only [show (5 : Int).toNat = 5 from rfl, Nat.reduceMul, Nat.reduceEqDiff, Go.Addr.add, ↓reduceIte] at hx220_4); (try simp only [show (5 : Int).toNat = 5 from rfl, Nat.reduceMul, Nat.reduceEqDiff, Go.Addr.add, ↓reduceIte] at hx220_5); (try simp only [show (5 : Int).toNat = 5 from rfl, Nat.reduceMul, Nat.reduceEqDiff, Go.Addr.add, ↓reduceIte] at hx220_6); have qi220 : (5 < t215.length) = True := eq_true (by omega); (try rw [show ((5 : Int)).toNat = 5 from rfl] at hx220_0); (try rw [show 5 * 7 = 35 from rfl] at hx220_0); (try rw [show ((5 : Int)).toNat = 5 from rfl] at hx220_1); (try rw [show 5 * 7 = 35 from rfl] at hx220_1); (try rw [show ((5 : Int)).toNat = 5 from rfl] at hx220_2); (try rw [show 5 * 7 = 35 from rfl] at hx220_2); (try rw [show ((5 : Int)).toNat = 5 from rfl] at hx220_3); (try rw [show 5 * 7 = 35 from rfl] at hx220_3); (try rw [show ((5 : Int)).toNat = 5 from rfl] at hx220_4); (try rw [show 5 * 7 = 35 from rfl] at hx220_4); (try rw [show ((5 : Int)).toNat = 5 from rfl] at hx220_5); (try rw [show 5 * 7 = 35 from rfl] at hx220_5); (try rw [show ((5 : Int)).toNat = 5 from rfl] at hx220_6); (try rw [show 5 * 7 = 35 from rfl] at hx220_6); replace p220 := eq_true p220; replace q220 := eq_true q220; have hcz54_0 : w51.cell? ⟨gb197, 0, none⟩ = some (.int .i64 5) := ck BK197 0; have hcz54_1 : w51.cell? ⟨gb197, 1, none⟩ = some (.bool true) := ck BK197 1; have hfz54_0 := blk_frozen BK197.out 0; have hfz54_1 := blk_frozen BK197.out 1
            try go_wp2_with (first | (go_at_call 15; (with_reducible refine (stuff_Check.calls 5 true t221 _ A34.out).mono ?_); rintro e w55 ⟨rfl, hb⟩; have n0_ := Aside0.mk (Kd.R_below (rkw HO_2.out) hb); have n1_ := Aside0.mk (Kd.R_below (rkw HO_4.out) hb); have n2_ := Aside0.mk (Kd.R_below (rkw HO214.out) hb); have n3_ := Aside0.mk (Kd.R_below (rkw HO217.out) hb); have n4_ := Aside0.mk (blkb BK197.out hb); have n5_ := Aside0.mk (below_step (hbw HB.out) hb); clear HO_2; clear HO_4; clear HO214; clear HO217; clear BK197; clear HB; have HO_2 := n0_; have HO_4 := n1_; have HO214 := n2_; have HO217 := n3_; have BK197 := n4_; have HB := n5_; clear n0_ n1_ n2_ n3_ n4_ n5_; (try clear hb); (try clear hb2); (try clear hk); (try clear hi)))
            go_ret
            exact ⟨by first | rfl | (simp [errW_none, errW_some] <;> rfl) | (simp [*, errW_none, errW_some] <;> rfl), by repeat (first | (with_reducible first | exact HB.out | apply below_alloc | apply pw_below_drewN | apply below_drew1 | refine below_set ?_ GE197.out) | exact HB.out)⟩
          ·rw [if_neg c33] at H
           have c33b0 : (((rd_T33 t215 5).f0) == 2 && (((rd_T33 t215 5).f1) == 6 && (((rd_T33 t215 5).f2) == 7 && (((rd_T33 t215 5).f3) == 1 && (((rd_T33 t215 5).f4) == 0 && ((((rd_T33 t215 5).f5).toList) == ([] : List UInt8) && (((rd_T33 t215 5).f6) == 0))))))) = false := by simpa using c33
           (try (have c33b1 : ((((rd_T33 t215 5).f0) = 2 ∧ (((rd_T33 t215 5).f1) = 6 ∧ (((rd_T33 t215 5).f2) = 7 ∧ (((rd_T33 t215 5).f3) = 1 ∧ (((rd_T33 t215 5).f4) = 0 ∧ ((((rd_T33 t215 5).f5).toList) = ([] : List UInt8) ∧ (((rd_T33 t215 5).f6) = 0)))))))) = False := eq_false (by simpa using c33))); (try (have c33b2 : decide (((rd_T33 t215 5).f0) = 2 && (((rd_T33 t215 5).f1) == 6 && (((rd_T33 t215 5).f2) == 7 && (((rd_T33 t215 5).f3) == 1 && (((rd_T33 t215 5).f4) == 0 && ((((rd_T33 t215 5).f5).toList) == ([] : List UInt8) && (((rd_T33 t215 5).f6) == 0))))))) = false := by simpa using c33)); (try (have c33b3 : (((rd_T33 t215 5).f0) == 2 && (((rd_T33 t215 5).f1) == 6 && (((rd_T33 t215 5).f2) == 7 && (((rd_T33 t215 5).f3) == 1 && (((rd_T33 t215 5).f4) == 0 && ((((rd_T33 t215 5).f5).toList) == ([] : List UInt8) && (((rd_T33 t215 5).f6) == 0))))))) = false := by simpa using c33)); (try (have c33b4 : ¬ (((rd_T33 t215 5).f0) = 2 && (((rd_T33 t215 5).f1) == 6 && (((rd_T33 t215 5).f2) == 7 && (((rd_T33 t215 5).f3) == 1 && (((rd_T33 t215 5).f4) == 0 && ((((rd_T33 t215 5).f5).toList) == ([] : List UInt8) && (((rd_T33 t215 5).f6) == 0))))))) := by simpa using c33)); clear c33; obtain rfl := Option.some.inj H
           try go_wp2
           have n0_ := Aside0.mk (Kd.R_drew HO_2.out); have n1_ := Aside0.mk (Kd.R_drew HO_4.out); have n2_ := Aside0.mk (blk_drew BK197.out); have n3_ := Aside0.mk (below_drew1 HB.out); clear HO_2; clear HO_4; clear BK197; clear HB; have HO_2 := n0_; have HO_4 := n1_; have BK197 := n2_; have HB := n3_; clear n0_ n1_ n2_ n3_; obtain ⟨Ao57, co57, eo57⟩ := Kd.R_slice HO_2.out
           (first | subst eo57 | (injection eo57 with f1_ f2_ f3_; have f4_ := f1_.symm; have f5_ := f3_.symm; clear f1_ f2_ f3_; subst f4_; subst f5_))
           refine start_ (n := 5) (S := fun w' => w'.cell? ⟨gb197, 0, none⟩ = some (.int .i64 5) ∧ w'.cell? ⟨gb197, 1, none⟩ = some (.bool true)) (ds := []) #[N_,N_,N_,N_,N_] (by kernel_rfl) rfl rfl ⟨ck BK197 0, ck BK197 1⟩ (fun hHeld => ?_)
           generalize wc.drew = w56 at HO_2 HO_4 BK197 HB hHeld ⊢
           refine pure_ (i := 1) (N := some 39) (v := ?_) (a' := ?_) #[N_,Y_,N_,N_,N_] rfl rfl (by kernel_rfl) (fun _ _ _ h => h) (Or.inl ⟨by rfl, ?_⟩) ?_ ?_; rotate_left
           ·intro w'
            go_simp
            with_reducible rfl
           rotate_left
           ·simp only [Act.put, nrm]
            rfl
           refine take_ (i := 0) (N := some 38) (v := ?_) (a' := ?_) #[Y_,Y_,N_,N_,N_] rfl rfl (by kernel_rfl) (fun _ _ _ h => h) (Or.inl ⟨by rfl, ?_⟩) hHeld ?_ ?_; rotate_left
           ·rintro w' ⟨s0, s1⟩
            go_simp
            with_reducible rfl
           rotate_left
           ·simp only [Act.put, nrm]
            rfl
           refine one_ (i := 2) (N := some 40) #[Y_,Y_,Y_,N_,N_] rfl rfl (by kernel_rfl) (by decide) (fun K hK => ?_); refine goes_ Try.func23 (by kernel_rfl) rfl #[.slice Ao57 t201.length co57] (by rfl) rfl rfl (by (try simp only [List.map_toArray, List.map_cons, List.map_nil]); first | done | rfl | (simp only [List.length_drop, List.length_take]; rfl)) ?_; (with_reducible refine (signalbenchlaw19_ideal.calls kj2 _ _ t201 t212 _ ?side1 ?side2 A25.out).mono ?_)
           (case side1 => repeat (first | exact (Kd.R_reads' HO_2.out).2.2 | (with_reducible refine Kd.C_alloc ?_ _) | (with_reducible refine Kd.C_drewN ?_ _) | (with_reducible refine Kd.C_drew ?_)))
           (case side2 => exact (Kd.R_reads' HO_2.out).2.1)
           rintro e w58 ⟨v213, rfl, ho0, hb⟩; refine ⟨_, rfl, ?_⟩; have n0_ := Aside0.mk (Kd.R_below (rkw HO_2.out) hb); have n1_ := Aside0.mk (Kd.R_below (rkw HO_4.out) hb); have n2_ := Aside0.mk (Kd.R_lower ho0 (below_size (hbw HB.out))); have n4_ := Aside0.mk (below_step (hbw HB.out) hb); clear HO_2; clear HO_4; clear HB; have HO_2 := n0_; have HO_4 := n1_; have HO214 := n2_; replace BK197 := bkB BK197 hb; have HB := n4_; clear n0_ n1_ n2_ n4_; (try clear hb); (try clear hb2); (try clear hk); (try clear hi); (try clear ho0); obtain ⟨Ao59, co59, eo59⟩ := Kd.R_slice HO214.out
           (first | subst eo59 | (injection eo59 with f1_ f2_ f3_; have f4_ := f1_.symm; have f5_ := f3_.symm; clear f1_ f2_ f3_; subst f4_; subst f5_))
           refine hK.out _ _ ⟨ck BK197 0, ck BK197 1⟩ (fun hHeld => ?_); clear hK K; refine norm_ (a' := ?_) ?_ ?_; rotate_left
           ·show Act.put _ (some 40) _ = _
            simp only [Act.put, nrm]
            rfl
           refine one_ (i := 3) (N := some 41) #[Y_,Y_,Y_,Y_,N_] rfl rfl (by kernel_rfl) (by decide) (fun K hK => ?_); refine goes_ Try.func18 (by kernel_rfl) rfl #[.agg #[.int .i64 5, .bool true], .slice Ao59 t212.length co59] (by rfl) rfl rfl (by (try simp only [List.map_toArray, List.map_cons, List.map_nil]); first | done | rfl | (simp only [List.length_drop, List.length_take]; rfl)) ?_; (with_reducible refine (stuff_Decode.calls kj2 5 true _ _ t212 t215 _ ?side1 ?side2 A26.out).mono ?_)
           (case side1 => repeat (first | exact (Kd.R_reads' HO214.out).2.2 | (with_reducible refine Kd.C_alloc ?_ _) | (with_reducible refine Kd.C_drewN ?_ _) | (with_reducible refine Kd.C_drew ?_)))
           (case side2 => exact (Kd.R_reads' HO214.out).2.1)
           rintro e w60 ⟨v216, rfl, ho0, hb⟩; refine ⟨_, rfl, ?_⟩; have n0_ := Aside0.mk (Kd.R_below (rkw HO_2.out) hb); have n1_ := Aside0.mk (Kd.R_below (rkw HO_4.out) hb); have n2_ := Aside0.mk (Kd.R_elder' (rkw HO214.out) (Kd.R_base ho0) hb); have n3_ := Aside0.mk (Kd.R_lower (Kd.R_new' ho0 (Kd.R_lt (rkw HO214.out))) (below_size (hbw HB.out))); have n5_ := Aside0.mk (below_step (hbw HB.out) hb); clear HO_2; clear HO_4; clear HO214; clear HB; have HO_2 := n0_; have HO_4 := n1_; have HO214 := n2_; have HO217 := n3_; replace BK197 := bkB BK197 hb; have HB := n5_; clear n0_ n1_ n2_ n3_ n5_; (try clear hb); (try clear hb2); (try clear hk); (try clear hi); (try clear ho0); refine hK.out _ _ ⟨ck BK197 0, ck BK197 1⟩ (fun hHeld => ?_); clear hK K; refine norm_ (a' := ?_) ?_ ?_; rotate_left
           ·show Act.put _ (some 41) _ = _
            simp only [Act.put, nrm]
            rfl
           refine pure_ (i := 4) (N := some 6) (v := ?_) (a' := ?_) #[Y_,Y_,Y_,Y_,Y_] rfl rfl (by kernel_rfl) (fun _ _ _ h => h) (Or.inl ⟨by rfl, ?_⟩) ?_ ?_; rotate_left
           ·intro w'
            go_simp
            with_reducible rfl
           rotate_left
           ·simp only [Act.put, nrm]
            rfl
           refine done_ (by kernel_rfl) ?_; have p218 : 0 ≤ (0 : Int) := (by omega); have q218 : 0 < (t201.length : Int) := of_decide_eq_true (by first | (with_reducible assumption) | assumption); obtain ⟨ad218, e218, hx218_0, hx218_1, hx218_2, hx218_3, hx218_4⟩ := at_T45 (Kd.R_reads' HO_2.out).2.2 0 p218 q218
           cases e218
           have qi218 : (0 < t201.length) = True := eq_true (by omega); (try rw [show ((0 : Int)).toNat = 0 from rfl] at hx218_0); (try rw [show 0 * 5 = 0 from rfl] at hx218_0); (try rw [Addr.add_zero'] at hx218_0); (try rw [show ((0 : Int)).toNat = 0 from rfl] at hx218_1); (try rw [show 0 * 5 = 0 from rfl] at hx218_1); (try rw [Addr.add_zero'] at hx218_1); (try rw [show ((0 : Int)).toNat = 0 from rfl] at hx218_2); (try rw [show 0 * 5 = 0 from rfl] at hx218_2); (try rw [Addr.add_zero'] at hx218_2); (try rw [show ((0 : Int)).toNat = 0 from rfl] at hx218_3); (try rw [show 0 * 5 = 0 from rfl] at hx218_3); (try rw [Addr.add_zero'] at hx218_3); (try rw [show ((0 : Int)).toNat = 0 from rfl] at hx218_4); (try rw [show 0 * 5 = 0 from rfl] at hx218_4); (try rw [Addr.add_zero'] at hx218_4); replace p218 := eq_true p218; replace q218 := eq_true q218; obtain ⟨Ao61, co61, eo61⟩ := Kd.R_slice HO_4.out; subst eo61; have p219 : 0 ≤ (0 : Int) := (by omega); have q219 : 0 < (t208.length : Int) := of_decide_eq_true (by first | (with_reducible assumption) | assumption); obtain ⟨ad219, e219, hx219_0, hx219_1, hx219_2, hx219_3, hx219_4⟩ := at_T45 (Kd.R_reads' HO_4.out).2.2 0 p219 q219
           cases e219
           have qi219 : (0 < t208.length) = True := eq_true (by omega); (try rw [show ((0 : Int)).toNat = 0 from rfl] at hx219_0); (try rw [show 0 * 5 = 0 from rfl] at hx219_0); (try rw [Addr.add_zero'] at hx219_0); (try rw [show ((0 : Int)).toNat = 0 from rfl] at hx219_1); (try rw [show 0 * 5 = 0 from rfl] at hx219_1); (try rw [Addr.add_zero'] at hx219_1); (try rw [show ((0 : Int)).toNat = 0 from rfl] at hx219_2); (try rw [show 0 * 5 = 0 from rfl] at hx219_2); (try rw [Addr.add_zero'] at hx219_2); (try rw [show ((0 : Int)).toNat = 0 from rfl] at hx219_3); (try rw [show 0 * 5 = 0 from rfl] at hx219_3); (try rw [Addr.add_zero'] at hx219_3); (try rw [show ((0 : Int)).toNat = 0 from rfl] at hx219_4); (try rw [show 0 * 5 = 0 from rfl] at hx219_4); (try rw [Addr.add_zero'] at hx219_4); replace p219 := eq_true p219; replace q219 := eq_true q219; obtain ⟨Ao62, co62, eo62⟩ := Kd.R_slice HO217.out; subst eo62; have p220 : 0 ≤ (5 : Int) := (by omega); have q220 : 5 < (t215.length : Int) := of_decide_eq_true (by first | (with_reducible assumption) | assumption); obtain ⟨ad220, e220, hx220_0, hx220_1, hx220_2, hx220_3, hx220_4, hx220_5, hx220_6⟩ := at_T33 (Kd.R_reads' HO217.out).2.2 5 p220 q220
           cases e220
           (try simp only [show (5 : Int).toNat = 5 from rfl, Nat.reduceMul, Nat.reduceEqDiff, Go.Addr.add, ↓reduceIte] at hx220_0); (try simp only [show (5 : Int).toNat = 5 from rfl, Nat.reduceMul, Nat.reduceEqDiff, Go.Addr.add, ↓reduceIte] at hx220_1); (try simp only [show (5 : Int).toNat = 5 from rfl, Nat.reduceMul, Nat.reduceEqDiff, Go.Addr.add, ↓reduceIte] at hx220_2); (try simp only [show (5 : Int).toNat = 5 from rfl, Nat.reduceMul, Nat.reduceEqDiff, Go.Addr.add, ↓reduceIte] at hx220_3); (try simp only [show (5 : Int).toNat = 5 from rfl, Nat.reduceMul, Nat.reduceEqDiff, Go.Addr.add, ↓reduceIte] at hx220_4); (try simp only [show (5 : Int).toNat = 5 from rfl, Nat.reduceMul, Nat.reduceEqDiff, Go.Addr.add, ↓reduceIte] at hx220_5); (try simp only [show (5 : Int).toNat = 5 from rfl, Nat.reduceMul, Nat.reduceEqDiff, Go.Addr.add, ↓reduceIte] at hx220_6); have qi220 : (5 < t215.length) = True := eq_true (by omega); (try rw [show ((5 : Int)).toNat = 5 from rfl] at hx220_0); (try rw [show 5 * 7 = 35 from rfl] at hx220_0); (try rw [show ((5 : Int)).toNat = 5 from rfl] at hx220_1); (try rw [show 5 * 7 = 35 from rfl] at hx220_1); (try rw [show ((5 : Int)).toNat = 5 from rfl] at hx220_2); (try rw [show 5 * 7 = 35 from rfl] at hx220_2); (try rw [show ((5 : Int)).toNat = 5 from rfl] at hx220_3); (try rw [show 5 * 7 = 35 from rfl] at hx220_3); (try rw [show ((5 : Int)).toNat = 5 from rfl] at hx220_4); (try rw [show 5 * 7 = 35 from rfl] at hx220_4); (try rw [show ((5 : Int)).toNat = 5 from rfl] at hx220_5); (try rw [show 5 * 7 = 35 from rfl] at hx220_5); (try rw [show ((5 : Int)).toNat = 5 from rfl] at hx220_6); (try rw [show 5 * 7 = 35 from rfl] at hx220_6); replace p220 := eq_true p220; replace q220 := eq_true q220
           try go_wp2
           go_ret
           exact ⟨by first | rfl | (simp [errW_none, errW_some] <;> rfl) | (simp [*, errW_none, errW_some] <;> rfl), by repeat (first | (with_reducible first | exact HB.out | apply below_alloc | apply pw_below_drewN | apply below_drew1 | refine below_set ?_ GE197.out) | exact HB.out)⟩
         ·rw [if_neg c32] at H
          exact absurd H (by simp)
        ·rw [if_neg c31] at H
         have c31b0 : ((t215.length : Int) == 6) = false := beq_eq_false_iff_ne.mpr c31; have c31b1 : ((t215.length : Int) != 6) = true := bne_iff_ne.mpr c31; obtain rfl := Option.some.inj H
         try go_wp2
         have n0_ := Aside0.mk (Kd.R_drew HO_2.out); have n1_ := Aside0.mk (Kd.R_drew HO_4.out); have n2_ := Aside0.mk (blk_drew BK197.out); have n3_ := Aside0.mk (below_drew1 HB.out); clear HO_2; clear HO_4; clear BK197; clear HB; have HO_2 := n0_; have HO_4 := n1_; have BK197 := n2_; have HB := n3_; clear n0_ n1_ n2_ n3_; obtain ⟨Ao64, co64, eo64⟩ := Kd.R_slice HO_2.out
         (first | subst eo64 | (injection eo64 with f1_ f2_ f3_; have f4_ := f1_.symm; have f5_ := f3_.symm; clear f1_ f2_ f3_; subst f4_; subst f5_))
         refine start_ (n := 5) (S := fun w' => w'.cell? ⟨gb197, 0, none⟩ = some (.int .i64 5) ∧ w'.cell? ⟨gb197, 1, none⟩ = some (.bool true)) (ds := []) #[N_,N_,N_,N_,N_] (by kernel_rfl) rfl rfl ⟨ck BK197 0, ck BK197 1⟩ (fun hHeld => ?_)
         generalize wc.drew = w63 at HO_2 HO_4 BK197 HB hHeld ⊢
         refine pure_ (i := 1) (N := some 39) (v := ?_) (a' := ?_) #[N_,Y_,N_,N_,N_] rfl rfl (by kernel_rfl) (fun _ _ _ h => h) (Or.inl ⟨by rfl, ?_⟩) ?_ ?_; rotate_left
         ·intro w'
          go_simp
          with_reducible rfl
         rotate_left
         ·simp only [Act.put, nrm]
          rfl
         refine take_ (i := 0) (N := some 38) (v := ?_) (a' := ?_) #[Y_,Y_,N_,N_,N_] rfl rfl (by kernel_rfl) (fun _ _ _ h => h) (Or.inl ⟨by rfl, ?_⟩) hHeld ?_ ?_; rotate_left
         ·rintro w' ⟨s0, s1⟩
          go_simp
          with_reducible rfl
         rotate_left
         ·simp only [Act.put, nrm]
          rfl
         refine one_ (i := 2) (N := some 40) #[Y_,Y_,Y_,N_,N_] rfl rfl (by kernel_rfl) (by decide) (fun K hK => ?_); refine goes_ Try.func23 (by kernel_rfl) rfl #[.slice Ao64 t201.length co64] (by rfl) rfl rfl (by (try simp only [List.map_toArray, List.map_cons, List.map_nil]); first | done | rfl | (simp only [List.length_drop, List.length_take]; rfl)) ?_; (with_reducible refine (signalbenchlaw19_ideal.calls kj2 _ _ t201 t212 _ ?side1 ?side2 A25.out).mono ?_)
         (case side1 => repeat (first | exact (Kd.R_reads' HO_2.out).2.2 | (with_reducible refine Kd.C_alloc ?_ _) | (with_reducible refine Kd.C_drewN ?_ _) | (with_reducible refine Kd.C_drew ?_)))
         (case side2 => exact (Kd.R_reads' HO_2.out).2.1)
         rintro e w65 ⟨v213, rfl, ho0, hb⟩; refine ⟨_, rfl, ?_⟩; have n0_ := Aside0.mk (Kd.R_below (rkw HO_2.out) hb); have n1_ := Aside0.mk (Kd.R_below (rkw HO_4.out) hb); have n2_ := Aside0.mk (Kd.R_lower ho0 (below_size (hbw HB.out))); have n4_ := Aside0.mk (below_step (hbw HB.out) hb); clear HO_2; clear HO_4; clear HB; have HO_2 := n0_; have HO_4 := n1_; have HO214 := n2_; replace BK197 := bkB BK197 hb; have HB := n4_; clear n0_ n1_ n2_ n4_; (try clear hb); (try clear hb2); (try clear hk); (try clear hi); (try clear ho0); obtain ⟨Ao66, co66, eo66⟩ := Kd.R_slice HO214.out
         (first | subst eo66 | (injection eo66 with f1_ f2_ f3_; have f4_ := f1_.symm; have f5_ := f3_.symm; clear f1_ f2_ f3_; subst f4_; subst f5_))
         refine hK.out _ _ ⟨ck BK197 0, ck BK197 1⟩ (fun hHeld => ?_); clear hK K; refine norm_ (a' := ?_) ?_ ?_; rotate_left
         ·show Act.put _ (some 40) _ = _
          simp only [Act.put, nrm]
          rfl
         refine one_ (i := 3) (N := some 41) #[Y_,Y_,Y_,Y_,N_] rfl rfl (by kernel_rfl) (by decide) (fun K hK => ?_); refine goes_ Try.func18 (by kernel_rfl) rfl #[.agg #[.int .i64 5, .bool true], .slice Ao66 t212.length co66] (by rfl) rfl rfl (by (try simp only [List.map_toArray, List.map_cons, List.map_nil]); first | done | rfl | (simp only [List.length_drop, List.length_take]; rfl)) ?_; (with_reducible refine (stuff_Decode.calls kj2 5 true _ _ t212 t215 _ ?side1 ?side2 A26.out).mono ?_)
         (case side1 => repeat (first | exact (Kd.R_reads' HO214.out).2.2 | (with_reducible refine Kd.C_alloc ?_ _) | (with_reducible refine Kd.C_drewN ?_ _) | (with_reducible refine Kd.C_drew ?_)))
         (case side2 => exact (Kd.R_reads' HO214.out).2.1)
         rintro e w67 ⟨v216, rfl, ho0, hb⟩; refine ⟨_, rfl, ?_⟩; have n0_ := Aside0.mk (Kd.R_below (rkw HO_2.out) hb); have n1_ := Aside0.mk (Kd.R_below (rkw HO_4.out) hb); have n2_ := Aside0.mk (Kd.R_elder' (rkw HO214.out) (Kd.R_base ho0) hb); have n3_ := Aside0.mk (Kd.R_lower (Kd.R_new' ho0 (Kd.R_lt (rkw HO214.out))) (below_size (hbw HB.out))); have n5_ := Aside0.mk (below_step (hbw HB.out) hb); clear HO_2; clear HO_4; clear HO214; clear HB; have HO_2 := n0_; have HO_4 := n1_; have HO214 := n2_; have HO217 := n3_; replace BK197 := bkB BK197 hb; have HB := n5_; clear n0_ n1_ n2_ n3_ n5_; (try clear hb); (try clear hb2); (try clear hk); (try clear hi); (try clear ho0); refine hK.out _ _ ⟨ck BK197 0, ck BK197 1⟩ (fun hHeld => ?_); clear hK K; refine norm_ (a' := ?_) ?_ ?_; rotate_left
         ·show Act.put _ (some 41) _ = _
          simp only [Act.put, nrm]
          rfl
         refine pure_ (i := 4) (N := some 6) (v := ?_) (a' := ?_) #[Y_,Y_,Y_,Y_,Y_] rfl rfl (by kernel_rfl) (fun _ _ _ h => h) (Or.inl ⟨by rfl, ?_⟩) ?_ ?_; rotate_left
         ·intro w'
          go_simp
          with_reducible rfl
         rotate_left
         ·simp only [Act.put, nrm]
          rfl
         refine done_ (by kernel_rfl) ?_; have p218 : 0 ≤ (0 : Int) := (by omega); have q218 : 0 < (t201.length : Int) := of_decide_eq_true (by first | (with_reducible assumption) | assumption); obtain ⟨ad218, e218, hx218_0, hx218_1, hx218_2, hx218_3, hx218_4⟩ := at_T45 (Kd.R_reads' HO_2.out).2.2 0 p218 q218
         cases e218
         have qi218 : (0 < t201.length) = True := eq_true (by omega); (try rw [show ((0 : Int)).toNat = 0 from rfl] at hx218_0); (try rw [show 0 * 5 = 0 from rfl] at hx218_0); (try rw [Addr.add_zero'] at hx218_0); (try rw [show ((0 : Int)).toNat = 0 from rfl] at hx218_1); (try rw [show 0 * 5 = 0 from rfl] at hx218_1); (try rw [Addr.add_zero'] at hx218_1); (try rw [show ((0 : Int)).toNat = 0 from rfl] at hx218_2); (try rw [show 0 * 5 = 0 from rfl] at hx218_2); (try rw [Addr.add_zero'] at hx218_2); (try rw [show ((0 : Int)).toNat = 0 from rfl] at hx218_3); (try rw [show 0 * 5 = 0 from rfl] at hx218_3); (try rw [Addr.add_zero'] at hx218_3); (try rw [show ((0 : Int)).toNat = 0 from rfl] at hx218_4); (try rw [show 0 * 5 = 0 from rfl] at hx218_4); (try rw [Addr.add_zero'] at hx218_4); replace p218 := eq_true p218; replace q218 := eq_true q218; obtain ⟨Ao68, co68, eo68⟩ := Kd.R_slice HO_4.out; subst eo68; have p219 : 0 ≤ (0 : Int) := (by omega); have q219 : 0 < (t208.length : Int) := of_decide_eq_true (by first | (with_reducible assumption) | assumption); obtain ⟨ad219, e219, hx219_0, hx219_1, hx219_2, hx219_3, hx219_4⟩ := at_T45 (Kd.R_reads' HO_4.out).2.2 0 p219 q219
         cases e219
         have qi219 : (0 < t208.length) = True := eq_true (by omega); (try rw [show ((0 : Int)).toNat = 0 from rfl] at hx219_0); (try rw [show 0 * 5 = 0 from rfl] at hx219_0); (try rw [Addr.add_zero'] at hx219_0); (try rw [show ((0 : Int)).toNat = 0 from rfl] at hx219_1); (try rw [show 0 * 5 = 0 from rfl] at hx219_1); (try rw [Addr.add_zero'] at hx219_1); (try rw [show ((0 : Int)).toNat = 0 from rfl] at hx219_2); (try rw [show 0 * 5 = 0 from rfl] at hx219_2); (try rw [Addr.add_zero'] at hx219_2); (try rw [show ((0 : Int)).toNat = 0 from rfl] at hx219_3); (try rw [show 0 * 5 = 0 from rfl] at hx219_3); (try rw [Addr.add_zero'] at hx219_3); (try rw [show ((0 : Int)).toNat = 0 from rfl] at hx219_4); (try rw [show 0 * 5 = 0 from rfl] at hx219_4); (try rw [Addr.add_zero'] at hx219_4); replace p219 := eq_true p219; replace q219 := eq_true q219; obtain ⟨Ao69, co69, eo69⟩ := Kd.R_slice HO217.out; subst eo69
         try go_wp2
         go_ret
         exact ⟨by first | rfl | (simp [errW_none, errW_some] <;> rfl) | (simp [*, errW_none, errW_some] <;> rfl), by repeat (first | (with_reducible first | exact HB.out | apply below_alloc | apply pw_below_drewN | apply below_drew1 | refine below_set ?_ GE197.out) | exact HB.out)⟩
       ·rw [if_neg c30] at H
        have c30b0 : (((rd_T45 t208 0).f3).toList == ([48, 48, 48, 49, 49, 49, 48, 49] : List UInt8)) = false := beq_eq_false_iff_ne.mpr c30; have c30b1 : (((rd_T45 t208 0).f3).toList != ([48, 48, 48, 49, 49, 49, 48, 49] : List UInt8)) = true := bne_iff_ne.mpr c30; obtain rfl := Option.some.inj H
        try go_wp2
        have n0_ := Aside0.mk (Kd.R_drew HO_2.out); have n1_ := Aside0.mk (Kd.R_drew HO_4.out); have n2_ := Aside0.mk (blk_drew BK197.out); have n3_ := Aside0.mk (below_drew1 HB.out); clear HO_2; clear HO_4; clear BK197; clear HB; have HO_2 := n0_; have HO_4 := n1_; have BK197 := n2_; have HB := n3_; clear n0_ n1_ n2_ n3_; obtain ⟨Ao71, co71, eo71⟩ := Kd.R_slice HO_2.out
        (first | subst eo71 | (injection eo71 with f1_ f2_ f3_; have f4_ := f1_.symm; have f5_ := f3_.symm; clear f1_ f2_ f3_; subst f4_; subst f5_))
        refine start_ (n := 5) (S := fun w' => w'.cell? ⟨gb197, 0, none⟩ = some (.int .i64 5) ∧ w'.cell? ⟨gb197, 1, none⟩ = some (.bool true)) (ds := []) #[N_,N_,N_,N_,N_] (by kernel_rfl) rfl rfl ⟨ck BK197 0, ck BK197 1⟩ (fun hHeld => ?_)
        generalize wc.drew = w70 at HO_2 HO_4 BK197 HB hHeld ⊢
        refine pure_ (i := 1) (N := some 39) (v := ?_) (a' := ?_) #[N_,Y_,N_,N_,N_] rfl rfl (by kernel_rfl) (fun _ _ _ h => h) (Or.inl ⟨by rfl, ?_⟩) ?_ ?_; rotate_left
        ·intro w'
         go_simp
         with_reducible rfl
        rotate_left
        ·simp only [Act.put, nrm]
         rfl
        refine take_ (i := 0) (N := some 38) (v := ?_) (a' := ?_) #[Y_,Y_,N_,N_,N_] rfl rfl (by kernel_rfl) (fun _ _ _ h => h) (Or.inl ⟨by rfl, ?_⟩) hHeld ?_ ?_; rotate_left
        ·rintro w' ⟨s0, s1⟩
         go_simp
         with_reducible rfl
        rotate_left
        ·simp only [Act.put, nrm]
         rfl
        refine one_ (i := 2) (N := some 40) #[Y_,Y_,Y_,N_,N_] rfl rfl (by kernel_rfl) (by decide) (fun K hK => ?_); refine goes_ Try.func23 (by kernel_rfl) rfl #[.slice Ao71 t201.length co71] (by rfl) rfl rfl (by (try simp only [List.map_toArray, List.map_cons, List.map_nil]); first | done | rfl | (simp only [List.length_drop, List.length_take]; rfl)) ?_; (with_reducible refine (signalbenchlaw19_ideal.calls kj2 _ _ t201 t212 _ ?side1 ?side2 A25.out).mono ?_)
        (case side1 => repeat (first | exact (Kd.R_reads' HO_2.out).2.2 | (with_reducible refine Kd.C_alloc ?_ _) | (with_reducible refine Kd.C_drewN ?_ _) | (with_reducible refine Kd.C_drew ?_)))
        (case side2 => exact (Kd.R_reads' HO_2.out).2.1)
        rintro e w72 ⟨v213, rfl, ho0, hb⟩; refine ⟨_, rfl, ?_⟩; have n0_ := Aside0.mk (Kd.R_below (rkw HO_2.out) hb); have n1_ := Aside0.mk (Kd.R_below (rkw HO_4.out) hb); have n2_ := Aside0.mk (Kd.R_lower ho0 (below_size (hbw HB.out))); have n4_ := Aside0.mk (below_step (hbw HB.out) hb); clear HO_2; clear HO_4; clear HB; have HO_2 := n0_; have HO_4 := n1_; have HO214 := n2_; replace BK197 := bkB BK197 hb; have HB := n4_; clear n0_ n1_ n2_ n4_; (try clear hb); (try clear hb2); (try clear hk); (try clear hi); (try clear ho0); obtain ⟨Ao73, co73, eo73⟩ := Kd.R_slice HO214.out
        (first | subst eo73 | (injection eo73 with f1_ f2_ f3_; have f4_ := f1_.symm; have f5_ := f3_.symm; clear f1_ f2_ f3_; subst f4_; subst f5_))
        refine hK.out _ _ ⟨ck BK197 0, ck BK197 1⟩ (fun hHeld => ?_); clear hK K; refine norm_ (a' := ?_) ?_ ?_; rotate_left
        ·show Act.put _ (some 40) _ = _
         simp only [Act.put, nrm]
         rfl
        refine one_ (i := 3) (N := some 41) #[Y_,Y_,Y_,Y_,N_] rfl rfl (by kernel_rfl) (by decide) (fun K hK => ?_); refine goes_ Try.func18 (by kernel_rfl) rfl #[.agg #[.int .i64 5, .bool true], .slice Ao73 t212.length co73] (by rfl) rfl rfl (by (try simp only [List.map_toArray, List.map_cons, List.map_nil]); first | done | rfl | (simp only [List.length_drop, List.length_take]; rfl)) ?_; (with_reducible refine (stuff_Decode.calls kj2 5 true _ _ t212 t215 _ ?side1 ?side2 A26.out).mono ?_)
        (case side1 => repeat (first | exact (Kd.R_reads' HO214.out).2.2 | (with_reducible refine Kd.C_alloc ?_ _) | (with_reducible refine Kd.C_drewN ?_ _) | (with_reducible refine Kd.C_drew ?_)))
        (case side2 => exact (Kd.R_reads' HO214.out).2.1)
        rintro e w74 ⟨v216, rfl, ho0, hb⟩; refine ⟨_, rfl, ?_⟩; have n0_ := Aside0.mk (Kd.R_below (rkw HO_2.out) hb); have n1_ := Aside0.mk (Kd.R_below (rkw HO_4.out) hb); have n2_ := Aside0.mk (Kd.R_elder' (rkw HO214.out) (Kd.R_base ho0) hb); have n3_ := Aside0.mk (Kd.R_lower (Kd.R_new' ho0 (Kd.R_lt (rkw HO214.out))) (below_size (hbw HB.out))); have n5_ := Aside0.mk (below_step (hbw HB.out) hb); clear HO_2; clear HO_4; clear HO214; clear HB; have HO_2 := n0_; have HO_4 := n1_; have HO214 := n2_; have HO217 := n3_; replace BK197 := bkB BK197 hb; have HB := n5_; clear n0_ n1_ n2_ n3_ n5_; (try clear hb); (try clear hb2); (try clear hk); (try clear hi); (try clear ho0); refine hK.out _ _ ⟨ck BK197 0, ck BK197 1⟩ (fun hHeld => ?_); clear hK K; refine norm_ (a' := ?_) ?_ ?_; rotate_left
        ·show Act.put _ (some 41) _ = _
         simp only [Act.put, nrm]
         rfl
        refine pure_ (i := 4) (N := some 6) (v := ?_) (a' := ?_) #[Y_,Y_,Y_,Y_,Y_] rfl rfl (by kernel_rfl) (fun _ _ _ h => h) (Or.inl ⟨by rfl, ?_⟩) ?_ ?_; rotate_left
        ·intro w'
         go_simp
         with_reducible rfl
        rotate_left
        ·simp only [Act.put, nrm]
         rfl
        refine done_ (by kernel_rfl) ?_; have p218 : 0 ≤ (0 : Int) := (by omega); have q218 : 0 < (t201.length : Int) := of_decide_eq_true (by first | (with_reducible assumption) | assumption); obtain ⟨ad218, e218, hx218_0, hx218_1, hx218_2, hx218_3, hx218_4⟩ := at_T45 (Kd.R_reads' HO_2.out).2.2 0 p218 q218
        cases e218
        have qi218 : (0 < t201.length) = True := eq_true (by omega); (try rw [show ((0 : Int)).toNat = 0 from rfl] at hx218_0); (try rw [show 0 * 5 = 0 from rfl] at hx218_0); (try rw [Addr.add_zero'] at hx218_0); (try rw [show ((0 : Int)).toNat = 0 from rfl] at hx218_1); (try rw [show 0 * 5 = 0 from rfl] at hx218_1); (try rw [Addr.add_zero'] at hx218_1); (try rw [show ((0 : Int)).toNat = 0 from rfl] at hx218_2); (try rw [show 0 * 5 = 0 from rfl] at hx218_2); (try rw [Addr.add_zero'] at hx218_2); (try rw [show ((0 : Int)).toNat = 0 from rfl] at hx218_3); (try rw [show 0 * 5 = 0 from rfl] at hx218_3); (try rw [Addr.add_zero'] at hx218_3); (try rw [show ((0 : Int)).toNat = 0 from rfl] at hx218_4); (try rw [show 0 * 5 = 0 from rfl] at hx218_4); (try rw [Addr.add_zero'] at hx218_4); replace p218 := eq_true p218; replace q218 := eq_true q218; obtain ⟨Ao75, co75, eo75⟩ := Kd.R_slice HO_4.out; subst eo75; have p219 : 0 ≤ (0 : Int) := (by omega); have q219 : 0 < (t208.length : Int) := of_decide_eq_true (by first | (with_reducible assumption) | assumption); obtain ⟨ad219, e219, hx219_0, hx219_1, hx219_2, hx219_3, hx219_4⟩ := at_T45 (Kd.R_reads' HO_4.out).2.2 0 p219 q219
        cases e219
        have qi219 : (0 < t208.length) = True := eq_true (by omega); (try rw [show ((0 : Int)).toNat = 0 from rfl] at hx219_0); (try rw [show 0 * 5 = 0 from rfl] at hx219_0); (try rw [Addr.add_zero'] at hx219_0); (try rw [show ((0 : Int)).toNat = 0 from rfl] at hx219_1); (try rw [show 0 * 5 = 0 from rfl] at hx219_1); (try rw [Addr.add_zero'] at hx219_1); (try rw [show ((0 : Int)).toNat = 0 from rfl] at hx219_2); (try rw [show 0 * 5 = 0 from rfl] at hx219_2); (try rw [Addr.add_zero'] at hx219_2); (try rw [show ((0 : Int)).toNat = 0 from rfl] at hx219_3); (try rw [show 0 * 5 = 0 from rfl] at hx219_3); (try rw [Addr.add_zero'] at hx219_3); (try rw [show ((0 : Int)).toNat = 0 from rfl] at hx219_4); (try rw [show 0 * 5 = 0 from rfl] at hx219_4); (try rw [Addr.add_zero'] at hx219_4); replace p219 := eq_true p219; replace q219 := eq_true q219
        try go_wp2
        go_ret
        exact ⟨by first | rfl | (simp [errW_none, errW_some] <;> rfl) | (simp [*, errW_none, errW_some] <;> rfl), by repeat (first | (with_reducible first | exact HB.out | apply below_alloc | apply pw_below_drewN | apply below_drew1 | refine below_set ?_ GE197.out) | exact HB.out)⟩
      ·rw [if_neg c29] at H
       exact absurd H (by simp)
     ·rw [if_neg c28] at H
      have c28b0 : (((rd_T45 t201 0).f3).toList == ([49, 49, 49, 49, 49, 48, 49] : List UInt8)) = false := beq_eq_false_iff_ne.mpr c28; have c28b1 : (((rd_T45 t201 0).f3).toList != ([49, 49, 49, 49, 49, 48, 49] : List UInt8)) = true := bne_iff_ne.mpr c28; obtain rfl := Option.some.inj H
      try go_wp2
      have n0_ := Aside0.mk (Kd.R_drew HO_2.out); have n1_ := Aside0.mk (Kd.R_drew HO_4.out); have n2_ := Aside0.mk (blk_drew BK197.out); have n3_ := Aside0.mk (below_drew1 HB.out); clear HO_2; clear HO_4; clear BK197; clear HB; have HO_2 := n0_; have HO_4 := n1_; have BK197 := n2_; have HB := n3_; clear n0_ n1_ n2_ n3_; obtain ⟨Ao77, co77, eo77⟩ := Kd.R_slice HO_2.out
      (first | subst eo77 | (injection eo77 with f1_ f2_ f3_; have f4_ := f1_.symm; have f5_ := f3_.symm; clear f1_ f2_ f3_; subst f4_; subst f5_))
      refine start_ (n := 5) (S := fun w' => w'.cell? ⟨gb197, 0, none⟩ = some (.int .i64 5) ∧ w'.cell? ⟨gb197, 1, none⟩ = some (.bool true)) (ds := []) #[N_,N_,N_,N_,N_] (by kernel_rfl) rfl rfl ⟨ck BK197 0, ck BK197 1⟩ (fun hHeld => ?_)
      generalize wc.drew = w76 at HO_2 HO_4 BK197 HB hHeld ⊢
      refine pure_ (i := 1) (N := some 39) (v := ?_) (a' := ?_) #[N_,Y_,N_,N_,N_] rfl rfl (by kernel_rfl) (fun _ _ _ h => h) (Or.inl ⟨by rfl, ?_⟩) ?_ ?_; rotate_left
      ·intro w'
       go_simp
       with_reducible rfl
      rotate_left
      ·simp only [Act.put, nrm]
       rfl
      refine take_ (i := 0) (N := some 38) (v := ?_) (a' := ?_) #[Y_,Y_,N_,N_,N_] rfl rfl (by kernel_rfl) (fun _ _ _ h => h) (Or.inl ⟨by rfl, ?_⟩) hHeld ?_ ?_; rotate_left
      ·rintro w' ⟨s0, s1⟩
       go_simp
       with_reducible rfl
      rotate_left
      ·simp only [Act.put, nrm]
       rfl
      refine one_ (i := 2) (N := some 40) #[Y_,Y_,Y_,N_,N_] rfl rfl (by kernel_rfl) (by decide) (fun K hK => ?_); refine goes_ Try.func23 (by kernel_rfl) rfl #[.slice Ao77 t201.length co77] (by rfl) rfl rfl (by (try simp only [List.map_toArray, List.map_cons, List.map_nil]); first | done | rfl | (simp only [List.length_drop, List.length_take]; rfl)) ?_; (with_reducible refine (signalbenchlaw19_ideal.calls kj2 _ _ t201 t212 _ ?side1 ?side2 A25.out).mono ?_)
      (case side1 => repeat (first | exact (Kd.R_reads' HO_2.out).2.2 | (with_reducible refine Kd.C_alloc ?_ _) | (with_reducible refine Kd.C_drewN ?_ _) | (with_reducible refine Kd.C_drew ?_)))
      (case side2 => exact (Kd.R_reads' HO_2.out).2.1)
      rintro e w78 ⟨v213, rfl, ho0, hb⟩; refine ⟨_, rfl, ?_⟩; have n0_ := Aside0.mk (Kd.R_below (rkw HO_2.out) hb); have n1_ := Aside0.mk (Kd.R_below (rkw HO_4.out) hb); have n2_ := Aside0.mk (Kd.R_lower ho0 (below_size (hbw HB.out))); have n4_ := Aside0.mk (below_step (hbw HB.out) hb); clear HO_2; clear HO_4; clear HB; have HO_2 := n0_; have HO_4 := n1_; have HO214 := n2_; replace BK197 := bkB BK197 hb; have HB := n4_; clear n0_ n1_ n2_ n4_; (try clear hb); (try clear hb2); (try clear hk); (try clear hi); (try clear ho0); obtain ⟨Ao79, co79, eo79⟩ := Kd.R_slice HO214.out
      (first | subst eo79 | (injection eo79 with f1_ f2_ f3_; have f4_ := f1_.symm; have f5_ := f3_.symm; clear f1_ f2_ f3_; subst f4_; subst f5_))
      refine hK.out _ _ ⟨ck BK197 0, ck BK197 1⟩ (fun hHeld => ?_); clear hK K; refine norm_ (a' := ?_) ?_ ?_; rotate_left
      ·show Act.put _ (some 40) _ = _
       simp only [Act.put, nrm]
       rfl
      refine one_ (i := 3) (N := some 41) #[Y_,Y_,Y_,Y_,N_] rfl rfl (by kernel_rfl) (by decide) (fun K hK => ?_); refine goes_ Try.func18 (by kernel_rfl) rfl #[.agg #[.int .i64 5, .bool true], .slice Ao79 t212.length co79] (by rfl) rfl rfl (by (try simp only [List.map_toArray, List.map_cons, List.map_nil]); first | done | rfl | (simp only [List.length_drop, List.length_take]; rfl)) ?_; (with_reducible refine (stuff_Decode.calls kj2 5 true _ _ t212 t215 _ ?side1 ?side2 A26.out).mono ?_)
      (case side1 => repeat (first | exact (Kd.R_reads' HO214.out).2.2 | (with_reducible refine Kd.C_alloc ?_ _) | (with_reducible refine Kd.C_drewN ?_ _) | (with_reducible refine Kd.C_drew ?_)))
      (case side2 => exact (Kd.R_reads' HO214.out).2.1)
      rintro e w80 ⟨v216, rfl, ho0, hb⟩; refine ⟨_, rfl, ?_⟩; have n0_ := Aside0.mk (Kd.R_below (rkw HO_2.out) hb); have n1_ := Aside0.mk (Kd.R_below (rkw HO_4.out) hb); have n2_ := Aside0.mk (Kd.R_elder' (rkw HO214.out) (Kd.R_base ho0) hb); have n3_ := Aside0.mk (Kd.R_lower (Kd.R_new' ho0 (Kd.R_lt (rkw HO214.out))) (below_size (hbw HB.out))); have n5_ := Aside0.mk (below_step (hbw HB.out) hb); clear HO_2; clear HO_4; clear HO214; clear HB; have HO_2 := n0_; have HO_4 := n1_; have HO214 := n2_; have HO217 := n3_; replace BK197 := bkB BK197 hb; have HB := n5_; clear n0_ n1_ n2_ n3_ n5_; (try clear hb); (try clear hb2); (try clear hk); (try clear hi); (try clear ho0); refine hK.out _ _ ⟨ck BK197 0, ck BK197 1⟩ (fun hHeld => ?_); clear hK K; refine norm_ (a' := ?_) ?_ ?_; rotate_left
      ·show Act.put _ (some 41) _ = _
       simp only [Act.put, nrm]
       rfl
      refine pure_ (i := 4) (N := some 6) (v := ?_) (a' := ?_) #[Y_,Y_,Y_,Y_,Y_] rfl rfl (by kernel_rfl) (fun _ _ _ h => h) (Or.inl ⟨by rfl, ?_⟩) ?_ ?_; rotate_left
      ·intro w'
       go_simp
       with_reducible rfl
      rotate_left
      ·simp only [Act.put, nrm]
       rfl
      refine done_ (by kernel_rfl) ?_; have p218 : 0 ≤ (0 : Int) := (by omega); have q218 : 0 < (t201.length : Int) := of_decide_eq_true (by first | (with_reducible assumption) | assumption); obtain ⟨ad218, e218, hx218_0, hx218_1, hx218_2, hx218_3, hx218_4⟩ := at_T45 (Kd.R_reads' HO_2.out).2.2 0 p218 q218
      cases e218
      have qi218 : (0 < t201.length) = True := eq_true (by omega); (try rw [show ((0 : Int)).toNat = 0 from rfl] at hx218_0); (try rw [show 0 * 5 = 0 from rfl] at hx218_0); (try rw [Addr.add_zero'] at hx218_0); (try rw [show ((0 : Int)).toNat = 0 from rfl] at hx218_1); (try rw [show 0 * 5 = 0 from rfl] at hx218_1); (try rw [Addr.add_zero'] at hx218_1); (try rw [show ((0 : Int)).toNat = 0 from rfl] at hx218_2); (try rw [show 0 * 5 = 0 from rfl] at hx218_2); (try rw [Addr.add_zero'] at hx218_2); (try rw [show ((0 : Int)).toNat = 0 from rfl] at hx218_3); (try rw [show 0 * 5 = 0 from rfl] at hx218_3); (try rw [Addr.add_zero'] at hx218_3); (try rw [show ((0 : Int)).toNat = 0 from rfl] at hx218_4); (try rw [show 0 * 5 = 0 from rfl] at hx218_4); (try rw [Addr.add_zero'] at hx218_4); replace p218 := eq_true p218; replace q218 := eq_true q218
      try go_wp2
      go_ret
      exact ⟨by first | rfl | (simp [errW_none, errW_some] <;> rfl) | (simp [*, errW_none, errW_some] <;> rfl), by repeat (first | (with_reducible first | exact HB.out | apply below_alloc | apply pw_below_drewN | apply below_drew1 | refine below_set ?_ GE197.out) | exact HB.out)⟩
    ·rw [if_neg c27] at H
     exact absurd H (by simp)

end Go.Proofs.Ytpgeomgaphodkaa.PStuffDecodes
