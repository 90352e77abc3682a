-- Written by a program of this session (wip/tools/pr.py), which calls the kit's print with changes of its own.
import Derived.Test.YtgcifmaefoeobaaPScrambleRoundTripsx0
import Derived.Test.YtgcifmaefoeobaaPScrambleRoundTripsx3
import Derived.Test.YtgcifmaefoeobaaPScrambleRoundTripsx4
import Derived.Test.YtgcifmaefoeobaaPScrambleRoundTripsx7
namespace Go.Proofs.Ytgcifmaefoeobaa.PScrambleRoundTrips
open Go.RowKit Go.Proofs.YtgcifmaefoeobaaW.PrintWords Go.Proofs.YtgcifmaefoeobaaW.PrintLast Go.Proofs.YtgcifmaefoeobaaW.PrintMore
attribute [local go_sem] max2_int min2_int max_two min_two max_three min_three max_four min_four   -- for this text's walks alone
set_option linter.unusedVariables false
set_option linter.unusedSimpArgs false

/-! ### signalbenchlaw20_bits: function 23 -/
def signalbenchlaw20_bits.l0 : Nat → ByteArray → List (S27) → Int → Option ((List (S27)))
 | 0, _, _, _ => none
 | k + 1, x0, x3, x4 => if x4 < (x0.size : Int) then (if 0 ≤ x4 then (if x3.length < 2199023255552 then (signalbenchlaw20_bits.l0 k x0 (x3 ++ [(⟨2, x4, wrap64 (x4 + 1), wrap64 ((wrap64 (bt x0 x4)) - 48), 0, (⟨#[]⟩ : ByteArray), 0⟩ : S27)]) (wrap64 (x4 + 1))) else (none)) else (none)) else (some x3)
def signalbenchlaw20_bits.f (k : Nat) (a0 : ByteArray) : Option ((List (S27))) := if 0 ≤ (a0.size : Int) then (if ((a0.size : Int) : Int).toNat ≤ 4398046511104 then (signalbenchlaw20_bits.l0 k a0 (List.replicate 0 z27) 0) else (none)) else (none)
theorem signalbenchlaw20_bits.mono_l : ∀ k, (∀ y0 y1 y2, LeO (signalbenchlaw20_bits.l0 k y0 y1 y2) (signalbenchlaw20_bits.l0 (k + 1) y0 y1 y2))
 | 0 => fun _ _ _ r h => by simp [signalbenchlaw20_bits.l0] at h
 | k + 1 => by
  have ih0 := signalbenchlaw20_bits.mono_l k
  ·intro y0 y1 y2
   unfold signalbenchlaw20_bits.l0
   repeat' first
   | (with_reducible exact ih0 _ _ _)
   | (with_reducible exact LeO.refl _)
   | (with_reducible exact LeO.none _)
   | (with_reducible refine LeO.ite ?_ ?_)
   | (with_reducible refine LeO.bind ?_ (fun _ => ?_))
   | exact ih0 _ _ _
   | exact LeO.none _
   | refine LeO.ite ?_ ?_
   | refine LeO.bind ?_ (fun _ => ?_)
theorem signalbenchlaw20_bits.mono : ∀ a0 k, LeO (signalbenchlaw20_bits.f k a0) (signalbenchlaw20_bits.f (k + 1) a0) := by
 intro a0 k
 have ih0 := signalbenchlaw20_bits.mono_l k
 unfold signalbenchlaw20_bits.f
 repeat' first
   | (with_reducible exact ih0 _ _ _)
   | (with_reducible exact LeO.refl _)
   | (with_reducible exact LeO.none _)
   | (with_reducible refine LeO.ite ?_ ?_)
   | (with_reducible refine LeO.bind ?_ (fun _ => ?_))
   | exact ih0 _ _ _
   | exact LeO.none _
   | refine LeO.ite ?_ ?_
   | refine LeO.bind ?_ (fun _ => ?_)
set_option maxHeartbeats 8000000 in
set_option maxRecDepth 100000 in
theorem signalbenchlaw20_bits.calls (k : Nat) (a0 : ByteArray) (r : List (S27)) (w : World) (h : signalbenchlaw20_bits.f k a0 = some r) :
  Calls Try.prog 23 #[.string a0] w fun e w' => ∃ v0_ : Value, e = .returned (v0_) ∧ Kd.R k27 27 w' w.heap.size (fun _ => True) v0_ r ∧ Below w.heap.size w w' := by
 have hu27 := Try.underlying27
 have HB := Aside0.mk (Below.refl w.heap.size w)
 have H : (if 0 ≤ (a0.size : Int) then (if ((a0.size : Int) : Int).toNat ≤ 4398046511104 then (signalbenchlaw20_bits.l0 k a0 (List.replicate 0 z27) 0) else (none)) else (none)) = some r := h
 clear h
 by_cases c2 : 0 ≤ (a0.size : Int)
 ·rw [if_pos c2] at H
  have c2b0 := eq_true c2
  have c2b1 : decide (0 ≤ (a0.size : Int)) = true := decide_eq_true c2
  clear c2
  by_cases c3 : ((a0.size : Int) : Int).toNat ≤ 4398046511104
  ·rw [if_pos c3] at H
   have c3b0 := eq_true c3
   have c3b1 : decide (((a0.size : Int) : Int).toNat ≤ 4398046511104) = true := decide_eq_true c3
   clear c3
   obtain ⟨y181, hy181⟩ : ∃ y_ : List (S27), y_ = (List.replicate 0 z27) := ⟨_, rfl⟩
   replace H : (signalbenchlaw20_bits.l0 k a0 y181 0) = some r := by first | (rw [hy181]; with_reducible exact H) | (have H2_ := (Option.bind_some _ _).symm.trans H; rw [hy181]; with_reducible exact H2_) | (have H2_ := (Option.bind_some _ _).symm.trans H; with_reducible exact H2_) | with_reducible exact H | (rw [hy181]; exact H) | exact H
   have Ny181 := Aside0.mk hy181
   clear hy181
   have H' := Aside0.mk H
   clear H
   go_enter Try.func23, Try.ntmps23
   go_wp2_with (first | ((with_reducible refine gate_dst (N := 7) rfl ?_); refine Kd.R_makeC k27 _ 27 rfl (N := 7) rfl 31 _ _ rfl 0 (a0.size : Int) rfl rfl Try.underlying31 (.agg #[(.int .i64 0), (.int .i64 0), (.int .i64 0), (.int .i64 0), (.int .i64 0), (.string ⟨#[]⟩), (.int .i64 0)]) 64 info27 rfl (by decide) (by omega) z27 (ok := fun _ => True) (okp := fun _ => True) (k27_mkM _ _ _ z27 ) (fun _ hk => hk) trivial (Int.le_refl 0) (of_decide_eq_true (by first | (with_reducible assumption) | assumption)) (Nat.le_trans (Nat.mul_le_mul_right _ (of_decide_eq_true (by first | (with_reducible assumption) | assumption) : (a0.size : Int).toNat ≤ 4398046511104)) (by omega)) (Below.refl _ _) (Nat.le_refl _) ?_; intro v182 w4 ho5 hb hg_ hnew_; clear hg_ hnew_; (first | rw [← Ny181.out] at ho5 | (simp only [Int.reduceToNat] at ho5; rw [← Ny181.out] at ho5)); have n0_ := Aside0.mk (Kd.R_lower ho5 (below_size (hbw HB.out))); have n1_ := Aside0.mk (below_step (hbw HB.out) hb); clear HB; have HO183 := n0_; have HB := n1_; clear n0_ n1_; clear hb ho5))
   go_loopg [3, 4] k (fun kq v3 v4 w' => ∃ (x3_1 : List (S27)) (x4_1 : Int), v4 = .int .i64 x4_1 ∧ Aside0 (signalbenchlaw20_bits.l0 kq a0 x3_1 x4_1 = some r) ∧ Aside0 (kq ≤ k) ∧ Aside0 (Kd.R k27 27 w' w.heap.size (fun _ => True) v3 x3_1) ∧ Aside0 (Below w.heap.size w w'))
   case atStart => exact ⟨(y181), (0), (by first | rfl | (simp; done) | (simp [*]; done)), H', ⟨Nat.le_refl _⟩, ⟨by (with_reducible repeat (first | apply Kd.R_alloc | apply Kd.R_drewN | apply Kd.R_drew)); exact HO183.out⟩, ⟨by repeat (first | (with_reducible first | exact HB.out | apply below_alloc | apply pw_below_drewN | apply below_drew1) | exact HB.out)⟩⟩
   case round =>
    clear H'
    try clear c2
    try clear c2b0
    try clear c2b1
    try clear p2
    try clear c3
    try clear c3b0
    try clear c3b1
    obtain ⟨x3_1, x4_1, rfl, HA, HK1, HO_3, HB⟩ := hrel
    cases gk with
    | zero => exact absurd HA.out (by simp [signalbenchlaw20_bits.l0])
    | succ k1 =>
     have H := HA.out
     clear HA
     simp only [signalbenchlaw20_bits.l0] at H
     by_cases c6 : x4_1 < (a0.size : Int)
     ·rw [if_pos c6] at H
      have c6b0 : decide (x4_1 < (a0.size : Int)) = true := decide_eq_true c6
      clear c6
      by_cases c7 : 0 ≤ x4_1
      ·rw [if_pos c7] at H
       have c7b0 : decide (0 ≤ x4_1) = true := decide_eq_true c7
       clear c7
       by_cases c9 : x3_1.length < 2199023255552
       ·rw [if_pos c9] at H
        have LMc9 := Aside0.mk c9
        clear c9
        obtain ⟨y184, hy184⟩ : ∃ y_ : List (S27), y_ = (x3_1 ++ [(⟨2, x4_1, wrap64 (x4_1 + 1), wrap64 ((wrap64 (bt a0 x4_1)) - 48), 0, (⟨#[]⟩ : ByteArray), 0⟩ : S27)]) := ⟨_, rfl⟩
        replace H : (signalbenchlaw20_bits.l0 k1 a0 y184 (wrap64 (x4_1 + 1))) = some r := by first | (rw [hy184]; with_reducible exact H) | (have H2_ := (Option.bind_some _ _).symm.trans H; rw [hy184]; with_reducible exact H2_) | (have H2_ := (Option.bind_some _ _).symm.trans H; with_reducible exact H2_) | with_reducible exact H | (rw [hy184]; exact H) | exact H
        have Ny184 := Aside0.mk hy184
        clear hy184
        have H' := Aside0.mk H
        clear H
        have p8 : 0 ≤ (x4_1 : Int) := of_decide_eq_true (by first | (with_reducible assumption) | assumption)
        have q8 : x4_1 < (a0.size : Int) := of_decide_eq_true (by first | (with_reducible assumption) | assumption)
        have hx8 := bt_at a0 x4_1
        replace p8 := eq_true p8
        replace q8 := eq_true q8
        go_wp2_with (first | ((with_reducible refine gate_builtin (b := .append) (xs := #[.tmp 14, .tmp 24]) rfl ?_); at_builtin; refine Kd.R_append k27 (w0 := w) w.heap.size rfl (.tmp 14) (.tmp 24) 31 27 (.agg #[(.int .i64 0), (.int .i64 0), (.int .i64 0), (.int .i64 0), (.int .i64 0), (.string ⟨#[]⟩), (.int .i64 0)]) 64 rfl Try.underlying31 info27 rfl (by decide) (by omega) u3 x3_1 (⟨2, x4_1, wrap64 (x4_1 + 1), wrap64 ((wrap64 (bt a0 x4_1)) - 48), 0, (⟨#[]⟩ : ByteArray), 0⟩ : S27) [.int .i64 2, .int .i64 x4_1, .int .i64 (wrap64 (x4_1 + 1)), .int .i64 (wrap64 ((wrap64 (bt a0 x4_1)) - 48)), .int .i64 0, .string (⟨#[]⟩ : ByteArray), .int .i64 0] (fun _ => True) (fun _ => False) rfl rfl ?aP (fun _ hk => hk.elim) ?aF ?aO ?aB ?aS ?aL ?_; (case aP => exact k27_mkM _ _ _ (⟨2, x4_1, wrap64 (x4_1 + 1), wrap64 ((wrap64 (bt a0 x4_1)) - 48), 0, (⟨#[]⟩ : ByteArray), 0⟩ : S27)); (case aB => exact (hbw HB.out)); (case aF => exact (fun _ _ => trivial)); (case aO => exact (rkw HO_3.out)); (case aS => exact (below_size (hbw HB.out))); (case aL => have := LMc9.out; omega); intro v185 w10 ho hb hg hat; rw [← Ny184.out] at ho; have n0_ := Aside0.mk (hb); have n1_ := Aside0.mk (ho); clear HB; clear HO_3; have HB := n0_; have HO186 := n1_; clear n0_ n1_; clear ho hb hg hat))
        go_roundg k1
        case measure => have := HK1.out; omega
        case rel => exact ⟨(y184), (wrap64 (x4_1 + 1)), (by first | rfl | (simp; done) | (simp [*]; done)), H', ⟨by have := HK1.out; omega⟩, ⟨by (with_reducible repeat (first | apply Kd.R_alloc | apply Kd.R_drewN | apply Kd.R_drew)); exact HO186.out⟩, ⟨by repeat (first | (with_reducible first | exact HB.out | apply below_alloc | apply pw_below_drewN | apply below_drew1) | exact HB.out)⟩⟩
       ·rw [if_neg c9] at H
        exact absurd H (by simp)
      ·rw [if_neg c7] at H
       exact absurd H (by simp)
     ·rw [if_neg c6] at H
      have c6b0 : decide (x4_1 < (a0.size : Int)) = false := decide_eq_false c6
      clear c6
      obtain rfl := Option.some.inj H
      go_wp2
      go_ret
      exact ⟨_, by first | rfl | (simp [errW_none, errW_some] <;> rfl) | (simp [*, errW_none, errW_some] <;> rfl), by (with_reducible repeat (first | apply Kd.R_alloc | apply Kd.R_drewN | apply Kd.R_drew)); exact HO_3.out, by repeat (first | (with_reducible first | exact HB.out | apply below_alloc | apply pw_below_drewN | apply below_drew1) | exact HB.out)⟩
  ·rw [if_neg c3] at H
   exact absurd H (by simp)
 ·rw [if_neg c2] at H
  exact absurd H (by simp)

/-! ### signalbenchlaw20_Example: function 27 -/
def signalbenchlaw20_Example.f  : Option (Int × Int) := some (3, 5)
set_option maxHeartbeats 8000000 in
set_option maxRecDepth 100000 in
theorem signalbenchlaw20_Example.calls  (r1 : Int) (r2 : Int) (w : World) (h : signalbenchlaw20_Example.f  = some (r1, r2)) :
  Calls Try.prog 27 #[] w fun e w' => e = .returned (.agg #[.int .i64 r1, .int .i64 r2]) ∧ Below w.heap.size w w' := by
 have hu23 := Try.underlying23
 have HB := Aside0.mk (Below.refl w.heap.size w)
 have H : (some (3, 5)) = some (r1, r2) := h
 clear h
 simp only [Option.some.injEq, Prod.mk.injEq] at H
 obtain ⟨rfl, rfl⟩ := H
 go_enter Try.func27, Try.ntmps27
 go_wp2_with (first | ((with_reducible refine gate_dst (N := 0) rfl ?_); refine box_event ?hg (N := 0) ?hd (cs := #[.int .i64 0, .int .i64 0]) (t := 23) ?hr ?_; (case hd => rfl); (case hg => rfl); (case hr => first | (go_simp; done) | (go_simp; rfl)); intro gb187 hg w1 hbox hb; have n0_ := Aside0.mk (below_step (hbw HB.out) hb); have n1_ := Aside0.mk (hbox); have n2_ := Aside0.mk ((by rw [hg]; exact (below_size (hbw HB.out)) : w.heap.size ≤ gb187)); have n3_ := Aside0.mk ((by rw [hg]; exact (below_size (hbw HB.out)) : w.heap.size ≤ gb187)); clear HB; have HB := n0_; have BK187 := n1_; have GW187 := n2_; have GE187 := n3_; clear n0_ n1_ n2_ n3_; clear hb hbox hg; have hcz2_0 : w1.cell? ⟨gb187, 0, none⟩ = some (.int .i64 0) := (blk_cell BK187.out 0).trans rfl; have hcz2_1 : w1.cell? ⟨gb187, 1, none⟩ = some (.int .i64 0) := (blk_cell BK187.out 1).trans rfl; have hfz2_0 := blk_frozen BK187.out 0; have hfz2_1 := blk_frozen BK187.out 1))
 refine bodyPost_ret (results_cell_row rfl _ _ gb187 23 #[.int .i64 3, .int .i64 5] (0, 0) _ rfl (by (with_reducible repeat (first | refine blk_drewN ?_ _ | refine blk_drew ?_ | refine blk_alloc ?_ _)); refine blk_put (cs := #[.int .i64 3, .int .i64 0]) ?_ 1 _ rfl; (with_reducible repeat (first | refine blk_drewN ?_ _ | refine blk_drew ?_ | refine blk_alloc ?_ _)); refine blk_put (cs := #[.int .i64 0, .int .i64 0]) ?_ 0 _ rfl; (with_reducible repeat (first | refine blk_drewN ?_ _ | refine blk_drew ?_ | refine blk_alloc ?_ _)); exact BK187.out) Try.underlying23 rfl (by kernel_rfl)) rfl ?_
 exact ⟨by first | rfl | (simp [errW_none, errW_some] <;> rfl) | (simp [*, errW_none, errW_some] <;> rfl), by repeat (first | (with_reducible first | exact HB.out | apply below_alloc | apply pw_below_drewN | apply below_drew1 | refine below_set ?_ GE187.out) | exact HB.out)⟩

/-! ### signalbenchlaw20_awake: function 11 -/
def signalbenchlaw20_awake.f (k : Nat)  : Option (Bool) := (signalbenchlaw20_Example.f).bind fun bt188 => ((scramble_Encode.f k bt188.1 bt188.2 (([(⟨2, 0, 0, (⟨#[49, 48]⟩ : ByteArray), 0⟩ : S46), (⟨0, 0, 0, (⟨#[48, 48]⟩ : ByteArray), 0⟩ : S46)] : List (S46)))).bind fun bt193 => (if bt193.2 = 0 then ((signalbenchref20_Same.f k bt193.1 (([(⟨2, 0, 0, (⟨#[49, 49]⟩ : ByteArray), 0⟩ : S46), (⟨0, 0, 0, (⟨#[49, 48]⟩ : ByteArray), 0⟩ : S46)] : List (S46)))).bind fun t200 => (if t200 = true then ((signalbenchlaw20_Example.f).bind fun bt201 => ((signalbenchlaw20_bits.f k (⟨#[49, 49, 49, 48]⟩ : ByteArray)).bind fun t203 => ((scramble_Decode.f k bt201.1 bt201.2 t203).bind fun t206 => ((signalbenchlaw20_bits.f k (⟨#[49, 48, 48, 48]⟩ : ByteArray)).bind fun t209 => ((signalbenchref07_Same.f k t206 t209).bind fun t212 => (if t212 = true then ((scramble_Check.f k 3 3).bind fun t213 => (some (t213 == 1))) else (some false))))))) else (some false))) else (some false)))
theorem signalbenchlaw20_awake.mono : ∀ k, LeO (signalbenchlaw20_awake.f k ) (signalbenchlaw20_awake.f (k + 1) ) := by
 intro  k
 unfold signalbenchlaw20_awake.f
 repeat' first
   | (with_reducible exact scramble_Check.mono _ _ _)
   | (with_reducible exact scramble_Decode.mono _ _ _ _)
   | (with_reducible exact scramble_Encode.mono _ _ _ _)
   | (with_reducible exact signalbenchlaw20_bits.mono _ _)
   | (with_reducible exact signalbenchref07_Same.mono _ _ _)
   | (with_reducible exact signalbenchref20_Same.mono _ _ _)
   | (with_reducible exact LeO.refl _)
   | (with_reducible exact LeO.none _)
   | (with_reducible refine LeO.ite ?_ ?_)
   | (with_reducible refine LeO.bind ?_ (fun _ => ?_))
   | exact scramble_Check.mono _ _ _
   | exact scramble_Decode.mono _ _ _ _
   | exact scramble_Encode.mono _ _ _ _
   | exact signalbenchlaw20_bits.mono _ _
   | exact signalbenchref07_Same.mono _ _ _
   | exact signalbenchref20_Same.mono _ _ _
   | exact LeO.none _
   | refine LeO.ite ?_ ?_
   | refine LeO.bind ?_ (fun _ => ?_)
set_option maxHeartbeats 8000000 in
set_option maxRecDepth 100000 in
theorem signalbenchlaw20_awake.calls (k : Nat)  (r : Bool) (w : World) (h : signalbenchlaw20_awake.f k  = some r) :
  Calls Try.prog 11 #[] w fun e w' => e = .returned (.bool r) ∧ Below w.heap.size w w' := by
 have hu46 := Try.underlying46
 have hu23 := Try.underlying23
 have HB := Aside0.mk (Below.refl w.heap.size w)
 have H : ((signalbenchlaw20_Example.f).bind fun bt188 => ((scramble_Encode.f k bt188.1 bt188.2 (([(⟨2, 0, 0, (⟨#[49, 48]⟩ : ByteArray), 0⟩ : S46), (⟨0, 0, 0, (⟨#[48, 48]⟩ : ByteArray), 0⟩ : S46)] : List (S46)))).bind fun bt193 => (if bt193.2 = 0 then ((signalbenchref20_Same.f k bt193.1 (([(⟨2, 0, 0, (⟨#[49, 49]⟩ : ByteArray), 0⟩ : S46), (⟨0, 0, 0, (⟨#[49, 48]⟩ : ByteArray), 0⟩ : S46)] : List (S46)))).bind fun t200 => (if t200 = true then ((signalbenchlaw20_Example.f).bind fun bt201 => ((signalbenchlaw20_bits.f k (⟨#[49, 49, 49, 48]⟩ : ByteArray)).bind fun t203 => ((scramble_Decode.f k bt201.1 bt201.2 t203).bind fun t206 => ((signalbenchlaw20_bits.f k (⟨#[49, 48, 48, 48]⟩ : ByteArray)).bind fun t209 => ((signalbenchref07_Same.f k t206 t209).bind fun t212 => (if t212 = true then ((scramble_Check.f k 3 3).bind fun t213 => (some (t213 == 1))) else (some false))))))) else (some false))) else (some false)))) = some r := h
 clear h
 replace H := Option.bind_eq_some_iff.mp H
 obtain ⟨⟨t188, t189⟩, A10, H⟩ := H
 replace H : ((scramble_Encode.f k t188 t189 (([(⟨2, 0, 0, (⟨#[49, 48]⟩ : ByteArray), 0⟩ : S46), (⟨0, 0, 0, (⟨#[48, 48]⟩ : ByteArray), 0⟩ : S46)] : List (S46)))).bind fun bt193 => (if bt193.2 = 0 then ((signalbenchref20_Same.f k bt193.1 (([(⟨2, 0, 0, (⟨#[49, 49]⟩ : ByteArray), 0⟩ : S46), (⟨0, 0, 0, (⟨#[49, 48]⟩ : ByteArray), 0⟩ : S46)] : List (S46)))).bind fun t200 => (if t200 = true then ((signalbenchlaw20_Example.f).bind fun bt201 => ((signalbenchlaw20_bits.f k (⟨#[49, 49, 49, 48]⟩ : ByteArray)).bind fun t203 => ((scramble_Decode.f k bt201.1 bt201.2 t203).bind fun t206 => ((signalbenchlaw20_bits.f k (⟨#[49, 48, 48, 48]⟩ : ByteArray)).bind fun t209 => ((signalbenchref07_Same.f k t206 t209).bind fun t212 => (if t212 = true then ((scramble_Check.f k 3 3).bind fun t213 => (some (t213 == 1))) else (some false))))))) else (some false))) else (some false))) = some r := H
 have A1 := Aside0.mk A10
 clear A10
 obtain ⟨y190, hy190⟩ : ∃ y_ : List (S46), y_ = (([(⟨2, 0, 0, (⟨#[49, 48]⟩ : ByteArray), 0⟩ : S46), (⟨0, 0, 0, (⟨#[48, 48]⟩ : ByteArray), 0⟩ : S46)] : List (S46))) := ⟨_, rfl⟩
 replace H : ((scramble_Encode.f k t188 t189 y190).bind fun bt193 => (if bt193.2 = 0 then ((signalbenchref20_Same.f k bt193.1 (([(⟨2, 0, 0, (⟨#[49, 49]⟩ : ByteArray), 0⟩ : S46), (⟨0, 0, 0, (⟨#[49, 48]⟩ : ByteArray), 0⟩ : S46)] : List (S46)))).bind fun t200 => (if t200 = true then ((signalbenchlaw20_Example.f).bind fun bt201 => ((signalbenchlaw20_bits.f k (⟨#[49, 49, 49, 48]⟩ : ByteArray)).bind fun t203 => ((scramble_Decode.f k bt201.1 bt201.2 t203).bind fun t206 => ((signalbenchlaw20_bits.f k (⟨#[49, 48, 48, 48]⟩ : ByteArray)).bind fun t209 => ((signalbenchref07_Same.f k t206 t209).bind fun t212 => (if t212 = true then ((scramble_Check.f k 3 3).bind fun t213 => (some (t213 == 1))) else (some false))))))) else (some false))) else (some false))) = some r := by first | (rw [hy190]; with_reducible exact H) | (have H2_ := (Option.bind_some _ _).symm.trans H; rw [hy190]; with_reducible exact H2_) | (have H2_ := (Option.bind_some _ _).symm.trans H; with_reducible exact H2_) | with_reducible exact H | (rw [hy190]; exact H) | exact H
 have Ny190 := Aside0.mk hy190
 clear hy190
 replace H := Option.bind_eq_some_iff.mp H
 obtain ⟨⟨t193, t196⟩, A20, H⟩ := H
 replace H : (if t196 = 0 then ((signalbenchref20_Same.f k t193 (([(⟨2, 0, 0, (⟨#[49, 49]⟩ : ByteArray), 0⟩ : S46), (⟨0, 0, 0, (⟨#[49, 48]⟩ : ByteArray), 0⟩ : S46)] : List (S46)))).bind fun t200 => (if t200 = true then ((signalbenchlaw20_Example.f).bind fun bt201 => ((signalbenchlaw20_bits.f k (⟨#[49, 49, 49, 48]⟩ : ByteArray)).bind fun t203 => ((scramble_Decode.f k bt201.1 bt201.2 t203).bind fun t206 => ((signalbenchlaw20_bits.f k (⟨#[49, 48, 48, 48]⟩ : ByteArray)).bind fun t209 => ((signalbenchref07_Same.f k t206 t209).bind fun t212 => (if t212 = true then ((scramble_Check.f k 3 3).bind fun t213 => (some (t213 == 1))) else (some false))))))) else (some false))) else (some false)) = some r := H
 have A2 := Aside0.mk A20
 clear A20
 by_cases c3 : t196 = 0
 ·rw [if_pos c3] at H
  have c3b0 : (t196 == 0) = true := beq_iff_eq.mpr c3
  have c3b1 : (t196 != 0) = false := bne_eq_false_iff_eq.mpr c3
  clear c3
  obtain ⟨y197, hy197⟩ : ∃ y_ : List (S46), y_ = (([(⟨2, 0, 0, (⟨#[49, 49]⟩ : ByteArray), 0⟩ : S46), (⟨0, 0, 0, (⟨#[49, 48]⟩ : ByteArray), 0⟩ : S46)] : List (S46))) := ⟨_, rfl⟩
  replace H : ((signalbenchref20_Same.f k t193 y197).bind fun t200 => (if t200 = true then ((signalbenchlaw20_Example.f).bind fun bt201 => ((signalbenchlaw20_bits.f k (⟨#[49, 49, 49, 48]⟩ : ByteArray)).bind fun t203 => ((scramble_Decode.f k bt201.1 bt201.2 t203).bind fun t206 => ((signalbenchlaw20_bits.f k (⟨#[49, 48, 48, 48]⟩ : ByteArray)).bind fun t209 => ((signalbenchref07_Same.f k t206 t209).bind fun t212 => (if t212 = true then ((scramble_Check.f k 3 3).bind fun t213 => (some (t213 == 1))) else (some false))))))) else (some false))) = some r := by first | (rw [hy197]; with_reducible exact H) | (have H2_ := (Option.bind_some _ _).symm.trans H; rw [hy197]; with_reducible exact H2_) | (have H2_ := (Option.bind_some _ _).symm.trans H; with_reducible exact H2_) | with_reducible exact H | (rw [hy197]; exact H) | exact H
  have Ny197 := Aside0.mk hy197
  clear hy197
  replace H := Option.bind_eq_some_iff.mp H
  obtain ⟨t200, A40, H⟩ := H
  replace H : (if t200 = true then ((signalbenchlaw20_Example.f).bind fun bt201 => ((signalbenchlaw20_bits.f k (⟨#[49, 49, 49, 48]⟩ : ByteArray)).bind fun t203 => ((scramble_Decode.f k bt201.1 bt201.2 t203).bind fun t206 => ((signalbenchlaw20_bits.f k (⟨#[49, 48, 48, 48]⟩ : ByteArray)).bind fun t209 => ((signalbenchref07_Same.f k t206 t209).bind fun t212 => (if t212 = true then ((scramble_Check.f k 3 3).bind fun t213 => (some (t213 == 1))) else (some false))))))) else (some false)) = some r := H
  have A4 := Aside0.mk A40
  clear A40
  by_cases c5 : t200 = true
  ·subst c5
   have H1 : ((signalbenchlaw20_Example.f).bind fun bt201 => ((signalbenchlaw20_bits.f k (⟨#[49, 49, 49, 48]⟩ : ByteArray)).bind fun t203 => ((scramble_Decode.f k bt201.1 bt201.2 t203).bind fun t206 => ((signalbenchlaw20_bits.f k (⟨#[49, 48, 48, 48]⟩ : ByteArray)).bind fun t209 => ((signalbenchref07_Same.f k t206 t209).bind fun t212 => (if t212 = true then ((scramble_Check.f k 3 3).bind fun t213 => (some (t213 == 1))) else (some false))))))) = some r := by rw [if_pos rfl] at H; exact H
   clear H
   have H := H1
   clear H1
   replace H := Option.bind_eq_some_iff.mp H
   obtain ⟨⟨t201, t202⟩, A60, H⟩ := H
   replace H : ((signalbenchlaw20_bits.f k (⟨#[49, 49, 49, 48]⟩ : ByteArray)).bind fun t203 => ((scramble_Decode.f k t201 t202 t203).bind fun t206 => ((signalbenchlaw20_bits.f k (⟨#[49, 48, 48, 48]⟩ : ByteArray)).bind fun t209 => ((signalbenchref07_Same.f k t206 t209).bind fun t212 => (if t212 = true then ((scramble_Check.f k 3 3).bind fun t213 => (some (t213 == 1))) else (some false)))))) = some r := H
   have A6 := Aside0.mk A60
   clear A60
   replace H := Option.bind_eq_some_iff.mp H
   obtain ⟨t203, A70, H⟩ := H
   replace H : ((scramble_Decode.f k t201 t202 t203).bind fun t206 => ((signalbenchlaw20_bits.f k (⟨#[49, 48, 48, 48]⟩ : ByteArray)).bind fun t209 => ((signalbenchref07_Same.f k t206 t209).bind fun t212 => (if t212 = true then ((scramble_Check.f k 3 3).bind fun t213 => (some (t213 == 1))) else (some false))))) = some r := H
   have A7 := Aside0.mk A70
   clear A70
   replace H := Option.bind_eq_some_iff.mp H
   obtain ⟨t206, A80, H⟩ := H
   replace H : ((signalbenchlaw20_bits.f k (⟨#[49, 48, 48, 48]⟩ : ByteArray)).bind fun t209 => ((signalbenchref07_Same.f k t206 t209).bind fun t212 => (if t212 = true then ((scramble_Check.f k 3 3).bind fun t213 => (some (t213 == 1))) else (some false)))) = some r := H
   have A8 := Aside0.mk A80
   clear A80
   replace H := Option.bind_eq_some_iff.mp H
   obtain ⟨t209, A90, H⟩ := H
   replace H : ((signalbenchref07_Same.f k t206 t209).bind fun t212 => (if t212 = true then ((scramble_Check.f k 3 3).bind fun t213 => (some (t213 == 1))) else (some false))) = some r := H
   have A9 := Aside0.mk A90
   clear A90
   replace H := Option.bind_eq_some_iff.mp H
   obtain ⟨t212, A100, H⟩ := H
   replace H : (if t212 = true then ((scramble_Check.f k 3 3).bind fun t213 => (some (t213 == 1))) else (some false)) = some r := H
   have A10 := Aside0.mk A100
   clear A100
   by_cases c11 : t212 = true
   ·subst c11
    have H1 : ((scramble_Check.f k 3 3).bind fun t213 => (some (t213 == 1))) = some r := by rw [if_pos rfl] at H; exact H
    clear H
    have H := H1
    clear H1
    replace H := Option.bind_eq_some_iff.mp H
    obtain ⟨t213, A120, H⟩ := H
    replace H : (some (t213 == 1)) = some r := H
    have A12 := Aside0.mk A120
    clear A120
    obtain rfl := Option.some.inj H
    go_enter Try.func11, Try.ntmps11
    go_wp2_with (first | ((with_reducible refine gate_callee (f := 27) rfl ?_); refine goesL_ (some 4) rfl rfl Try.func27 (by kernel_rfl) rfl #[] rfl (by (try simp only [List.map_toArray, List.map_cons, List.map_nil]); first | done | rfl | (simp only [List.length_drop, List.length_take]; rfl)) ?_; (with_reducible refine (signalbenchlaw20_Example.calls  t188 t189 _ A1.out).mono ?_); rintro e w13 ⟨rfl, hb⟩; refine ⟨_, rfl, ?_⟩; have n0_ := Aside0.mk (below_step (hbw HB.out) hb); clear HB; have HB := n0_; clear n0_; (try clear hb); (try clear hb2); (try clear hk); (try clear hi)) | ((with_reducible refine gate_dst (N := 7) rfl ?_); (try (refine gate_guard (by rfl) ?_; dsimp only)); refine Kd.R_lit k46 _ 46 ?hg (N := 7) ?hd (xs := ([(⟨2, 0, 0, (⟨#[49, 48]⟩ : ByteArray), 0⟩ : S46), (⟨0, 0, 0, (⟨#[48, 48]⟩ : ByteArray), 0⟩ : S46)] : List (S46))) (inner := [.int .i64 2, .int .i64 0, .int .i64 0, .string (⟨#[49, 48]⟩ : ByteArray), .int .i64 0, .int .i64 0, .int .i64 0, .int .i64 0, .string (⟨#[48, 48]⟩ : ByteArray), .int .i64 0]) (ok := fun _ => True) (okp := fun _ => True) ?hr ?hp (fun _ hk => hk) trivial (Below.refl _ _) (Nat.le_refl _) (by simp) ?_; (case hd => rfl); (case hg => rfl); (case hr => first | (go_simp; done) | (go_simp; rfl)); (case hp => exact (Reps.c5 (show Kd.M k46 _ _ _ (⟨2, 0, 0, (⟨#[49, 48]⟩ : ByteArray), 0⟩ : S46) [.int .i64 2, .int .i64 0, .int .i64 0, .string (⟨#[49, 48]⟩ : ByteArray), .int .i64 0] from (k46_mkM _ _ _ (⟨2, 0, 0, (⟨#[49, 48]⟩ : ByteArray), 0⟩ : S46) )) (Reps.c5 (show Kd.M k46 _ _ _ (⟨0, 0, 0, (⟨#[48, 48]⟩ : ByteArray), 0⟩ : S46) [.int .i64 0, .int .i64 0, .int .i64 0, .string (⟨#[48, 48]⟩ : ByteArray), .int .i64 0] from (k46_mkM _ _ _ (⟨0, 0, 0, (⟨#[48, 48]⟩ : ByteArray), 0⟩ : S46) )) (Reps.none _ _)))); intro v191 w14 ho15 hb hg_ hnew_; clear hg_ hnew_; (first | rw [← Ny190.out] at ho15 | (simp only [Int.reduceToNat] at ho15; rw [← Ny190.out] at ho15)); have n0_ := Aside0.mk (Kd.R_lower ho15 (below_size (hbw HB.out))); have n1_ := Aside0.mk (below_step (hbw HB.out) hb); clear HB; have HO192 := n0_; have HB := n1_; clear n0_ n1_; clear hb ho15; obtain ⟨Ao16, co16, eo16⟩ := Kd.R_slice HO192.out; subst eo16) | ((with_reducible refine gate_callee (f := 13) rfl ?_); refine goesL_ (some 8) rfl rfl Try.func13 (by kernel_rfl) rfl #[.agg #[.int .i64 t188, .int .i64 t189], .slice Ao16 y190.length co16] rfl (by (try simp only [List.map_toArray, List.map_cons, List.map_nil]); first | done | rfl | (simp only [List.length_drop, List.length_take]; rfl)) ?_; (with_reducible refine (scramble_Encode.calls k t188 t189 _ _ y190 t193 t196 _ ?side1 ?side2 A2.out).mono ?_); (case side1 => repeat (first | exact (Kd.R_reads' HO192.out).2.2 | (with_reducible refine Kd.C_alloc ?_ _) | (with_reducible refine Kd.C_drewN ?_ _) | (with_reducible refine Kd.C_drew ?_))); (case side2 => exact (Kd.R_reads' HO192.out).2.1); rintro e w17 ⟨v194, rfl, ho0, hb⟩; refine ⟨_, rfl, ?_⟩; have n0_ := Aside0.mk (Kd.R_elder' (rkw HO192.out) (Kd.R_base ho0) hb); have n1_ := Aside0.mk (Kd.R_lower (Kd.R_new' ho0 (Kd.R_lt (rkw HO192.out))) (below_size (hbw HB.out))); have n2_ := Aside0.mk (below_step (hbw HB.out) hb); clear HO192; clear HB; have HO192 := n0_; have HO195 := n1_; have HB := n2_; clear n0_ n1_ n2_; (try clear hb); (try clear hb2); (try clear hk); (try clear hi); (try clear ho0)) | ((with_reducible refine gate_dst (N := 17) rfl ?_); (try (refine gate_guard (by rfl) ?_; dsimp only)); refine Kd.R_lit k46 _ 46 ?hg (N := 17) ?hd (xs := ([(⟨2, 0, 0, (⟨#[49, 49]⟩ : ByteArray), 0⟩ : S46), (⟨0, 0, 0, (⟨#[49, 48]⟩ : ByteArray), 0⟩ : S46)] : List (S46))) (inner := [.int .i64 2, .int .i64 0, .int .i64 0, .string (⟨#[49, 49]⟩ : ByteArray), .int .i64 0, .int .i64 0, .int .i64 0, .int .i64 0, .string (⟨#[49, 48]⟩ : ByteArray), .int .i64 0]) (ok := fun _ => True) (okp := fun _ => True) ?hr ?hp (fun _ hk => hk) trivial (Below.refl _ _) (Nat.le_refl _) (by simp) ?_; (case hd => rfl); (case hg => rfl); (case hr => first | (go_simp; done) | (go_simp; rfl)); (case hp => exact (Reps.c5 (show Kd.M k46 _ _ _ (⟨2, 0, 0, (⟨#[49, 49]⟩ : ByteArray), 0⟩ : S46) [.int .i64 2, .int .i64 0, .int .i64 0, .string (⟨#[49, 49]⟩ : ByteArray), .int .i64 0] from (k46_mkM _ _ _ (⟨2, 0, 0, (⟨#[49, 49]⟩ : ByteArray), 0⟩ : S46) )) (Reps.c5 (show Kd.M k46 _ _ _ (⟨0, 0, 0, (⟨#[49, 48]⟩ : ByteArray), 0⟩ : S46) [.int .i64 0, .int .i64 0, .int .i64 0, .string (⟨#[49, 48]⟩ : ByteArray), .int .i64 0] from (k46_mkM _ _ _ (⟨0, 0, 0, (⟨#[49, 48]⟩ : ByteArray), 0⟩ : S46) )) (Reps.none _ _)))); intro v198 w18 ho19 hb hg_ hnew_; clear hg_ hnew_; (first | rw [← Ny197.out] at ho19 | (simp only [Int.reduceToNat] at ho19; rw [← Ny197.out] at ho19)); have n0_ := Aside0.mk (Kd.R_elder' (rkw HO192.out) (Kd.R_base ho19) hb); have n1_ := Aside0.mk (Kd.R_elder' (rkw HO195.out) (Kd.R_base ho19) hb); have n2_ := Aside0.mk (Kd.R_lower (Kd.R_new' (Kd.R_new' ho19 (Kd.R_lt (rkw HO192.out))) (Kd.R_lt (rkw HO195.out))) (below_size (hbw HB.out))); have n3_ := Aside0.mk (below_step (hbw HB.out) hb); clear HO192; clear HO195; clear HB; have HO192 := n0_; have HO195 := n1_; have HO199 := n2_; have HB := n3_; clear n0_ n1_ n2_ n3_; clear hb ho19; obtain ⟨Ao20, co20, eo20⟩ := Kd.R_slice HO195.out; subst eo20; obtain ⟨Ao21, co21, eo21⟩ := Kd.R_slice HO199.out; subst eo21) | (go_at_call 22; (with_reducible refine (signalbenchref20_Same.calls k _ _ t193 _ _ y197 true _ ?side1 ?side2 ?side3 ?side4 A4.out).mono ?_); (case side1 => repeat (first | exact (Kd.R_reads' HO195.out).2.2 | (with_reducible refine Kd.C_alloc ?_ _) | (with_reducible refine Kd.C_drewN ?_ _) | (with_reducible refine Kd.C_drew ?_))); (case side2 => exact (Kd.R_reads' HO195.out).2.1); (case side3 => repeat (first | exact (Kd.R_reads' HO199.out).2.2 | (with_reducible refine Kd.C_alloc ?_ _) | (with_reducible refine Kd.C_drewN ?_ _) | (with_reducible refine Kd.C_drew ?_))); (case side4 => exact (Kd.R_reads' HO199.out).2.1); rintro e w' ⟨rfl, ⟨nd, rfl⟩⟩) | (go_at_call 27; (with_reducible refine (signalbenchlaw20_Example.calls  t201 t202 _ A6.out).mono ?_); rintro e w22 ⟨rfl, hb⟩; have n0_ := Aside0.mk (Kd.R_below (rkw HO192.out) hb); have n1_ := Aside0.mk (Kd.R_below (rkw HO195.out) hb); have n2_ := Aside0.mk (Kd.R_below (rkw HO199.out) hb); have n3_ := Aside0.mk (below_step (hbw HB.out) hb); clear HO192; clear HO195; clear HO199; clear HB; have HO192 := n0_; have HO195 := n1_; have HO199 := n2_; have HB := n3_; clear n0_ n1_ n2_ n3_; (try clear hb); (try clear hb2); (try clear hk); (try clear hi)) | (go_at_call 23; (with_reducible refine (signalbenchlaw20_bits.calls k (⟨#[49, 49, 49, 48]⟩ : ByteArray) t203 _ A7.out).mono ?_); rintro e w23 ⟨v204, rfl, ho0, hb⟩; have n0_ := Aside0.mk (Kd.R_below (rkw HO192.out) hb); have n1_ := Aside0.mk (Kd.R_below (rkw HO195.out) hb); have n2_ := Aside0.mk (Kd.R_below (rkw HO199.out) hb); have n3_ := Aside0.mk (Kd.R_lower ho0 (below_size (hbw HB.out))); have n4_ := Aside0.mk (below_step (hbw HB.out) hb); clear HO192; clear HO195; clear HO199; clear HB; have HO192 := n0_; have HO195 := n1_; have HO199 := n2_; have HO205 := n3_; have HB := n4_; clear n0_ n1_ n2_ n3_ n4_; (try clear hb); (try clear hb2); (try clear hk); (try clear hi); (try clear ho0); obtain ⟨Ao24, co24, eo24⟩ := Kd.R_slice HO205.out; subst eo24) | (go_at_call 16; (with_reducible refine (scramble_Decode.calls k t201 t202 _ _ t203 t206 _ ?side1 ?side2 A8.out).mono ?_); (case side1 => repeat (first | exact (Kd.R_reads' HO205.out).2.2 | (with_reducible refine Kd.C_alloc ?_ _) | (with_reducible refine Kd.C_drewN ?_ _) | (with_reducible refine Kd.C_drew ?_))); (case side2 => exact (Kd.R_reads' HO205.out).2.1); rintro e w25 ⟨v207, rfl, ho0, hb⟩; have n0_ := Aside0.mk (Kd.R_below (rkw HO192.out) hb); have n1_ := Aside0.mk (Kd.R_below (rkw HO195.out) hb); have n2_ := Aside0.mk (Kd.R_below (rkw HO199.out) hb); have n3_ := Aside0.mk (Kd.R_elder' (rkw HO205.out) (Kd.R_base ho0) hb); have n4_ := Aside0.mk (Kd.R_lower (Kd.R_new' ho0 (Kd.R_lt (rkw HO205.out))) (below_size (hbw HB.out))); have n5_ := Aside0.mk (below_step (hbw HB.out) hb); clear HO192; clear HO195; clear HO199; clear HO205; clear HB; have HO192 := n0_; have HO195 := n1_; have HO199 := n2_; have HO205 := n3_; have HO208 := n4_; have HB := n5_; clear n0_ n1_ n2_ n3_ n4_ n5_; (try clear hb); (try clear hb2); (try clear hk); (try clear hi); (try clear ho0)) | (go_at_call 23; (with_reducible refine (signalbenchlaw20_bits.calls k (⟨#[49, 48, 48, 48]⟩ : ByteArray) t209 _ A9.out).mono ?_); rintro e w26 ⟨v210, rfl, ho0, hb⟩; have n0_ := Aside0.mk (Kd.R_below (rkw HO192.out) hb); have n1_ := Aside0.mk (Kd.R_below (rkw HO195.out) hb); have n2_ := Aside0.mk (Kd.R_below (rkw HO199.out) hb); have n3_ := Aside0.mk (Kd.R_elder' (rkw HO205.out) (Kd.R_base ho0) hb); have n4_ := Aside0.mk (Kd.R_elder' (rkw HO208.out) (Kd.R_base ho0) hb); have n5_ := Aside0.mk (Kd.R_lower (Kd.R_new' (Kd.R_new' ho0 (Kd.R_lt (rkw HO205.out))) (Kd.R_lt (rkw HO208.out))) (below_size (hbw HB.out))); have n6_ := Aside0.mk (below_step (hbw HB.out) hb); clear HO192; clear HO195; clear HO199; clear HO205; clear HO208; clear HB; have HO192 := n0_; have HO195 := n1_; have HO199 := n2_; have HO205 := n3_; have HO208 := n4_; have HO211 := n5_; have HB := n6_; clear n0_ n1_ n2_ n3_ n4_ n5_ n6_; (try clear hb); (try clear hb2); (try clear hk); (try clear hi); (try clear ho0); obtain ⟨Ao27, co27, eo27⟩ := Kd.R_slice HO208.out; subst eo27; obtain ⟨Ao28, co28, eo28⟩ := Kd.R_slice HO211.out; subst eo28) | (go_at_call 19; (with_reducible refine (signalbenchref07_Same.calls k _ _ t206 _ _ t209 true _ ?side1 ?side2 ?side3 ?side4 A10.out).mono ?_); (case side1 => repeat (first | exact (Kd.R_reads' HO208.out).2.2 | (with_reducible refine Kd.C_alloc ?_ _) | (with_reducible refine Kd.C_drewN ?_ _) | (with_reducible refine Kd.C_drew ?_))); (case side2 => exact (Kd.R_reads' HO208.out).2.1); (case side3 => repeat (first | exact (Kd.R_reads' HO211.out).2.2 | (with_reducible refine Kd.C_alloc ?_ _) | (with_reducible refine Kd.C_drewN ?_ _) | (with_reducible refine Kd.C_drew ?_))); (case side4 => exact (Kd.R_reads' HO211.out).2.1); rintro e w' ⟨rfl, ⟨nd, rfl⟩⟩) | (go_at_call 9; (with_reducible refine (scramble_Check.calls k 3 3 t213 _ A12.out).mono ?_); rintro e w29 ⟨rfl, hb⟩; have n0_ := Aside0.mk (Kd.R_below (rkw HO192.out) hb); have n1_ := Aside0.mk (Kd.R_below (rkw HO195.out) hb); have n2_ := Aside0.mk (Kd.R_below (rkw HO199.out) hb); have n3_ := Aside0.mk (Kd.R_below (rkw HO205.out) hb); have n4_ := Aside0.mk (Kd.R_below (rkw HO208.out) hb); have n5_ := Aside0.mk (Kd.R_below (rkw HO211.out) hb); have n6_ := Aside0.mk (below_step (hbw HB.out) hb); clear HO192; clear HO195; clear HO199; clear HO205; clear HO208; clear HO211; clear HB; have HO192 := n0_; have HO195 := n1_; have HO199 := n2_; have HO205 := n3_; have HO208 := n4_; have HO211 := n5_; have HB := n6_; clear n0_ n1_ n2_ n3_ n4_ n5_ n6_; (try clear hb); (try clear hb2); (try clear hk); (try clear hi)))
    go_ret
    exact ⟨by first | rfl | (simp [errW_none, errW_some] <;> rfl) | (simp [*, errW_none, errW_some] <;> rfl), by repeat (first | (with_reducible first | exact HB.out | apply below_alloc | apply pw_below_drewN | apply below_drew1) | exact HB.out)⟩
   ·replace c11 := Bool.eq_false_iff.mpr c11
    subst c11
    have H1 : (some false) = some r := by rw [if_neg (show ¬ (false = true) by decide)] at H; exact H
    clear H
    have H := H1
    clear H1
    obtain rfl := Option.some.inj H
    go_enter Try.func11, Try.ntmps11
    go_wp2_with (first | ((with_reducible refine gate_callee (f := 27) rfl ?_); refine goesL_ (some 4) rfl rfl Try.func27 (by kernel_rfl) rfl #[] rfl (by (try simp only [List.map_toArray, List.map_cons, List.map_nil]); first | done | rfl | (simp only [List.length_drop, List.length_take]; rfl)) ?_; (with_reducible refine (signalbenchlaw20_Example.calls  t188 t189 _ A1.out).mono ?_); rintro e w30 ⟨rfl, hb⟩; refine ⟨_, rfl, ?_⟩; have n0_ := Aside0.mk (below_step (hbw HB.out) hb); clear HB; have HB := n0_; clear n0_; (try clear hb); (try clear hb2); (try clear hk); (try clear hi)) | ((with_reducible refine gate_dst (N := 7) rfl ?_); (try (refine gate_guard (by rfl) ?_; dsimp only)); refine Kd.R_lit k46 _ 46 ?hg (N := 7) ?hd (xs := ([(⟨2, 0, 0, (⟨#[49, 48]⟩ : ByteArray), 0⟩ : S46), (⟨0, 0, 0, (⟨#[48, 48]⟩ : ByteArray), 0⟩ : S46)] : List (S46))) (inner := [.int .i64 2, .int .i64 0, .int .i64 0, .string (⟨#[49, 48]⟩ : ByteArray), .int .i64 0, .int .i64 0, .int .i64 0, .int .i64 0, .string (⟨#[48, 48]⟩ : ByteArray), .int .i64 0]) (ok := fun _ => True) (okp := fun _ => True) ?hr ?hp (fun _ hk => hk) trivial (Below.refl _ _) (Nat.le_refl _) (by simp) ?_; (case hd => rfl); (case hg => rfl); (case hr => first | (go_simp; done) | (go_simp; rfl)); (case hp => exact (Reps.c5 (show Kd.M k46 _ _ _ (⟨2, 0, 0, (⟨#[49, 48]⟩ : ByteArray), 0⟩ : S46) [.int .i64 2, .int .i64 0, .int .i64 0, .string (⟨#[49, 48]⟩ : ByteArray), .int .i64 0] from (k46_mkM _ _ _ (⟨2, 0, 0, (⟨#[49, 48]⟩ : ByteArray), 0⟩ : S46) )) (Reps.c5 (show Kd.M k46 _ _ _ (⟨0, 0, 0, (⟨#[48, 48]⟩ : ByteArray), 0⟩ : S46) [.int .i64 0, .int .i64 0, .int .i64 0, .string (⟨#[48, 48]⟩ : ByteArray), .int .i64 0] from (k46_mkM _ _ _ (⟨0, 0, 0, (⟨#[48, 48]⟩ : ByteArray), 0⟩ : S46) )) (Reps.none _ _)))); intro v191 w31 ho32 hb hg_ hnew_; clear hg_ hnew_; (first | rw [← Ny190.out] at ho32 | (simp only [Int.reduceToNat] at ho32; rw [← Ny190.out] at ho32)); have n0_ := Aside0.mk (Kd.R_lower ho32 (below_size (hbw HB.out))); have n1_ := Aside0.mk (below_step (hbw HB.out) hb); clear HB; have HO192 := n0_; have HB := n1_; clear n0_ n1_; clear hb ho32; obtain ⟨Ao33, co33, eo33⟩ := Kd.R_slice HO192.out; subst eo33) | ((with_reducible refine gate_callee (f := 13) rfl ?_); refine goesL_ (some 8) rfl rfl Try.func13 (by kernel_rfl) rfl #[.agg #[.int .i64 t188, .int .i64 t189], .slice Ao33 y190.length co33] rfl (by (try simp only [List.map_toArray, List.map_cons, List.map_nil]); first | done | rfl | (simp only [List.length_drop, List.length_take]; rfl)) ?_; (with_reducible refine (scramble_Encode.calls k t188 t189 _ _ y190 t193 t196 _ ?side1 ?side2 A2.out).mono ?_); (case side1 => repeat (first | exact (Kd.R_reads' HO192.out).2.2 | (with_reducible refine Kd.C_alloc ?_ _) | (with_reducible refine Kd.C_drewN ?_ _) | (with_reducible refine Kd.C_drew ?_))); (case side2 => exact (Kd.R_reads' HO192.out).2.1); rintro e w34 ⟨v194, rfl, ho0, hb⟩; refine ⟨_, rfl, ?_⟩; have n0_ := Aside0.mk (Kd.R_elder' (rkw HO192.out) (Kd.R_base ho0) hb); have n1_ := Aside0.mk (Kd.R_lower (Kd.R_new' ho0 (Kd.R_lt (rkw HO192.out))) (below_size (hbw HB.out))); have n2_ := Aside0.mk (below_step (hbw HB.out) hb); clear HO192; clear HB; have HO192 := n0_; have HO195 := n1_; have HB := n2_; clear n0_ n1_ n2_; (try clear hb); (try clear hb2); (try clear hk); (try clear hi); (try clear ho0)) | ((with_reducible refine gate_dst (N := 17) rfl ?_); (try (refine gate_guard (by rfl) ?_; dsimp only)); refine Kd.R_lit k46 _ 46 ?hg (N := 17) ?hd (xs := ([(⟨2, 0, 0, (⟨#[49, 49]⟩ : ByteArray), 0⟩ : S46), (⟨0, 0, 0, (⟨#[49, 48]⟩ : ByteArray), 0⟩ : S46)] : List (S46))) (inner := [.int .i64 2, .int .i64 0, .int .i64 0, .string (⟨#[49, 49]⟩ : ByteArray), .int .i64 0, .int .i64 0, .int .i64 0, .int .i64 0, .string (⟨#[49, 48]⟩ : ByteArray), .int .i64 0]) (ok := fun _ => True) (okp := fun _ => True) ?hr ?hp (fun _ hk => hk) trivial (Below.refl _ _) (Nat.le_refl _) (by simp) ?_; (case hd => rfl); (case hg => rfl); (case hr => first | (go_simp; done) | (go_simp; rfl)); (case hp => exact (Reps.c5 (show Kd.M k46 _ _ _ (⟨2, 0, 0, (⟨#[49, 49]⟩ : ByteArray), 0⟩ : S46) [.int .i64 2, .int .i64 0, .int .i64 0, .string (⟨#[49, 49]⟩ : ByteArray), .int .i64 0] from (k46_mkM _ _ _ (⟨2, 0, 0, (⟨#[49, 49]⟩ : ByteArray), 0⟩ : S46) )) (Reps.c5 (show Kd.M k46 _ _ _ (⟨0, 0, 0, (⟨#[49, 48]⟩ : ByteArray), 0⟩ : S46) [.int .i64 0, .int .i64 0, .int .i64 0, .string (⟨#[49, 48]⟩ : ByteArray), .int .i64 0] from (k46_mkM _ _ _ (⟨0, 0, 0, (⟨#[49, 48]⟩ : ByteArray), 0⟩ : S46) )) (Reps.none _ _)))); intro v198 w35 ho36 hb hg_ hnew_; clear hg_ hnew_; (first | rw [← Ny197.out] at ho36 | (simp only [Int.reduceToNat] at ho36; rw [← Ny197.out] at ho36)); have n0_ := Aside0.mk (Kd.R_elder' (rkw HO192.out) (Kd.R_base ho36) hb); have n1_ := Aside0.mk (Kd.R_elder' (rkw HO195.out) (Kd.R_base ho36) hb); have n2_ := Aside0.mk (Kd.R_lower (Kd.R_new' (Kd.R_new' ho36 (Kd.R_lt (rkw HO192.out))) (Kd.R_lt (rkw HO195.out))) (below_size (hbw HB.out))); have n3_ := Aside0.mk (below_step (hbw HB.out) hb); clear HO192; clear HO195; clear HB; have HO192 := n0_; have HO195 := n1_; have HO199 := n2_; have HB := n3_; clear n0_ n1_ n2_ n3_; clear hb ho36; obtain ⟨Ao37, co37, eo37⟩ := Kd.R_slice HO195.out; subst eo37; obtain ⟨Ao38, co38, eo38⟩ := Kd.R_slice HO199.out; subst eo38) | (go_at_call 22; (with_reducible refine (signalbenchref20_Same.calls k _ _ t193 _ _ y197 true _ ?side1 ?side2 ?side3 ?side4 A4.out).mono ?_); (case side1 => repeat (first | exact (Kd.R_reads' HO195.out).2.2 | (with_reducible refine Kd.C_alloc ?_ _) | (with_reducible refine Kd.C_drewN ?_ _) | (with_reducible refine Kd.C_drew ?_))); (case side2 => exact (Kd.R_reads' HO195.out).2.1); (case side3 => repeat (first | exact (Kd.R_reads' HO199.out).2.2 | (with_reducible refine Kd.C_alloc ?_ _) | (with_reducible refine Kd.C_drewN ?_ _) | (with_reducible refine Kd.C_drew ?_))); (case side4 => exact (Kd.R_reads' HO199.out).2.1); rintro e w' ⟨rfl, ⟨nd, rfl⟩⟩) | (go_at_call 27; (with_reducible refine (signalbenchlaw20_Example.calls  t201 t202 _ A6.out).mono ?_); rintro e w39 ⟨rfl, hb⟩; have n0_ := Aside0.mk (Kd.R_below (rkw HO192.out) hb); have n1_ := Aside0.mk (Kd.R_below (rkw HO195.out) hb); have n2_ := Aside0.mk (Kd.R_below (rkw HO199.out) hb); have n3_ := Aside0.mk (below_step (hbw HB.out) hb); clear HO192; clear HO195; clear HO199; clear HB; have HO192 := n0_; have HO195 := n1_; have HO199 := n2_; have HB := n3_; clear n0_ n1_ n2_ n3_; (try clear hb); (try clear hb2); (try clear hk); (try clear hi)) | (go_at_call 23; (with_reducible refine (signalbenchlaw20_bits.calls k (⟨#[49, 49, 49, 48]⟩ : ByteArray) t203 _ A7.out).mono ?_); rintro e w40 ⟨v204, rfl, ho0, hb⟩; have n0_ := Aside0.mk (Kd.R_below (rkw HO192.out) hb); have n1_ := Aside0.mk (Kd.R_below (rkw HO195.out) hb); have n2_ := Aside0.mk (Kd.R_below (rkw HO199.out) hb); have n3_ := Aside0.mk (Kd.R_lower ho0 (below_size (hbw HB.out))); have n4_ := Aside0.mk (below_step (hbw HB.out) hb); clear HO192; clear HO195; clear HO199; clear HB; have HO192 := n0_; have HO195 := n1_; have HO199 := n2_; have HO205 := n3_; have HB := n4_; clear n0_ n1_ n2_ n3_ n4_; (try clear hb); (try clear hb2); (try clear hk); (try clear hi); (try clear ho0); obtain ⟨Ao41, co41, eo41⟩ := Kd.R_slice HO205.out; subst eo41) | (go_at_call 16; (with_reducible refine (scramble_Decode.calls k t201 t202 _ _ t203 t206 _ ?side1 ?side2 A8.out).mono ?_); (case side1 => repeat (first | exact (Kd.R_reads' HO205.out).2.2 | (with_reducible refine Kd.C_alloc ?_ _) | (with_reducible refine Kd.C_drewN ?_ _) | (with_reducible refine Kd.C_drew ?_))); (case side2 => exact (Kd.R_reads' HO205.out).2.1); rintro e w42 ⟨v207, rfl, ho0, hb⟩; have n0_ := Aside0.mk (Kd.R_below (rkw HO192.out) hb); have n1_ := Aside0.mk (Kd.R_below (rkw HO195.out) hb); have n2_ := Aside0.mk (Kd.R_below (rkw HO199.out) hb); have n3_ := Aside0.mk (Kd.R_elder' (rkw HO205.out) (Kd.R_base ho0) hb); have n4_ := Aside0.mk (Kd.R_lower (Kd.R_new' ho0 (Kd.R_lt (rkw HO205.out))) (below_size (hbw HB.out))); have n5_ := Aside0.mk (below_step (hbw HB.out) hb); clear HO192; clear HO195; clear HO199; clear HO205; clear HB; have HO192 := n0_; have HO195 := n1_; have HO199 := n2_; have HO205 := n3_; have HO208 := n4_; have HB := n5_; clear n0_ n1_ n2_ n3_ n4_ n5_; (try clear hb); (try clear hb2); (try clear hk); (try clear hi); (try clear ho0)) | (go_at_call 23; (with_reducible refine (signalbenchlaw20_bits.calls k (⟨#[49, 48, 48, 48]⟩ : ByteArray) t209 _ A9.out).mono ?_); rintro e w43 ⟨v210, rfl, ho0, hb⟩; have n0_ := Aside0.mk (Kd.R_below (rkw HO192.out) hb); have n1_ := Aside0.mk (Kd.R_below (rkw HO195.out) hb); have n2_ := Aside0.mk (Kd.R_below (rkw HO199.out) hb); have n3_ := Aside0.mk (Kd.R_elder' (rkw HO205.out) (Kd.R_base ho0) hb); have n4_ := Aside0.mk (Kd.R_elder' (rkw HO208.out) (Kd.R_base ho0) hb); have n5_ := Aside0.mk (Kd.R_lower (Kd.R_new' (Kd.R_new' ho0 (Kd.R_lt (rkw HO205.out))) (Kd.R_lt (rkw HO208.out))) (below_size (hbw HB.out))); have n6_ := Aside0.mk (below_step (hbw HB.out) hb); clear HO192; clear HO195; clear HO199; clear HO205; clear HO208; clear HB; have HO192 := n0_; have HO195 := n1_; have HO199 := n2_; have HO205 := n3_; have HO208 := n4_; have HO211 := n5_; have HB := n6_; clear n0_ n1_ n2_ n3_ n4_ n5_ n6_; (try clear hb); (try clear hb2); (try clear hk); (try clear hi); (try clear ho0); obtain ⟨Ao44, co44, eo44⟩ := Kd.R_slice HO208.out; subst eo44; obtain ⟨Ao45, co45, eo45⟩ := Kd.R_slice HO211.out; subst eo45) | (go_at_call 19; (with_reducible refine (signalbenchref07_Same.calls k _ _ t206 _ _ t209 false _ ?side1 ?side2 ?side3 ?side4 A10.out).mono ?_); (case side1 => repeat (first | exact (Kd.R_reads' HO208.out).2.2 | (with_reducible refine Kd.C_alloc ?_ _) | (with_reducible refine Kd.C_drewN ?_ _) | (with_reducible refine Kd.C_drew ?_))); (case side2 => exact (Kd.R_reads' HO208.out).2.1); (case side3 => repeat (first | exact (Kd.R_reads' HO211.out).2.2 | (with_reducible refine Kd.C_alloc ?_ _) | (with_reducible refine Kd.C_drewN ?_ _) | (with_reducible refine Kd.C_drew ?_))); (case side4 => exact (Kd.R_reads' HO211.out).2.1); rintro e w' ⟨rfl, ⟨nd, rfl⟩⟩))
    go_ret
    exact ⟨by first | rfl | (simp [errW_none, errW_some] <;> rfl) | (simp [*, errW_none, errW_some] <;> rfl), by repeat (first | (with_reducible first | exact HB.out | apply below_alloc | apply pw_below_drewN | apply below_drew1) | exact HB.out)⟩
  ·replace c5 := Bool.eq_false_iff.mpr c5
   subst c5
   have H1 : (some false) = some r := by rw [if_neg (show ¬ (false = true) by decide)] at H; exact H
   clear H
   have H := H1
   clear H1
   obtain rfl := Option.some.inj H
   go_enter Try.func11, Try.ntmps11
   go_wp2_with (first | ((with_reducible refine gate_callee (f := 27) rfl ?_); refine goesL_ (some 4) rfl rfl Try.func27 (by kernel_rfl) rfl #[] rfl (by (try simp only [List.map_toArray, List.map_cons, List.map_nil]); first | done | rfl | (simp only [List.length_drop, List.length_take]; rfl)) ?_; (with_reducible refine (signalbenchlaw20_Example.calls  t188 t189 _ A1.out).mono ?_); rintro e w46 ⟨rfl, hb⟩; refine ⟨_, rfl, ?_⟩; have n0_ := Aside0.mk (below_step (hbw HB.out) hb); clear HB; have HB := n0_; clear n0_; (try clear hb); (try clear hb2); (try clear hk); (try clear hi)) | ((with_reducible refine gate_dst (N := 7) rfl ?_); (try (refine gate_guard (by rfl) ?_; dsimp only)); refine Kd.R_lit k46 _ 46 ?hg (N := 7) ?hd (xs := ([(⟨2, 0, 0, (⟨#[49, 48]⟩ : ByteArray), 0⟩ : S46), (⟨0, 0, 0, (⟨#[48, 48]⟩ : ByteArray), 0⟩ : S46)] : List (S46))) (inner := [.int .i64 2, .int .i64 0, .int .i64 0, .string (⟨#[49, 48]⟩ : ByteArray), .int .i64 0, .int .i64 0, .int .i64 0, .int .i64 0, .string (⟨#[48, 48]⟩ : ByteArray), .int .i64 0]) (ok := fun _ => True) (okp := fun _ => True) ?hr ?hp (fun _ hk => hk) trivial (Below.refl _ _) (Nat.le_refl _) (by simp) ?_; (case hd => rfl); (case hg => rfl); (case hr => first | (go_simp; done) | (go_simp; rfl)); (case hp => exact (Reps.c5 (show Kd.M k46 _ _ _ (⟨2, 0, 0, (⟨#[49, 48]⟩ : ByteArray), 0⟩ : S46) [.int .i64 2, .int .i64 0, .int .i64 0, .string (⟨#[49, 48]⟩ : ByteArray), .int .i64 0] from (k46_mkM _ _ _ (⟨2, 0, 0, (⟨#[49, 48]⟩ : ByteArray), 0⟩ : S46) )) (Reps.c5 (show Kd.M k46 _ _ _ (⟨0, 0, 0, (⟨#[48, 48]⟩ : ByteArray), 0⟩ : S46) [.int .i64 0, .int .i64 0, .int .i64 0, .string (⟨#[48, 48]⟩ : ByteArray), .int .i64 0] from (k46_mkM _ _ _ (⟨0, 0, 0, (⟨#[48, 48]⟩ : ByteArray), 0⟩ : S46) )) (Reps.none _ _)))); intro v191 w47 ho48 hb hg_ hnew_; clear hg_ hnew_; (first | rw [← Ny190.out] at ho48 | (simp only [Int.reduceToNat] at ho48; rw [← Ny190.out] at ho48)); have n0_ := Aside0.mk (Kd.R_lower ho48 (below_size (hbw HB.out))); have n1_ := Aside0.mk (below_step (hbw HB.out) hb); clear HB; have HO192 := n0_; have HB := n1_; clear n0_ n1_; clear hb ho48; obtain ⟨Ao49, co49, eo49⟩ := Kd.R_slice HO192.out; subst eo49) | ((with_reducible refine gate_callee (f := 13) rfl ?_); refine goesL_ (some 8) rfl rfl Try.func13 (by kernel_rfl) rfl #[.agg #[.int .i64 t188, .int .i64 t189], .slice Ao49 y190.length co49] rfl (by (try simp only [List.map_toArray, List.map_cons, List.map_nil]); first | done | rfl | (simp only [List.length_drop, List.length_take]; rfl)) ?_; (with_reducible refine (scramble_Encode.calls k t188 t189 _ _ y190 t193 t196 _ ?side1 ?side2 A2.out).mono ?_); (case side1 => repeat (first | exact (Kd.R_reads' HO192.out).2.2 | (with_reducible refine Kd.C_alloc ?_ _) | (with_reducible refine Kd.C_drewN ?_ _) | (with_reducible refine Kd.C_drew ?_))); (case side2 => exact (Kd.R_reads' HO192.out).2.1); rintro e w50 ⟨v194, rfl, ho0, hb⟩; refine ⟨_, rfl, ?_⟩; have n0_ := Aside0.mk (Kd.R_elder' (rkw HO192.out) (Kd.R_base ho0) hb); have n1_ := Aside0.mk (Kd.R_lower (Kd.R_new' ho0 (Kd.R_lt (rkw HO192.out))) (below_size (hbw HB.out))); have n2_ := Aside0.mk (below_step (hbw HB.out) hb); clear HO192; clear HB; have HO192 := n0_; have HO195 := n1_; have HB := n2_; clear n0_ n1_ n2_; (try clear hb); (try clear hb2); (try clear hk); (try clear hi); (try clear ho0)) | ((with_reducible refine gate_dst (N := 17) rfl ?_); (try (refine gate_guard (by rfl) ?_; dsimp only)); refine Kd.R_lit k46 _ 46 ?hg (N := 17) ?hd (xs := ([(⟨2, 0, 0, (⟨#[49, 49]⟩ : ByteArray), 0⟩ : S46), (⟨0, 0, 0, (⟨#[49, 48]⟩ : ByteArray), 0⟩ : S46)] : List (S46))) (inner := [.int .i64 2, .int .i64 0, .int .i64 0, .string (⟨#[49, 49]⟩ : ByteArray), .int .i64 0, .int .i64 0, .int .i64 0, .int .i64 0, .string (⟨#[49, 48]⟩ : ByteArray), .int .i64 0]) (ok := fun _ => True) (okp := fun _ => True) ?hr ?hp (fun _ hk => hk) trivial (Below.refl _ _) (Nat.le_refl _) (by simp) ?_; (case hd => rfl); (case hg => rfl); (case hr => first | (go_simp; done) | (go_simp; rfl)); (case hp => exact (Reps.c5 (show Kd.M k46 _ _ _ (⟨2, 0, 0, (⟨#[49, 49]⟩ : ByteArray), 0⟩ : S46) [.int .i64 2, .int .i64 0, .int .i64 0, .string (⟨#[49, 49]⟩ : ByteArray), .int .i64 0] from (k46_mkM _ _ _ (⟨2, 0, 0, (⟨#[49, 49]⟩ : ByteArray), 0⟩ : S46) )) (Reps.c5 (show Kd.M k46 _ _ _ (⟨0, 0, 0, (⟨#[49, 48]⟩ : ByteArray), 0⟩ : S46) [.int .i64 0, .int .i64 0, .int .i64 0, .string (⟨#[49, 48]⟩ : ByteArray), .int .i64 0] from (k46_mkM _ _ _ (⟨0, 0, 0, (⟨#[49, 48]⟩ : ByteArray), 0⟩ : S46) )) (Reps.none _ _)))); intro v198 w51 ho52 hb hg_ hnew_; clear hg_ hnew_; (first | rw [← Ny197.out] at ho52 | (simp only [Int.reduceToNat] at ho52; rw [← Ny197.out] at ho52)); have n0_ := Aside0.mk (Kd.R_elder' (rkw HO192.out) (Kd.R_base ho52) hb); have n1_ := Aside0.mk (Kd.R_elder' (rkw HO195.out) (Kd.R_base ho52) hb); have n2_ := Aside0.mk (Kd.R_lower (Kd.R_new' (Kd.R_new' ho52 (Kd.R_lt (rkw HO192.out))) (Kd.R_lt (rkw HO195.out))) (below_size (hbw HB.out))); have n3_ := Aside0.mk (below_step (hbw HB.out) hb); clear HO192; clear HO195; clear HB; have HO192 := n0_; have HO195 := n1_; have HO199 := n2_; have HB := n3_; clear n0_ n1_ n2_ n3_; clear hb ho52; obtain ⟨Ao53, co53, eo53⟩ := Kd.R_slice HO195.out; subst eo53; obtain ⟨Ao54, co54, eo54⟩ := Kd.R_slice HO199.out; subst eo54) | (go_at_call 22; (with_reducible refine (signalbenchref20_Same.calls k _ _ t193 _ _ y197 false _ ?side1 ?side2 ?side3 ?side4 A4.out).mono ?_); (case side1 => repeat (first | exact (Kd.R_reads' HO195.out).2.2 | (with_reducible refine Kd.C_alloc ?_ _) | (with_reducible refine Kd.C_drewN ?_ _) | (with_reducible refine Kd.C_drew ?_))); (case side2 => exact (Kd.R_reads' HO195.out).2.1); (case side3 => repeat (first | exact (Kd.R_reads' HO199.out).2.2 | (with_reducible refine Kd.C_alloc ?_ _) | (with_reducible refine Kd.C_drewN ?_ _) | (with_reducible refine Kd.C_drew ?_))); (case side4 => exact (Kd.R_reads' HO199.out).2.1); rintro e w' ⟨rfl, ⟨nd, rfl⟩⟩))
   go_ret
   exact ⟨by first | rfl | (simp [errW_none, errW_some] <;> rfl) | (simp [*, errW_none, errW_some] <;> rfl), by repeat (first | (with_reducible first | exact HB.out | apply below_alloc | apply pw_below_drewN | apply below_drew1) | exact HB.out)⟩
 ·rw [if_neg c3] at H
  have c3b0 : (t196 == 0) = false := beq_eq_false_iff_ne.mpr c3
  have c3b1 : (t196 != 0) = true := bne_iff_ne.mpr c3
  obtain rfl := Option.some.inj H
  go_enter Try.func11, Try.ntmps11
  go_wp2_with (first | ((with_reducible refine gate_callee (f := 27) rfl ?_); refine goesL_ (some 4) rfl rfl Try.func27 (by kernel_rfl) rfl #[] rfl (by (try simp only [List.map_toArray, List.map_cons, List.map_nil]); first | done | rfl | (simp only [List.length_drop, List.length_take]; rfl)) ?_; (with_reducible refine (signalbenchlaw20_Example.calls  t188 t189 _ A1.out).mono ?_); rintro e w55 ⟨rfl, hb⟩; refine ⟨_, rfl, ?_⟩; have n0_ := Aside0.mk (below_step (hbw HB.out) hb); clear HB; have HB := n0_; clear n0_; (try clear hb); (try clear hb2); (try clear hk); (try clear hi)) | ((with_reducible refine gate_dst (N := 7) rfl ?_); (try (refine gate_guard (by rfl) ?_; dsimp only)); refine Kd.R_lit k46 _ 46 ?hg (N := 7) ?hd (xs := ([(⟨2, 0, 0, (⟨#[49, 48]⟩ : ByteArray), 0⟩ : S46), (⟨0, 0, 0, (⟨#[48, 48]⟩ : ByteArray), 0⟩ : S46)] : List (S46))) (inner := [.int .i64 2, .int .i64 0, .int .i64 0, .string (⟨#[49, 48]⟩ : ByteArray), .int .i64 0, .int .i64 0, .int .i64 0, .int .i64 0, .string (⟨#[48, 48]⟩ : ByteArray), .int .i64 0]) (ok := fun _ => True) (okp := fun _ => True) ?hr ?hp (fun _ hk => hk) trivial (Below.refl _ _) (Nat.le_refl _) (by simp) ?_; (case hd => rfl); (case hg => rfl); (case hr => first | (go_simp; done) | (go_simp; rfl)); (case hp => exact (Reps.c5 (show Kd.M k46 _ _ _ (⟨2, 0, 0, (⟨#[49, 48]⟩ : ByteArray), 0⟩ : S46) [.int .i64 2, .int .i64 0, .int .i64 0, .string (⟨#[49, 48]⟩ : ByteArray), .int .i64 0] from (k46_mkM _ _ _ (⟨2, 0, 0, (⟨#[49, 48]⟩ : ByteArray), 0⟩ : S46) )) (Reps.c5 (show Kd.M k46 _ _ _ (⟨0, 0, 0, (⟨#[48, 48]⟩ : ByteArray), 0⟩ : S46) [.int .i64 0, .int .i64 0, .int .i64 0, .string (⟨#[48, 48]⟩ : ByteArray), .int .i64 0] from (k46_mkM _ _ _ (⟨0, 0, 0, (⟨#[48, 48]⟩ : ByteArray), 0⟩ : S46) )) (Reps.none _ _)))); intro v191 w56 ho57 hb hg_ hnew_; clear hg_ hnew_; (first | rw [← Ny190.out] at ho57 | (simp only [Int.reduceToNat] at ho57; rw [← Ny190.out] at ho57)); have n0_ := Aside0.mk (Kd.R_lower ho57 (below_size (hbw HB.out))); have n1_ := Aside0.mk (below_step (hbw HB.out) hb); clear HB; have HO192 := n0_; have HB := n1_; clear n0_ n1_; clear hb ho57; obtain ⟨Ao58, co58, eo58⟩ := Kd.R_slice HO192.out; subst eo58) | ((with_reducible refine gate_callee (f := 13) rfl ?_); refine goesL_ (some 8) rfl rfl Try.func13 (by kernel_rfl) rfl #[.agg #[.int .i64 t188, .int .i64 t189], .slice Ao58 y190.length co58] rfl (by (try simp only [List.map_toArray, List.map_cons, List.map_nil]); first | done | rfl | (simp only [List.length_drop, List.length_take]; rfl)) ?_; (with_reducible refine (scramble_Encode.calls k t188 t189 _ _ y190 t193 t196 _ ?side1 ?side2 A2.out).mono ?_); (case side1 => repeat (first | exact (Kd.R_reads' HO192.out).2.2 | (with_reducible refine Kd.C_alloc ?_ _) | (with_reducible refine Kd.C_drewN ?_ _) | (with_reducible refine Kd.C_drew ?_))); (case side2 => exact (Kd.R_reads' HO192.out).2.1); rintro e w59 ⟨v194, rfl, ho0, hb⟩; refine ⟨_, rfl, ?_⟩; have n0_ := Aside0.mk (Kd.R_elder' (rkw HO192.out) (Kd.R_base ho0) hb); have n1_ := Aside0.mk (Kd.R_lower (Kd.R_new' ho0 (Kd.R_lt (rkw HO192.out))) (below_size (hbw HB.out))); have n2_ := Aside0.mk (below_step (hbw HB.out) hb); clear HO192; clear HB; have HO192 := n0_; have HO195 := n1_; have HB := n2_; clear n0_ n1_ n2_; (try clear hb); (try clear hb2); (try clear hk); (try clear hi); (try clear ho0)))
  go_ret
  exact ⟨by first | rfl | (simp [errW_none, errW_some] <;> rfl) | (simp [*, errW_none, errW_some] <;> rfl), by repeat (first | (with_reducible first | exact HB.out | apply below_alloc | apply pw_below_drewN | apply below_drew1) | exact HB.out)⟩

end Go.Proofs.Ytgcifmaefoeobaa.PScrambleRoundTrips
