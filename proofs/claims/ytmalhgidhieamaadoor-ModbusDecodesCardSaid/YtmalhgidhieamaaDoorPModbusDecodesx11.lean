-- Written by a program of this session (wip/tools/pr.py), which calls the kit's print with changes of its own.
import Derived.Test.YtmalhgidhieamaaDoorPModbusDecodesx0
import Derived.Test.YtmalhgidhieamaaDoorPModbusDecodesx1
import Derived.Test.YtmalhgidhieamaaDoorPModbusDecodesx2
import Derived.Test.YtmalhgidhieamaaDoorPModbusDecodesx3
import Derived.Test.YtmalhgidhieamaaDoorPModbusDecodesx8
import Derived.Test.YtmalhgidhieamaaDoorPModbusDecodesx10
namespace Go.Proofs.YtmalhgidhieamaaDoor.PModbusDecodes
open Go.RowKit Go.Proofs.YtmalhgidhieamaaDoorW.PrintWords Go.Proofs.YtmalhgidhieamaaDoorW.PrintLast Go.Proofs.YtmalhgidhieamaaDoorW.PrintMore
attribute [local go_sem] max2_int min2_int max_two min_two max_three min_three max_four min_four   -- for this text's walks alone
set_option linter.unusedVariables false
set_option linter.unusedSimpArgs false

attribute [local go_sem high] eqA32 eqA48
/-! ### signalbenchlaw30_events: function 25 -/
def signalbenchlaw30_events.l0 : Nat → List (S48) → Int → List (S32) → Int → Int → Option ((List (S32)))
 | 0, _, _, _, _, _ => none
 | k + 1, x0, x1, x5, x6, x7 => if x7 < (x0.length : Int) then (if 0 ≤ x7 then (if x5.length < 2199023255552 then (signalbenchlaw30_events.l0 k x0 x1 (x5 ++ [(⟨3, wrap64 (x6 + ((rd_T48 x0 x7).f0)), wrap64 ((wrap64 (x6 + ((rd_T48 x0 x7).f0))) + x1), (rd_T48 x0 x7).f1, 0, (⟨#[]⟩ : ByteArray), 0⟩ : S32)]) (wrap64 ((wrap64 (x6 + ((rd_T48 x0 x7).f0))) + x1)) (wrap64 (x7 + 1))) else (none)) else (none)) else (some x5)
def signalbenchlaw30_events.f (k : Nat) (l0 : List (S48)) (a1 : Int) : Option ((List (S32))) := signalbenchlaw30_events.l0 k l0 a1 (([] : List (S32))) 0 0
theorem signalbenchlaw30_events.mono_l : ∀ k, (∀ y0 y1 y2 y3 y4, LeO (signalbenchlaw30_events.l0 k y0 y1 y2 y3 y4) (signalbenchlaw30_events.l0 (k + 1) y0 y1 y2 y3 y4))
 | 0 => fun _ _ _ _ _ r h => by simp [signalbenchlaw30_events.l0] at h
 | k + 1 => by
  have ih0 := signalbenchlaw30_events.mono_l k
  ·intro y0 y1 y2 y3 y4
   unfold signalbenchlaw30_events.l0
   repeat' first
   | (with_reducible exact ih0 _ _ _ _ _)
   | (with_reducible exact LeO.refl _)
   | (with_reducible exact LeO.none _)
   | (with_reducible refine LeO.ite ?_ ?_)
   | (with_reducible refine LeO.bind ?_ (fun _ => ?_))
   | exact ih0 _ _ _ _ _
   | exact LeO.none _
   | refine LeO.ite ?_ ?_
   | refine LeO.bind ?_ (fun _ => ?_)
theorem signalbenchlaw30_events.mono : ∀ a0 a1 k, LeO (signalbenchlaw30_events.f k a0 a1) (signalbenchlaw30_events.f (k + 1) a0 a1) := by
 intro a0 a1 k
 have ih0 := signalbenchlaw30_events.mono_l k
 unfold signalbenchlaw30_events.f
 repeat' first
   | (with_reducible exact ih0 _ _ _ _ _)
   | (with_reducible exact LeO.refl _)
   | (with_reducible exact LeO.none _)
   | (with_reducible refine LeO.ite ?_ ?_)
   | (with_reducible refine LeO.bind ?_ (fun _ => ?_))
   | exact ih0 _ _ _ _ _
   | exact LeO.none _
   | refine LeO.ite ?_ ?_
   | refine LeO.bind ?_ (fun _ => ?_)
set_option maxHeartbeats 8000000 in
set_option maxRecDepth 100000 in
theorem signalbenchlaw30_events.calls (k : Nat) (A0 : Option Addr) (c0 : Nat) (l0 : List (S48)) (a1 : Int) (r : List (S32)) (w : World) (hr0 : Kd.C k48 w A0 l0.length l0) (hc0 : l0.length ≤ c0) (h : signalbenchlaw30_events.f k l0 a1 = some r) :
  Calls Tryd.prog 25 #[.slice A0 l0.length c0, .int .i64 a1] w fun e w' => ∃ v0_ : Value, e = .returned (v0_) ∧ Kd.R k32 32 w' w.heap.size (fun _ => True) v0_ r ∧ Below w.heap.size w w' := by
 have hu32 := Tryd.underlying32; have HR0 := sA hr0; have HC0 := sA hc0; clear hr0 hc0; have HB := sA (Below.refl w.heap.size w); have H : (signalbenchlaw30_events.l0 k l0 a1 (([] : List (S32))) 0 0) = some r := h; clear h; obtain ⟨y222, hy222⟩ : ∃ y_ : List (S32), y_ = (([] : List (S32))) := ⟨_, rfl⟩
 replace H : (signalbenchlaw30_events.l0 k l0 a1 y222 0 0) = some r := by first | (rw [hy222]; with_reducible exact H) | (have H2_ := (Option.bind_some _ _).symm.trans H; rw [hy222]; with_reducible exact H2_) | (have H2_ := (Option.bind_some _ _).symm.trans H; with_reducible exact H2_) | with_reducible exact H | (rw [hy222]; exact H) | exact H
 have Ny222 := sA hy222; clear hy222; have H' := sA H; clear H
 go_enter Tryd.func25, Tryd.ntmps25
 go_wp2_with (first | ((with_reducible refine gate_dst (N := 8) rfl ?_); refine Kd.R_lit k32 _ 32 ?hg (N := 8) ?hd (xs := ([] : List (S32))) (inner := []) (ok := fun _ => True) (okp := fun _ => True) ?hr ?hp (fun _ hk => hk) trivial (Below.refl _ _) (Nat.le_refl _) (by simp) ?_; (case hd => rfl); (case hg => rfl); (case hr => first | (go_simp; done) | (go_simp; rfl)); (case hp => exact (Reps.none _ _)); intro v223 w3 ho4 hb hg_ hnew_; clear hg_ hnew_; (first | rw [← Ny222.out] at ho4 | (simp only [Int.reduceToNat] at ho4; rw [← Ny222.out] at ho4)); have HO224 := sA (Kd.R_lower ho4 (below_size (hbw HB.out))); replace HB := bst HB hb; clear hb ho4))
 go_loopg [5, 6, 7] k (fun kq v5 v6 v7 w' => ∃ (x5_1 : List (S32)) (x6_1 : Int) (x7_1 : Int), v6 = .int .i64 x6_1 ∧ v7 = .int .i64 x7_1 ∧ Aside0 (signalbenchlaw30_events.l0 kq l0 a1 x5_1 x6_1 x7_1 = some r) ∧ Aside0 (kq ≤ k) ∧ Aside0 (Kd.R k32 32 w' w.heap.size (fun _ => True) v5 x5_1) ∧ Aside0 (Below w.heap.size w w'))
 case atStart => exact ⟨(y222), (0), (0), (by first | rfl | (simp; done) | (simp [*]; done)), (by first | rfl | (simp; done) | (simp [*]; done)), H', ⟨Nat.le_refl _⟩, ⟨by (with_reducible repeat (first | apply Kd.R_alloc | apply Kd.R_drewN | apply Kd.R_drew)); exact HO224.out⟩, ⟨hbw HB.out⟩⟩
 case round =>
  clear H'
  obtain ⟨x5_1, x6_1, x7_1, rfl, rfl, HA, HK1, HO_5, HB⟩ := hrel
  cases gk with
  | zero => exact absurd HA.out (by simp [signalbenchlaw30_events.l0])
  | succ k1 =>
   have H := HA.out; clear HA
   simp only [signalbenchlaw30_events.l0] at H
   by_cases c5 : x7_1 < (l0.length : Int)
   ·rw [if_pos c5] at H
    have c5b0 : decide (x7_1 < (l0.length : Int)) = true := decide_eq_true c5; clear c5
    by_cases c6 : 0 ≤ x7_1
    ·rw [if_pos c6] at H
     have c6b0 : decide (0 ≤ x7_1) = true := decide_eq_true c6; clear c6
     by_cases c7 : x5_1.length < 2199023255552
     ·rw [if_pos c7] at H
      have LMc7 := sA c7; clear c7; obtain ⟨y227, hy227⟩ : ∃ y_ : List (S32), y_ = (x5_1 ++ [(⟨3, wrap64 (x6_1 + ((rd_T48 l0 x7_1).f0)), wrap64 ((wrap64 (x6_1 + ((rd_T48 l0 x7_1).f0))) + a1), (rd_T48 l0 x7_1).f1, 0, (⟨#[]⟩ : ByteArray), 0⟩ : S32)]) := ⟨_, rfl⟩
      replace H : (signalbenchlaw30_events.l0 k1 l0 a1 y227 (wrap64 ((wrap64 (x6_1 + ((rd_T48 l0 x7_1).f0))) + a1)) (wrap64 (x7_1 + 1))) = some r := by first | (rw [hy227]; with_reducible exact H) | (have H2_ := (Option.bind_some _ _).symm.trans H; rw [hy227]; with_reducible exact H2_) | (have H2_ := (Option.bind_some _ _).symm.trans H; with_reducible exact H2_) | with_reducible exact H | (rw [hy227]; exact H) | exact H
      have Ny227 := sA hy227; clear hy227; have H' := sA H; clear H; have p225 : 0 ≤ (x7_1 : Int) := of_decide_eq_true (by first | (with_reducible assumption) | assumption); have q225 : x7_1 < (l0.length : Int) := of_decide_eq_true (by first | (with_reducible assumption) | assumption); obtain ⟨ad225, e225, hx225_0, hx225_1, hx225_2, hx225_3, hx225_4⟩ := at_T48 HR0.out x7_1 p225 q225
      cases e225
      replace hx225_0 := hbc HB hx225_0; replace hx225_1 := hbc HB hx225_1; replace hx225_2 := hbc HB hx225_2; replace hx225_3 := hbc HB hx225_3; replace hx225_4 := hbc HB hx225_4; replace p225 := eq_true p225; replace q225 := eq_true q225; have p226 : 0 ≤ (x7_1 : Int) := of_decide_eq_true (by first | (with_reducible assumption) | assumption); have q226 : x7_1 < (l0.length : Int) := of_decide_eq_true (by first | (with_reducible assumption) | assumption); obtain ⟨ad226, e226, hx226_0, hx226_1, hx226_2, hx226_3, hx226_4⟩ := at_T48 HR0.out x7_1 p226 q226; obtain rfl : ad225 = ad226 := (by injection e226); replace hx226_0 := hbc HB hx226_0; replace hx226_1 := hbc HB hx226_1; replace hx226_2 := hbc HB hx226_2; replace hx226_3 := hbc HB hx226_3; replace hx226_4 := hbc HB hx226_4; replace p226 := eq_true p226; replace q226 := eq_true q226
      go_wp2_with (first | ((with_reducible refine gate_builtin (b := .append) (xs := #[.tmp 22, .tmp 33]) rfl ?_); at_builtin; refine Kd.R_append k32 (w0 := w) w.heap.size rfl (.tmp 22) (.tmp 33) 24 32 (.agg #[(.int .i64 0), (.int .i64 0), (.int .i64 0), (.int .i64 0), (.int .i64 0), (.string ⟨#[]⟩), (.int .i64 0)]) 64 rfl Tryd.underlying24 info32 rfl (by decide) (by omega) u5 x5_1 (⟨3, wrap64 (x6_1 + ((rd_T48 l0 x7_1).f0)), wrap64 ((wrap64 (x6_1 + ((rd_T48 l0 x7_1).f0))) + a1), (rd_T48 l0 x7_1).f1, 0, (⟨#[]⟩ : ByteArray), 0⟩ : S32) [.int .i64 3, .int .i64 (wrap64 (x6_1 + ((rd_T48 l0 x7_1).f0))), .int .i64 (wrap64 ((wrap64 (x6_1 + ((rd_T48 l0 x7_1).f0))) + a1)), .int .i64 ((rd_T48 l0 x7_1).f1), .int .i64 0, .string (⟨#[]⟩ : ByteArray), .int .i64 0] (fun _ => True) (fun _ => False) rfl rfl ?aP (fun _ hk => hk.elim) ?aF ?aO ?aB ?aS ?aL ?_; (case aP => exact k32_mkM _ _ _ (⟨3, wrap64 (x6_1 + ((rd_T48 l0 x7_1).f0)), wrap64 ((wrap64 (x6_1 + ((rd_T48 l0 x7_1).f0))) + a1), (rd_T48 l0 x7_1).f1, 0, (⟨#[]⟩ : ByteArray), 0⟩ : S32)); (case aB => exact (hbw HB.out)); (case aF => exact (fun _ _ => trivial)); (case aO => exact (rkw HO_5.out)); (case aS => exact (below_size (hbw HB.out))); (case aL => have := LMc7.out; omega); intro v228 w8 ho hb hg hat; rw [← Ny227.out] at ho; have n0_ := sA (hb); have n1_ := sA (ho); clear HB; clear HO_5; have HB := n0_; have HO229 := n1_; clear n0_ n1_; clear ho hb hg hat))
      go_roundg k1
      case measure => have := HK1.out; omega
      case rel => exact ⟨(y227), (wrap64 ((wrap64 (x6_1 + ((rd_T48 l0 x7_1).f0))) + a1)), (wrap64 (x7_1 + 1)), (by first | rfl | (simp; done) | (simp [*]; done)), (by first | rfl | (simp; done) | (simp [*]; done)), H', ⟨by have := HK1.out; omega⟩, ⟨by (with_reducible repeat (first | apply Kd.R_alloc | apply Kd.R_drewN | apply Kd.R_drew)); exact HO229.out⟩, ⟨hbw HB.out⟩⟩
     ·rw [if_neg c7] at H
      exact absurd H (by simp)
    ·rw [if_neg c6] at H
     exact absurd H (by simp)
   ·rw [if_neg c5] at H
    have c5b0 : decide (x7_1 < (l0.length : Int)) = false := decide_eq_false c5; clear c5; obtain rfl := Option.some.inj H
    go_wp2
    go_ret
    exact ⟨_, eW_, by (with_reducible repeat (first | apply Kd.R_alloc | apply Kd.R_drewN | apply Kd.R_drew)); exact HO_5.out, hbw HB.out⟩

/-! ### signalbenchlaw30_lives: function 8 -/
def signalbenchlaw30_lives.j0 : Nat → Bool → Option (Bool)
 | 0, _ => none
 | k + 1, x43 => if x43 = true then (some false) else ((signalbenchlaw30_events.f k (([(⟨0, 1, 0, (⟨#[]⟩ : ByteArray), 0⟩ : S48), (⟨0, 3, 0, (⟨#[]⟩ : ByteArray), 0⟩ : S48), (⟨0, 64, 0, (⟨#[]⟩ : ByteArray), 0⟩ : S48), (⟨0, 33, 0, (⟨#[]⟩ : ByteArray), 0⟩ : S48)] : List (S48))) 1).bind fun t244 => ((modbus_Decode.f k 5 t244).bind fun t247 => (if (t247.length : Int) = 1 then (if 0 < (t247.length : Int) then (some (((rd_T32 t247 0).f0) == 5 && (((rd_T32 t247 0).f1) == 0 && (((rd_T32 t247 0).f2) == 4 && (((rd_T32 t247 0).f3) == 1 && (((rd_T32 t247 0).f4) == 3 && ((((rd_T32 t247 0).f5).toList) == ([] : List UInt8) && (((rd_T32 t247 0).f6) == 0)))))))) else (none)) else (some false))))
def signalbenchlaw30_lives.f (k : Nat)  : Option (Bool) := (modbus_Encode.f k 5 (([(⟨0, 1, 3, (⟨#[]⟩ : ByteArray), 0⟩ : S48)] : List (S48)))).bind fun bt233 => (if bt233.2 = 0 then (if (bt233.1.length : Int) = 4 then (if 0 < (bt233.1.length : Int) then (if (!(((rd_T48 bt233.1 0).f0) == 6) || (!(((rd_T48 bt233.1 0).f1) == 1) || (!(((rd_T48 bt233.1 0).f2) == 0) || (!((((rd_T48 bt233.1 0).f3).toList) == ([] : List UInt8)) || (!(((rd_T48 bt233.1 0).f4) == 0)))))) = true then (signalbenchlaw30_lives.j0 k true) else (if 2 < (bt233.1.length : Int) then (if ((rd_T48 bt233.1 2).f1) = 64 then (if 3 < (bt233.1.length : Int) then (if ((rd_T48 bt233.1 3).f1) = 33 then ((modbus_Check.f 0).bind fun t240 => (signalbenchlaw30_lives.j0 k (t240 != 0))) else (signalbenchlaw30_lives.j0 k true)) else (none)) else (signalbenchlaw30_lives.j0 k true)) else (none))) else (none)) else (signalbenchlaw30_lives.j0 k true)) else (signalbenchlaw30_lives.j0 k true))
theorem signalbenchlaw30_lives.mono_l : ∀ k, (∀ y0, LeO (signalbenchlaw30_lives.j0 k y0) (signalbenchlaw30_lives.j0 (k + 1) y0))
 | 0 => fun _ r h => by simp [signalbenchlaw30_lives.j0] at h
 | k + 1 => by
  have ih0 := signalbenchlaw30_lives.mono_l k
  ·intro y0
   unfold signalbenchlaw30_lives.j0
   repeat' first
   | (with_reducible exact ih0 _)
   | (with_reducible exact modbus_Decode.mono _ _ _)
   | (with_reducible exact modbus_Encode.mono _ _ _)
   | (with_reducible exact signalbenchlaw30_events.mono _ _ _)
   | (with_reducible exact LeO.refl _)
   | (with_reducible exact LeO.none _)
   | (with_reducible refine LeO.ite ?_ ?_)
   | (with_reducible refine LeO.bind ?_ (fun _ => ?_))
   | exact ih0 _
   | exact modbus_Decode.mono _ _ _
   | exact modbus_Encode.mono _ _ _
   | exact signalbenchlaw30_events.mono _ _ _
   | exact LeO.none _
   | refine LeO.ite ?_ ?_
   | refine LeO.bind ?_ (fun _ => ?_)
theorem signalbenchlaw30_lives.mono : ∀ k, LeO (signalbenchlaw30_lives.f k ) (signalbenchlaw30_lives.f (k + 1) ) := by
 intro  k; have ih0 := signalbenchlaw30_lives.mono_l k
 unfold signalbenchlaw30_lives.f
 repeat' first
   | (with_reducible exact ih0 _)
   | (with_reducible exact modbus_Decode.mono _ _ _)
   | (with_reducible exact modbus_Encode.mono _ _ _)
   | (with_reducible exact signalbenchlaw30_events.mono _ _ _)
   | (with_reducible exact LeO.refl _)
   | (with_reducible exact LeO.none _)
   | (with_reducible refine LeO.ite ?_ ?_)
   | (with_reducible refine LeO.bind ?_ (fun _ => ?_))
   | exact ih0 _
   | exact modbus_Decode.mono _ _ _
   | exact modbus_Encode.mono _ _ _
   | exact signalbenchlaw30_events.mono _ _ _
   | exact LeO.none _
   | refine LeO.ite ?_ ?_
   | refine LeO.bind ?_ (fun _ => ?_)
set_option maxHeartbeats 8000000 in
set_option maxRecDepth 100000 in
theorem signalbenchlaw30_lives.calls (k : Nat)  (r : Bool) (w : World) (hT_ : TabOk w) (h : signalbenchlaw30_lives.f k  = some r) :
  Calls Tryd.prog 8 #[] w fun e w' => e = .returned (.bool r) ∧ Below w.heap.size w w' := by
 have hu23 := Tryd.underlying23; have hu48 := Tryd.underlying48; have hu32 := Tryd.underlying32; have HB := sA (Below.refl w.heap.size w); have H : ((modbus_Encode.f k 5 (([(⟨0, 1, 3, (⟨#[]⟩ : ByteArray), 0⟩ : S48)] : List (S48)))).bind fun bt233 => (if bt233.2 = 0 then (if (bt233.1.length : Int) = 4 then (if 0 < (bt233.1.length : Int) then (if (!(((rd_T48 bt233.1 0).f0) == 6) || (!(((rd_T48 bt233.1 0).f1) == 1) || (!(((rd_T48 bt233.1 0).f2) == 0) || (!((((rd_T48 bt233.1 0).f3).toList) == ([] : List UInt8)) || (!(((rd_T48 bt233.1 0).f4) == 0)))))) = true then (signalbenchlaw30_lives.j0 k true) else (if 2 < (bt233.1.length : Int) then (if ((rd_T48 bt233.1 2).f1) = 64 then (if 3 < (bt233.1.length : Int) then (if ((rd_T48 bt233.1 3).f1) = 33 then ((modbus_Check.f 0).bind fun t240 => (signalbenchlaw30_lives.j0 k (t240 != 0))) else (signalbenchlaw30_lives.j0 k true)) else (none)) else (signalbenchlaw30_lives.j0 k true)) else (none))) else (none)) else (signalbenchlaw30_lives.j0 k true)) else (signalbenchlaw30_lives.j0 k true))) = some r := h; clear h; obtain ⟨y230, hy230⟩ : ∃ y_ : List (S48), y_ = (([(⟨0, 1, 3, (⟨#[]⟩ : ByteArray), 0⟩ : S48)] : List (S48))) := ⟨_, rfl⟩
 replace H : ((modbus_Encode.f k 5 y230).bind fun bt233 => (if bt233.2 = 0 then (if (bt233.1.length : Int) = 4 then (if 0 < (bt233.1.length : Int) then (if (!(((rd_T48 bt233.1 0).f0) == 6) || (!(((rd_T48 bt233.1 0).f1) == 1) || (!(((rd_T48 bt233.1 0).f2) == 0) || (!((((rd_T48 bt233.1 0).f3).toList) == ([] : List UInt8)) || (!(((rd_T48 bt233.1 0).f4) == 0)))))) = true then (signalbenchlaw30_lives.j0 k true) else (if 2 < (bt233.1.length : Int) then (if ((rd_T48 bt233.1 2).f1) = 64 then (if 3 < (bt233.1.length : Int) then (if ((rd_T48 bt233.1 3).f1) = 33 then ((modbus_Check.f 0).bind fun t240 => (signalbenchlaw30_lives.j0 k (t240 != 0))) else (signalbenchlaw30_lives.j0 k true)) else (none)) else (signalbenchlaw30_lives.j0 k true)) else (none))) else (none)) else (signalbenchlaw30_lives.j0 k true)) else (signalbenchlaw30_lives.j0 k true))) = some r := by first | (rw [hy230]; with_reducible exact H) | (have H2_ := (Option.bind_some _ _).symm.trans H; rw [hy230]; with_reducible exact H2_) | (have H2_ := (Option.bind_some _ _).symm.trans H; with_reducible exact H2_) | with_reducible exact H | (rw [hy230]; exact H) | exact H
 have Ny230 := sA hy230; clear hy230; replace H := Option.bind_eq_some_iff.mp H; obtain ⟨⟨t233, t236⟩, A10, H⟩ := H; replace H : (if t236 = 0 then (if (t233.length : Int) = 4 then (if 0 < (t233.length : Int) then (if (!(((rd_T48 t233 0).f0) == 6) || (!(((rd_T48 t233 0).f1) == 1) || (!(((rd_T48 t233 0).f2) == 0) || (!((((rd_T48 t233 0).f3).toList) == ([] : List UInt8)) || (!(((rd_T48 t233 0).f4) == 0)))))) = true then (signalbenchlaw30_lives.j0 k true) else (if 2 < (t233.length : Int) then (if ((rd_T48 t233 2).f1) = 64 then (if 3 < (t233.length : Int) then (if ((rd_T48 t233 3).f1) = 33 then ((modbus_Check.f 0).bind fun t240 => (signalbenchlaw30_lives.j0 k (t240 != 0))) else (signalbenchlaw30_lives.j0 k true)) else (none)) else (signalbenchlaw30_lives.j0 k true)) else (none))) else (none)) else (signalbenchlaw30_lives.j0 k true)) else (signalbenchlaw30_lives.j0 k true)) = some r := H; have A1 := sA A10; clear A10; have HC2 := sA H; clear H
 go_enter Tryd.func8, Tryd.ntmps8
 go_upto_region 2 with (first | ((with_reducible refine gate_dst (N := 7) rfl ?_); (try (refine gate_guard (by first | rfl | (go_simp; done)) ?_; dsimp only)); refine Kd.R_lit k48 _ 48 ?hg (N := 7) ?hd (xs := ([(⟨0, 1, 3, (⟨#[]⟩ : ByteArray), 0⟩ : S48)] : List (S48))) (inner := [.int .i64 0, .int .i64 1, .int .i64 3, .string (⟨#[]⟩ : ByteArray), .int .i64 0]) (ok := fun _ => True) (okp := fun _ => True) ?hr ?hp (fun _ hk => hk) trivial (Below.refl _ _) (Nat.le_refl _) (by simp) ?_; (case hd => rfl); (case hg => rfl); (case hr => first | (go_simp; done) | (go_simp; rfl)); (case hp => exact (Reps.c5 (show Kd.M k48 _ _ _ (⟨0, 1, 3, (⟨#[]⟩ : ByteArray), 0⟩ : S48) [.int .i64 0, .int .i64 1, .int .i64 3, .string (⟨#[]⟩ : ByteArray), .int .i64 0] from (k48_mkM _ _ _ (⟨0, 1, 3, (⟨#[]⟩ : ByteArray), 0⟩ : S48) )) (Reps.none _ _))); intro v231 w3 ho4 hb hg_ hnew_; clear hg_ hnew_; (first | rw [← Ny230.out] at ho4 | (simp only [Int.reduceToNat] at ho4; rw [← Ny230.out] at ho4)); have HO232 := sA (Kd.R_lower ho4 (below_size (hbw HB.out))); replace HB := bst HB hb; clear hb ho4; obtain ⟨Ao5, co5, eo5⟩ := Kd.R_slice HO232.out; subst eo5) | ((with_reducible refine gate_callee (f := 21) rfl ?_); refine goesK (some 8) Tryd.func21 #[.agg #[.int .i64 5], .slice Ao5 y230.length co5] ?_; (with_reducible refine (modbus_Encode.calls k 5 _ _ y230 t233 t236 _ ?side1 ?side2 ?side3 A1.out).mono ?_); (case side1 => refine TabOk.below hT_ ?_; repeat (first | (with_reducible first | exact HB.out | apply below_alloc | apply pw_below_drewN | apply below_drew1) | exact HB.out)); (case side2 => repeat (first | exact (Kd.R_reads' HO232.out).2.2 | (with_reducible refine Kd.C_alloc ?_ _) | (with_reducible refine Kd.C_drewN ?_ _) | (with_reducible refine Kd.C_drew ?_))); (case side3 => exact (Kd.R_reads' HO232.out).2.1); rintro e w6 ⟨v234, rfl, ho0, hb⟩; refine ⟨_, rfl, ?_⟩; have HO235 := sA (Kd.R_lower (Kd.R_new' ho0 (Kd.R_lt (rkw HO232.out))) (below_size (hbw HB.out))); replace HO232 := sA (Kd.R_elder' (rkw HO232.out) (Kd.R_base ho0) hb); replace HB := bst HB hb; (try clear hb); (try clear hk); (try clear ho0)))
 (try simp only [Act.put, List.setIfInBounds_toArray, List.set_cons_zero, List.set_cons_succ])
 go_cut [43] (fun v43 wc => ∃ (kq : Nat) (x43_1 : Bool), v43 = .bool x43_1 ∧ Aside0 (signalbenchlaw30_lives.j0 kq x43_1 = some r) ∧ Aside0 (kq ≤ k) ∧ Aside0 (Below w.heap.size w wc))
 case first =>
  have H := HC2.out; clear HC2
  by_cases c7 : t236 = 0
  ·rw [if_pos c7] at H
   have c7b0 : (t236 == 0) = true := beq_iff_eq.mpr c7; have c7b1 : (t236 != 0) = false := bne_eq_false_iff_eq.mpr c7; clear c7
   (first | rw [c7b0] | (simp only [i64_w, i32_w]; rw [c7b0]) | skip)
   by_cases c8 : (t233.length : Int) = 4
   ·rw [if_pos c8] at H
    have c8b0 : ((t233.length : Int) == 4) = true := beq_iff_eq.mpr c8; have c8b1 : ((t233.length : Int) != 4) = false := bne_eq_false_iff_eq.mpr c8; clear c8
    by_cases c9 : 0 < (t233.length : Int)
    ·rw [if_pos c9] at H
     have c9b0 : decide (0 < (t233.length : Int)) = true := decide_eq_true c9; have c9b1 : decide (0 < t233.length) = true := decide_eq_true (by omega); clear c9
     by_cases c10 : (!(((rd_T48 t233 0).f0) == 6) || (!(((rd_T48 t233 0).f1) == 1) || (!(((rd_T48 t233 0).f2) == 0) || (!((((rd_T48 t233 0).f3).toList) == ([] : List UInt8)) || (!(((rd_T48 t233 0).f4) == 0)))))) = true
     ·rw [if_pos c10] at H
      have c10b0 : (!(((rd_T48 t233 0).f0) == 6) || (!(((rd_T48 t233 0).f1) == 1) || (!(((rd_T48 t233 0).f2) == 0) || (!((((rd_T48 t233 0).f3).toList) == ([] : List UInt8)) || (!(((rd_T48 t233 0).f4) == 0)))))) = true := c10; (try (have c10b1 : (!((rd_T48 t233 0).f0 == 6) || (!((rd_T48 t233 0).f1 == 1) || (!((rd_T48 t233 0).f2 == 0) || (!(((rd_T48 t233 0).f3).toList).isEmpty || (!((rd_T48 t233 0).f4 == 0)))))) = true := by have e_ := c10; simp only [List.beq_nil_eq] at e_; exact e_)); (try (have c10b2 : ((rd_T48 t233 0).f0 = 6 ∧ (rd_T48 t233 0).f1 = 1 ∧ (rd_T48 t233 0).f2 = 0 ∧ ((rd_T48 t233 0).f3).toList = [] ∧ (rd_T48 t233 0).f4 = 0) = False := eq_false (by intro h_; have e_ := c10; simp [h_] at e_))); clear c10; have H' := sA H; clear H; obtain ⟨Ao11, co11, eo11⟩ := Kd.R_slice HO235.out; subst eo11; have p237 : 0 ≤ (0 : Int) := (by omega); have q237 : 0 < (t233.length : Int) := of_decide_eq_true (by first | (with_reducible assumption) | assumption); obtain ⟨ad237, e237, hx237_0, hx237_1, hx237_2, hx237_3, hx237_4⟩ := at_T48 (Kd.R_reads' HO235.out).2.2 0 p237 q237
      cases e237
      have qi237 : (0 < t233.length) = True := eq_true (by omega); (try rw [show ((0 : Int)).toNat = 0 from rfl] at hx237_0); (try rw [show 0 * 5 = 0 from rfl] at hx237_0); (try rw [Addr.add_zero'] at hx237_0); (try rw [show ((0 : Int)).toNat = 0 from rfl] at hx237_1); (try rw [show 0 * 5 = 0 from rfl] at hx237_1); (try rw [Addr.add_zero'] at hx237_1); (try rw [show ((0 : Int)).toNat = 0 from rfl] at hx237_2); (try rw [show 0 * 5 = 0 from rfl] at hx237_2); (try rw [Addr.add_zero'] at hx237_2); (try rw [show ((0 : Int)).toNat = 0 from rfl] at hx237_3); (try rw [show 0 * 5 = 0 from rfl] at hx237_3); (try rw [Addr.add_zero'] at hx237_3); (try rw [show ((0 : Int)).toNat = 0 from rfl] at hx237_4); (try rw [show 0 * 5 = 0 from rfl] at hx237_4); (try rw [Addr.add_zero'] at hx237_4); replace p237 := eq_true p237; replace q237 := eq_true q237
      go_wp2
      go_meet
      case rel => exact ⟨_, (true), (by first | rfl | (simp; done) | (simp [*]; done)), H', ⟨by first | omega | exact Nat.le_refl _⟩, ⟨hbw HB.out⟩⟩
     ·rw [if_neg c10] at H
      have c10b0 : (!(((rd_T48 t233 0).f0) == 6) || (!(((rd_T48 t233 0).f1) == 1) || (!(((rd_T48 t233 0).f2) == 0) || (!((((rd_T48 t233 0).f3).toList) == ([] : List UInt8)) || (!(((rd_T48 t233 0).f4) == 0)))))) = false := by simpa using c10
      (try (have c10b1 : (!((rd_T48 t233 0).f0 == 6) || (!((rd_T48 t233 0).f1 == 1) || (!((rd_T48 t233 0).f2 == 0) || (!(((rd_T48 t233 0).f3).toList).isEmpty || (!((rd_T48 t233 0).f4 == 0)))))) = false := by have e_ := eq_false_of_ne_true c10; simp only [List.beq_nil_eq] at e_; exact e_)); (try (have c10b2 : ((rd_T48 t233 0).f0 = 6 ∧ (rd_T48 t233 0).f1 = 1 ∧ (rd_T48 t233 0).f2 = 0 ∧ ((rd_T48 t233 0).f3).toList = [] ∧ (rd_T48 t233 0).f4 = 0) = True := eq_true (by simpa using c10))); clear c10
      by_cases c12 : 2 < (t233.length : Int)
      ·rw [if_pos c12] at H
       have c12b0 : decide (2 < (t233.length : Int)) = true := decide_eq_true c12; have c12b1 : decide (2 < t233.length) = true := decide_eq_true (by omega); clear c12
       by_cases c13 : ((rd_T48 t233 2).f1) = 64
       ·rw [if_pos c13] at H
        have c13b0 : (((rd_T48 t233 2).f1) == 64) = true := beq_iff_eq.mpr c13; have c13b1 : (((rd_T48 t233 2).f1) != 64) = false := bne_eq_false_iff_eq.mpr c13; clear c13
        by_cases c14 : 3 < (t233.length : Int)
        ·rw [if_pos c14] at H
         have c14b0 : decide (3 < (t233.length : Int)) = true := decide_eq_true c14; have c14b1 : decide (3 < t233.length) = true := decide_eq_true (by omega); clear c14
         by_cases c15 : ((rd_T48 t233 3).f1) = 33
         ·rw [if_pos c15] at H
          have c15b0 : (((rd_T48 t233 3).f1) == 33) = true := beq_iff_eq.mpr c15; have c15b1 : (((rd_T48 t233 3).f1) != 33) = false := bne_eq_false_iff_eq.mpr c15; clear c15; replace H := Option.bind_eq_some_iff.mp H; obtain ⟨t240, A160, H⟩ := H; replace H : (signalbenchlaw30_lives.j0 k (t240 != 0)) = some r := H; have A16 := sA A160; clear A160; have H' := sA H; clear H; obtain ⟨Ao17, co17, eo17⟩ := Kd.R_slice HO235.out; subst eo17; have p237 : 0 ≤ (0 : Int) := (by omega); have q237 : 0 < (t233.length : Int) := of_decide_eq_true (by first | (with_reducible assumption) | assumption); obtain ⟨ad237, e237, hx237_0, hx237_1, hx237_2, hx237_3, hx237_4⟩ := at_T48 (Kd.R_reads' HO235.out).2.2 0 p237 q237
          cases e237
          have qi237 : (0 < t233.length) = True := eq_true (by omega); (try rw [show ((0 : Int)).toNat = 0 from rfl] at hx237_0); (try rw [show 0 * 5 = 0 from rfl] at hx237_0); (try rw [Addr.add_zero'] at hx237_0); (try rw [show ((0 : Int)).toNat = 0 from rfl] at hx237_1); (try rw [show 0 * 5 = 0 from rfl] at hx237_1); (try rw [Addr.add_zero'] at hx237_1); (try rw [show ((0 : Int)).toNat = 0 from rfl] at hx237_2); (try rw [show 0 * 5 = 0 from rfl] at hx237_2); (try rw [Addr.add_zero'] at hx237_2); (try rw [show ((0 : Int)).toNat = 0 from rfl] at hx237_3); (try rw [show 0 * 5 = 0 from rfl] at hx237_3); (try rw [Addr.add_zero'] at hx237_3); (try rw [show ((0 : Int)).toNat = 0 from rfl] at hx237_4); (try rw [show 0 * 5 = 0 from rfl] at hx237_4); (try rw [Addr.add_zero'] at hx237_4); replace p237 := eq_true p237; replace q237 := eq_true q237; have p238 : 0 ≤ (2 : Int) := (by omega); have q238 : 2 < (t233.length : Int) := of_decide_eq_true (by first | (with_reducible assumption) | assumption); obtain ⟨ad238, e238, hx238_0, hx238_1, hx238_2, hx238_3, hx238_4⟩ := at_T48 (Kd.R_reads' HO235.out).2.2 2 p238 q238; obtain rfl : ad237 = ad238 := (by injection e238); (try simp only [show (2 : Int).toNat = 2 from rfl, Nat.reduceMul, Nat.reduceEqDiff, Go.Addr.add, ↓reduceIte] at hx238_0); (try simp only [show (2 : Int).toNat = 2 from rfl, Nat.reduceMul, Nat.reduceEqDiff, Go.Addr.add, ↓reduceIte] at hx238_1); (try simp only [show (2 : Int).toNat = 2 from rfl, Nat.reduceMul, Nat.reduceEqDiff, Go.Addr.add, ↓reduceIte] at hx238_2); (try simp only [show (2 : Int).toNat = 2 from rfl, Nat.reduceMul, Nat.reduceEqDiff, Go.Addr.add, ↓reduceIte] at hx238_3); (try simp only [show (2 : Int).toNat = 2 from rfl, Nat.reduceMul, Nat.reduceEqDiff, Go.Addr.add, ↓reduceIte] at hx238_4); have qi238 : (2 < t233.length) = True := eq_true (by omega); (try rw [show ((2 : Int)).toNat = 2 from rfl] at hx238_0); (try rw [show 2 * 5 = 10 from rfl] at hx238_0); (try rw [show ((2 : Int)).toNat = 2 from rfl] at hx238_1); (try rw [show 2 * 5 = 10 from rfl] at hx238_1); (try rw [show ((2 : Int)).toNat = 2 from rfl] at hx238_2); (try rw [show 2 * 5 = 10 from rfl] at hx238_2); (try rw [show ((2 : Int)).toNat = 2 from rfl] at hx238_3); (try rw [show 2 * 5 = 10 from rfl] at hx238_3); (try rw [show ((2 : Int)).toNat = 2 from rfl] at hx238_4); (try rw [show 2 * 5 = 10 from rfl] at hx238_4); replace p238 := eq_true p238; replace q238 := eq_true q238; have p239 : 0 ≤ (3 : Int) := (by omega); have q239 : 3 < (t233.length : Int) := of_decide_eq_true (by first | (with_reducible assumption) | assumption); obtain ⟨ad239, e239, hx239_0, hx239_1, hx239_2, hx239_3, hx239_4⟩ := at_T48 (Kd.R_reads' HO235.out).2.2 3 p239 q239; obtain rfl : ad237 = ad239 := (by injection e239); (try simp only [show (3 : Int).toNat = 3 from rfl, Nat.reduceMul, Nat.reduceEqDiff, Go.Addr.add, ↓reduceIte] at hx239_0); (try simp only [show (3 : Int).toNat = 3 from rfl, Nat.reduceMul, Nat.reduceEqDiff, Go.Addr.add, ↓reduceIte] at hx239_1); (try simp only [show (3 : Int).toNat = 3 from rfl, Nat.reduceMul, Nat.reduceEqDiff, Go.Addr.add, ↓reduceIte] at hx239_2)
          (try simp only [show (3 : Int).toNat = 3 from rfl, Nat.reduceMul, Nat.reduceEqDiff, Go.Addr.add, ↓reduceIte] at hx239_3); (try simp only [show (3 : Int).toNat = 3 from rfl, Nat.reduceMul, Nat.reduceEqDiff, Go.Addr.add, ↓reduceIte] at hx239_4); have qi239 : (3 < t233.length) = True := eq_true (by omega); (try rw [show ((3 : Int)).toNat = 3 from rfl] at hx239_0); (try rw [show 3 * 5 = 15 from rfl] at hx239_0); (try rw [show ((3 : Int)).toNat = 3 from rfl] at hx239_1); (try rw [show 3 * 5 = 15 from rfl] at hx239_1); (try rw [show ((3 : Int)).toNat = 3 from rfl] at hx239_2); (try rw [show 3 * 5 = 15 from rfl] at hx239_2); (try rw [show ((3 : Int)).toNat = 3 from rfl] at hx239_3); (try rw [show 3 * 5 = 15 from rfl] at hx239_3); (try rw [show ((3 : Int)).toNat = 3 from rfl] at hx239_4); (try rw [show 3 * 5 = 15 from rfl] at hx239_4); replace p239 := eq_true p239; replace q239 := eq_true q239
          go_wp2_with (first | (go_at_call 14; (with_reducible refine (modbus_Check.calls 0 t240 _ A16.out).mono ?_); rintro e w18 ⟨rfl, hb⟩; replace HO232 := sA (Kd.R_below (rkw HO232.out) hb); replace HO235 := sA (Kd.R_below (rkw HO235.out) hb); replace HB := bst HB hb; (try clear hb)))
          go_meet
          case rel => exact ⟨_, ((t240 != 0)), (by first | rfl | (simp; done) | (simp [*]; done)), H', ⟨by first | omega | exact Nat.le_refl _⟩, ⟨hbw HB.out⟩⟩
         ·rw [if_neg c15] at H
          have c15b0 : (((rd_T48 t233 3).f1) == 33) = false := beq_eq_false_iff_ne.mpr c15; have c15b1 : (((rd_T48 t233 3).f1) != 33) = true := bne_iff_ne.mpr c15; have H' := sA H; clear H; obtain ⟨Ao19, co19, eo19⟩ := Kd.R_slice HO235.out; subst eo19; have p237 : 0 ≤ (0 : Int) := (by omega); have q237 : 0 < (t233.length : Int) := of_decide_eq_true (by first | (with_reducible assumption) | assumption); obtain ⟨ad237, e237, hx237_0, hx237_1, hx237_2, hx237_3, hx237_4⟩ := at_T48 (Kd.R_reads' HO235.out).2.2 0 p237 q237
          cases e237
          have qi237 : (0 < t233.length) = True := eq_true (by omega); (try rw [show ((0 : Int)).toNat = 0 from rfl] at hx237_0); (try rw [show 0 * 5 = 0 from rfl] at hx237_0); (try rw [Addr.add_zero'] at hx237_0); (try rw [show ((0 : Int)).toNat = 0 from rfl] at hx237_1); (try rw [show 0 * 5 = 0 from rfl] at hx237_1); (try rw [Addr.add_zero'] at hx237_1); (try rw [show ((0 : Int)).toNat = 0 from rfl] at hx237_2); (try rw [show 0 * 5 = 0 from rfl] at hx237_2); (try rw [Addr.add_zero'] at hx237_2); (try rw [show ((0 : Int)).toNat = 0 from rfl] at hx237_3); (try rw [show 0 * 5 = 0 from rfl] at hx237_3); (try rw [Addr.add_zero'] at hx237_3); (try rw [show ((0 : Int)).toNat = 0 from rfl] at hx237_4); (try rw [show 0 * 5 = 0 from rfl] at hx237_4); (try rw [Addr.add_zero'] at hx237_4); replace p237 := eq_true p237; replace q237 := eq_true q237; have p238 : 0 ≤ (2 : Int) := (by omega); have q238 : 2 < (t233.length : Int) := of_decide_eq_true (by first | (with_reducible assumption) | assumption); obtain ⟨ad238, e238, hx238_0, hx238_1, hx238_2, hx238_3, hx238_4⟩ := at_T48 (Kd.R_reads' HO235.out).2.2 2 p238 q238; obtain rfl : ad237 = ad238 := (by injection e238); (try simp only [show (2 : Int).toNat = 2 from rfl, Nat.reduceMul, Nat.reduceEqDiff, Go.Addr.add, ↓reduceIte] at hx238_0); (try simp only [show (2 : Int).toNat = 2 from rfl, Nat.reduceMul, Nat.reduceEqDiff, Go.Addr.add, ↓reduceIte] at hx238_1); (try simp only [show (2 : Int).toNat = 2 from rfl, Nat.reduceMul, Nat.reduceEqDiff, Go.Addr.add, ↓reduceIte] at hx238_2); (try simp only [show (2 : Int).toNat = 2 from rfl, Nat.reduceMul, Nat.reduceEqDiff, Go.Addr.add, ↓reduceIte] at hx238_3); (try simp only [show (2 : Int).toNat = 2 from rfl, Nat.reduceMul, Nat.reduceEqDiff, Go.Addr.add, ↓reduceIte] at hx238_4); have qi238 : (2 < t233.length) = True := eq_true (by omega); (try rw [show ((2 : Int)).toNat = 2 from rfl] at hx238_0); (try rw [show 2 * 5 = 10 from rfl] at hx238_0); (try rw [show ((2 : Int)).toNat = 2 from rfl] at hx238_1); (try rw [show 2 * 5 = 10 from rfl] at hx238_1); (try rw [show ((2 : Int)).toNat = 2 from rfl] at hx238_2); (try rw [show 2 * 5 = 10 from rfl] at hx238_2); (try rw [show ((2 : Int)).toNat = 2 from rfl] at hx238_3); (try rw [show 2 * 5 = 10 from rfl] at hx238_3); (try rw [show ((2 : Int)).toNat = 2 from rfl] at hx238_4); (try rw [show 2 * 5 = 10 from rfl] at hx238_4); replace p238 := eq_true p238; replace q238 := eq_true q238; have p239 : 0 ≤ (3 : Int) := (by omega); have q239 : 3 < (t233.length : Int) := of_decide_eq_true (by first | (with_reducible assumption) | assumption); obtain ⟨ad239, e239, hx239_0, hx239_1, hx239_2, hx239_3, hx239_4⟩ := at_T48 (Kd.R_reads' HO235.out).2.2 3 p239 q239; obtain rfl : ad237 = ad239 := (by injection e239); (try simp only [show (3 : Int).toNat = 3 from rfl, Nat.reduceMul, Nat.reduceEqDiff, Go.Addr.add, ↓reduceIte] at hx239_0); (try simp only [show (3 : Int).toNat = 3 from rfl, Nat.reduceMul, Nat.reduceEqDiff, Go.Addr.add, ↓reduceIte] at hx239_1); (try simp only [show (3 : Int).toNat = 3 from rfl, Nat.reduceMul, Nat.reduceEqDiff, Go.Addr.add, ↓reduceIte] at hx239_2)
          (try simp only [show (3 : Int).toNat = 3 from rfl, Nat.reduceMul, Nat.reduceEqDiff, Go.Addr.add, ↓reduceIte] at hx239_3); (try simp only [show (3 : Int).toNat = 3 from rfl, Nat.reduceMul, Nat.reduceEqDiff, Go.Addr.add, ↓reduceIte] at hx239_4); have qi239 : (3 < t233.length) = True := eq_true (by omega); (try rw [show ((3 : Int)).toNat = 3 from rfl] at hx239_0); (try rw [show 3 * 5 = 15 from rfl] at hx239_0); (try rw [show ((3 : Int)).toNat = 3 from rfl] at hx239_1); (try rw [show 3 * 5 = 15 from rfl] at hx239_1); (try rw [show ((3 : Int)).toNat = 3 from rfl] at hx239_2); (try rw [show 3 * 5 = 15 from rfl] at hx239_2); (try rw [show ((3 : Int)).toNat = 3 from rfl] at hx239_3); (try rw [show 3 * 5 = 15 from rfl] at hx239_3); (try rw [show ((3 : Int)).toNat = 3 from rfl] at hx239_4); (try rw [show 3 * 5 = 15 from rfl] at hx239_4); replace p239 := eq_true p239; replace q239 := eq_true q239
          go_wp2
          go_meet
          case rel => exact ⟨_, (true), (by first | rfl | (simp; done) | (simp [*]; done)), H', ⟨by first | omega | exact Nat.le_refl _⟩, ⟨hbw HB.out⟩⟩
        ·rw [if_neg c14] at H
         exact absurd H (by simp)
       ·rw [if_neg c13] at H
        have c13b0 : (((rd_T48 t233 2).f1) == 64) = false := beq_eq_false_iff_ne.mpr c13; have c13b1 : (((rd_T48 t233 2).f1) != 64) = true := bne_iff_ne.mpr c13; have H' := sA H; clear H; obtain ⟨Ao20, co20, eo20⟩ := Kd.R_slice HO235.out; subst eo20; have p237 : 0 ≤ (0 : Int) := (by omega); have q237 : 0 < (t233.length : Int) := of_decide_eq_true (by first | (with_reducible assumption) | assumption); obtain ⟨ad237, e237, hx237_0, hx237_1, hx237_2, hx237_3, hx237_4⟩ := at_T48 (Kd.R_reads' HO235.out).2.2 0 p237 q237
        cases e237
        have qi237 : (0 < t233.length) = True := eq_true (by omega); (try rw [show ((0 : Int)).toNat = 0 from rfl] at hx237_0); (try rw [show 0 * 5 = 0 from rfl] at hx237_0); (try rw [Addr.add_zero'] at hx237_0); (try rw [show ((0 : Int)).toNat = 0 from rfl] at hx237_1); (try rw [show 0 * 5 = 0 from rfl] at hx237_1); (try rw [Addr.add_zero'] at hx237_1); (try rw [show ((0 : Int)).toNat = 0 from rfl] at hx237_2); (try rw [show 0 * 5 = 0 from rfl] at hx237_2); (try rw [Addr.add_zero'] at hx237_2); (try rw [show ((0 : Int)).toNat = 0 from rfl] at hx237_3); (try rw [show 0 * 5 = 0 from rfl] at hx237_3); (try rw [Addr.add_zero'] at hx237_3); (try rw [show ((0 : Int)).toNat = 0 from rfl] at hx237_4); (try rw [show 0 * 5 = 0 from rfl] at hx237_4); (try rw [Addr.add_zero'] at hx237_4); replace p237 := eq_true p237; replace q237 := eq_true q237; have p238 : 0 ≤ (2 : Int) := (by omega); have q238 : 2 < (t233.length : Int) := of_decide_eq_true (by first | (with_reducible assumption) | assumption); obtain ⟨ad238, e238, hx238_0, hx238_1, hx238_2, hx238_3, hx238_4⟩ := at_T48 (Kd.R_reads' HO235.out).2.2 2 p238 q238; obtain rfl : ad237 = ad238 := (by injection e238); (try simp only [show (2 : Int).toNat = 2 from rfl, Nat.reduceMul, Nat.reduceEqDiff, Go.Addr.add, ↓reduceIte] at hx238_0); (try simp only [show (2 : Int).toNat = 2 from rfl, Nat.reduceMul, Nat.reduceEqDiff, Go.Addr.add, ↓reduceIte] at hx238_1); (try simp only [show (2 : Int).toNat = 2 from rfl, Nat.reduceMul, Nat.reduceEqDiff, Go.Addr.add, ↓reduceIte] at hx238_2); (try simp only [show (2 : Int).toNat = 2 from rfl, Nat.reduceMul, Nat.reduceEqDiff, Go.Addr.add, ↓reduceIte] at hx238_3); (try simp only [show (2 : Int).toNat = 2 from rfl, Nat.reduceMul, Nat.reduceEqDiff, Go.Addr.add, ↓reduceIte] at hx238_4); have qi238 : (2 < t233.length) = True := eq_true (by omega); (try rw [show ((2 : Int)).toNat = 2 from rfl] at hx238_0); (try rw [show 2 * 5 = 10 from rfl] at hx238_0); (try rw [show ((2 : Int)).toNat = 2 from rfl] at hx238_1); (try rw [show 2 * 5 = 10 from rfl] at hx238_1); (try rw [show ((2 : Int)).toNat = 2 from rfl] at hx238_2); (try rw [show 2 * 5 = 10 from rfl] at hx238_2); (try rw [show ((2 : Int)).toNat = 2 from rfl] at hx238_3); (try rw [show 2 * 5 = 10 from rfl] at hx238_3); (try rw [show ((2 : Int)).toNat = 2 from rfl] at hx238_4); (try rw [show 2 * 5 = 10 from rfl] at hx238_4); replace p238 := eq_true p238; replace q238 := eq_true q238
        go_wp2
        go_meet
        case rel => exact ⟨_, (true), (by first | rfl | (simp; done) | (simp [*]; done)), H', ⟨by first | omega | exact Nat.le_refl _⟩, ⟨hbw HB.out⟩⟩
      ·rw [if_neg c12] at H
       exact absurd H (by simp)
    ·rw [if_neg c9] at H
     exact absurd H (by simp)
   ·rw [if_neg c8] at H
    have c8b0 : ((t233.length : Int) == 4) = false := beq_eq_false_iff_ne.mpr c8; have c8b1 : ((t233.length : Int) != 4) = true := bne_iff_ne.mpr c8; have H' := sA H; clear H; obtain ⟨Ao21, co21, eo21⟩ := Kd.R_slice HO235.out; subst eo21
    go_wp2
    go_meet
    case rel => exact ⟨_, (true), (by first | rfl | (simp; done) | (simp [*]; done)), H', ⟨by first | omega | exact Nat.le_refl _⟩, ⟨hbw HB.out⟩⟩
  ·rw [if_neg c7] at H
   have c7b0 : (t236 == 0) = false := beq_eq_false_iff_ne.mpr c7; have c7b1 : (t236 != 0) = true := bne_iff_ne.mpr c7
   (first | rw [c7b0] | (simp only [i64_w, i32_w]; rw [c7b0]) | skip)
   have H' := sA H; clear H
   go_wp2
   go_meet
   case rel => exact ⟨_, (true), (by first | rfl | (simp; done) | (simp [*]; done)), H', ⟨by first | omega | exact Nat.le_refl _⟩, ⟨hbw HB.out⟩⟩
 case rest =>
  clear HC2
  try clear c5
  obtain ⟨kq, x43_1, rfl, HA, HJ1, HB⟩ := hcut
  cases kq with
  | zero => exact absurd HA.out (by simp [signalbenchlaw30_lives.j0])
  | succ kj1 =>
   have H := HA.out; clear HA
   simp only [signalbenchlaw30_lives.j0] at H
   by_cases c22 : x43_1 = true
   ·subst c22
    have H1 : (some false) = some r := by rw [if_pos rfl] at H; exact H
    clear H; have H := H1; clear H1; obtain rfl := Option.some.inj H
    go_wp2
    go_ret
    exact ⟨eW_, hbw HB.out⟩
   ·replace c22 := Bool.eq_false_iff.mpr c22
    subst c22
    have H1 : ((signalbenchlaw30_events.f kj1 (([(⟨0, 1, 0, (⟨#[]⟩ : ByteArray), 0⟩ : S48), (⟨0, 3, 0, (⟨#[]⟩ : ByteArray), 0⟩ : S48), (⟨0, 64, 0, (⟨#[]⟩ : ByteArray), 0⟩ : S48), (⟨0, 33, 0, (⟨#[]⟩ : ByteArray), 0⟩ : S48)] : List (S48))) 1).bind fun t244 => ((modbus_Decode.f kj1 5 t244).bind fun t247 => (if (t247.length : Int) = 1 then (if 0 < (t247.length : Int) then (some (((rd_T32 t247 0).f0) == 5 && (((rd_T32 t247 0).f1) == 0 && (((rd_T32 t247 0).f2) == 4 && (((rd_T32 t247 0).f3) == 1 && (((rd_T32 t247 0).f4) == 3 && ((((rd_T32 t247 0).f5).toList) == ([] : List UInt8) && (((rd_T32 t247 0).f6) == 0)))))))) else (none)) else (some false)))) = some r := by rw [if_neg (show ¬ (false = true) by decide)] at H; exact H
    clear H; have H := H1; clear H1; obtain ⟨y241, hy241⟩ : ∃ y_ : List (S48), y_ = (([(⟨0, 1, 0, (⟨#[]⟩ : ByteArray), 0⟩ : S48), (⟨0, 3, 0, (⟨#[]⟩ : ByteArray), 0⟩ : S48), (⟨0, 64, 0, (⟨#[]⟩ : ByteArray), 0⟩ : S48), (⟨0, 33, 0, (⟨#[]⟩ : ByteArray), 0⟩ : S48)] : List (S48))) := ⟨_, rfl⟩
    replace H : ((signalbenchlaw30_events.f kj1 y241 1).bind fun t244 => ((modbus_Decode.f kj1 5 t244).bind fun t247 => (if (t247.length : Int) = 1 then (if 0 < (t247.length : Int) then (some (((rd_T32 t247 0).f0) == 5 && (((rd_T32 t247 0).f1) == 0 && (((rd_T32 t247 0).f2) == 4 && (((rd_T32 t247 0).f3) == 1 && (((rd_T32 t247 0).f4) == 3 && ((((rd_T32 t247 0).f5).toList) == ([] : List UInt8) && (((rd_T32 t247 0).f6) == 0)))))))) else (none)) else (some false)))) = some r := by first | (rw [hy241]; with_reducible exact H) | (have H2_ := (Option.bind_some _ _).symm.trans H; rw [hy241]; with_reducible exact H2_) | (have H2_ := (Option.bind_some _ _).symm.trans H; with_reducible exact H2_) | with_reducible exact H | (rw [hy241]; exact H) | exact H
    have Ny241 := sA hy241; clear hy241; replace H := Option.bind_eq_some_iff.mp H; obtain ⟨t244, A230, H⟩ := H; replace H : ((modbus_Decode.f kj1 5 t244).bind fun t247 => (if (t247.length : Int) = 1 then (if 0 < (t247.length : Int) then (some (((rd_T32 t247 0).f0) == 5 && (((rd_T32 t247 0).f1) == 0 && (((rd_T32 t247 0).f2) == 4 && (((rd_T32 t247 0).f3) == 1 && (((rd_T32 t247 0).f4) == 3 && ((((rd_T32 t247 0).f5).toList) == ([] : List UInt8) && (((rd_T32 t247 0).f6) == 0)))))))) else (none)) else (some false))) = some r := H; have A23 := sA A230; clear A230; replace H := Option.bind_eq_some_iff.mp H; obtain ⟨t247, A240, H⟩ := H; replace H : (if (t247.length : Int) = 1 then (if 0 < (t247.length : Int) then (some (((rd_T32 t247 0).f0) == 5 && (((rd_T32 t247 0).f1) == 0 && (((rd_T32 t247 0).f2) == 4 && (((rd_T32 t247 0).f3) == 1 && (((rd_T32 t247 0).f4) == 3 && ((((rd_T32 t247 0).f5).toList) == ([] : List UInt8) && (((rd_T32 t247 0).f6) == 0)))))))) else (none)) else (some false)) = some r := H; have A24 := sA A240; clear A240
    by_cases c25 : (t247.length : Int) = 1
    ·rw [if_pos c25] at H
     have c25b0 : ((t247.length : Int) == 1) = true := beq_iff_eq.mpr c25; have c25b1 : ((t247.length : Int) != 1) = false := bne_eq_false_iff_eq.mpr c25; clear c25
     by_cases c26 : 0 < (t247.length : Int)
     ·rw [if_pos c26] at H
      have c26b0 : decide (0 < (t247.length : Int)) = true := decide_eq_true c26; have c26b1 : decide (0 < t247.length) = true := decide_eq_true (by omega); clear c26; obtain rfl := Option.some.inj H
      go_wp2_with (first | ((with_reducible refine gate_dst (N := 49) rfl ?_); (try (refine gate_guard (by first | rfl | (go_simp; done)) ?_; dsimp only)); refine Kd.R_lit k48 _ 48 ?hg (N := 49) ?hd (xs := ([(⟨0, 1, 0, (⟨#[]⟩ : ByteArray), 0⟩ : S48), (⟨0, 3, 0, (⟨#[]⟩ : ByteArray), 0⟩ : S48), (⟨0, 64, 0, (⟨#[]⟩ : ByteArray), 0⟩ : S48), (⟨0, 33, 0, (⟨#[]⟩ : ByteArray), 0⟩ : S48)] : List (S48))) (inner := [.int .i64 0, .int .i64 1, .int .i64 0, .string (⟨#[]⟩ : ByteArray), .int .i64 0, .int .i64 0, .int .i64 3, .int .i64 0, .string (⟨#[]⟩ : ByteArray), .int .i64 0, .int .i64 0, .int .i64 64, .int .i64 0, .string (⟨#[]⟩ : ByteArray), .int .i64 0, .int .i64 0, .int .i64 33, .int .i64 0, .string (⟨#[]⟩ : ByteArray), .int .i64 0]) (ok := fun _ => True) (okp := fun _ => True) ?hr ?hp (fun _ hk => hk) trivial (Below.refl _ _) (Nat.le_refl _) (by simp) ?_; (case hd => rfl); (case hg => rfl); (case hr => first | (go_simp; done) | (go_simp; rfl)); (case hp => exact (Reps.c5 (show Kd.M k48 _ _ _ (⟨0, 1, 0, (⟨#[]⟩ : ByteArray), 0⟩ : S48) [.int .i64 0, .int .i64 1, .int .i64 0, .string (⟨#[]⟩ : ByteArray), .int .i64 0] from (k48_mkM _ _ _ (⟨0, 1, 0, (⟨#[]⟩ : ByteArray), 0⟩ : S48) )) (Reps.c5 (show Kd.M k48 _ _ _ (⟨0, 3, 0, (⟨#[]⟩ : ByteArray), 0⟩ : S48) [.int .i64 0, .int .i64 3, .int .i64 0, .string (⟨#[]⟩ : ByteArray), .int .i64 0] from (k48_mkM _ _ _ (⟨0, 3, 0, (⟨#[]⟩ : ByteArray), 0⟩ : S48) )) (Reps.c5 (show Kd.M k48 _ _ _ (⟨0, 64, 0, (⟨#[]⟩ : ByteArray), 0⟩ : S48) [.int .i64 0, .int .i64 64, .int .i64 0, .string (⟨#[]⟩ : ByteArray), .int .i64 0] from (k48_mkM _ _ _ (⟨0, 64, 0, (⟨#[]⟩ : ByteArray), 0⟩ : S48) )) (Reps.c5 (show Kd.M k48 _ _ _ (⟨0, 33, 0, (⟨#[]⟩ : ByteArray), 0⟩ : S48) [.int .i64 0, .int .i64 33, .int .i64 0, .string (⟨#[]⟩ : ByteArray), .int .i64 0] from (k48_mkM _ _ _ (⟨0, 33, 0, (⟨#[]⟩ : ByteArray), 0⟩ : S48) )) (Reps.none _ _)))))); intro v242 w27 ho28 hb hg_ hnew_; clear hg_ hnew_; (first | rw [← Ny241.out] at ho28 | (simp only [Int.reduceToNat] at ho28; rw [← Ny241.out] at ho28)); have HO243 := sA (Kd.R_lower ho28 (below_size (hbw HB.out))); replace HB := bst HB hb; clear hb ho28; obtain ⟨Ao29, co29, eo29⟩ := Kd.R_slice HO243.out; subst eo29) | ((with_reducible refine gate_callee (f := 25) rfl ?_); refine goesK (some 50) Tryd.func25 #[.slice Ao29 y241.length co29, .int .i64 1] ?_; (with_reducible refine (signalbenchlaw30_events.calls kj1 _ _ y241 1 t244 _ ?side1 ?side2 A23.out).mono ?_); (case side1 => repeat (first | exact (Kd.R_reads' HO243.out).2.2 | (with_reducible refine Kd.C_alloc ?_ _) | (with_reducible refine Kd.C_drewN ?_ _) | (with_reducible refine Kd.C_drew ?_))); (case side2 => exact (Kd.R_reads' HO243.out).2.1); rintro e w30 ⟨v245, rfl, ho0, hb⟩; refine ⟨_, rfl, ?_⟩; have HO246 := sA (Kd.R_lower ho0 (below_size (hbw HB.out))); replace HO243 := sA (Kd.R_below (rkw HO243.out) hb); replace HB := bst HB hb; (try clear hb); (try clear hk); (try clear ho0); obtain ⟨Ao31, co31, eo31⟩ := Kd.R_slice HO246.out; subst eo31) | ((with_reducible refine gate_callee (f := 18) rfl ?_); refine goesK (some 51) Tryd.func18 #[.agg #[.int .i64 5], .slice Ao31 t244.length co31] ?_; (with_reducible refine (modbus_Decode.calls kj1 5 _ _ t244 t247 _ ?side1 ?side2 ?side3 A24.out).mono ?_); (case side1 => refine TabOk.below hT_ ?_; repeat (first | (with_reducible first | exact HB.out | apply below_alloc | apply pw_below_drewN | apply below_drew1) | exact HB.out)); (case side2 => repeat (first | exact (Kd.R_reads' HO246.out).2.2 | (with_reducible refine Kd.C_alloc ?_ _) | (with_reducible refine Kd.C_drewN ?_ _) | (with_reducible refine Kd.C_drew ?_))); (case side3 => exact (Kd.R_reads' HO246.out).2.1); rintro e w32 ⟨v248, rfl, ho0, hb⟩; refine ⟨_, rfl, ?_⟩; have HO249 := sA (Kd.R_lower (Kd.R_new' ho0 (Kd.R_lt (rkw HO246.out))) (below_size (hbw HB.out))); replace HO243 := sA (Kd.R_below (rkw HO243.out) hb); replace HO246 := sA (Kd.R_elder' (rkw HO246.out) (Kd.R_base ho0) hb); replace HB := bst HB hb; (try clear hb); (try clear hk); (try clear ho0); obtain ⟨Ao33, co33, eo33⟩ := Kd.R_slice HO249.out; subst eo33; have p250 : 0 ≤ (0 : Int) := (by omega); have q250 : 0 < (t247.length : Int) := of_decide_eq_true (by first | (with_reducible assumption) | assumption); obtain ⟨ad250, e250, hx250_0, hx250_1, hx250_2, hx250_3, hx250_4, hx250_5, hx250_6⟩ := at_T32 (Kd.R_reads' HO249.out).2.2 0 p250 q250; cases e250; have qi250 : (0 < t247.length) = True := eq_true (by omega); (try rw [show ((0 : Int)).toNat = 0 from rfl] at hx250_0); (try rw [show 0 * 7 = 0 from rfl] at hx250_0); (try rw [Addr.add_zero'] at hx250_0); (try rw [show ((0 : Int)).toNat = 0 from rfl] at hx250_1); (try rw [show 0 * 7 = 0 from rfl] at hx250_1); (try rw [Addr.add_zero'] at hx250_1); (try rw [show ((0 : Int)).toNat = 0 from rfl] at hx250_2); (try rw [show 0 * 7 = 0 from rfl] at hx250_2); (try rw [Addr.add_zero'] at hx250_2); (try rw [show ((0 : Int)).toNat = 0 from rfl] at hx250_3); (try rw [show 0 * 7 = 0 from rfl] at hx250_3); (try rw [Addr.add_zero'] at hx250_3); (try rw [show ((0 : Int)).toNat = 0 from rfl] at hx250_4); (try rw [show 0 * 7 = 0 from rfl] at hx250_4); (try rw [Addr.add_zero'] at hx250_4); (try rw [show ((0 : Int)).toNat = 0 from rfl] at hx250_5); (try rw [show 0 * 7 = 0 from rfl] at hx250_5); (try rw [Addr.add_zero'] at hx250_5); (try rw [show ((0 : Int)).toNat = 0 from rfl] at hx250_6); (try rw [show 0 * 7 = 0 from rfl] at hx250_6); (try rw [Addr.add_zero'] at hx250_6); replace p250 := eq_true p250; replace q250 := eq_true q250))
      go_ret
      exact ⟨eW_, hbw HB.out⟩
     ·rw [if_neg c26] at H
      exact absurd H (by simp)
    ·rw [if_neg c25] at H
     have c25b0 : ((t247.length : Int) == 1) = false := beq_eq_false_iff_ne.mpr c25; have c25b1 : ((t247.length : Int) != 1) = true := bne_iff_ne.mpr c25; obtain rfl := Option.some.inj H
     go_wp2_with (first | ((with_reducible refine gate_dst (N := 49) rfl ?_); (try (refine gate_guard (by first | rfl | (go_simp; done)) ?_; dsimp only)); refine Kd.R_lit k48 _ 48 ?hg (N := 49) ?hd (xs := ([(⟨0, 1, 0, (⟨#[]⟩ : ByteArray), 0⟩ : S48), (⟨0, 3, 0, (⟨#[]⟩ : ByteArray), 0⟩ : S48), (⟨0, 64, 0, (⟨#[]⟩ : ByteArray), 0⟩ : S48), (⟨0, 33, 0, (⟨#[]⟩ : ByteArray), 0⟩ : S48)] : List (S48))) (inner := [.int .i64 0, .int .i64 1, .int .i64 0, .string (⟨#[]⟩ : ByteArray), .int .i64 0, .int .i64 0, .int .i64 3, .int .i64 0, .string (⟨#[]⟩ : ByteArray), .int .i64 0, .int .i64 0, .int .i64 64, .int .i64 0, .string (⟨#[]⟩ : ByteArray), .int .i64 0, .int .i64 0, .int .i64 33, .int .i64 0, .string (⟨#[]⟩ : ByteArray), .int .i64 0]) (ok := fun _ => True) (okp := fun _ => True) ?hr ?hp (fun _ hk => hk) trivial (Below.refl _ _) (Nat.le_refl _) (by simp) ?_; (case hd => rfl); (case hg => rfl); (case hr => first | (go_simp; done) | (go_simp; rfl)); (case hp => exact (Reps.c5 (show Kd.M k48 _ _ _ (⟨0, 1, 0, (⟨#[]⟩ : ByteArray), 0⟩ : S48) [.int .i64 0, .int .i64 1, .int .i64 0, .string (⟨#[]⟩ : ByteArray), .int .i64 0] from (k48_mkM _ _ _ (⟨0, 1, 0, (⟨#[]⟩ : ByteArray), 0⟩ : S48) )) (Reps.c5 (show Kd.M k48 _ _ _ (⟨0, 3, 0, (⟨#[]⟩ : ByteArray), 0⟩ : S48) [.int .i64 0, .int .i64 3, .int .i64 0, .string (⟨#[]⟩ : ByteArray), .int .i64 0] from (k48_mkM _ _ _ (⟨0, 3, 0, (⟨#[]⟩ : ByteArray), 0⟩ : S48) )) (Reps.c5 (show Kd.M k48 _ _ _ (⟨0, 64, 0, (⟨#[]⟩ : ByteArray), 0⟩ : S48) [.int .i64 0, .int .i64 64, .int .i64 0, .string (⟨#[]⟩ : ByteArray), .int .i64 0] from (k48_mkM _ _ _ (⟨0, 64, 0, (⟨#[]⟩ : ByteArray), 0⟩ : S48) )) (Reps.c5 (show Kd.M k48 _ _ _ (⟨0, 33, 0, (⟨#[]⟩ : ByteArray), 0⟩ : S48) [.int .i64 0, .int .i64 33, .int .i64 0, .string (⟨#[]⟩ : ByteArray), .int .i64 0] from (k48_mkM _ _ _ (⟨0, 33, 0, (⟨#[]⟩ : ByteArray), 0⟩ : S48) )) (Reps.none _ _)))))); intro v242 w34 ho35 hb hg_ hnew_; clear hg_ hnew_; (first | rw [← Ny241.out] at ho35 | (simp only [Int.reduceToNat] at ho35; rw [← Ny241.out] at ho35)); have HO243 := sA (Kd.R_lower ho35 (below_size (hbw HB.out))); replace HB := bst HB hb; clear hb ho35; obtain ⟨Ao36, co36, eo36⟩ := Kd.R_slice HO243.out; subst eo36) | ((with_reducible refine gate_callee (f := 25) rfl ?_); refine goesK (some 50) Tryd.func25 #[.slice Ao36 y241.length co36, .int .i64 1] ?_; (with_reducible refine (signalbenchlaw30_events.calls kj1 _ _ y241 1 t244 _ ?side1 ?side2 A23.out).mono ?_); (case side1 => repeat (first | exact (Kd.R_reads' HO243.out).2.2 | (with_reducible refine Kd.C_alloc ?_ _) | (with_reducible refine Kd.C_drewN ?_ _) | (with_reducible refine Kd.C_drew ?_))); (case side2 => exact (Kd.R_reads' HO243.out).2.1); rintro e w37 ⟨v245, rfl, ho0, hb⟩; refine ⟨_, rfl, ?_⟩; have HO246 := sA (Kd.R_lower ho0 (below_size (hbw HB.out))); replace HO243 := sA (Kd.R_below (rkw HO243.out) hb); replace HB := bst HB hb; (try clear hb); (try clear hk); (try clear ho0); obtain ⟨Ao38, co38, eo38⟩ := Kd.R_slice HO246.out; subst eo38) | ((with_reducible refine gate_callee (f := 18) rfl ?_); refine goesK (some 51) Tryd.func18 #[.agg #[.int .i64 5], .slice Ao38 t244.length co38] ?_; (with_reducible refine (modbus_Decode.calls kj1 5 _ _ t244 t247 _ ?side1 ?side2 ?side3 A24.out).mono ?_); (case side1 => refine TabOk.below hT_ ?_; repeat (first | (with_reducible first | exact HB.out | apply below_alloc | apply pw_below_drewN | apply below_drew1) | exact HB.out)); (case side2 => repeat (first | exact (Kd.R_reads' HO246.out).2.2 | (with_reducible refine Kd.C_alloc ?_ _) | (with_reducible refine Kd.C_drewN ?_ _) | (with_reducible refine Kd.C_drew ?_))); (case side3 => exact (Kd.R_reads' HO246.out).2.1); rintro e w39 ⟨v248, rfl, ho0, hb⟩; refine ⟨_, rfl, ?_⟩; have HO249 := sA (Kd.R_lower (Kd.R_new' ho0 (Kd.R_lt (rkw HO246.out))) (below_size (hbw HB.out))); replace HO243 := sA (Kd.R_below (rkw HO243.out) hb); replace HO246 := sA (Kd.R_elder' (rkw HO246.out) (Kd.R_base ho0) hb); replace HB := bst HB hb; (try clear hb); (try clear hk); (try clear ho0); obtain ⟨Ao40, co40, eo40⟩ := Kd.R_slice HO249.out; subst eo40))
     go_ret
     exact ⟨eW_, hbw HB.out⟩

/-! ### signalbenchref30_Start: function 10 -/
def signalbenchref30_Start.f (a0_0 : Int) : Option (Int × Int × Int × Int × Int × Int × Int × ByteArray) := some (0, 0, 0, 0, 0, 0, 0, (⟨#[]⟩ : ByteArray))
set_option maxHeartbeats 8000000 in
set_option maxRecDepth 100000 in
theorem signalbenchref30_Start.calls (a0_0 : Int) (r1 : Int) (r2 : Int) (r3 : Int) (r4 : Int) (r5 : Int) (r6 : Int) (r7 : Int) (r8 : ByteArray) (w : World) (h : signalbenchref30_Start.f a0_0 = some (r1, r2, r3, r4, r5, r6, r7, r8)) :
  Calls Tryd.prog 10 #[.agg #[.int .i64 a0_0]] w fun e w' => e = .returned (.agg #[.int .i64 r1, .int .i64 r2, .int .i64 r3, .int .i64 r4, .int .i64 r5, .int .i64 r6, .int .i64 r7, .string r8]) ∧ Below w.heap.size w w' := by
 have hu23 := Tryd.underlying23; have hu27 := Tryd.underlying27; have HB := sA (Below.refl w.heap.size w); have H : (some (0, 0, 0, 0, 0, 0, 0, (⟨#[]⟩ : ByteArray))) = some (r1, r2, r3, r4, r5, r6, r7, r8) := h; clear h
 simp only [Option.some.injEq, Prod.mk.injEq] at H
 obtain ⟨rfl, rfl, rfl, rfl, rfl, rfl, rfl, rfl⟩ := H
 go_enter Tryd.func10, Tryd.ntmps10
 go_wp2_with (first | ((with_reducible refine gate_dst (N := 1) rfl ?_); refine boxK 1 #[.int .i64 a0_0] 23 ?_; intro gb251 hg w2 hbox hb; have BK251 := sA hbox; have GW251 := bsz HB hg; have GE251 := bsz HB hg; replace HB := bst HB hb; clear hb hbox hg) | ((with_reducible refine gate_dst (N := 2) rfl ?_); refine boxK 2 #[.int .i64 0, .int .i64 0, .int .i64 0, .int .i64 0, .int .i64 0, .int .i64 0, .int .i64 0, .string (⟨#[]⟩ : ByteArray)] 27 ?_; intro gb252 hg w3 hbox hb; have BK252 := sA hbox; have GW252 := bsz HB hg; have GE252 := bsz HB hg; have NB251_252 := bnl BK251 hg; have NB252_251 := bng BK251 hg; replace BK251 := sA (blkb BK251.out hb); replace HB := bst HB hb; clear hb hbox hg; have hnb4 := NB252_251.out; have hnc4 := NB251_252.out; obtain ⟨_,_,_,_,_,_,_,_,_,_,_,_,_,_,_,_⟩ := cQ8 BK252))
 refine bodyPost_ret (results_cell_row rfl _ _ gb252 27 #[.int .i64 0, .int .i64 0, .int .i64 0, .int .i64 0, .int .i64 0, .int .i64 0, .int .i64 0, .string (⟨#[]⟩ : ByteArray)] (0, 0) _ rfl (by (with_reducible repeat (first | refine blk_drewN ?_ _ | refine blk_drew ?_ | refine blk_alloc ?_ _)); refine blk_put8 (.int .i64 0) (.int .i64 0) (.int .i64 0) (.int .i64 0) (.int .i64 0) (.int .i64 0) (.int .i64 0) (.string (⟨#[]⟩ : ByteArray)) ?_; (with_reducible repeat (first | refine blk_drewN ?_ _ | refine blk_drew ?_ | refine blk_alloc ?_ _)); exact BK252.out) Tryd.underlying27 rfl (by kernel_rfl)) rfl ?_
 exact ⟨eW_, hbw HB.out⟩

/-! ### signalbenchref30_Check: function 15 -/
def signalbenchref30_Check.f (a0_0 : Int) : Option (Int) := if a0_0 < 0 then (some 2) else (if a0_0 > 1048576 then (some 2) else (some 0))
set_option maxHeartbeats 8000000 in
set_option maxRecDepth 100000 in
theorem signalbenchref30_Check.calls (a0_0 : Int) (r : Int) (w : World) (h : signalbenchref30_Check.f a0_0 = some r) :
  Calls Tryd.prog 15 #[.agg #[.int .i64 a0_0]] w fun e w' => e = .returned (.int .i64 r) ∧ Below w.heap.size w w' := by
 have hu23 := Tryd.underlying23; have HB := sA (Below.refl w.heap.size w); have H : (if a0_0 < 0 then (some 2) else (if a0_0 > 1048576 then (some 2) else (some 0))) = some r := h; clear h
 by_cases c2 : a0_0 < 0
 ·rw [if_pos c2] at H
  have c2b0 : decide (a0_0 < 0) = true := decide_eq_true c2; clear c2; obtain rfl := Option.some.inj H
  go_enter Tryd.func15, Tryd.ntmps15
  go_wp2_with (first | ((with_reducible refine gate_dst (N := 1) rfl ?_); refine boxK 1 #[.int .i64 a0_0] 23 ?_; intro gb253 hg w3 hbox hb; have BK253 := sA hbox; have GW253 := bsz HB hg; have GE253 := bsz HB hg; replace HB := bst HB hb; clear hb hbox hg; obtain ⟨_,_⟩ := cQ1 BK253))
  go_ret
  exact ⟨eW_, hbw HB.out⟩
 ·rw [if_neg c2] at H
  have c2b0 : decide (a0_0 < 0) = false := decide_eq_false c2; clear c2
  by_cases c5 : a0_0 > 1048576
  ·rw [if_pos c5] at H
   have c5b0 : decide (1048576 < a0_0) = true := decide_eq_true c5; clear c5; obtain rfl := Option.some.inj H
   go_enter Tryd.func15, Tryd.ntmps15
   go_wp2_with (first | ((with_reducible refine gate_dst (N := 1) rfl ?_); refine boxK 1 #[.int .i64 a0_0] 23 ?_; intro gb253 hg w6 hbox hb; have BK253 := sA hbox; have GW253 := bsz HB hg; have GE253 := bsz HB hg; replace HB := bst HB hb; clear hb hbox hg; obtain ⟨_,_⟩ := cQ1 BK253))
   go_ret
   exact ⟨eW_, hbw HB.out⟩
  ·rw [if_neg c5] at H
   have c5b0 : decide (1048576 < a0_0) = false := decide_eq_false c5; clear c5; obtain rfl := Option.some.inj H
   go_enter Tryd.func15, Tryd.ntmps15
   go_wp2_with (first | ((with_reducible refine gate_dst (N := 1) rfl ?_); refine boxK 1 #[.int .i64 a0_0] 23 ?_; intro gb253 hg w8 hbox hb; have BK253 := sA hbox; have GW253 := bsz HB hg; have GE253 := bsz HB hg; replace HB := bst HB hb; clear hb hbox hg; obtain ⟨_,_⟩ := cQ1 BK253))
   go_ret
   exact ⟨eW_, hbw HB.out⟩

/-! ### signalbenchref07_Valid: function 35 -/
def signalbenchref07_Valid.f (a0_0 : Int) (a0_1 : Int) (a0_2 : Int) (a0_3 : Int) (a0_4 : Int) (a0_5 : ByteArray) (a0_6 : Int) : Option (Bool) := if a0_0 < 1 then (some false) else (if a0_0 > 8 then (some false) else (if a0_1 < 0 then (some false) else (if a0_1 > a0_2 then (some false) else (if a0_2 > 1099511627776 then (some false) else (if (a0_5.size : Int) > 4096 then (some false) else (if a0_6 < 0 then (some false) else (if a0_6 > 12 then (some false) else (if a0_3 ≥ (-9007199254740992) then (if a0_3 ≤ 9007199254740992 then (if a0_4 ≥ (-9007199254740992) then (some (decide (a0_4 ≤ 9007199254740992))) else (some false)) else (some false)) else (some false)))))))))
set_option maxHeartbeats 8000000 in
set_option maxRecDepth 100000 in
theorem signalbenchref07_Valid.calls (a0_0 : Int) (a0_1 : Int) (a0_2 : Int) (a0_3 : Int) (a0_4 : Int) (a0_5 : ByteArray) (a0_6 : Int) (r : Bool) (w : World) (h : signalbenchref07_Valid.f a0_0 a0_1 a0_2 a0_3 a0_4 a0_5 a0_6 = some r) :
  Calls Tryd.prog 35 #[.agg #[.int .i64 a0_0, .int .i64 a0_1, .int .i64 a0_2, .int .i64 a0_3, .int .i64 a0_4, .string a0_5, .int .i64 a0_6]] w fun e w' => e = .returned (.bool r) ∧ Below w.heap.size w w' := by
 have hu32 := Tryd.underlying32; have HB := sA (Below.refl w.heap.size w); have H : (if a0_0 < 1 then (some false) else (if a0_0 > 8 then (some false) else (if a0_1 < 0 then (some false) else (if a0_1 > a0_2 then (some false) else (if a0_2 > 1099511627776 then (some false) else (if (a0_5.size : Int) > 4096 then (some false) else (if a0_6 < 0 then (some false) else (if a0_6 > 12 then (some false) else (if a0_3 ≥ (-9007199254740992) then (if a0_3 ≤ 9007199254740992 then (if a0_4 ≥ (-9007199254740992) then (some (decide (a0_4 ≤ 9007199254740992))) else (some false)) else (some false)) else (some false)))))))))) = some r := h; clear h
 by_cases c2 : a0_0 < 1
 ·rw [if_pos c2] at H
  have c2b0 : decide (a0_0 < 1) = true := decide_eq_true c2; clear c2; obtain rfl := Option.some.inj H
  go_enter Tryd.func35, Tryd.ntmps35
  go_wp2_with (first | ((with_reducible refine gate_dst (N := 1) rfl ?_); (try (refine gate_guard (by first | rfl | (go_simp; done)) ?_; dsimp only)); refine boxK 1 #[.int .i64 a0_0, .int .i64 a0_1, .int .i64 a0_2, .int .i64 a0_3, .int .i64 a0_4, .string a0_5, .int .i64 a0_6] 32 ?_; intro gb254 hg w3 hbox hb; have BK254 := sA hbox; have GW254 := bsz HB hg; have GE254 := bsz HB hg; replace HB := bst HB hb; clear hb hbox hg; obtain ⟨_,_,_,_,_,_,_,_,_,_,_,_,_,_⟩ := cQ7 BK254))
  go_ret
  exact ⟨eW_, hbw HB.out⟩
 ·rw [if_neg c2] at H
  have c2b0 : decide (a0_0 < 1) = false := decide_eq_false c2; clear c2
  by_cases c5 : a0_0 > 8
  ·rw [if_pos c5] at H
   have c5b0 : decide (8 < a0_0) = true := decide_eq_true c5; clear c5; obtain rfl := Option.some.inj H
   go_enter Tryd.func35, Tryd.ntmps35
   go_wp2_with (first | ((with_reducible refine gate_dst (N := 1) rfl ?_); (try (refine gate_guard (by first | rfl | (go_simp; done)) ?_; dsimp only)); refine boxK 1 #[.int .i64 a0_0, .int .i64 a0_1, .int .i64 a0_2, .int .i64 a0_3, .int .i64 a0_4, .string a0_5, .int .i64 a0_6] 32 ?_; intro gb254 hg w6 hbox hb; have BK254 := sA hbox; have GW254 := bsz HB hg; have GE254 := bsz HB hg; replace HB := bst HB hb; clear hb hbox hg; obtain ⟨_,_,_,_,_,_,_,_,_,_,_,_,_,_⟩ := cQ7 BK254))
   go_ret
   exact ⟨eW_, hbw HB.out⟩
  ·rw [if_neg c5] at H
   have c5b0 : decide (8 < a0_0) = false := decide_eq_false c5; clear c5
   by_cases c8 : a0_1 < 0
   ·rw [if_pos c8] at H
    have c8b0 : decide (a0_1 < 0) = true := decide_eq_true c8; clear c8; obtain rfl := Option.some.inj H
    go_enter Tryd.func35, Tryd.ntmps35
    go_wp2_with (first | ((with_reducible refine gate_dst (N := 1) rfl ?_); (try (refine gate_guard (by first | rfl | (go_simp; done)) ?_; dsimp only)); refine boxK 1 #[.int .i64 a0_0, .int .i64 a0_1, .int .i64 a0_2, .int .i64 a0_3, .int .i64 a0_4, .string a0_5, .int .i64 a0_6] 32 ?_; intro gb254 hg w9 hbox hb; have BK254 := sA hbox; have GW254 := bsz HB hg; have GE254 := bsz HB hg; replace HB := bst HB hb; clear hb hbox hg; obtain ⟨_,_,_,_,_,_,_,_,_,_,_,_,_,_⟩ := cQ7 BK254))
    go_ret
    exact ⟨eW_, hbw HB.out⟩
   ·rw [if_neg c8] at H
    have c8b0 : decide (a0_1 < 0) = false := decide_eq_false c8; clear c8
    by_cases c11 : a0_1 > a0_2
    ·rw [if_pos c11] at H
     have c11b0 : decide (a0_2 < a0_1) = true := decide_eq_true c11; clear c11; obtain rfl := Option.some.inj H
     go_enter Tryd.func35, Tryd.ntmps35
     go_wp2_with (first | ((with_reducible refine gate_dst (N := 1) rfl ?_); (try (refine gate_guard (by first | rfl | (go_simp; done)) ?_; dsimp only)); refine boxK 1 #[.int .i64 a0_0, .int .i64 a0_1, .int .i64 a0_2, .int .i64 a0_3, .int .i64 a0_4, .string a0_5, .int .i64 a0_6] 32 ?_; intro gb254 hg w12 hbox hb; have BK254 := sA hbox; have GW254 := bsz HB hg; have GE254 := bsz HB hg; replace HB := bst HB hb; clear hb hbox hg; obtain ⟨_,_,_,_,_,_,_,_,_,_,_,_,_,_⟩ := cQ7 BK254))
     go_ret
     exact ⟨eW_, hbw HB.out⟩
    ·rw [if_neg c11] at H
     have c11b0 : decide (a0_2 < a0_1) = false := decide_eq_false c11; clear c11
     by_cases c14 : a0_2 > 1099511627776
     ·rw [if_pos c14] at H
      have c14b0 : decide (1099511627776 < a0_2) = true := decide_eq_true c14; clear c14; obtain rfl := Option.some.inj H
      go_enter Tryd.func35, Tryd.ntmps35
      go_wp2_with (first | ((with_reducible refine gate_dst (N := 1) rfl ?_); (try (refine gate_guard (by first | rfl | (go_simp; done)) ?_; dsimp only)); refine boxK 1 #[.int .i64 a0_0, .int .i64 a0_1, .int .i64 a0_2, .int .i64 a0_3, .int .i64 a0_4, .string a0_5, .int .i64 a0_6] 32 ?_; intro gb254 hg w15 hbox hb; have BK254 := sA hbox; have GW254 := bsz HB hg; have GE254 := bsz HB hg; replace HB := bst HB hb; clear hb hbox hg; obtain ⟨_,_,_,_,_,_,_,_,_,_,_,_,_,_⟩ := cQ7 BK254))
      go_ret
      exact ⟨eW_, hbw HB.out⟩
     ·rw [if_neg c14] at H
      have c14b0 : decide (1099511627776 < a0_2) = false := decide_eq_false c14; clear c14
      by_cases c17 : (a0_5.size : Int) > 4096
      ·rw [if_pos c17] at H
       have c17b0 : decide (4096 < (a0_5.size : Int)) = true := decide_eq_true c17; have c17b1 : decide (4096 < a0_5.size) = true := decide_eq_true (by omega); clear c17; obtain rfl := Option.some.inj H
       go_enter Tryd.func35, Tryd.ntmps35
       go_wp2_with (first | ((with_reducible refine gate_dst (N := 1) rfl ?_); (try (refine gate_guard (by first | rfl | (go_simp; done)) ?_; dsimp only)); refine boxK 1 #[.int .i64 a0_0, .int .i64 a0_1, .int .i64 a0_2, .int .i64 a0_3, .int .i64 a0_4, .string a0_5, .int .i64 a0_6] 32 ?_; intro gb254 hg w18 hbox hb; have BK254 := sA hbox; have GW254 := bsz HB hg; have GE254 := bsz HB hg; replace HB := bst HB hb; clear hb hbox hg; obtain ⟨_,_,_,_,_,_,_,_,_,_,_,_,_,_⟩ := cQ7 BK254))
       go_ret
       exact ⟨eW_, hbw HB.out⟩
      ·rw [if_neg c17] at H
       have c17b0 : decide (4096 < (a0_5.size : Int)) = false := decide_eq_false c17; have c17b1 : decide (4096 < a0_5.size) = false := decide_eq_false (by omega); clear c17
       by_cases c20 : a0_6 < 0
       ·rw [if_pos c20] at H
        have c20b0 : decide (a0_6 < 0) = true := decide_eq_true c20; clear c20; obtain rfl := Option.some.inj H
        go_enter Tryd.func35, Tryd.ntmps35
        go_wp2_with (first | ((with_reducible refine gate_dst (N := 1) rfl ?_); (try (refine gate_guard (by first | rfl | (go_simp; done)) ?_; dsimp only)); refine boxK 1 #[.int .i64 a0_0, .int .i64 a0_1, .int .i64 a0_2, .int .i64 a0_3, .int .i64 a0_4, .string a0_5, .int .i64 a0_6] 32 ?_; intro gb254 hg w21 hbox hb; have BK254 := sA hbox; have GW254 := bsz HB hg; have GE254 := bsz HB hg; replace HB := bst HB hb; clear hb hbox hg; obtain ⟨_,_,_,_,_,_,_,_,_,_,_,_,_,_⟩ := cQ7 BK254))
        go_ret
        exact ⟨eW_, hbw HB.out⟩
       ·rw [if_neg c20] at H
        have c20b0 : decide (a0_6 < 0) = false := decide_eq_false c20; clear c20
        by_cases c23 : a0_6 > 12
        ·rw [if_pos c23] at H
         have c23b0 : decide (12 < a0_6) = true := decide_eq_true c23; clear c23; obtain rfl := Option.some.inj H
         go_enter Tryd.func35, Tryd.ntmps35
         go_wp2_with (first | ((with_reducible refine gate_dst (N := 1) rfl ?_); (try (refine gate_guard (by first | rfl | (go_simp; done)) ?_; dsimp only)); refine boxK 1 #[.int .i64 a0_0, .int .i64 a0_1, .int .i64 a0_2, .int .i64 a0_3, .int .i64 a0_4, .string a0_5, .int .i64 a0_6] 32 ?_; intro gb254 hg w24 hbox hb; have BK254 := sA hbox; have GW254 := bsz HB hg; have GE254 := bsz HB hg; replace HB := bst HB hb; clear hb hbox hg; obtain ⟨_,_,_,_,_,_,_,_,_,_,_,_,_,_⟩ := cQ7 BK254))
         go_ret
         exact ⟨eW_, hbw HB.out⟩
        ·rw [if_neg c23] at H
         have c23b0 : decide (12 < a0_6) = false := decide_eq_false c23; clear c23
         by_cases c26 : a0_3 ≥ (-9007199254740992)
         ·rw [if_pos c26] at H
          have c26b0 : decide ((-9007199254740992) ≤ a0_3) = true := decide_eq_true c26; clear c26
          by_cases c27 : a0_3 ≤ 9007199254740992
          ·rw [if_pos c27] at H
           have c27b0 : decide (a0_3 ≤ 9007199254740992) = true := decide_eq_true c27; clear c27
           by_cases c28 : a0_4 ≥ (-9007199254740992)
           ·rw [if_pos c28] at H
            have c28b0 : decide ((-9007199254740992) ≤ a0_4) = true := decide_eq_true c28; clear c28; obtain rfl := Option.some.inj H
            go_enter Tryd.func35, Tryd.ntmps35
            go_wp2_with (first | ((with_reducible refine gate_dst (N := 1) rfl ?_); (try (refine gate_guard (by first | rfl | (go_simp; done)) ?_; dsimp only)); refine boxK 1 #[.int .i64 a0_0, .int .i64 a0_1, .int .i64 a0_2, .int .i64 a0_3, .int .i64 a0_4, .string a0_5, .int .i64 a0_6] 32 ?_; intro gb254 hg w29 hbox hb; have BK254 := sA hbox; have GW254 := bsz HB hg; have GE254 := bsz HB hg; replace HB := bst HB hb; clear hb hbox hg; obtain ⟨_,_,_,_,_,_,_,_,_,_,_,_,_,_⟩ := cQ7 BK254))
            go_ret
            exact ⟨eW_, hbw HB.out⟩
           ·rw [if_neg c28] at H
            have c28b0 : decide ((-9007199254740992) ≤ a0_4) = false := decide_eq_false c28; clear c28; obtain rfl := Option.some.inj H
            go_enter Tryd.func35, Tryd.ntmps35
            go_wp2_with (first | ((with_reducible refine gate_dst (N := 1) rfl ?_); (try (refine gate_guard (by first | rfl | (go_simp; done)) ?_; dsimp only)); refine boxK 1 #[.int .i64 a0_0, .int .i64 a0_1, .int .i64 a0_2, .int .i64 a0_3, .int .i64 a0_4, .string a0_5, .int .i64 a0_6] 32 ?_; intro gb254 hg w31 hbox hb; have BK254 := sA hbox; have GW254 := bsz HB hg; have GE254 := bsz HB hg; replace HB := bst HB hb; clear hb hbox hg; obtain ⟨_,_,_,_,_,_,_,_,_,_,_,_,_,_⟩ := cQ7 BK254))
            go_ret
            exact ⟨eW_, hbw HB.out⟩
          ·rw [if_neg c27] at H
           have c27b0 : decide (a0_3 ≤ 9007199254740992) = false := decide_eq_false c27; clear c27; obtain rfl := Option.some.inj H
           go_enter Tryd.func35, Tryd.ntmps35
           go_wp2_with (first | ((with_reducible refine gate_dst (N := 1) rfl ?_); (try (refine gate_guard (by first | rfl | (go_simp; done)) ?_; dsimp only)); refine boxK 1 #[.int .i64 a0_0, .int .i64 a0_1, .int .i64 a0_2, .int .i64 a0_3, .int .i64 a0_4, .string a0_5, .int .i64 a0_6] 32 ?_; intro gb254 hg w33 hbox hb; have BK254 := sA hbox; have GW254 := bsz HB hg; have GE254 := bsz HB hg; replace HB := bst HB hb; clear hb hbox hg; obtain ⟨_,_,_,_,_,_,_,_,_,_,_,_,_,_⟩ := cQ7 BK254))
           go_ret
           exact ⟨eW_, hbw HB.out⟩
         ·rw [if_neg c26] at H
          have c26b0 : decide ((-9007199254740992) ≤ a0_3) = false := decide_eq_false c26; clear c26; obtain rfl := Option.some.inj H
          go_enter Tryd.func35, Tryd.ntmps35
          go_wp2_with (first | ((with_reducible refine gate_dst (N := 1) rfl ?_); (try (refine gate_guard (by first | rfl | (go_simp; done)) ?_; dsimp only)); refine boxK 1 #[.int .i64 a0_0, .int .i64 a0_1, .int .i64 a0_2, .int .i64 a0_3, .int .i64 a0_4, .string a0_5, .int .i64 a0_6] 32 ?_; intro gb254 hg w35 hbox hb; have BK254 := sA hbox; have GW254 := bsz HB hg; have GE254 := bsz HB hg; replace HB := bst HB hb; clear hb hbox hg; obtain ⟨_,_,_,_,_,_,_,_,_,_,_,_,_,_⟩ := cQ7 BK254))
          go_ret
          exact ⟨eW_, hbw HB.out⟩

end Go.Proofs.YtmalhgidhieamaaDoor.PModbusDecodes
