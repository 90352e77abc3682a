-- Written by a program of this session (wip/tools/pr.py), which calls the kit's print with changes of its own.
import Derived.Test.YtbggkaofkohecaaPSyncRoundTripsx0
import Derived.Test.YtbggkaofkohecaaPSyncRoundTripsx6
namespace Go.Proofs.Ytbggkaofkohecaa.PSyncRoundTrips
open Go.RowKit Go.Proofs.YtbggkaofkohecaaW.PrintWords Go.Proofs.YtbggkaofkohecaaW.PrintLast Go.Proofs.YtbggkaofkohecaaW.PrintMore
attribute [local go_sem] max2_int min2_int max_two min_two max_three min_three max_four min_four   -- for this text's walks alone
set_option linter.unusedVariables false
set_option linter.unusedSimpArgs false

/-! ### bits_FromBytes: function 39 -/
def bits_FromBytes.l0 : Nat → ByteArray → Bool → List Int → Int → Int → Option (ByteArray)
 | 0, _, _, _, _, _ => none
 | k + 1, x0, x1, x5, x15, x16 => if x16 < x15 then (if 0 ≤ x16 then (if x16 < (x0.size : Int) then ((bits_FromInt.f k (wrap64 (bt x0 x16)) 8 x1).bind fun t241 => (if x5.length + t241.size < 140737488355328 then (bits_FromBytes.l0 k x0 x1 (x5 ++ bytesOf t241) x15 (wrap64 (x16 + 1))) else (none))) else (none)) else (none)) else (some (strOfNums x5))
def bits_FromBytes.f (k : Nat) (a0 : ByteArray) (a1 : Bool) : Option (ByteArray) := if (a0.size : Int) > 8192 then (some (⟨#[]⟩ : ByteArray)) else (if 0 ≤ (wrap64 (8 * (a0.size : Int))) then (if (wrap64 (8 * (a0.size : Int)) : Int).toNat ≤ 281474976710656 then (bits_FromBytes.l0 k a0 a1 (List.replicate 0 0) (a0.size : Int) 0) else (none)) else (none))
theorem bits_FromBytes.mono_l : ∀ k, (∀ y0 y1 y2 y3 y4, LeO (bits_FromBytes.l0 k y0 y1 y2 y3 y4) (bits_FromBytes.l0 (k + 1) y0 y1 y2 y3 y4))
 | 0 => fun _ _ _ _ _ r h => by simp [bits_FromBytes.l0] at h
 | k + 1 => by
  have ih0 := bits_FromBytes.mono_l k
  ·intro y0 y1 y2 y3 y4
   unfold bits_FromBytes.l0
   repeat' first
   | (with_reducible exact ih0 _ _ _ _ _)
   | (with_reducible exact bits_FromInt.mono _ _ _ _)
   | (with_reducible exact LeO.refl _)
   | (with_reducible exact LeO.none _)
   | (with_reducible refine LeO.ite ?_ ?_)
   | (with_reducible refine LeO.bind ?_ (fun _ => ?_))
   | exact ih0 _ _ _ _ _
   | exact bits_FromInt.mono _ _ _ _
   | exact LeO.none _
   | refine LeO.ite ?_ ?_
   | refine LeO.bind ?_ (fun _ => ?_)
theorem bits_FromBytes.mono : ∀ a0 a1 k, LeO (bits_FromBytes.f k a0 a1) (bits_FromBytes.f (k + 1) a0 a1) := by
 intro a0 a1 k
 have ih0 := bits_FromBytes.mono_l k
 unfold bits_FromBytes.f
 repeat' first
   | (with_reducible exact ih0 _ _ _ _ _)
   | (with_reducible exact bits_FromInt.mono _ _ _ _)
   | (with_reducible exact LeO.refl _)
   | (with_reducible exact LeO.none _)
   | (with_reducible refine LeO.ite ?_ ?_)
   | (with_reducible refine LeO.bind ?_ (fun _ => ?_))
   | exact ih0 _ _ _ _ _
   | exact bits_FromInt.mono _ _ _ _
   | exact LeO.none _
   | refine LeO.ite ?_ ?_
   | refine LeO.bind ?_ (fun _ => ?_)
set_option maxHeartbeats 8000000 in
set_option maxRecDepth 100000 in
theorem bits_FromBytes.calls (k : Nat) (a0 : ByteArray) (a1 : Bool) (r : ByteArray) (w : World) (h : bits_FromBytes.f k a0 a1 = some r) :
  Calls Try.prog 39 #[.string a0, .bool a1] w fun e w' => e = .returned (.string r) ∧ Below w.heap.size w w' := by
 have HB := Aside0.mk (Below.refl w.heap.size w)
 have H : (if (a0.size : Int) > 8192 then (some (⟨#[]⟩ : ByteArray)) else (if 0 ≤ (wrap64 (8 * (a0.size : Int))) then (if (wrap64 (8 * (a0.size : Int)) : Int).toNat ≤ 281474976710656 then (bits_FromBytes.l0 k a0 a1 (List.replicate 0 0) (a0.size : Int) 0) else (none)) else (none))) = some r := h
 clear h
 by_cases c3 : (a0.size : Int) > 8192
 ·rw [if_pos c3] at H
  have c3b0 : decide (8192 < (a0.size : Int)) = true := decide_eq_true c3
  have c3b1 : decide (8192 < a0.size) = true := decide_eq_true (by omega)
  clear c3
  obtain rfl := Option.some.inj H
  go_enter Try.func39, Try.ntmps39
  go_wp2
  go_ret
  exact ⟨by first | rfl | (simp [errW_none, errW_some] <;> rfl) | (simp [*, errW_none, errW_some] <;> rfl), by repeat (first | (with_reducible first | exact HB.out | apply below_alloc | apply pw_below_drewN | apply below_drew1) | exact HB.out)⟩
 ·rw [if_neg c3] at H
  have c3b0 : decide (8192 < (a0.size : Int)) = false := decide_eq_false c3
  have c3b1 : decide (8192 < a0.size) = false := decide_eq_false (by omega)
  clear c3
  obtain ⟨ji4, hji4⟩ : ∃ j_ : Int, (wrap64 (8 * (a0.size : Int))) = j_ := ⟨_, rfl⟩
  replace H : (if 0 ≤ (ji4) then (if (ji4 : Int).toNat ≤ 281474976710656 then (bits_FromBytes.l0 k a0 a1 (List.replicate 0 0) (a0.size : Int) 0) else (none)) else (none)) = some r := by first | (rw [hji4] at H; exact H) | (simp only [hji4] at H ⊢; exact H)
  have hji4w : (IntKind.i64.wrap (8 * (a0.size : Int))) = ji4 := (i64_w _).trans hji4
  by_cases c5 : 0 ≤ (ji4)
  ·rw [if_pos c5] at H
   have c5b0 := eq_true c5
   have c5b1 : decide (0 ≤ (ji4)) = true := decide_eq_true c5
   clear c5
   by_cases c6 : (ji4 : Int).toNat ≤ 281474976710656
   ·rw [if_pos c6] at H
    have c6b0 := eq_true c6
    have c6b1 : decide ((ji4 : Int).toNat ≤ 281474976710656) = true := decide_eq_true c6
    clear c6
    obtain ⟨y238, hy238⟩ : ∃ y_ : List Int, y_ = (List.replicate 0 0) := ⟨_, rfl⟩
    replace H : (bits_FromBytes.l0 k a0 a1 y238 (a0.size : Int) 0) = some r := by first | (rw [hy238]; with_reducible exact H) | (have H2_ := (Option.bind_some _ _).symm.trans H; rw [hy238]; with_reducible exact H2_) | (have H2_ := (Option.bind_some _ _).symm.trans H; with_reducible exact H2_) | with_reducible exact H | (rw [hy238]; exact H) | exact H
    have Ny238 := Aside0.mk hy238
    clear hy238
    have H' := Aside0.mk H
    clear H
    go_enter Try.func39, Try.ntmps39
    go_wp2_with (first | ((with_reducible refine gate_dst (N := 13) rfl ?_); refine Kd.R_makeC (Kd.int .u8) _ 5 rfl (N := 13) rfl 53 _ _ rfl 0 ji4 rfl rfl Try.underlying53 (.int .u8 0) 1 info5 rfl (by decide) (by omega) 0 (ok := fun _ => True) (okp := fun _ => True) rfl (fun _ hk => hk) trivial (Int.le_refl 0) (of_decide_eq_true (by first | (with_reducible assumption) | assumption)) (Nat.le_trans (Nat.mul_le_mul_right _ (of_decide_eq_true (by first | (with_reducible assumption) | assumption) : ji4.toNat ≤ 281474976710656)) (by omega)) (Below.refl _ _) (Nat.le_refl _) ?_; intro v239 w7 ho8 hb hg_ hnew_; clear hg_ hnew_; (first | rw [← Ny238.out] at ho8 | (simp only [Int.reduceToNat] at ho8; rw [← Ny238.out] at ho8)); have n0_ := Aside0.mk (Kd.R_lower ho8 (below_size (hbw HB.out))); have n1_ := Aside0.mk (below_step (hbw HB.out) hb); clear HB; have HO240 := n0_; have HB := n1_; clear n0_ n1_; clear hb ho8))
    go_loopg [5, 16] k (fun kq v5 v16 w' => ∃ (x5_1 : List Int) (x16_1 : Int), v16 = .int .i64 x16_1 ∧ Aside0 (bits_FromBytes.l0 kq a0 a1 x5_1 (a0.size : Int) x16_1 = some r) ∧ Aside0 (kq ≤ k) ∧ Aside0 (Kd.R (Kd.int .u8) 5 w' w.heap.size (fun _ => True) v5 x5_1) ∧ Aside0 (Below w.heap.size w w'))
    case atStart => exact ⟨(y238), (0), (by first | rfl | (simp; done) | (simp [*]; done)), H', ⟨Nat.le_refl _⟩, ⟨by (with_reducible repeat (first | apply Kd.R_alloc | apply Kd.R_drewN | apply Kd.R_drew)); exact HO240.out⟩, ⟨by repeat (first | (with_reducible first | exact HB.out | apply below_alloc | apply pw_below_drewN | apply below_drew1) | exact HB.out)⟩⟩
    case round =>
     clear H'
     try clear p2
     try clear c3
     try clear c3b0
     try clear c3b1
     try clear c5
     try clear c5b0
     try clear c5b1
     try clear c6
     try clear c6b0
     try clear c6b1
     try clear p6
     obtain ⟨x5_1, x16_1, rfl, HA, HK1, HO_5, HB⟩ := hrel
     cases gk with
     | zero => exact absurd HA.out (by simp [bits_FromBytes.l0])
     | succ k1 =>
      have H := HA.out
      clear HA
      simp only [bits_FromBytes.l0] at H
      by_cases c9 : x16_1 < (a0.size : Int)
      ·rw [if_pos c9] at H
       have c9b0 : decide (x16_1 < (a0.size : Int)) = true := decide_eq_true c9
       clear c9
       by_cases c10 : 0 ≤ x16_1
       ·rw [if_pos c10] at H
        have c10b0 : decide (0 ≤ x16_1) = true := decide_eq_true c10
        clear c10
        by_cases c11 : x16_1 < (a0.size : Int)
        ·rw [if_pos c11] at H
         have c11b0 : decide (x16_1 < (a0.size : Int)) = true := decide_eq_true c11
         clear c11
         replace H := Option.bind_eq_some_iff.mp H
         obtain ⟨t241, A130, H⟩ := H
         replace H : (if x5_1.length + t241.size < 140737488355328 then (bits_FromBytes.l0 k1 a0 a1 (x5_1 ++ bytesOf t241) (a0.size : Int) (wrap64 (x16_1 + 1))) else (none)) = some r := H
         have A13 := Aside0.mk A130
         clear A130
         by_cases c14 : x5_1.length + t241.size < 140737488355328
         ·rw [if_pos c14] at H
          have LMc14 := Aside0.mk c14
          clear c14
          obtain ⟨y242, hy242⟩ : ∃ y_ : List Int, y_ = (x5_1 ++ bytesOf t241) := ⟨_, rfl⟩
          replace H : (bits_FromBytes.l0 k1 a0 a1 y242 (a0.size : Int) (wrap64 (x16_1 + 1))) = some r := by first | (rw [hy242]; with_reducible exact H) | (have H2_ := (Option.bind_some _ _).symm.trans H; rw [hy242]; with_reducible exact H2_) | (have H2_ := (Option.bind_some _ _).symm.trans H; with_reducible exact H2_) | with_reducible exact H | (rw [hy242]; exact H) | exact H
          have Ny242 := Aside0.mk hy242
          clear hy242
          have H' := Aside0.mk H
          clear H
          have p12 : 0 ≤ (x16_1 : Int) := of_decide_eq_true (by first | (with_reducible assumption) | assumption)
          have q12 : x16_1 < (a0.size : Int) := of_decide_eq_true (by first | (with_reducible assumption) | assumption)
          have hx12 := bt_at a0 x16_1
          replace p12 := eq_true p12
          replace q12 := eq_true q12
          go_wp2_with (first | ((with_reducible refine gate_callee (f := 50) rfl ?_); refine goesL_ (some 25) rfl rfl Try.func50 (by kernel_rfl) rfl #[.int .i64 (wrap64 (bt a0 x16_1)), .int .i64 8, .bool a1] rfl (by (try simp only [List.map_toArray, List.map_cons, List.map_nil]); first | done | rfl | (simp only [List.length_drop, List.length_take]; rfl)) ?_; (with_reducible refine (bits_FromInt.calls k1 (wrap64 (bt a0 x16_1)) 8 a1 t241 _ A13.out).mono ?_); rintro e w15 ⟨rfl, hb⟩; refine ⟨_, rfl, ?_⟩; have n0_ := Aside0.mk (Kd.R_below (rkw HO_5.out) hb); have n1_ := Aside0.mk (below_step (hbw HB.out) hb); clear HO_5; clear HB; have HO_5 := n0_; have HB := n1_; clear n0_ n1_; (try clear hb); (try clear hb2); (try clear hk); (try clear hi)) | (at_builtin; refine print_append_str (w0 := w) w.heap.size rfl (.tmp 19) _ 53 9 5 rfl Try.underlying53 Try.underlying9 info5 u5 x5_1 t241 rfl rfl ?aO ?aB ?aS ?aL ?_; (case aB => exact (hbw HB.out)); (case aO => exact (Kd.own_of_R (rkw HO_5.out))); (case aS => exact (below_size (hbw HB.out))); (case aL => have := LMc14.out; omega); intro v243 w16 ho0 hb hg; have ho := Kd.R_of_own (h1 := fun _ => rfl) (ok := fun _ => True) ho0 (fun _ _ => trivial); clear ho0; have hat := True.intro; rw [← Ny242.out] at ho; change Kd.R (Kd.int .u8) 5 w16 w.heap.size (fun _ => True) v243 y242 at ho; have n0_ := Aside0.mk (hb); have n1_ := Aside0.mk (ho); clear HB; clear HO_5; have HB := n0_; have HO244 := n1_; clear n0_ n1_; clear ho hb hg hat))
          go_roundg k1
          case measure => have := HK1.out; omega
          case rel => exact ⟨(y242), (wrap64 (x16_1 + 1)), (by first | rfl | (simp; done) | (simp [*]; done)), H', ⟨by have := HK1.out; omega⟩, ⟨by (with_reducible repeat (first | apply Kd.R_alloc | apply Kd.R_drewN | apply Kd.R_drew)); exact HO244.out⟩, ⟨by repeat (first | (with_reducible first | exact HB.out | apply below_alloc | apply pw_below_drewN | apply below_drew1) | exact HB.out)⟩⟩
         ·rw [if_neg c14] at H
          exact absurd H (by simp)
        ·rw [if_neg c11] at H
         exact absurd H (by simp)
       ·rw [if_neg c10] at H
        exact absurd H (by simp)
      ·rw [if_neg c9] at H
       have c9b0 : decide (x16_1 < (a0.size : Int)) = false := decide_eq_false c9
       clear c9
       obtain rfl := Option.some.inj H
       have hcv17 := own_string (P := Try.prog) Try.underlying53 Try.underlying5 Try.underlying9 (Kd.own_of_R HO_5.out)
       go_wp2
       go_ret
       exact ⟨by first | rfl | (simp [errW_none, errW_some] <;> rfl) | (simp only [← hji4]; first | rfl | (simp [errW_none, errW_some] <;> rfl)) | (simp [*, errW_none, errW_some] <;> rfl), by repeat (first | (with_reducible first | exact HB.out | apply below_alloc | apply pw_below_drewN | apply below_drew1) | exact HB.out)⟩
   ·rw [if_neg c6] at H
    exact absurd H (by simp)
  ·rw [if_neg c5] at H
   exact absurd H (by simp)

end Go.Proofs.Ytbggkaofkohecaa.PSyncRoundTrips
