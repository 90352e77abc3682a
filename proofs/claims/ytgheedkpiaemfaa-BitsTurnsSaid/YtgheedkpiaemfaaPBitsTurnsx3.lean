-- PRINTED BY print.sh 35421559b90ae4d0a3588c463048766b98c2df88dd9212a6774a882060cdf62d: not written by this session
import Derived.Test.YtgheedkpiaemfaaPBitsTurnsx0
import Derived.Test.YtgheedkpiaemfaaPBitsTurnsx1
import Derived.Test.YtgheedkpiaemfaaPBitsTurnsx2
namespace Go.Proofs.Ytgheedkpiaemfaa.PBitsTurns
open Go.RowKit Go.Proofs.YtgheedkpiaemfaaW.PrintWords Go.Proofs.YtgheedkpiaemfaaW.PrintLast Go.Proofs.YtgheedkpiaemfaaW.PrintMore
attribute [local go_sem] max2_int min2_int max_two min_two max_three min_three max_four min_four   -- for this text's walks alone
set_option linter.unusedVariables false
set_option linter.unusedSimpArgs false

/-! ### signalbenchlaw03_BitsTurns: function 8 -/
def signalbenchlaw03_BitsTurns.j0 : Nat → ByteArray → Bool → Option (Bool)
  | 0, _, _ => none
  | k + 1, x2, x27 => if x27 = true then (some false) else ((bits_Valid.f k x2).bind fun t131 => (if t131 = true then ((bits_Invert.f k x2).bind fun t135 => ((bits_Invert.f k t135).bind fun t136 => (if t136.toList = x2.toList then ((bits_Reverse.f k x2).bind fun t137 => ((bits_Reverse.f k t137).bind fun t138 => (if t138.toList = x2.toList then ((bits_Ones.f k x2).bind fun t139 => ((bits_Invert.f k x2).bind fun t140 => ((bits_Ones.f k t140).bind fun t141 => (some ((wrap64 (t139 + t141)) == (x2.size : Int)))))) else (some false)))) else (some false)))) else ((bits_Invert.f k x2).bind fun t132 => (if t132.toList = ([] : List UInt8) then ((bits_Reverse.f k x2).bind fun t133 => (if t133.toList = ([] : List UInt8) then ((bits_Ones.f k x2).bind fun t134 => (some (t134 == 0))) else (some false))) else (some false)))))
def signalbenchlaw03_BitsTurns.f (k : Nat) (a0 : Int) (a1 : Int) (a2 : ByteArray) : Option (Bool) := (signalbenchlaw03_lives.f k).bind fun t127 => (if t127 = true then (if (a2.size : Int) > 70000 then (some true) else (if a1 ≥ 0 then (if a1 ≤ 62 then ((bits_FromInt.f k a0 a1 true).bind fun t128 => ((bits_Reverse.f k t128).bind fun t129 => ((bits_FromInt.f k a0 a1 false).bind fun t130 => (signalbenchlaw03_BitsTurns.j0 k a2 (t129.toList != t130.toList))))) else (signalbenchlaw03_BitsTurns.j0 k a2 false)) else (signalbenchlaw03_BitsTurns.j0 k a2 false))) else (some false))
theorem signalbenchlaw03_BitsTurns.mono_l : ∀ k, (∀ y0 y1, LeO (signalbenchlaw03_BitsTurns.j0 k y0 y1) (signalbenchlaw03_BitsTurns.j0 (k + 1) y0 y1))
  | 0 => fun _ _ r h => by simp [signalbenchlaw03_BitsTurns.j0] at h
  | k + 1 => by
    have ih0 := signalbenchlaw03_BitsTurns.mono_l k
    · intro y0 y1
      unfold signalbenchlaw03_BitsTurns.j0
      repeat' first
      | (with_reducible exact ih0 _ _)
      | (with_reducible exact bits_FromInt.mono _ _ _ _)
      | (with_reducible exact bits_Invert.mono _ _)
      | (with_reducible exact bits_Ones.mono _ _)
      | (with_reducible exact bits_Reverse.mono _ _)
      | (with_reducible exact bits_Valid.mono _ _)
      | (with_reducible exact signalbenchlaw03_lives.mono _)
      | (with_reducible exact LeO.refl _)
      | (with_reducible exact LeO.none _)
      | (with_reducible refine LeO.ite ?_ ?_)
      | (with_reducible refine LeO.bind ?_ (fun _ => ?_))
      | exact ih0 _ _
      | exact bits_FromInt.mono _ _ _ _
      | exact bits_Invert.mono _ _
      | exact bits_Ones.mono _ _
      | exact bits_Reverse.mono _ _
      | exact bits_Valid.mono _ _
      | exact signalbenchlaw03_lives.mono _
      | exact LeO.none _
      | refine LeO.ite ?_ ?_
      | refine LeO.bind ?_ (fun _ => ?_)
theorem signalbenchlaw03_BitsTurns.mono : ∀ a0 a1 a2 k, LeO (signalbenchlaw03_BitsTurns.f k a0 a1 a2) (signalbenchlaw03_BitsTurns.f (k + 1) a0 a1 a2) := by
  intro a0 a1 a2 k
  have ih0 := signalbenchlaw03_BitsTurns.mono_l k
  unfold signalbenchlaw03_BitsTurns.f
  repeat' first
      | (with_reducible exact ih0 _ _)
      | (with_reducible exact bits_FromInt.mono _ _ _ _)
      | (with_reducible exact bits_Invert.mono _ _)
      | (with_reducible exact bits_Ones.mono _ _)
      | (with_reducible exact bits_Reverse.mono _ _)
      | (with_reducible exact bits_Valid.mono _ _)
      | (with_reducible exact signalbenchlaw03_lives.mono _)
      | (with_reducible exact LeO.refl _)
      | (with_reducible exact LeO.none _)
      | (with_reducible refine LeO.ite ?_ ?_)
      | (with_reducible refine LeO.bind ?_ (fun _ => ?_))
      | exact ih0 _ _
      | exact bits_FromInt.mono _ _ _ _
      | exact bits_Invert.mono _ _
      | exact bits_Ones.mono _ _
      | exact bits_Reverse.mono _ _
      | exact bits_Valid.mono _ _
      | exact signalbenchlaw03_lives.mono _
      | exact LeO.none _
      | refine LeO.ite ?_ ?_
      | refine LeO.bind ?_ (fun _ => ?_)
set_option maxHeartbeats 8000000 in
set_option maxRecDepth 100000 in
theorem signalbenchlaw03_BitsTurns.calls (k : Nat) (a0 : Int) (a1 : Int) (a2 : ByteArray) (r : Bool) (w : World) (h : signalbenchlaw03_BitsTurns.f k a0 a1 a2 = some r) :
    Calls Try.prog 8 #[.int .i64 a0, .int .i64 a1, .string a2] w fun e w' => e = .returned (.bool r) ∧ Below w.heap.size w w' := by
  have HB := Aside0.mk (Below.refl w.heap.size w)
  have H : ((signalbenchlaw03_lives.f k).bind fun t127 => (if t127 = true then (if (a2.size : Int) > 70000 then (some true) else (if a1 ≥ 0 then (if a1 ≤ 62 then ((bits_FromInt.f k a0 a1 true).bind fun t128 => ((bits_Reverse.f k t128).bind fun t129 => ((bits_FromInt.f k a0 a1 false).bind fun t130 => (signalbenchlaw03_BitsTurns.j0 k a2 (t129.toList != t130.toList))))) else (signalbenchlaw03_BitsTurns.j0 k a2 false)) else (signalbenchlaw03_BitsTurns.j0 k a2 false))) else (some false))) = some r := h
  clear h
  replace H := Option.bind_eq_some_iff.mp H
  obtain ⟨t127, A40, H⟩ := H
  replace H : (if t127 = true then (if (a2.size : Int) > 70000 then (some true) else (if a1 ≥ 0 then (if a1 ≤ 62 then ((bits_FromInt.f k a0 a1 true).bind fun t128 => ((bits_Reverse.f k t128).bind fun t129 => ((bits_FromInt.f k a0 a1 false).bind fun t130 => (signalbenchlaw03_BitsTurns.j0 k a2 (t129.toList != t130.toList))))) else (signalbenchlaw03_BitsTurns.j0 k a2 false)) else (signalbenchlaw03_BitsTurns.j0 k a2 false))) else (some false)) = some r := H
  have A4 := Aside0.mk A40
  clear A40
  by_cases c5 : t127 = true
  · subst c5
    have H1 : (if (a2.size : Int) > 70000 then (some true) else (if a1 ≥ 0 then (if a1 ≤ 62 then ((bits_FromInt.f k a0 a1 true).bind fun t128 => ((bits_Reverse.f k t128).bind fun t129 => ((bits_FromInt.f k a0 a1 false).bind fun t130 => (signalbenchlaw03_BitsTurns.j0 k a2 (t129.toList != t130.toList))))) else (signalbenchlaw03_BitsTurns.j0 k a2 false)) else (signalbenchlaw03_BitsTurns.j0 k a2 false))) = some r := by rw [if_pos rfl] at H; exact H
    clear H
    have H := H1
    clear H1
    by_cases c6 : (a2.size : Int) > 70000
    · rw [if_pos c6] at H
      have c6b0 : decide (70000 < (a2.size : Int)) = true := decide_eq_true c6
      have c6b1 : decide (70000 < a2.size) = true := decide_eq_true (by omega)
      clear c6
      obtain rfl := Option.some.inj H
      go_enter Try.func8, Try.ntmps8
      go_wp2_with (first | ((with_reducible refine gate_callee (f := 9) rfl ?_); refine goesL_ (some 7) rfl rfl Try.func9 (by kernel_rfl) rfl #[] rfl (by (try simp only [List.map_toArray, List.map_cons, List.map_nil]); first | done | rfl | (simp only [List.length_drop, List.length_take]; rfl)) ?_; (with_reducible refine (signalbenchlaw03_lives.calls k  true _ A4.out).mono ?_); rintro e w7 ⟨rfl, hb⟩; refine ⟨_, rfl, ?_⟩; have n0_ := Aside0.mk (below_step (by repeat (first | (with_reducible first | exact HB.out | apply below_alloc | apply pw_below_drewN | apply below_drew1) | exact HB.out)) hb); clear HB; have HB := n0_; clear n0_; (try clear hb); (try clear hb2); (try clear hk); (try clear hi)))
      go_ret
      exact ⟨by first | rfl | (simp [errW_none, errW_some] <;> rfl) | (simp [*, errW_none, errW_some] <;> rfl), by repeat (first | (with_reducible first | exact HB.out | apply below_alloc | apply pw_below_drewN | apply below_drew1) | exact HB.out)⟩
    · rw [if_neg c6] at H
      have c6b0 : decide (70000 < (a2.size : Int)) = false := decide_eq_false c6
      have c6b1 : decide (70000 < a2.size) = false := decide_eq_false (by omega)
      clear c6
      have HC8 := Aside0.mk H
      clear H
      go_enter Try.func8, Try.ntmps8
      go_upto_region 5 with (first | ((with_reducible refine gate_callee (f := 9) rfl ?_); refine goesL_ (some 7) rfl rfl Try.func9 (by kernel_rfl) rfl #[] rfl (by (try simp only [List.map_toArray, List.map_cons, List.map_nil]); first | done | rfl | (simp only [List.length_drop, List.length_take]; rfl)) ?_; (with_reducible refine (signalbenchlaw03_lives.calls k  true _ A4.out).mono ?_); rintro e w9 ⟨rfl, hb⟩; refine ⟨_, rfl, ?_⟩; have n0_ := Aside0.mk (below_step (by repeat (first | (with_reducible first | exact HB.out | apply below_alloc | apply pw_below_drewN | apply below_drew1) | exact HB.out)) hb); clear HB; have HB := n0_; clear n0_; (try clear hb); (try clear hb2); (try clear hk); (try clear hi)))
      (try simp only [Act.put, List.setIfInBounds_toArray, List.set_cons_zero, List.set_cons_succ])
      go_cut [27] (fun v27 wc => ∃ (kq : Nat) (x27_7 : Bool), v27 = .bool x27_7 ∧ Aside0 (signalbenchlaw03_BitsTurns.j0 kq a2 x27_7 = some r) ∧ Aside0 (kq ≤ k) ∧ Aside0 (Below w.heap.size w wc))
      case first =>
        have H := HC8.out
        clear HC8
        by_cases c10 : a1 ≥ 0
        · rw [if_pos c10] at H
          have c10b0 : decide (0 ≤ a1) = true := decide_eq_true c10
          clear c10
          (first | rw [c10b0] | (simp only [i64_w, i32_w]; rw [c10b0]) | skip)
          by_cases c11 : a1 ≤ 62
          · rw [if_pos c11] at H
            have c11b0 : decide (a1 ≤ 62) = true := decide_eq_true c11
            clear c11
            replace H := Option.bind_eq_some_iff.mp H
            obtain ⟨t128, A120, H⟩ := H
            replace H : ((bits_Reverse.f k t128).bind fun t129 => ((bits_FromInt.f k a0 a1 false).bind fun t130 => (signalbenchlaw03_BitsTurns.j0 k a2 (t129.toList != t130.toList)))) = some r := H
            have A12 := Aside0.mk A120
            clear A120
            replace H := Option.bind_eq_some_iff.mp H
            obtain ⟨t129, A130, H⟩ := H
            replace H : ((bits_FromInt.f k a0 a1 false).bind fun t130 => (signalbenchlaw03_BitsTurns.j0 k a2 (t129.toList != t130.toList))) = some r := H
            have A13 := Aside0.mk A130
            clear A130
            replace H := Option.bind_eq_some_iff.mp H
            obtain ⟨t130, A140, H⟩ := H
            replace H : (signalbenchlaw03_BitsTurns.j0 k a2 (t129.toList != t130.toList)) = some r := H
            have A14 := Aside0.mk A140
            clear A140
            have H' := Aside0.mk H
            clear H
            go_wp2_with (first | (go_at_call 12; (with_reducible refine (bits_FromInt.calls k a0 a1 true t128 _ A12.out).mono ?_); rintro e w15 ⟨rfl, hb⟩; have n0_ := Aside0.mk (below_step (by repeat (first | (with_reducible first | exact HB.out | apply below_alloc | apply pw_below_drewN | apply below_drew1) | exact HB.out)) hb); clear HB; have HB := n0_; clear n0_; (try clear hb); (try clear hb2); (try clear hk); (try clear hi)) | (go_at_call 23; (with_reducible refine (bits_Reverse.calls k t128 t129 _ A13.out).mono ?_); rintro e w16 ⟨rfl, hb⟩; have n0_ := Aside0.mk (below_step (by repeat (first | (with_reducible first | exact HB.out | apply below_alloc | apply pw_below_drewN | apply below_drew1) | exact HB.out)) hb); clear HB; have HB := n0_; clear n0_; (try clear hb); (try clear hb2); (try clear hk); (try clear hi)) | (go_at_call 12; (with_reducible refine (bits_FromInt.calls k a0 a1 false t130 _ A14.out).mono ?_); rintro e w17 ⟨rfl, hb⟩; have n0_ := Aside0.mk (below_step (by repeat (first | (with_reducible first | exact HB.out | apply below_alloc | apply pw_below_drewN | apply below_drew1) | exact HB.out)) hb); clear HB; have HB := n0_; clear n0_; (try clear hb); (try clear hb2); (try clear hk); (try clear hi)))
            go_meet
            case rel => exact ⟨_, ((t129.toList != t130.toList)), (by first | rfl | (simp; done) | (simp [*]; done)), H', ⟨by first | omega | exact Nat.le_refl _⟩, ⟨by repeat (first | (with_reducible first | exact HB.out | apply below_alloc | apply pw_below_drewN | apply below_drew1) | exact HB.out)⟩⟩
          · rw [if_neg c11] at H
            have c11b0 : decide (a1 ≤ 62) = false := decide_eq_false c11
            clear c11
            have H' := Aside0.mk H
            clear H
            go_wp2
            go_meet
            case rel => exact ⟨_, (false), (by first | rfl | (simp; done) | (simp [*]; done)), H', ⟨by first | omega | exact Nat.le_refl _⟩, ⟨by repeat (first | (with_reducible first | exact HB.out | apply below_alloc | apply pw_below_drewN | apply below_drew1) | exact HB.out)⟩⟩
        · rw [if_neg c10] at H
          have c10b0 : decide (0 ≤ a1) = false := decide_eq_false c10
          clear c10
          (first | rw [c10b0] | (simp only [i64_w, i32_w]; rw [c10b0]) | skip)
          have H' := Aside0.mk H
          clear H
          go_wp2
          go_meet
          case rel => exact ⟨_, (false), (by first | rfl | (simp; done) | (simp [*]; done)), H', ⟨by first | omega | exact Nat.le_refl _⟩, ⟨by repeat (first | (with_reducible first | exact HB.out | apply below_alloc | apply pw_below_drewN | apply below_drew1) | exact HB.out)⟩⟩
      case rest =>
        clear HC8
        try clear c1
        try clear p2
        try clear c5
        try clear c6
        try clear c6b0
        try clear c6b1
        try clear c8
        try clear c9
        try clear c10
        try clear c10b0
        try clear c11
        try clear c11b0
        obtain ⟨kq, x27_7, rfl, HA, HJ7, HB⟩ := hcut
        cases kq with
        | zero => exact absurd HA.out (by simp [signalbenchlaw03_BitsTurns.j0])
        | succ kj7 =>
          have H := HA.out
          clear HA
          simp only [signalbenchlaw03_BitsTurns.j0] at H
          by_cases c18 : x27_7 = true
          · subst c18
            have H1 : (some false) = some r := by rw [if_pos rfl] at H; exact H
            clear H
            have H := H1
            clear H1
            obtain rfl := Option.some.inj H
            go_wp2
            go_ret
            exact ⟨by first | rfl | (simp [errW_none, errW_some] <;> rfl) | (simp [*, errW_none, errW_some] <;> rfl), by repeat (first | (with_reducible first | exact HB.out | apply below_alloc | apply pw_below_drewN | apply below_drew1) | exact HB.out)⟩
          · replace c18 := Bool.eq_false_iff.mpr c18
            subst c18
            have H1 : ((bits_Valid.f kj7 a2).bind fun t131 => (if t131 = true then ((bits_Invert.f kj7 a2).bind fun t135 => ((bits_Invert.f kj7 t135).bind fun t136 => (if t136.toList = a2.toList then ((bits_Reverse.f kj7 a2).bind fun t137 => ((bits_Reverse.f kj7 t137).bind fun t138 => (if t138.toList = a2.toList then ((bits_Ones.f kj7 a2).bind fun t139 => ((bits_Invert.f kj7 a2).bind fun t140 => ((bits_Ones.f kj7 t140).bind fun t141 => (some ((wrap64 (t139 + t141)) == (a2.size : Int)))))) else (some false)))) else (some false)))) else ((bits_Invert.f kj7 a2).bind fun t132 => (if t132.toList = ([] : List UInt8) then ((bits_Reverse.f kj7 a2).bind fun t133 => (if t133.toList = ([] : List UInt8) then ((bits_Ones.f kj7 a2).bind fun t134 => (some (t134 == 0))) else (some false))) else (some false))))) = some r := by rw [if_neg (show ¬ (false = true) by decide)] at H; exact H
            clear H
            have H := H1
            clear H1
            replace H := Option.bind_eq_some_iff.mp H
            obtain ⟨t131, A190, H⟩ := H
            replace H : (if t131 = true then ((bits_Invert.f kj7 a2).bind fun t135 => ((bits_Invert.f kj7 t135).bind fun t136 => (if t136.toList = a2.toList then ((bits_Reverse.f kj7 a2).bind fun t137 => ((bits_Reverse.f kj7 t137).bind fun t138 => (if t138.toList = a2.toList then ((bits_Ones.f kj7 a2).bind fun t139 => ((bits_Invert.f kj7 a2).bind fun t140 => ((bits_Ones.f kj7 t140).bind fun t141 => (some ((wrap64 (t139 + t141)) == (a2.size : Int)))))) else (some false)))) else (some false)))) else ((bits_Invert.f kj7 a2).bind fun t132 => (if t132.toList = ([] : List UInt8) then ((bits_Reverse.f kj7 a2).bind fun t133 => (if t133.toList = ([] : List UInt8) then ((bits_Ones.f kj7 a2).bind fun t134 => (some (t134 == 0))) else (some false))) else (some false)))) = some r := H
            have A19 := Aside0.mk A190
            clear A190
            by_cases c20 : t131 = true
            · subst c20
              have H1 : ((bits_Invert.f kj7 a2).bind fun t135 => ((bits_Invert.f kj7 t135).bind fun t136 => (if t136.toList = a2.toList then ((bits_Reverse.f kj7 a2).bind fun t137 => ((bits_Reverse.f kj7 t137).bind fun t138 => (if t138.toList = a2.toList then ((bits_Ones.f kj7 a2).bind fun t139 => ((bits_Invert.f kj7 a2).bind fun t140 => ((bits_Ones.f kj7 t140).bind fun t141 => (some ((wrap64 (t139 + t141)) == (a2.size : Int)))))) else (some false)))) else (some false)))) = some r := by rw [if_pos rfl] at H; exact H
              clear H
              have H := H1
              clear H1
              replace H := Option.bind_eq_some_iff.mp H
              obtain ⟨t135, A210, H⟩ := H
              replace H : ((bits_Invert.f kj7 t135).bind fun t136 => (if t136.toList = a2.toList then ((bits_Reverse.f kj7 a2).bind fun t137 => ((bits_Reverse.f kj7 t137).bind fun t138 => (if t138.toList = a2.toList then ((bits_Ones.f kj7 a2).bind fun t139 => ((bits_Invert.f kj7 a2).bind fun t140 => ((bits_Ones.f kj7 t140).bind fun t141 => (some ((wrap64 (t139 + t141)) == (a2.size : Int)))))) else (some false)))) else (some false))) = some r := H
              have A21 := Aside0.mk A210
              clear A210
              replace H := Option.bind_eq_some_iff.mp H
              obtain ⟨t136, A220, H⟩ := H
              replace H : (if t136.toList = a2.toList then ((bits_Reverse.f kj7 a2).bind fun t137 => ((bits_Reverse.f kj7 t137).bind fun t138 => (if t138.toList = a2.toList then ((bits_Ones.f kj7 a2).bind fun t139 => ((bits_Invert.f kj7 a2).bind fun t140 => ((bits_Ones.f kj7 t140).bind fun t141 => (some ((wrap64 (t139 + t141)) == (a2.size : Int)))))) else (some false)))) else (some false)) = some r := H
              have A22 := Aside0.mk A220
              clear A220
              by_cases c23 : t136.toList = a2.toList
              · rw [if_pos c23] at H
                have c23b0 : (t136.toList == a2.toList) = true := beq_iff_eq.mpr c23
                have c23b1 : (t136.toList != a2.toList) = false := bne_eq_false_iff_eq.mpr c23
                clear c23
                replace H := Option.bind_eq_some_iff.mp H
                obtain ⟨t137, A240, H⟩ := H
                replace H : ((bits_Reverse.f kj7 t137).bind fun t138 => (if t138.toList = a2.toList then ((bits_Ones.f kj7 a2).bind fun t139 => ((bits_Invert.f kj7 a2).bind fun t140 => ((bits_Ones.f kj7 t140).bind fun t141 => (some ((wrap64 (t139 + t141)) == (a2.size : Int)))))) else (some false))) = some r := H
                have A24 := Aside0.mk A240
                clear A240
                replace H := Option.bind_eq_some_iff.mp H
                obtain ⟨t138, A250, H⟩ := H
                replace H : (if t138.toList = a2.toList then ((bits_Ones.f kj7 a2).bind fun t139 => ((bits_Invert.f kj7 a2).bind fun t140 => ((bits_Ones.f kj7 t140).bind fun t141 => (some ((wrap64 (t139 + t141)) == (a2.size : Int)))))) else (some false)) = some r := H
                have A25 := Aside0.mk A250
                clear A250
                by_cases c26 : t138.toList = a2.toList
                · rw [if_pos c26] at H
                  have c26b0 : (t138.toList == a2.toList) = true := beq_iff_eq.mpr c26
                  have c26b1 : (t138.toList != a2.toList) = false := bne_eq_false_iff_eq.mpr c26
                  clear c26
                  replace H := Option.bind_eq_some_iff.mp H
                  obtain ⟨t139, A270, H⟩ := H
                  replace H : ((bits_Invert.f kj7 a2).bind fun t140 => ((bits_Ones.f kj7 t140).bind fun t141 => (some ((wrap64 (t139 + t141)) == (a2.size : Int))))) = some r := H
                  have A27 := Aside0.mk A270
                  clear A270
                  replace H := Option.bind_eq_some_iff.mp H
                  obtain ⟨t140, A280, H⟩ := H
                  replace H : ((bits_Ones.f kj7 t140).bind fun t141 => (some ((wrap64 (t139 + t141)) == (a2.size : Int)))) = some r := H
                  have A28 := Aside0.mk A280
                  clear A280
                  replace H := Option.bind_eq_some_iff.mp H
                  obtain ⟨t141, A290, H⟩ := H
                  replace H : (some ((wrap64 (t139 + t141)) == (a2.size : Int))) = some r := H
                  have A29 := Aside0.mk A290
                  clear A290
                  obtain rfl := Option.some.inj H
                  go_wp2_with (first | ((with_reducible refine gate_callee (f := 14) rfl ?_); refine goesL_ (some 29) rfl rfl Try.func14 (by kernel_rfl) rfl #[.string a2] rfl (by (try simp only [List.map_toArray, List.map_cons, List.map_nil]); first | done | rfl | (simp only [List.length_drop, List.length_take]; rfl)) ?_; (with_reducible refine (bits_Valid.calls kj7 a2 true _ A19.out).mono ?_); rintro e w' ⟨rfl, ⟨nd, rfl⟩⟩; refine ⟨_, rfl, ?_⟩) | ((with_reducible refine gate_callee (f := 21) rfl ?_); refine goesL_ (some 45) rfl rfl Try.func21 (by kernel_rfl) rfl #[.string a2] rfl (by (try simp only [List.map_toArray, List.map_cons, List.map_nil]); first | done | rfl | (simp only [List.length_drop, List.length_take]; rfl)) ?_; (with_reducible refine (bits_Invert.calls kj7 a2 t135 _ A21.out).mono ?_); rintro e w30 ⟨rfl, hb⟩; refine ⟨_, rfl, ?_⟩; have n0_ := Aside0.mk (below_step (by repeat (first | (with_reducible first | exact HB.out | apply below_alloc | apply pw_below_drewN | apply below_drew1) | exact HB.out)) hb); clear HB; have HB := n0_; clear n0_; (try clear hb); (try clear hb2); (try clear hk); (try clear hi)) | ((with_reducible refine gate_callee (f := 21) rfl ?_); refine goesL_ (some 46) rfl rfl Try.func21 (by kernel_rfl) rfl #[.string t135] rfl (by (try simp only [List.map_toArray, List.map_cons, List.map_nil]); first | done | rfl | (simp only [List.length_drop, List.length_take]; rfl)) ?_; (with_reducible refine (bits_Invert.calls kj7 t135 t136 _ A22.out).mono ?_); rintro e w31 ⟨rfl, hb⟩; refine ⟨_, rfl, ?_⟩; have n0_ := Aside0.mk (below_step (by repeat (first | (with_reducible first | exact HB.out | apply below_alloc | apply pw_below_drewN | apply below_drew1) | exact HB.out)) hb); clear HB; have HB := n0_; clear n0_; (try clear hb); (try clear hb2); (try clear hk); (try clear hi)) | (go_at_call 23; (with_reducible refine (bits_Reverse.calls kj7 a2 t137 _ A24.out).mono ?_); rintro e w32 ⟨rfl, hb⟩; have n0_ := Aside0.mk (below_step (by repeat (first | (with_reducible first | exact HB.out | apply below_alloc | apply pw_below_drewN | apply below_drew1) | exact HB.out)) hb); clear HB; have HB := n0_; clear n0_; (try clear hb); (try clear hb2); (try clear hk); (try clear hi)) | (go_at_call 23; (with_reducible refine (bits_Reverse.calls kj7 t137 t138 _ A25.out).mono ?_); rintro e w33 ⟨rfl, hb⟩; have n0_ := Aside0.mk (below_step (by repeat (first | (with_reducible first | exact HB.out | apply below_alloc | apply pw_below_drewN | apply below_drew1) | exact HB.out)) hb); clear HB; have HB := n0_; clear n0_; (try clear hb); (try clear hb2); (try clear hk); (try clear hi)) | (go_at_call 25; (with_reducible refine (bits_Ones.calls kj7 a2 t139 _ A27.out).mono ?_); rintro e w' ⟨rfl, ⟨nd, rfl⟩⟩) | (go_at_call 21; (with_reducible refine (bits_Invert.calls kj7 a2 t140 _ A28.out).mono ?_); rintro e w34 ⟨rfl, hb⟩; have n0_ := Aside0.mk (below_step (by repeat (first | (with_reducible first | exact HB.out | apply below_alloc | apply pw_below_drewN | apply below_drew1) | exact HB.out)) hb); clear HB; have HB := n0_; clear n0_; (try clear hb); (try clear hb2); (try clear hk); (try clear hi)) | (go_at_call 25; (with_reducible refine (bits_Ones.calls kj7 t140 t141 _ A29.out).mono ?_); rintro e w' ⟨rfl, ⟨nd, rfl⟩⟩))
                  go_ret
                  exact ⟨by first | rfl | (simp [errW_none, errW_some] <;> rfl) | (simp [*, errW_none, errW_some] <;> rfl), by repeat (first | (with_reducible first | exact HB.out | apply below_alloc | apply pw_below_drewN | apply below_drew1) | exact HB.out)⟩
                · rw [if_neg c26] at H
                  have c26b0 : (t138.toList == a2.toList) = false := beq_eq_false_iff_ne.mpr c26
                  have c26b1 : (t138.toList != a2.toList) = true := bne_iff_ne.mpr c26
                  obtain rfl := Option.some.inj H
                  go_wp2_with (first | ((with_reducible refine gate_callee (f := 14) rfl ?_); refine goesL_ (some 29) rfl rfl Try.func14 (by kernel_rfl) rfl #[.string a2] rfl (by (try simp only [List.map_toArray, List.map_cons, List.map_nil]); first | done | rfl | (simp only [List.length_drop, List.length_take]; rfl)) ?_; (with_reducible refine (bits_Valid.calls kj7 a2 true _ A19.out).mono ?_); rintro e w' ⟨rfl, ⟨nd, rfl⟩⟩; refine ⟨_, rfl, ?_⟩) | ((with_reducible refine gate_callee (f := 21) rfl ?_); refine goesL_ (some 45) rfl rfl Try.func21 (by kernel_rfl) rfl #[.string a2] rfl (by (try simp only [List.map_toArray, List.map_cons, List.map_nil]); first | done | rfl | (simp only [List.length_drop, List.length_take]; rfl)) ?_; (with_reducible refine (bits_Invert.calls kj7 a2 t135 _ A21.out).mono ?_); rintro e w35 ⟨rfl, hb⟩; refine ⟨_, rfl, ?_⟩; have n0_ := Aside0.mk (below_step (by repeat (first | (with_reducible first | exact HB.out | apply below_alloc | apply pw_below_drewN | apply below_drew1) | exact HB.out)) hb); clear HB; have HB := n0_; clear n0_; (try clear hb); (try clear hb2); (try clear hk); (try clear hi)) | ((with_reducible refine gate_callee (f := 21) rfl ?_); refine goesL_ (some 46) rfl rfl Try.func21 (by kernel_rfl) rfl #[.string t135] rfl (by (try simp only [List.map_toArray, List.map_cons, List.map_nil]); first | done | rfl | (simp only [List.length_drop, List.length_take]; rfl)) ?_; (with_reducible refine (bits_Invert.calls kj7 t135 t136 _ A22.out).mono ?_); rintro e w36 ⟨rfl, hb⟩; refine ⟨_, rfl, ?_⟩; have n0_ := Aside0.mk (below_step (by repeat (first | (with_reducible first | exact HB.out | apply below_alloc | apply pw_below_drewN | apply below_drew1) | exact HB.out)) hb); clear HB; have HB := n0_; clear n0_; (try clear hb); (try clear hb2); (try clear hk); (try clear hi)) | (go_at_call 23; (with_reducible refine (bits_Reverse.calls kj7 a2 t137 _ A24.out).mono ?_); rintro e w37 ⟨rfl, hb⟩; have n0_ := Aside0.mk (below_step (by repeat (first | (with_reducible first | exact HB.out | apply below_alloc | apply pw_below_drewN | apply below_drew1) | exact HB.out)) hb); clear HB; have HB := n0_; clear n0_; (try clear hb); (try clear hb2); (try clear hk); (try clear hi)) | (go_at_call 23; (with_reducible refine (bits_Reverse.calls kj7 t137 t138 _ A25.out).mono ?_); rintro e w38 ⟨rfl, hb⟩; have n0_ := Aside0.mk (below_step (by repeat (first | (with_reducible first | exact HB.out | apply below_alloc | apply pw_below_drewN | apply below_drew1) | exact HB.out)) hb); clear HB; have HB := n0_; clear n0_; (try clear hb); (try clear hb2); (try clear hk); (try clear hi)))
                  go_ret
                  exact ⟨by first | rfl | (simp [errW_none, errW_some] <;> rfl) | (simp [*, errW_none, errW_some] <;> rfl), by repeat (first | (with_reducible first | exact HB.out | apply below_alloc | apply pw_below_drewN | apply below_drew1) | exact HB.out)⟩
              · rw [if_neg c23] at H
                have c23b0 : (t136.toList == a2.toList) = false := beq_eq_false_iff_ne.mpr c23
                have c23b1 : (t136.toList != a2.toList) = true := bne_iff_ne.mpr c23
                obtain rfl := Option.some.inj H
                go_wp2_with (first | ((with_reducible refine gate_callee (f := 14) rfl ?_); refine goesL_ (some 29) rfl rfl Try.func14 (by kernel_rfl) rfl #[.string a2] rfl (by (try simp only [List.map_toArray, List.map_cons, List.map_nil]); first | done | rfl | (simp only [List.length_drop, List.length_take]; rfl)) ?_; (with_reducible refine (bits_Valid.calls kj7 a2 true _ A19.out).mono ?_); rintro e w' ⟨rfl, ⟨nd, rfl⟩⟩; refine ⟨_, rfl, ?_⟩) | ((with_reducible refine gate_callee (f := 21) rfl ?_); refine goesL_ (some 45) rfl rfl Try.func21 (by kernel_rfl) rfl #[.string a2] rfl (by (try simp only [List.map_toArray, List.map_cons, List.map_nil]); first | done | rfl | (simp only [List.length_drop, List.length_take]; rfl)) ?_; (with_reducible refine (bits_Invert.calls kj7 a2 t135 _ A21.out).mono ?_); rintro e w39 ⟨rfl, hb⟩; refine ⟨_, rfl, ?_⟩; have n0_ := Aside0.mk (below_step (by repeat (first | (with_reducible first | exact HB.out | apply below_alloc | apply pw_below_drewN | apply below_drew1) | exact HB.out)) hb); clear HB; have HB := n0_; clear n0_; (try clear hb); (try clear hb2); (try clear hk); (try clear hi)) | ((with_reducible refine gate_callee (f := 21) rfl ?_); refine goesL_ (some 46) rfl rfl Try.func21 (by kernel_rfl) rfl #[.string t135] rfl (by (try simp only [List.map_toArray, List.map_cons, List.map_nil]); first | done | rfl | (simp only [List.length_drop, List.length_take]; rfl)) ?_; (with_reducible refine (bits_Invert.calls kj7 t135 t136 _ A22.out).mono ?_); rintro e w40 ⟨rfl, hb⟩; refine ⟨_, rfl, ?_⟩; have n0_ := Aside0.mk (below_step (by repeat (first | (with_reducible first | exact HB.out | apply below_alloc | apply pw_below_drewN | apply below_drew1) | exact HB.out)) hb); clear HB; have HB := n0_; clear n0_; (try clear hb); (try clear hb2); (try clear hk); (try clear hi)))
                go_ret
                exact ⟨by first | rfl | (simp [errW_none, errW_some] <;> rfl) | (simp [*, errW_none, errW_some] <;> rfl), by repeat (first | (with_reducible first | exact HB.out | apply below_alloc | apply pw_below_drewN | apply below_drew1) | exact HB.out)⟩
            · replace c20 := Bool.eq_false_iff.mpr c20
              subst c20
              have H1 : ((bits_Invert.f kj7 a2).bind fun t132 => (if t132.toList = ([] : List UInt8) then ((bits_Reverse.f kj7 a2).bind fun t133 => (if t133.toList = ([] : List UInt8) then ((bits_Ones.f kj7 a2).bind fun t134 => (some (t134 == 0))) else (some false))) else (some false))) = some r := by rw [if_neg (show ¬ (false = true) by decide)] at H; exact H
              clear H
              have H := H1
              clear H1
              replace H := Option.bind_eq_some_iff.mp H
              obtain ⟨t132, A410, H⟩ := H
              replace H : (if t132.toList = ([] : List UInt8) then ((bits_Reverse.f kj7 a2).bind fun t133 => (if t133.toList = ([] : List UInt8) then ((bits_Ones.f kj7 a2).bind fun t134 => (some (t134 == 0))) else (some false))) else (some false)) = some r := H
              have A41 := Aside0.mk A410
              clear A410
              by_cases c42 : t132.toList = ([] : List UInt8)
              · rw [if_pos c42] at H
                have c42b0 : (t132.toList == ([] : List UInt8)) = true := beq_iff_eq.mpr c42
                have c42b1 : (t132.toList != ([] : List UInt8)) = false := bne_eq_false_iff_eq.mpr c42
                clear c42
                replace H := Option.bind_eq_some_iff.mp H
                obtain ⟨t133, A430, H⟩ := H
                replace H : (if t133.toList = ([] : List UInt8) then ((bits_Ones.f kj7 a2).bind fun t134 => (some (t134 == 0))) else (some false)) = some r := H
                have A43 := Aside0.mk A430
                clear A430
                by_cases c44 : t133.toList = ([] : List UInt8)
                · rw [if_pos c44] at H
                  have c44b0 : (t133.toList == ([] : List UInt8)) = true := beq_iff_eq.mpr c44
                  have c44b1 : (t133.toList != ([] : List UInt8)) = false := bne_eq_false_iff_eq.mpr c44
                  clear c44
                  replace H := Option.bind_eq_some_iff.mp H
                  obtain ⟨t134, A450, H⟩ := H
                  replace H : (some (t134 == 0)) = some r := H
                  have A45 := Aside0.mk A450
                  clear A450
                  obtain rfl := Option.some.inj H
                  go_wp2_with (first | ((with_reducible refine gate_callee (f := 14) rfl ?_); refine goesL_ (some 29) rfl rfl Try.func14 (by kernel_rfl) rfl #[.string a2] rfl (by (try simp only [List.map_toArray, List.map_cons, List.map_nil]); first | done | rfl | (simp only [List.length_drop, List.length_take]; rfl)) ?_; (with_reducible refine (bits_Valid.calls kj7 a2 false _ A19.out).mono ?_); rintro e w' ⟨rfl, ⟨nd, rfl⟩⟩; refine ⟨_, rfl, ?_⟩) | ((with_reducible refine gate_callee (f := 21) rfl ?_); refine goesL_ (some 32) rfl rfl Try.func21 (by kernel_rfl) rfl #[.string a2] rfl (by (try simp only [List.map_toArray, List.map_cons, List.map_nil]); first | done | rfl | (simp only [List.length_drop, List.length_take]; rfl)) ?_; (with_reducible refine (bits_Invert.calls kj7 a2 t132 _ A41.out).mono ?_); rintro e w46 ⟨rfl, hb⟩; refine ⟨_, rfl, ?_⟩; have n0_ := Aside0.mk (below_step (by repeat (first | (with_reducible first | exact HB.out | apply below_alloc | apply pw_below_drewN | apply below_drew1) | exact HB.out)) hb); clear HB; have HB := n0_; clear n0_; (try clear hb); (try clear hb2); (try clear hk); (try clear hi)) | (go_at_call 23; (with_reducible refine (bits_Reverse.calls kj7 a2 t133 _ A43.out).mono ?_); rintro e w47 ⟨rfl, hb⟩; have n0_ := Aside0.mk (below_step (by repeat (first | (with_reducible first | exact HB.out | apply below_alloc | apply pw_below_drewN | apply below_drew1) | exact HB.out)) hb); clear HB; have HB := n0_; clear n0_; (try clear hb); (try clear hb2); (try clear hk); (try clear hi)) | (go_at_call 25; (with_reducible refine (bits_Ones.calls kj7 a2 t134 _ A45.out).mono ?_); rintro e w' ⟨rfl, ⟨nd, rfl⟩⟩))
                  go_ret
                  exact ⟨by first | rfl | (simp [errW_none, errW_some] <;> rfl) | (simp [*, errW_none, errW_some] <;> rfl), by repeat (first | (with_reducible first | exact HB.out | apply below_alloc | apply pw_below_drewN | apply below_drew1) | exact HB.out)⟩
                · rw [if_neg c44] at H
                  have c44b0 : (t133.toList == ([] : List UInt8)) = false := beq_eq_false_iff_ne.mpr c44
                  have c44b1 : (t133.toList != ([] : List UInt8)) = true := bne_iff_ne.mpr c44
                  obtain rfl := Option.some.inj H
                  go_wp2_with (first | ((with_reducible refine gate_callee (f := 14) rfl ?_); refine goesL_ (some 29) rfl rfl Try.func14 (by kernel_rfl) rfl #[.string a2] rfl (by (try simp only [List.map_toArray, List.map_cons, List.map_nil]); first | done | rfl | (simp only [List.length_drop, List.length_take]; rfl)) ?_; (with_reducible refine (bits_Valid.calls kj7 a2 false _ A19.out).mono ?_); rintro e w' ⟨rfl, ⟨nd, rfl⟩⟩; refine ⟨_, rfl, ?_⟩) | ((with_reducible refine gate_callee (f := 21) rfl ?_); refine goesL_ (some 32) rfl rfl Try.func21 (by kernel_rfl) rfl #[.string a2] rfl (by (try simp only [List.map_toArray, List.map_cons, List.map_nil]); first | done | rfl | (simp only [List.length_drop, List.length_take]; rfl)) ?_; (with_reducible refine (bits_Invert.calls kj7 a2 t132 _ A41.out).mono ?_); rintro e w48 ⟨rfl, hb⟩; refine ⟨_, rfl, ?_⟩; have n0_ := Aside0.mk (below_step (by repeat (first | (with_reducible first | exact HB.out | apply below_alloc | apply pw_below_drewN | apply below_drew1) | exact HB.out)) hb); clear HB; have HB := n0_; clear n0_; (try clear hb); (try clear hb2); (try clear hk); (try clear hi)) | (go_at_call 23; (with_reducible refine (bits_Reverse.calls kj7 a2 t133 _ A43.out).mono ?_); rintro e w49 ⟨rfl, hb⟩; have n0_ := Aside0.mk (below_step (by repeat (first | (with_reducible first | exact HB.out | apply below_alloc | apply pw_below_drewN | apply below_drew1) | exact HB.out)) hb); clear HB; have HB := n0_; clear n0_; (try clear hb); (try clear hb2); (try clear hk); (try clear hi)))
                  go_ret
                  exact ⟨by first | rfl | (simp [errW_none, errW_some] <;> rfl) | (simp [*, errW_none, errW_some] <;> rfl), by repeat (first | (with_reducible first | exact HB.out | apply below_alloc | apply pw_below_drewN | apply below_drew1) | exact HB.out)⟩
              · rw [if_neg c42] at H
                have c42b0 : (t132.toList == ([] : List UInt8)) = false := beq_eq_false_iff_ne.mpr c42
                have c42b1 : (t132.toList != ([] : List UInt8)) = true := bne_iff_ne.mpr c42
                obtain rfl := Option.some.inj H
                go_wp2_with (first | ((with_reducible refine gate_callee (f := 14) rfl ?_); refine goesL_ (some 29) rfl rfl Try.func14 (by kernel_rfl) rfl #[.string a2] rfl (by (try simp only [List.map_toArray, List.map_cons, List.map_nil]); first | done | rfl | (simp only [List.length_drop, List.length_take]; rfl)) ?_; (with_reducible refine (bits_Valid.calls kj7 a2 false _ A19.out).mono ?_); rintro e w' ⟨rfl, ⟨nd, rfl⟩⟩; refine ⟨_, rfl, ?_⟩) | ((with_reducible refine gate_callee (f := 21) rfl ?_); refine goesL_ (some 32) rfl rfl Try.func21 (by kernel_rfl) rfl #[.string a2] rfl (by (try simp only [List.map_toArray, List.map_cons, List.map_nil]); first | done | rfl | (simp only [List.length_drop, List.length_take]; rfl)) ?_; (with_reducible refine (bits_Invert.calls kj7 a2 t132 _ A41.out).mono ?_); rintro e w50 ⟨rfl, hb⟩; refine ⟨_, rfl, ?_⟩; have n0_ := Aside0.mk (below_step (by repeat (first | (with_reducible first | exact HB.out | apply below_alloc | apply pw_below_drewN | apply below_drew1) | exact HB.out)) hb); clear HB; have HB := n0_; clear n0_; (try clear hb); (try clear hb2); (try clear hk); (try clear hi)))
                go_ret
                exact ⟨by first | rfl | (simp [errW_none, errW_some] <;> rfl) | (simp [*, errW_none, errW_some] <;> rfl), by repeat (first | (with_reducible first | exact HB.out | apply below_alloc | apply pw_below_drewN | apply below_drew1) | exact HB.out)⟩
  · replace c5 := Bool.eq_false_iff.mpr c5
    subst c5
    have H1 : (some false) = some r := by rw [if_neg (show ¬ (false = true) by decide)] at H; exact H
    clear H
    have H := H1
    clear H1
    obtain rfl := Option.some.inj H
    go_enter Try.func8, Try.ntmps8
    go_wp2_with (first | ((with_reducible refine gate_callee (f := 9) rfl ?_); refine goesL_ (some 7) rfl rfl Try.func9 (by kernel_rfl) rfl #[] rfl (by (try simp only [List.map_toArray, List.map_cons, List.map_nil]); first | done | rfl | (simp only [List.length_drop, List.length_take]; rfl)) ?_; (with_reducible refine (signalbenchlaw03_lives.calls k  false _ A4.out).mono ?_); rintro e w51 ⟨rfl, hb⟩; refine ⟨_, rfl, ?_⟩; have n0_ := Aside0.mk (below_step (by repeat (first | (with_reducible first | exact HB.out | apply below_alloc | apply pw_below_drewN | apply below_drew1) | exact HB.out)) hb); clear HB; have HB := n0_; clear n0_; (try clear hb); (try clear hb2); (try clear hk); (try clear hi)))
    go_ret
    exact ⟨by first | rfl | (simp [errW_none, errW_some] <;> rfl) | (simp [*, errW_none, errW_some] <;> rfl), by repeat (first | (with_reducible first | exact HB.out | apply below_alloc | apply pw_below_drewN | apply below_drew1) | exact HB.out)⟩

/-- THE ONE PURE STATEMENT of signalbenchlaw03_BitsTurns: yours. -/
def signalbenchlaw03_BitsTurns.Pure : Prop := ∀ (a0 : Int) (a1 : Int) (a2 : ByteArray), (Lit.int .i64 a0).wf = true → (Lit.int .i64 a1).wf = true → a2.size ≤ 140737488351232 → ∃ k, signalbenchlaw03_BitsTurns.f k a0 a1 a2 = some true
theorem signalbenchlaw03_BitsTurns.walk (P : signalbenchlaw03_BitsTurns.Pure) (a0 : Int) (a1 : Int) (a2 : ByteArray) (w : World) (w0 : (Lit.int .i64 a0).wf = true) (w1 : (Lit.int .i64 a1).wf = true) (w2 : a2.size ≤ 140737488351232) :
    Calls Try.prog 8 #[.int .i64 a0, .int .i64 a1, .string a2] w fun e w' => e = .returned (.bool true) ∧ Below w.heap.size w w' := by
  obtain ⟨k, h⟩ := P a0 a1 a2 w0 w1 w2
  refine (signalbenchlaw03_BitsTurns.calls k a0 a1 a2 true w h).mono ?_
  rintro e w' ⟨rfl, hd⟩
  exact ⟨rfl, hd⟩

end Go.Proofs.Ytgheedkpiaemfaa.PBitsTurns
