-- Written by a program of this session (wip/tools/pr.py), which calls the kit's print with changes of its own.
import Derived.Test.YteeejopgaegaoaaDoorPCheckSumsx0
import Derived.Test.YteeejopgaegaoaaDoorPCheckSumsx3
import Derived.Test.YteeejopgaegaoaaDoorPCheckSumsx4
namespace Go.Proofs.YteeejopgaegaoaaDoor.PCheckSums
open Go.RowKit Go.Proofs.YteeejopgaegaoaaDoorW.PrintWords Go.Proofs.YteeejopgaegaoaaDoorW.PrintLast Go.Proofs.YteeejopgaegaoaaDoorW.PrintMore
attribute [local go_sem] max2_int min2_int max_two min_two max_three min_three max_four min_four   -- for this text's walks alone
set_option linter.unusedVariables false
set_option linter.unusedSimpArgs false

/-! ### signalbenchlaw04_CheckSums: function 5 -/
def signalbenchlaw04_CheckSums.f (k : Nat) (a0 : ByteArray) : Option (Bool) := if (a0.size : Int) > 1000 then ((signalbenchlaw04_awake.f k).bind fun t138 => (some t138)) else ((check_Sum.f k a0).bind fun t139 => ((signalbenchref04_Sum.f k a0).bind fun t140 => (if t139 = t140 then ((check_Xor.f k a0).bind fun t141 => ((signalbenchref04_Xor.f k a0).bind fun t142 => (if t141 = t142 then ((check_Carry.f k a0).bind fun t143 => ((signalbenchref04_Carry.f k a0).bind fun t144 => (if t143 = t144 then ((signalbenchlaw04_awake.f k).bind fun t145 => (some t145)) else (some false)))) else (some false)))) else (some false))))
theorem signalbenchlaw04_CheckSums.mono : ∀ a0 k, LeO (signalbenchlaw04_CheckSums.f k a0) (signalbenchlaw04_CheckSums.f (k + 1) a0) := by
 intro a0 k
 unfold signalbenchlaw04_CheckSums.f
 repeat' first
   | (with_reducible exact check_Carry.mono _ _)
   | (with_reducible exact check_Sum.mono _ _)
   | (with_reducible exact check_Xor.mono _ _)
   | (with_reducible exact signalbenchlaw04_awake.mono _)
   | (with_reducible exact signalbenchref04_Carry.mono _ _)
   | (with_reducible exact signalbenchref04_Sum.mono _ _)
   | (with_reducible exact signalbenchref04_Xor.mono _ _)
   | (with_reducible exact LeO.refl _)
   | (with_reducible exact LeO.none _)
   | (with_reducible refine LeO.ite ?_ ?_)
   | (with_reducible refine LeO.bind ?_ (fun _ => ?_))
   | exact check_Carry.mono _ _
   | exact check_Sum.mono _ _
   | exact check_Xor.mono _ _
   | exact signalbenchlaw04_awake.mono _
   | exact signalbenchref04_Carry.mono _ _
   | exact signalbenchref04_Sum.mono _ _
   | exact signalbenchref04_Xor.mono _ _
   | exact LeO.none _
   | refine LeO.ite ?_ ?_
   | refine LeO.bind ?_ (fun _ => ?_)
set_option maxHeartbeats 8000000 in
set_option maxRecDepth 100000 in
theorem signalbenchlaw04_CheckSums.calls (k : Nat) (a0 : ByteArray) (r : Bool) (w : World) (hT_ : TabOk w) (h : signalbenchlaw04_CheckSums.f k a0 = some r) :
  Calls Tryd.prog 5 #[.string a0] w fun e w' => e = .returned (.bool r) ∧ Below w.heap.size w w' := by
 have HB := Aside0.mk (Below.refl w.heap.size w)
 have H : (if (a0.size : Int) > 1000 then ((signalbenchlaw04_awake.f k).bind fun t138 => (some t138)) else ((check_Sum.f k a0).bind fun t139 => ((signalbenchref04_Sum.f k a0).bind fun t140 => (if t139 = t140 then ((check_Xor.f k a0).bind fun t141 => ((signalbenchref04_Xor.f k a0).bind fun t142 => (if t141 = t142 then ((check_Carry.f k a0).bind fun t143 => ((signalbenchref04_Carry.f k a0).bind fun t144 => (if t143 = t144 then ((signalbenchlaw04_awake.f k).bind fun t145 => (some t145)) else (some false)))) else (some false)))) else (some false))))) = some r := h
 clear h
 by_cases c2 : (a0.size : Int) > 1000
 ·rw [if_pos c2] at H
  have c2b0 : decide (1000 < (a0.size : Int)) = true := decide_eq_true c2
  have c2b1 : decide (1000 < a0.size) = true := decide_eq_true (by omega)
  clear c2
  replace H := Option.bind_eq_some_iff.mp H
  obtain ⟨t138, A30, H⟩ := H
  replace H : (some t138) = some r := H
  have A3 := Aside0.mk A30
  clear A30
  obtain rfl := Option.some.inj H
  go_enter Tryd.func5, Tryd.ntmps5
  go_wp2_with (first | ((with_reducible refine gate_callee (f := 11) rfl ?_); refine goesL_ (some 6) rfl rfl Tryd.func11 (by kernel_rfl) rfl #[] rfl (by (try simp only [List.map_toArray, List.map_cons, List.map_nil]); first | done | rfl | (simp only [List.length_drop, List.length_take]; rfl)) ?_; (with_reducible refine (signalbenchlaw04_awake.calls k  t138 _ ?side1 A3.out).mono ?_); (case side1 => refine TabOk.below hT_ ?_; repeat (first | (with_reducible first | exact HB.out | apply below_alloc | apply pw_below_drewN | apply below_drew1) | exact HB.out)); rintro e w4 ⟨rfl, hb⟩; refine ⟨_, rfl, ?_⟩; have n0_ := Aside0.mk (below_step (hbw HB.out) hb); clear HB; have HB := n0_; clear n0_; (try clear hb); (try clear hb2); (try clear hk); (try clear hi)))
  go_ret
  exact ⟨by first | rfl | (simp [errW_none, errW_some] <;> rfl) | (simp [*, errW_none, errW_some] <;> rfl), by repeat (first | (with_reducible first | exact HB.out | apply below_alloc | apply pw_below_drewN | apply below_drew1) | exact HB.out)⟩
 ·rw [if_neg c2] at H
  have c2b0 : decide (1000 < (a0.size : Int)) = false := decide_eq_false c2
  have c2b1 : decide (1000 < a0.size) = false := decide_eq_false (by omega)
  clear c2
  replace H := Option.bind_eq_some_iff.mp H
  obtain ⟨t139, A50, H⟩ := H
  replace H : ((signalbenchref04_Sum.f k a0).bind fun t140 => (if t139 = t140 then ((check_Xor.f k a0).bind fun t141 => ((signalbenchref04_Xor.f k a0).bind fun t142 => (if t141 = t142 then ((check_Carry.f k a0).bind fun t143 => ((signalbenchref04_Carry.f k a0).bind fun t144 => (if t143 = t144 then ((signalbenchlaw04_awake.f k).bind fun t145 => (some t145)) else (some false)))) else (some false)))) else (some false))) = some r := H
  have A5 := Aside0.mk A50
  clear A50
  replace H := Option.bind_eq_some_iff.mp H
  obtain ⟨t140, A60, H⟩ := H
  replace H : (if t139 = t140 then ((check_Xor.f k a0).bind fun t141 => ((signalbenchref04_Xor.f k a0).bind fun t142 => (if t141 = t142 then ((check_Carry.f k a0).bind fun t143 => ((signalbenchref04_Carry.f k a0).bind fun t144 => (if t143 = t144 then ((signalbenchlaw04_awake.f k).bind fun t145 => (some t145)) else (some false)))) else (some false)))) else (some false)) = some r := H
  have A6 := Aside0.mk A60
  clear A60
  by_cases c7 : t139 = t140
  ·rw [if_pos c7] at H
   have c7b0 : (t139 == t140) = true := beq_iff_eq.mpr c7
   have c7b1 : (t139 != t140) = false := bne_eq_false_iff_eq.mpr c7
   clear c7
   replace H := Option.bind_eq_some_iff.mp H
   obtain ⟨t141, A80, H⟩ := H
   replace H : ((signalbenchref04_Xor.f k a0).bind fun t142 => (if t141 = t142 then ((check_Carry.f k a0).bind fun t143 => ((signalbenchref04_Carry.f k a0).bind fun t144 => (if t143 = t144 then ((signalbenchlaw04_awake.f k).bind fun t145 => (some t145)) else (some false)))) else (some false))) = some r := H
   have A8 := Aside0.mk A80
   clear A80
   replace H := Option.bind_eq_some_iff.mp H
   obtain ⟨t142, A90, H⟩ := H
   replace H : (if t141 = t142 then ((check_Carry.f k a0).bind fun t143 => ((signalbenchref04_Carry.f k a0).bind fun t144 => (if t143 = t144 then ((signalbenchlaw04_awake.f k).bind fun t145 => (some t145)) else (some false)))) else (some false)) = some r := H
   have A9 := Aside0.mk A90
   clear A90
   by_cases c10 : t141 = t142
   ·rw [if_pos c10] at H
    have c10b0 : (t141 == t142) = true := beq_iff_eq.mpr c10
    have c10b1 : (t141 != t142) = false := bne_eq_false_iff_eq.mpr c10
    clear c10
    replace H := Option.bind_eq_some_iff.mp H
    obtain ⟨t143, A110, H⟩ := H
    replace H : ((signalbenchref04_Carry.f k a0).bind fun t144 => (if t143 = t144 then ((signalbenchlaw04_awake.f k).bind fun t145 => (some t145)) else (some false))) = some r := H
    have A11 := Aside0.mk A110
    clear A110
    replace H := Option.bind_eq_some_iff.mp H
    obtain ⟨t144, A120, H⟩ := H
    replace H : (if t143 = t144 then ((signalbenchlaw04_awake.f k).bind fun t145 => (some t145)) else (some false)) = some r := H
    have A12 := Aside0.mk A120
    clear A120
    by_cases c13 : t143 = t144
    ·rw [if_pos c13] at H
     have c13b0 : (t143 == t144) = true := beq_iff_eq.mpr c13
     have c13b1 : (t143 != t144) = false := bne_eq_false_iff_eq.mpr c13
     clear c13
     replace H := Option.bind_eq_some_iff.mp H
     obtain ⟨t145, A140, H⟩ := H
     replace H : (some t145) = some r := H
     have A14 := Aside0.mk A140
     clear A140
     obtain rfl := Option.some.inj H
     go_enter Tryd.func5, Tryd.ntmps5
     go_wp2_with (first | ((with_reducible refine gate_callee (f := 16) rfl ?_); refine goesL_ (some 8) rfl rfl Tryd.func16 (by kernel_rfl) rfl #[.string a0] rfl (by (try simp only [List.map_toArray, List.map_cons, List.map_nil]); first | done | rfl | (simp only [List.length_drop, List.length_take]; rfl)) ?_; (with_reducible refine (check_Sum.calls k a0 t139 _ A5.out).mono ?_); rintro e w' ⟨rfl, ⟨nd, rfl⟩⟩; refine ⟨_, rfl, ?_⟩) | ((with_reducible refine gate_callee (f := 17) rfl ?_); refine goesL_ (some 10) rfl rfl Tryd.func17 (by kernel_rfl) rfl #[.string a0] rfl (by (try simp only [List.map_toArray, List.map_cons, List.map_nil]); first | done | rfl | (simp only [List.length_drop, List.length_take]; rfl)) ?_; (with_reducible refine (signalbenchref04_Sum.calls k a0 t140 _ A6.out).mono ?_); rintro e w' ⟨rfl, ⟨nd, rfl⟩⟩; refine ⟨_, rfl, ?_⟩) | (go_at_call 18; (with_reducible refine (check_Xor.calls k a0 t141 _ A8.out).mono ?_); rintro e w' ⟨rfl, ⟨nd, rfl⟩⟩) | (go_at_call 19; (with_reducible refine (signalbenchref04_Xor.calls k a0 t142 _ A9.out).mono ?_); rintro e w' ⟨rfl, ⟨nd, rfl⟩⟩) | (go_at_call 20; (with_reducible refine (check_Carry.calls k a0 t143 _ A11.out).mono ?_); rintro e w' ⟨rfl, ⟨nd, rfl⟩⟩) | (go_at_call 21; (with_reducible refine (signalbenchref04_Carry.calls k a0 t144 _ A12.out).mono ?_); rintro e w' ⟨rfl, ⟨nd, rfl⟩⟩) | (go_at_call 11; (with_reducible refine (signalbenchlaw04_awake.calls k  t145 _ ?side1 A14.out).mono ?_); (case side1 => refine TabOk.below hT_ ?_; repeat (first | (with_reducible first | exact HB.out | apply below_alloc | apply pw_below_drewN | apply below_drew1) | exact HB.out)); rintro e w15 ⟨rfl, hb⟩; have n0_ := Aside0.mk (below_step (hbw HB.out) hb); clear HB; have HB := n0_; clear n0_; (try clear hb); (try clear hb2); (try clear hk); (try clear hi)))
     go_ret
     exact ⟨by first | rfl | (simp [errW_none, errW_some] <;> rfl) | (simp [*, errW_none, errW_some] <;> rfl), by repeat (first | (with_reducible first | exact HB.out | apply below_alloc | apply pw_below_drewN | apply below_drew1) | exact HB.out)⟩
    ·rw [if_neg c13] at H
     have c13b0 : (t143 == t144) = false := beq_eq_false_iff_ne.mpr c13
     have c13b1 : (t143 != t144) = true := bne_iff_ne.mpr c13
     obtain rfl := Option.some.inj H
     go_enter Tryd.func5, Tryd.ntmps5
     go_wp2_with (first | ((with_reducible refine gate_callee (f := 16) rfl ?_); refine goesL_ (some 8) rfl rfl Tryd.func16 (by kernel_rfl) rfl #[.string a0] rfl (by (try simp only [List.map_toArray, List.map_cons, List.map_nil]); first | done | rfl | (simp only [List.length_drop, List.length_take]; rfl)) ?_; (with_reducible refine (check_Sum.calls k a0 t139 _ A5.out).mono ?_); rintro e w' ⟨rfl, ⟨nd, rfl⟩⟩; refine ⟨_, rfl, ?_⟩) | ((with_reducible refine gate_callee (f := 17) rfl ?_); refine goesL_ (some 10) rfl rfl Tryd.func17 (by kernel_rfl) rfl #[.string a0] rfl (by (try simp only [List.map_toArray, List.map_cons, List.map_nil]); first | done | rfl | (simp only [List.length_drop, List.length_take]; rfl)) ?_; (with_reducible refine (signalbenchref04_Sum.calls k a0 t140 _ A6.out).mono ?_); rintro e w' ⟨rfl, ⟨nd, rfl⟩⟩; refine ⟨_, rfl, ?_⟩) | (go_at_call 18; (with_reducible refine (check_Xor.calls k a0 t141 _ A8.out).mono ?_); rintro e w' ⟨rfl, ⟨nd, rfl⟩⟩) | (go_at_call 19; (with_reducible refine (signalbenchref04_Xor.calls k a0 t142 _ A9.out).mono ?_); rintro e w' ⟨rfl, ⟨nd, rfl⟩⟩) | (go_at_call 20; (with_reducible refine (check_Carry.calls k a0 t143 _ A11.out).mono ?_); rintro e w' ⟨rfl, ⟨nd, rfl⟩⟩) | (go_at_call 21; (with_reducible refine (signalbenchref04_Carry.calls k a0 t144 _ A12.out).mono ?_); rintro e w' ⟨rfl, ⟨nd, rfl⟩⟩))
     go_ret
     exact ⟨by first | rfl | (simp [errW_none, errW_some] <;> rfl) | (simp [*, errW_none, errW_some] <;> rfl), by repeat (first | (with_reducible first | exact HB.out | apply below_alloc | apply pw_below_drewN | apply below_drew1) | exact HB.out)⟩
   ·rw [if_neg c10] at H
    have c10b0 : (t141 == t142) = false := beq_eq_false_iff_ne.mpr c10
    have c10b1 : (t141 != t142) = true := bne_iff_ne.mpr c10
    obtain rfl := Option.some.inj H
    go_enter Tryd.func5, Tryd.ntmps5
    go_wp2_with (first | ((with_reducible refine gate_callee (f := 16) rfl ?_); refine goesL_ (some 8) rfl rfl Tryd.func16 (by kernel_rfl) rfl #[.string a0] rfl (by (try simp only [List.map_toArray, List.map_cons, List.map_nil]); first | done | rfl | (simp only [List.length_drop, List.length_take]; rfl)) ?_; (with_reducible refine (check_Sum.calls k a0 t139 _ A5.out).mono ?_); rintro e w' ⟨rfl, ⟨nd, rfl⟩⟩; refine ⟨_, rfl, ?_⟩) | ((with_reducible refine gate_callee (f := 17) rfl ?_); refine goesL_ (some 10) rfl rfl Tryd.func17 (by kernel_rfl) rfl #[.string a0] rfl (by (try simp only [List.map_toArray, List.map_cons, List.map_nil]); first | done | rfl | (simp only [List.length_drop, List.length_take]; rfl)) ?_; (with_reducible refine (signalbenchref04_Sum.calls k a0 t140 _ A6.out).mono ?_); rintro e w' ⟨rfl, ⟨nd, rfl⟩⟩; refine ⟨_, rfl, ?_⟩) | (go_at_call 18; (with_reducible refine (check_Xor.calls k a0 t141 _ A8.out).mono ?_); rintro e w' ⟨rfl, ⟨nd, rfl⟩⟩) | (go_at_call 19; (with_reducible refine (signalbenchref04_Xor.calls k a0 t142 _ A9.out).mono ?_); rintro e w' ⟨rfl, ⟨nd, rfl⟩⟩))
    go_ret
    exact ⟨by first | rfl | (simp [errW_none, errW_some] <;> rfl) | (simp [*, errW_none, errW_some] <;> rfl), by repeat (first | (with_reducible first | exact HB.out | apply below_alloc | apply pw_below_drewN | apply below_drew1) | exact HB.out)⟩
  ·rw [if_neg c7] at H
   have c7b0 : (t139 == t140) = false := beq_eq_false_iff_ne.mpr c7
   have c7b1 : (t139 != t140) = true := bne_iff_ne.mpr c7
   obtain rfl := Option.some.inj H
   go_enter Tryd.func5, Tryd.ntmps5
   go_wp2_with (first | ((with_reducible refine gate_callee (f := 16) rfl ?_); refine goesL_ (some 8) rfl rfl Tryd.func16 (by kernel_rfl) rfl #[.string a0] rfl (by (try simp only [List.map_toArray, List.map_cons, List.map_nil]); first | done | rfl | (simp only [List.length_drop, List.length_take]; rfl)) ?_; (with_reducible refine (check_Sum.calls k a0 t139 _ A5.out).mono ?_); rintro e w' ⟨rfl, ⟨nd, rfl⟩⟩; refine ⟨_, rfl, ?_⟩) | ((with_reducible refine gate_callee (f := 17) rfl ?_); refine goesL_ (some 10) rfl rfl Tryd.func17 (by kernel_rfl) rfl #[.string a0] rfl (by (try simp only [List.map_toArray, List.map_cons, List.map_nil]); first | done | rfl | (simp only [List.length_drop, List.length_take]; rfl)) ?_; (with_reducible refine (signalbenchref04_Sum.calls k a0 t140 _ A6.out).mono ?_); rintro e w' ⟨rfl, ⟨nd, rfl⟩⟩; refine ⟨_, rfl, ?_⟩))
   go_ret
   exact ⟨by first | rfl | (simp [errW_none, errW_some] <;> rfl) | (simp [*, errW_none, errW_some] <;> rfl), by repeat (first | (with_reducible first | exact HB.out | apply below_alloc | apply pw_below_drewN | apply below_drew1) | exact HB.out)⟩

/-- THE ONE PURE STATEMENT of signalbenchlaw04_CheckSums: yours. -/
def signalbenchlaw04_CheckSums.Pure : Prop := ∀ (a0 : ByteArray), a0.size ≤ 140737488351232 → ∃ k, signalbenchlaw04_CheckSums.f k a0 = some true
theorem signalbenchlaw04_CheckSums.walk (P : signalbenchlaw04_CheckSums.Pure) (a0 : ByteArray) (w : World) (hT_ : TabOk w)  (w0_ : a0.size ≤ 140737488351232) :
  Calls Tryd.prog 5 #[.string a0] w fun e w' => e = .returned (.bool true) ∧ Below w.heap.size w w' := by
 obtain ⟨k, h⟩ := P a0 w0_
 refine (signalbenchlaw04_CheckSums.calls k a0 true w hT_  h).mono ?_
 rintro e w' ⟨rfl, hd⟩
 exact ⟨rfl, hd⟩

end Go.Proofs.YteeejopgaegaoaaDoor.PCheckSums
