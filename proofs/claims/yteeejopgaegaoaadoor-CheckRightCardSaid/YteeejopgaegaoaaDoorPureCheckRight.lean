/- The law CheckRight holds as a statement on numbers and lists: the same descriptions are valid, and the names and what they name are the same. No condition beyond those of the statement. -/
import Derived.Test.YteeejopgaegaoaaDoorPCheckRightx6
import Derived.Test.YteeejopgaegaoaaDoorSpecCrc
namespace Go.Proofs.YteeejopgaegaoaaDoor.Pure
open Go.RowKit Go.Proofs.YteeejopgaegaoaaDoor.PCheckRight Go.Proofs.YteeejopgaegaoaaDoorW.PrintWords Go.Proofs.YteeejopgaegaoaaDoorW.PrintLast Go.Proofs.YteeejopgaegaoaaDoor.Aid
set_option linter.unusedVariables false
set_option linter.unusedSimpArgs false
namespace CheckRight_
theorem ev_check_Right (w p i x : Int) (refl : Bool) : Ev (fun k => check_Right.f k w p i x refl) (rightC w p i x) := by
  have hyes : 1 ≤ w ∧ w ≤ 32 → False → Ev (fun k => check_Right.j0 k true w p i x refl) (rightC w p i x) := fun _ h => h.elim
  have hj : ¬ (1 ≤ w ∧ w ≤ 32) → Ev (fun k => check_Right.j0 k true w p i x refl) (rightC w p i x) := by
    intro h
    have e : rightC w p i x = false := by unfold rightC; rw [decide_eq_false (by omega)]
    rw [e]
    refine Ev.step (fun k => check_Right.j0.eq_2 ..) ?_
    exact Ev.pos rfl (Ev.now _)
  clear hyes
  unfold check_Right.f
  refine Ev.ite (fun h1 => hj (by omega)) (fun h1 => ?_)
  by_cases h2 : w > 32
  · rw [decide_eq_true h2]; exact hj (by omega)
  rw [decide_eq_false h2]
  obtain ⟨n, rfl⟩ := Int.eq_ofNat_of_zero_le (show 0 ≤ w by omega)
  have hle := pow2_le32 (show n ≤ 32 by omega)
  have hp := pow2_pos n
  refine Ev.step (fun k => check_Right.j0.eq_2 ..) ?_
  refine Ev.neg (by decide) (Ev.pos (by omega) (Ev.now' fun _ => ?_))
  rw [shl_one (by omega), w64 (x := 2 ^ n - 1) (by omega) (by omega)]
  unfold rightC
  rw [Int.toNat_natCast]
  repeat' split
  all_goals first
    | (rw [decide_eq_false (by omega)])
    | (congr 1; rw [Int.tmod_eq_emod_of_nonneg (by omega), Bool.eq_iff_iff, beq_iff_eq, decide_eq_true_iff]; omega)
theorem ref04_Right (w p i x : Int) (refl : Bool) : signalbenchref04_Right.f w p i x refl = some (rightC w p i x) := by
  unfold signalbenchref04_Right.f
  by_cases h : 1 ≤ w ∧ w ≤ 32
  case neg =>
    have e : rightC w p i x = false := by unfold rightC; rw [decide_eq_false (by omega)]
    rw [e]
    by_cases h1 : w < 1
    · rw [if_pos h1]
    · rw [if_neg h1, if_pos (by omega)]
  obtain ⟨n, rfl⟩ := Int.eq_ofNat_of_zero_le (show 0 ≤ w by omega)
  have hle := pow2_le32 (show n ≤ 32 by omega)
  have hp := pow2_pos n
  rw [if_neg (by omega), if_neg (by omega), if_pos (by omega), shl_one (by omega), w64 (x := 2 ^ n - 1) (by omega) (by omega)]
  unfold rightC
  rw [Int.toNat_natCast]
  repeat' split
  all_goals first
    | (rw [decide_eq_false (by omega)])
    | (congr 1; rw [Int.tmod_eq_emod_of_nonneg (by omega), Bool.eq_iff_iff, beq_iff_eq, decide_eq_true_iff]; omega)
theorem ev_awake : Ev (fun k => signalbenchlaw04_awake.f k) true := by
  refine Ev.of (fun k => signalbenchlaw04_awake.mono k) (k := 80) ?_
  decide +kernel
theorem named_some (s : ByteArray) : ∃ v, check_Named.f s = some v := by
  unfold check_Named.f
  repeat' split
  all_goals exact ⟨_, rfl⟩
theorem ev_l0 (l : List ByteArray) (hl : l.length < 1000) (w p i x a b c d : Int) (refl f g : Bool) : ∀ (e j : Nat), j + e = l.length → Ev (fun k => signalbenchlaw04_CheckRight.l0 k g g l l (j : Int) w p i x refl a b c d f a b c d f) true := by
  intro e
  induction e with
  | zero =>
    intro j h
    refine Ev.step (fun k => signalbenchlaw04_CheckRight.l0.eq_2 ..) ?_
    rw [ref04_Right]
    refine Ev.neg (by omega) (Ev.bind (ev_check_Right w p i x refl) (Ev.sbind (Ev.pos (by simp) (Ev.pos (by simp) (Ev.pos (by simp) (Ev.bind ev_awake (Ev.now true)))))))
  | succ e ih =>
    intro j h
    refine Ev.step (fun k => signalbenchlaw04_CheckRight.l0.eq_2 ..) ?_
    rw [wnat (by omega)]
    exact Ev.pos (by omega) (Ev.pos (by omega) (Ev.pos (by omega) (Ev.pos rfl (ih (j + 1) (by omega)))))
theorem main : signalbenchlaw04_CheckRight.Pure := by
  intro w p i x refl s _ _ _ _ hs
  refine Ev.rounds (g := fun k => signalbenchlaw04_CheckRight.f k w p i x refl s) ?_
  unfold signalbenchlaw04_CheckRight.f
  have hN : signalbenchref04_Named.f s = check_Named.f s := rfl
  obtain ⟨⟨a, b, c, d, f, g⟩, hv⟩ := named_some s
  rw [hN, hv]
  refine Ev.sbind (Ev.sbind (Ev.sbind (Ev.sbind (Ev.pos rfl ?_))))
  refine Ev.step (fun k => signalbenchlaw04_CheckRight.j0.eq_2 ..) ?_
  exact ev_l0 _ (by decide) w p i x a b c d refl f g _ 0 (Nat.zero_add _)
end CheckRight_
theorem CheckRight : signalbenchlaw04_CheckRight.Pure := CheckRight_.main
end Go.Proofs.YteeejopgaegaoaaDoor.Pure
