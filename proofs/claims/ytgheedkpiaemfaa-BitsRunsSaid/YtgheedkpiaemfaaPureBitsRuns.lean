/- The law BitsRuns holds as a statement on numbers and lists: the runs of a sequence of bits cover it, one after the other, and neighbors differ. No condition beyond those of the statement. -/
import Derived.Test.YtgheedkpiaemfaaPBitsRunsx2
import Derived.Test.YtgheedkpiaemfaaSpecBits
namespace Go.Proofs.Ytgheedkpiaemfaa.Pure
open Go.RowKit Go.Proofs.Ytgheedkpiaemfaa.PBitsRuns Go.Proofs.YtgheedkpiaemfaaW.PrintWords Go.Proofs.YtgheedkpiaemfaaW.PrintLast Go.Proofs.Ytgheedkpiaemfaa.Aid
namespace BitsRuns_
theorem ev_bits_Valid_l0 (s : ByteArray) (hs : s.size ≤ 65536) : ∀ (d i : Nat), i + d = s.size → Ev (fun k => bits_Valid.l0 k s (s.size : Int) (i : Int)) (((bytesOf s).drop i).all isB) := by
  intro d
  induction d with
  | zero =>
    intro i h
    refine Ev.stop fun k => ?_
    simp only [bits_Valid.l0]
    rw [if_neg (by omega), drop_end s i (by omega)]; rfl
  | succ d ih =>
    intro i h
    have e : wrap64 ((i : Int) + 1) = ((i + 1 : Nat) : Int) := by rw [w64 (by omega) (by omega)]; rfl
    rw [drop_cons s i (by omega), List.all_cons]
    by_cases h48 : bt s i = 48
    · have e2 : isB (bt s i) = true := isB_iff.mpr (.inl h48)
      rw [e2, Bool.true_and]
      refine Ev.step (fun k => ?_) (ih (i + 1) (by omega))
      simp only [bits_Valid.l0]
      rw [if_pos (by omega), if_pos (by omega), if_pos (by omega), if_pos h48, e]
    · by_cases h49 : bt s i = 49
      · have e2 : isB (bt s i) = true := isB_iff.mpr (.inr h49)
        rw [e2, Bool.true_and]
        refine Ev.step (fun k => ?_) (ih (i + 1) (by omega))
        simp only [bits_Valid.l0]
        rw [if_pos (by omega), if_pos (by omega), if_pos (by omega), if_neg h48, if_pos h49, e]
      · have e2 : isB (bt s i) = false := by simp [isB, h48, h49]
        rw [e2, Bool.false_and]
        refine Ev.stop fun k => ?_
        simp only [bits_Valid.l0]
        rw [if_pos (by omega), if_pos (by omega), if_pos (by omega), if_neg h48, if_neg h49]
theorem ev_bits_Valid (s : ByteArray) : Ev (fun k => bits_Valid.f k s) (vB s) := by
  unfold bits_Valid.f vB
  by_cases h : s.size ≤ 65536
  · rw [decide_eq_true h, Bool.true_and]
    refine Ev.congr (fun k => ?_) (ev_bits_Valid_l0 s h s.size 0 (by omega))
    rw [if_neg (by omega)]; rfl
  · rw [decide_eq_false h, Bool.false_and]
    refine Ev.now' fun k => ?_
    rw [if_pos (by omega)]
theorem ev_bits_Run_l0 (s : ByteArray) (a : Nat) (hs : s.size ≤ 65536) (ha : a < s.size) : ∀ (d i : Nat), a + i + d = s.size →
    Ev (fun k => bits_Run.l0 k s (a : Int) (i : Int)) ((i + headRun (bt s a) ((bytesOf s).drop (a + i)) : Nat) : Int) := by
  intro d
  induction d with
  | zero =>
    intro i h
    have e : wrap64 ((a : Int) + (i : Int)) = ((a + i : Nat) : Int) := by rw [w64 (by omega) (by omega)]; rfl
    refine Ev.stop fun k => ?_
    simp only [bits_Run.l0]
    rw [e, if_neg (by omega), drop_end s _ (by omega)]; rfl
  | succ d ih =>
    intro i h
    have e : wrap64 ((a : Int) + (i : Int)) = ((a + i : Nat) : Int) := by rw [w64 (by omega) (by omega)]; rfl
    have e1 : wrap64 ((i : Int) + 1) = ((i + 1 : Nat) : Int) := by rw [w64 (by omega) (by omega)]; rfl
    rw [drop_cons s (a + i) (by omega), headRun]
    by_cases hq : bt s ((a + i : Nat) : Int) = bt s a
    · rw [if_pos hq]
      have := ih (i + 1) (by omega)
      rw [show i + (headRun (bt s a) (List.drop (a + i + 1) (bytesOf s)) + 1) = i + 1 + headRun (bt s a) (List.drop (a + (i + 1)) (bytesOf s)) by rw [← Nat.add_assoc a i 1]; omega]
      refine Ev.step (fun k => ?_) this
      simp only [bits_Run.l0]
      rw [e, if_pos (by omega), if_pos (by omega), if_pos (by omega), if_pos (by omega), if_pos hq, e1]
    · rw [if_neg hq]
      refine Ev.stop fun k => ?_
      simp only [bits_Run.l0]
      rw [e, if_pos (by omega), if_pos (by omega), if_pos (by omega), if_pos (by omega), if_neg hq]; rfl
theorem ev_bits_Run (s : ByteArray) (a : Int) : Ev (fun k => bits_Run.f k s a) (runS s a) := by
  unfold bits_Run.f
  refine Ev.bind (ev_bits_Valid s) ?_
  have hemp : Ev (fun k => bits_Run.j0 k s a true) 0 := by
    refine Ev.stop fun k => ?_
    simp only [bits_Run.j0, ↓reduceIte]
  unfold runS
  by_cases hv : vB s = true
  · obtain ⟨hs, _⟩ := vB_iff.mp hv
    by_cases h0 : a < 0
    · rw [if_neg (by omega)]
      refine Ev.congr (fun k => ?_) hemp
      rw [if_pos hv, if_pos h0]
    · by_cases h1 : a ≥ (s.size : Int)
      · rw [if_neg (by omega)]
        refine Ev.congr (fun k => ?_) hemp
        rw [if_pos hv, if_neg h0, decide_eq_true h1]
      · rw [if_pos ⟨hv, by omega, by omega⟩]
        obtain ⟨m, rfl⟩ := Int.eq_ofNat_of_zero_le (Int.not_lt.mp h0)
        have hgo := ev_bits_Run_l0 s m hs (by omega) (s.size - m - 1) 1 (by omega)
        have hval : ((1 + headRun (bt s m) ((bytesOf s).drop (m + 1)) : Nat) : Int) = (headRun (bt s (m : Int)) ((bytesOf s).drop ((m : Int)).toNat) : Int) := by
          rw [Int.toNat_natCast, drop_cons s m (by omega), headRun, if_pos rfl]
          omega
        rw [hval] at hgo
        refine Ev.congr (f := fun k => bits_Run.j0 k s (m : Int) false) (fun k => ?_) (Ev.step (fun k => ?_) hgo)
        · rw [if_pos hv, if_neg h0, decide_eq_false h1]
        · simp only [bits_Run.j0, ↓reduceIte, Bool.false_eq_true]; rfl
  · rw [if_neg (by simp [hv])]
    refine Ev.congr (fun k => ?_) hemp
    rw [if_neg hv]
theorem ev_lives : Ev (fun k => signalbenchlaw03_lives.f k) true := by
  refine Ev.of (fun k => signalbenchlaw03_lives.mono k) (k := 20) ?_
  decide +kernel
theorem ev_l1 (s : ByteArray) (a n : Nat) (hs : s.size ≤ 5000) (hn : 1 ≤ n) (han : a + n ≤ s.size)
    (heq : ∀ i, a ≤ i → i < a + n → bt s (i : Int) = bt s (a : Int)) (hne : a + n < s.size → bt s ((a + n : Nat) : Int) ≠ bt s (a : Int))
    (hgo : Ev (fun k => signalbenchlaw03_BitsRuns.l0 k s ((a + n : Nat) : Int)) true) : ∀ (d i : Nat), i + d = a + n → a ≤ i →
    Ev (fun k => signalbenchlaw03_BitsRuns.l1 k s (a : Int) (n : Int) (i : Int)) true := by
  have e : wrap64 ((a : Int) + (n : Int)) = ((a + n : Nat) : Int) := by rw [w64 (by omega) (by omega)]; rfl
  intro d
  induction d with
  | zero =>
    intro i h hi
    by_cases hlt : a + n < s.size
    · refine Ev.step (fun k => ?_) hgo
      simp only [signalbenchlaw03_BitsRuns.l1]
      rw [e, if_neg (by omega), if_pos (by omega), if_pos (by omega), if_pos (by omega), if_pos (by omega), if_neg (hne hlt)]
    · refine Ev.step (fun k => ?_) hgo
      simp only [signalbenchlaw03_BitsRuns.l1]
      rw [e, if_neg (by omega), if_neg (by omega)]
  | succ d ih =>
    intro i h hi
    have e1 : wrap64 ((i : Int) + 1) = ((i + 1 : Nat) : Int) := by rw [w64 (by omega) (by omega)]; rfl
    refine Ev.step (fun k => ?_) (ih (i + 1) (by omega) (by omega))
    simp only [signalbenchlaw03_BitsRuns.l1]
    rw [e, if_pos (by omega), if_pos (by omega), if_pos (by omega), if_pos (by omega), if_pos (by omega), if_pos (heq i hi (by omega)), e1]
theorem ev_l0 (s : ByteArray) (hs : s.size ≤ 5000) (hv : vB s = true) : ∀ (d a : Nat), s.size - a < d → a ≤ s.size →
    Ev (fun k => signalbenchlaw03_BitsRuns.l0 k s (a : Int)) true := by
  have hlen := len_bytes s
  intro d
  induction d with
  | zero => intro a h; omega
  | succ d ih =>
    intro a h ha
    by_cases hlt : a < s.size
    · have hrun : runS s (a : Int) = (headRun (bt s a) ((bytesOf s).drop a) : Int) := by
        unfold runS; rw [if_pos ⟨hv, by omega, by omega⟩]; rfl
      have hdl : ((bytesOf s).drop a).length = s.size - a := by rw [List.length_drop, hlen]
      have hle := headRun_le (bt s a) ((bytesOf s).drop a)
      have hpos : 1 ≤ headRun (bt s a) ((bytesOf s).drop a) := by
        rw [drop_cons s a hlt, headRun, if_pos rfl]; omega
      have heq : ∀ i, a ≤ i → i < a + headRun (bt s a) ((bytesOf s).drop a) → bt s (i : Int) = bt s (a : Int) := by
        intro i h1 h2
        have := headRun_eq (bt s a) ((bytesOf s).drop a) (i - a) (by omega)
        rw [List.getElem_drop] at this
        rw [bt_get s i (by omega), ← this]
        congr 1; omega
      have hne : a + headRun (bt s a) ((bytesOf s).drop a) < s.size → bt s ((a + headRun (bt s a) ((bytesOf s).drop a) : Nat) : Int) ≠ bt s (a : Int) := by
        intro h1
        have := headRun_ne (bt s a) ((bytesOf s).drop a) (by omega)
        rw [List.getElem_drop] at this
        rw [bt_get s _ (by omega)]
        exact this
      generalize headRun (bt s a) ((bytesOf s).drop a) = n at *
      refine Ev.step (f := fun k => (bits_Run.f k s (a : Int)).bind fun t => _) (fun k => by simp only [signalbenchlaw03_BitsRuns.l0]; rw [if_pos (by omega)]) ?_
      refine Ev.bind (ev_bits_Run s a) ?_
      have h1 : ¬ ((n : Int) < 1) := by omega
      have h2 : ¬ ((n : Int) > (s.size : Int) - (a : Int)) := by omega
      rw [hrun, w64 (by omega) (by omega)]
      simp only [if_neg h1, decide_eq_false h2]
      refine Ev.step (fun k => ?_) (ev_l1 s a n hs hpos (by omega) heq hne (ih (a + n) (by omega) (by omega)) n a rfl (Nat.le_refl _))
      simp only [signalbenchlaw03_BitsRuns.j2, ↓reduceIte, Bool.false_eq_true]
    · have hrun : runS s (a : Int) = 0 := by unfold runS; rw [if_neg (by omega)]
      have hrun2 : runS s (-1) = 0 := by unfold runS; rw [if_neg (by omega)]
      refine Ev.step (f := fun k => (bits_Run.f k s (a : Int)).bind fun t => _) (fun k => by simp only [signalbenchlaw03_BitsRuns.l0]; rw [if_neg (by omega)]) ?_
      refine Ev.bind (ev_bits_Run s a) ?_
      rw [hrun]
      simp only [↓reduceIte]
      refine Ev.bind (ev_bits_Run s (-1)) ?_
      refine Ev.now' fun k => ?_
      rw [hrun2]; rfl
theorem main : signalbenchlaw03_BitsRuns.Pure := by
  intro s hs
  refine Ev.rounds (g := fun k => signalbenchlaw03_BitsRuns.f k s) ?_
  unfold signalbenchlaw03_BitsRuns.f
  refine Ev.bind ev_lives ?_
  have hyes : Ev (fun k => signalbenchlaw03_BitsRuns.j0 k s true) true := Ev.stop fun k => by simp only [signalbenchlaw03_BitsRuns.j0, ↓reduceIte]
  by_cases h : (s.size : Int) > 5000
  · refine Ev.congr (fun k => by rw [if_pos rfl, if_pos h]) hyes
  · refine Ev.congr (fun k => by rw [if_pos rfl, if_neg h]) ?_
    refine Ev.bind (ev_bits_Valid s) ?_
    cases hv : vB s with
    | false => exact hyes
    | true =>
      refine Ev.step (fun k => ?_) (ev_l0 s (by omega) hv (s.size + 1) 0 (by omega) (by omega))
      simp only [signalbenchlaw03_BitsRuns.j0, Bool.not_true, ↓reduceIte, Bool.false_eq_true]
      rfl
end BitsRuns_
theorem BitsRuns : signalbenchlaw03_BitsRuns.Pure := BitsRuns_.main
end Go.Proofs.Ytgheedkpiaemfaa.Pure
