/- The law BitsText holds as a statement on numbers and lists: program and reference invert, reverse, count and measure every string alike. No condition beyond those of the statement. -/
import Derived.Test.YtgheedkpiaemfaaPBitsTextx3
import Derived.Test.YtgheedkpiaemfaaSpecBits
namespace Go.Proofs.Ytgheedkpiaemfaa.Pure
open Go.RowKit Go.Proofs.Ytgheedkpiaemfaa.PBitsText Go.Proofs.YtgheedkpiaemfaaW.PrintWords Go.Proofs.YtgheedkpiaemfaaW.PrintLast Go.Proofs.Ytgheedkpiaemfaa.Aid
namespace BitsText_
theorem ev_bits_Valid_l0 (s : ByteArray) (hs : s.size ≤ 65536) : ∀ (d i : Nat), i + d = s.size → Ev (fun k => bits_Valid.l0 k s (s.size : Int) (i : Int)) (((bytesOf s).drop i).all isB) := by
  intro d
  induction d with
  | zero =>
    intro i h
    refine Ev.stop fun k => ?_
    simp only [bits_Valid.l0]
    rw [if_neg (by omega), drop_end s i (by omega)]; rfl
  | succ d ih =>
    intro i h
    have e : wrap64 ((i : Int) + 1) = ((i + 1 : Nat) : Int) := by rw [w64 (by omega) (by omega)]; rfl
    rw [drop_cons s i (by omega), List.all_cons]
    by_cases h48 : bt s i = 48
    · have e2 : isB (bt s i) = true := isB_iff.mpr (.inl h48)
      rw [e2, Bool.true_and]
      refine Ev.step (fun k => ?_) (ih (i + 1) (by omega))
      simp only [bits_Valid.l0]
      rw [if_pos (by omega), if_pos (by omega), if_pos (by omega), if_pos h48, e]
    · by_cases h49 : bt s i = 49
      · have e2 : isB (bt s i) = true := isB_iff.mpr (.inr h49)
        rw [e2, Bool.true_and]
        refine Ev.step (fun k => ?_) (ih (i + 1) (by omega))
        simp only [bits_Valid.l0]
        rw [if_pos (by omega), if_pos (by omega), if_pos (by omega), if_neg h48, if_pos h49, e]
      · have e2 : isB (bt s i) = false := by simp [isB, h48, h49]
        rw [e2, Bool.false_and]
        refine Ev.stop fun k => ?_
        simp only [bits_Valid.l0]
        rw [if_pos (by omega), if_pos (by omega), if_pos (by omega), if_neg h48, if_neg h49]
theorem ev_bits_Valid (s : ByteArray) : Ev (fun k => bits_Valid.f k s) (vB s) := by
  unfold bits_Valid.f vB
  by_cases h : s.size ≤ 65536
  · rw [decide_eq_true h, Bool.true_and]
    refine Ev.congr (fun k => ?_) (ev_bits_Valid_l0 s h s.size 0 (by omega))
    rw [if_neg (by omega)]; rfl
  · rw [decide_eq_false h, Bool.false_and]
    refine Ev.now' fun k => ?_
    rw [if_pos (by omega)]
theorem ev_ref_Valid_l0 (s : ByteArray) (hs : s.size ≤ 65536) : ∀ (d i : Nat), i + d = s.size → Ev (fun k => signalbenchref03_Valid.l0 k s (i : Int)) (((bytesOf s).drop i).all isB) := by
  intro d
  induction d with
  | zero =>
    intro i h
    refine Ev.stop fun k => ?_
    simp only [signalbenchref03_Valid.l0]
    rw [if_neg (by omega), drop_end s i (by omega)]; rfl
  | succ d ih =>
    intro i h
    have e : wrap64 ((i : Int) + 1) = ((i + 1 : Nat) : Int) := by rw [w64 (by omega) (by omega)]; rfl
    rw [drop_cons s i (by omega), List.all_cons]
    by_cases h48 : bt s i = 48
    · have e2 : isB (bt s i) = true := isB_iff.mpr (.inl h48)
      rw [e2, Bool.true_and]
      refine Ev.step (fun k => ?_) (ih (i + 1) (by omega))
      simp only [signalbenchref03_Valid.l0]
      rw [if_pos (by omega), if_pos (by omega), if_pos h48, e]
    · by_cases h49 : bt s i = 49
      · have e2 : isB (bt s i) = true := isB_iff.mpr (.inr h49)
        rw [e2, Bool.true_and]
        refine Ev.step (fun k => ?_) (ih (i + 1) (by omega))
        simp only [signalbenchref03_Valid.l0]
        rw [if_pos (by omega), if_pos (by omega), if_neg h48, if_pos h49, e]
      · have e2 : isB (bt s i) = false := by simp [isB, h48, h49]
        rw [e2, Bool.false_and]
        refine Ev.stop fun k => ?_
        simp only [signalbenchref03_Valid.l0]
        rw [if_pos (by omega), if_pos (by omega), if_neg h48, if_neg h49]
theorem ev_ref_Valid (s : ByteArray) : Ev (fun k => signalbenchref03_Valid.f k s) (vB s) := by
  unfold signalbenchref03_Valid.f vB
  by_cases h : s.size ≤ 65536
  · rw [decide_eq_true h, Bool.true_and]
    refine Ev.congr (fun k => ?_) (ev_ref_Valid_l0 s h s.size 0 (by omega))
    rw [if_neg (by omega)]; rfl
  · rw [decide_eq_false h, Bool.false_and]
    refine Ev.now' fun k => ?_
    rw [if_pos (by omega)]
theorem ev_bits_Invert_l0 (s : ByteArray) (hs : s.size ≤ 65536) : ∀ (d i : Nat), i + d = s.size →
    Ev (fun k => bits_Invert.l0 k s (invL ((bytesOf s).take i) ++ List.replicate d 0) (s.size : Int) (i : Int)) (strOfNums (invL (bytesOf s))) := by
  intro d
  have hlen := len_bytes s
  induction d with
  | zero =>
    intro i h
    refine Ev.stop fun k => ?_
    simp only [bits_Invert.l0]
    rw [if_neg (by omega), List.take_of_length_le (by omega)]
    simp
  | succ d ih =>
    intro i h
    have e : wrap64 ((i : Int) + 1) = ((i + 1 : Nat) : Int) := by rw [w64 (by omega) (by omega)]; rfl
    have htl : (invL ((bytesOf s).take i)).length = i := by simp [invL]; omega
    have hset : (invL ((bytesOf s).take i) ++ List.replicate (d + 1) 0).set ((i : Int)).toNat ((97 - bt s i) % 256) = invL ((bytesOf s).take (i + 1)) ++ List.replicate d 0 := by
      rw [List.replicate_succ, set_fill _ _ _ _ _ (by rw [htl]; rfl), take_snoc s i (by omega)]
      simp [invL, inv]
    have hl2 : ((invL ((bytesOf s).take i) ++ List.replicate (d + 1) 0).length : Int) = s.size := by rw [List.length_append, htl]; simp; omega
    refine Ev.step (fun k => ?_) (ih (i + 1) (by omega))
    simp only [bits_Invert.l0]
    rw [if_pos (by omega), if_pos (by omega), if_pos (by omega), if_pos (by omega), hset, e]
theorem ev_bits_Invert (s : ByteArray) : Ev (fun k => bits_Invert.f k s) (invS s) := by
  unfold bits_Invert.f invS
  refine Ev.bind (ev_bits_Valid s) ?_
  by_cases hv : vB s = true
  · obtain ⟨hs, _⟩ := vB_iff.mp hv
    rw [if_pos hv]
    refine Ev.congr (fun k => ?_) (ev_bits_Invert_l0 s hs s.size 0 (by omega))
    rw [if_pos hv, if_pos (by omega), if_pos (by omega)]
    simp [invL]
  · rw [if_neg hv]
    refine Ev.now' fun k => ?_
    rw [if_neg hv]
theorem ev_ref_Invert_l0 (s : ByteArray) (hs : s.size ≤ 65536) : ∀ (d i : Nat), i + d = s.size →
    Ev (fun k => signalbenchref03_Invert.l0 k s (invL ((bytesOf s).take i)) (i : Int)) (strOfNums (invL (bytesOf s))) := by
  intro d
  have hlen := len_bytes s
  induction d with
  | zero =>
    intro i h
    refine Ev.stop fun k => ?_
    simp only [signalbenchref03_Invert.l0]
    rw [if_neg (by omega), List.take_of_length_le (by omega)]
  | succ d ih =>
    intro i h
    have e : wrap64 ((i : Int) + 1) = ((i + 1 : Nat) : Int) := by rw [w64 (by omega) (by omega)]; rfl
    have htl : (invL ((bytesOf s).take i)).length = i := by simp [invL]; omega
    have hset : invL ((bytesOf s).take i) ++ [(97 - bt s i) % 256] = invL ((bytesOf s).take (i + 1)) := by
      rw [take_snoc s i (by omega)]
      simp [invL, inv]
    refine Ev.step (fun k => ?_) (ih (i + 1) (by omega))
    simp only [signalbenchref03_Invert.l0]
    rw [if_pos (by omega), if_pos (by omega), if_pos (by omega), hset, e]
theorem ev_ref_Invert (s : ByteArray) : Ev (fun k => signalbenchref03_Invert.f k s) (invS s) := by
  unfold signalbenchref03_Invert.f invS
  refine Ev.bind (ev_ref_Valid s) ?_
  by_cases hv : vB s = true
  · obtain ⟨hs, _⟩ := vB_iff.mp hv
    rw [if_pos hv]
    refine Ev.congr (fun k => ?_) (ev_ref_Invert_l0 s hs s.size 0 (by omega))
    rw [if_pos hv]
    simp [invL]
  · rw [if_neg hv]
    refine Ev.now' fun k => ?_
    rw [if_neg hv]
theorem ev_ref_turn_l0 (s : ByteArray) (hs : s.size ≤ 140737488351232) : ∀ (d : Nat) (acc : List Int), d ≤ s.size → acc.length + d = s.size →
    Ev (fun k => signalbenchref03_turn.l0 k s acc ((d : Int) - 1)) (strOfNums (acc ++ ((bytesOf s).take d).reverse)) := by
  intro d
  induction d with
  | zero =>
    intro acc h1 h2
    refine Ev.stop fun k => ?_
    simp only [signalbenchref03_turn.l0]
    rw [if_neg (by omega)]; simp
  | succ d ih =>
    intro acc h1 h2
    have e0 : ((d + 1 : Nat) : Int) - 1 = (d : Int) := by omega
    have e : wrap64 ((d : Int) - 1) = (d : Int) - 1 := w64 (by omega) (by omega)
    have := ih (acc ++ [bt s d]) (by omega) (by simp; omega)
    rw [take_snoc s d (by omega), List.reverse_append, List.reverse_singleton, List.singleton_append]
    rw [List.append_assoc, List.singleton_append] at this
    refine Ev.step (fun k => ?_) this
    simp only [signalbenchref03_turn.l0]
    rw [e0, if_pos (by omega), if_pos (by omega), if_pos (by omega), if_pos (by omega), e]
theorem ev_ref_turn (s : ByteArray) (hs : s.size ≤ 140737488351232) : Ev (fun k => signalbenchref03_turn.f k s) (strOfNums (bytesOf s).reverse) := by
  unfold signalbenchref03_turn.f
  rw [w64 (by omega) (by omega)]
  have := ev_ref_turn_l0 s hs s.size [] (Nat.le_refl _) (by simp)
  rw [List.take_of_length_le (by rw [len_bytes]; exact Nat.le_refl _), List.nil_append] at this
  exact this
theorem ev_bits_Reverse_l0 (s : ByteArray) (hs : s.size ≤ 65536) : ∀ (d i : Nat), i + d = s.size →
    Ev (fun k => bits_Reverse.l0 k s (List.replicate d 0 ++ ((bytesOf s).take i).reverse) (s.size : Int) (i : Int)) (strOfNums (bytesOf s).reverse) := by
  intro d
  have hlen := len_bytes s
  induction d with
  | zero =>
    intro i h
    refine Ev.stop fun k => ?_
    simp only [bits_Reverse.l0]
    rw [if_neg (by omega), List.take_of_length_le (by omega)]
    simp
  | succ d ih =>
    intro i h
    have e : wrap64 ((i : Int) + 1) = ((i + 1 : Nat) : Int) := by rw [w64 (by omega) (by omega)]; rfl
    have e1 : wrap64 ((s.size : Int) - 1) = (s.size : Int) - 1 := w64 (by omega) (by omega)
    have e2 : wrap64 ((s.size : Int) - 1 - (i : Int)) = (d : Int) := by rw [w64 (by omega) (by omega)]; omega
    have hset : (List.replicate (d + 1) 0 ++ ((bytesOf s).take i).reverse).set ((d : Int)).toNat (bt s i) = List.replicate d 0 ++ ((bytesOf s).take (i + 1)).reverse := by
      rw [List.replicate_succ', List.append_assoc, List.singleton_append, set_fill _ _ _ _ _ (by simp), take_snoc s i (by omega)]
      simp
    have hl2 : ((List.replicate (d + 1) (0 : Int) ++ ((bytesOf s).take i).reverse).length : Int) = s.size := by simp; omega
    refine Ev.step (fun k => ?_) (ih (i + 1) (by omega))
    simp only [bits_Reverse.l0]
    rw [if_pos (by omega), if_pos (by omega), if_pos (by omega), e1, e2, if_pos (by omega), if_pos (by omega), hset, e]
theorem ev_bits_Reverse (s : ByteArray) : Ev (fun k => bits_Reverse.f k s) (revS s) := by
  unfold bits_Reverse.f revS
  refine Ev.bind (ev_bits_Valid s) ?_
  by_cases hv : vB s = true
  · obtain ⟨hs, _⟩ := vB_iff.mp hv
    rw [if_pos hv]
    refine Ev.congr (fun k => ?_) (ev_bits_Reverse_l0 s hs s.size 0 (by omega))
    rw [if_pos hv, if_pos (by omega), if_pos (by omega)]
    simp
  · rw [if_neg hv]
    refine Ev.now' fun k => ?_
    rw [if_neg hv]
theorem ev_ref_Reverse (s : ByteArray) : Ev (fun k => signalbenchref03_Reverse.f k s) (revS s) := by
  unfold signalbenchref03_Reverse.f revS
  refine Ev.bind (ev_ref_Valid s) ?_
  by_cases hv : vB s = true
  · obtain ⟨hs, _⟩ := vB_iff.mp hv
    rw [if_pos hv]
    refine Ev.congr (fun k => by rw [if_pos hv]) (Ev.bind (ev_ref_turn s (by omega)) (Ev.now _))
  · rw [if_neg hv]
    refine Ev.now' fun k => ?_
    rw [if_neg hv]
theorem ev_bits_Ones_l0 (s : ByteArray) (hs : s.size ≤ 65536) (hb : AllB (bytesOf s)) : ∀ (d i : Nat) (n : Int), i + d = s.size → 0 ≤ n → n ≤ i →
    Ev (fun k => bits_Ones.l0 k s n (s.size : Int) (i : Int)) (n + onesL ((bytesOf s).drop i)) := by
  intro d
  induction d with
  | zero =>
    intro i n h h0 h1
    refine Ev.stop fun k => ?_
    simp only [bits_Ones.l0]
    rw [if_neg (by omega), drop_end s i (by omega), onesL, Int.add_zero]
  | succ d ih =>
    intro i n h h0 h1
    have e : wrap64 ((i : Int) + 1) = ((i + 1 : Nat) : Int) := by rw [w64 (by omega) (by omega)]; rfl
    have hm : bt s i = 48 ∨ bt s i = 49 := hb _ (bt_mem s i (by omega))
    have hx : (bt s i - 48) % 256 = bt s i - 48 := by rcases hm with h | h <;> rw [h] <;> decide
    have := ih (i + 1) (n + (bt s i - 48)) (by omega) (by omega) (by omega)
    rw [drop_cons s i (by omega), onesL, ← Int.add_assoc]
    refine Ev.step (fun k => ?_) this
    simp only [bits_Ones.l0]
    rw [if_pos (by omega), if_pos (by omega), if_pos (by omega), hx, e, w64 (by omega) (by omega)]
theorem ev_bits_Ones (s : ByteArray) : Ev (fun k => bits_Ones.f k s) (onesS s) := by
  unfold bits_Ones.f onesS
  refine Ev.bind (ev_bits_Valid s) ?_
  by_cases hv : vB s = true
  · obtain ⟨hs, hb⟩ := vB_iff.mp hv
    rw [if_pos hv]
    have := ev_bits_Ones_l0 s hs hb s.size 0 0 (by omega) (by omega) (by omega)
    rw [Int.zero_add, List.drop_zero] at this
    refine Ev.congr (fun k => ?_) this
    rw [if_pos hv]; rfl
  · rw [if_neg hv]
    refine Ev.now' fun k => ?_
    rw [if_neg hv]
theorem ev_ref_Ones_l0 (s : ByteArray) (hs : s.size ≤ 65536) (hb : AllB (bytesOf s)) : ∀ (d i : Nat) (n : Int), i + d = s.size → 0 ≤ n → n ≤ i →
    Ev (fun k => signalbenchref03_Ones.l0 k s n (i : Int)) (n + onesL ((bytesOf s).drop i)) := by
  intro d
  induction d with
  | zero =>
    intro i n h h0 h1
    refine Ev.stop fun k => ?_
    simp only [signalbenchref03_Ones.l0]
    rw [if_neg (by omega), drop_end s i (by omega), onesL, Int.add_zero]
  | succ d ih =>
    intro i n h h0 h1
    have e : wrap64 ((i : Int) + 1) = ((i + 1 : Nat) : Int) := by rw [w64 (by omega) (by omega)]; rfl
    have hm : bt s i = 48 ∨ bt s i = 49 := hb _ (bt_mem s i (by omega))
    have := ih (i + 1) (n + (bt s i - 48)) (by omega) (by omega) (by omega)
    rw [drop_cons s i (by omega), onesL, ← Int.add_assoc]
    refine Ev.step (fun k => ?_) this
    simp only [signalbenchref03_Ones.l0]
    rw [if_pos (by omega), if_pos (by omega), e]
    rcases hm with hm | hm
    · rw [if_neg (by omega), hm]; simp
    · rw [if_pos hm, w64 (by omega) (by omega), hm]; simp
theorem ev_ref_Ones (s : ByteArray) : Ev (fun k => signalbenchref03_Ones.f k s) (onesS s) := by
  unfold signalbenchref03_Ones.f onesS
  refine Ev.bind (ev_ref_Valid s) ?_
  by_cases hv : vB s = true
  · obtain ⟨hs, hb⟩ := vB_iff.mp hv
    rw [if_pos hv]
    have := ev_ref_Ones_l0 s hs hb s.size 0 0 (by omega) (by omega) (by omega)
    rw [Int.zero_add, List.drop_zero] at this
    refine Ev.congr (fun k => ?_) this
    rw [if_pos hv]; rfl
  · rw [if_neg hv]
    refine Ev.now' fun k => ?_
    rw [if_neg hv]
theorem ev_bits_Run_l0 (s : ByteArray) (a : Nat) (hs : s.size ≤ 65536) (ha : a < s.size) : ∀ (d i : Nat), a + i + d = s.size →
    Ev (fun k => bits_Run.l0 k s (a : Int) (i : Int)) ((i + headRun (bt s a) ((bytesOf s).drop (a + i)) : Nat) : Int) := by
  intro d
  induction d with
  | zero =>
    intro i h
    have e : wrap64 ((a : Int) + (i : Int)) = ((a + i : Nat) : Int) := by rw [w64 (by omega) (by omega)]; rfl
    refine Ev.stop fun k => ?_
    simp only [bits_Run.l0]
    rw [e, if_neg (by omega), drop_end s _ (by omega)]; rfl
  | succ d ih =>
    intro i h
    have e : wrap64 ((a : Int) + (i : Int)) = ((a + i : Nat) : Int) := by rw [w64 (by omega) (by omega)]; rfl
    have e1 : wrap64 ((i : Int) + 1) = ((i + 1 : Nat) : Int) := by rw [w64 (by omega) (by omega)]; rfl
    rw [drop_cons s (a + i) (by omega), headRun]
    by_cases hq : bt s ((a + i : Nat) : Int) = bt s a
    · rw [if_pos hq]
      have := ih (i + 1) (by omega)
      rw [show i + (headRun (bt s a) (List.drop (a + i + 1) (bytesOf s)) + 1) = i + 1 + headRun (bt s a) (List.drop (a + (i + 1)) (bytesOf s)) by rw [← Nat.add_assoc a i 1]; omega]
      refine Ev.step (fun k => ?_) this
      simp only [bits_Run.l0]
      rw [e, if_pos (by omega), if_pos (by omega), if_pos (by omega), if_pos (by omega), if_pos hq, e1]
    · rw [if_neg hq]
      refine Ev.stop fun k => ?_
      simp only [bits_Run.l0]
      rw [e, if_pos (by omega), if_pos (by omega), if_pos (by omega), if_pos (by omega), if_neg hq]; rfl
theorem ev_bits_Run (s : ByteArray) (a : Int) : Ev (fun k => bits_Run.f k s a) (runS s a) := by
  unfold bits_Run.f
  refine Ev.bind (ev_bits_Valid s) ?_
  have hemp : Ev (fun k => bits_Run.j0 k s a true) 0 := by
    refine Ev.stop fun k => ?_
    simp only [bits_Run.j0, ↓reduceIte]
  unfold runS
  by_cases hv : vB s = true
  · obtain ⟨hs, _⟩ := vB_iff.mp hv
    by_cases h0 : a < 0
    · rw [if_neg (by omega)]
      refine Ev.congr (fun k => ?_) hemp
      rw [if_pos hv, if_pos h0]
    · by_cases h1 : a ≥ (s.size : Int)
      · rw [if_neg (by omega)]
        refine Ev.congr (fun k => ?_) hemp
        rw [if_pos hv, if_neg h0, decide_eq_true h1]
      · rw [if_pos ⟨hv, by omega, by omega⟩]
        obtain ⟨m, rfl⟩ := Int.eq_ofNat_of_zero_le (Int.not_lt.mp h0)
        have hgo := ev_bits_Run_l0 s m hs (by omega) (s.size - m - 1) 1 (by omega)
        have hval : ((1 + headRun (bt s m) ((bytesOf s).drop (m + 1)) : Nat) : Int) = (headRun (bt s (m : Int)) ((bytesOf s).drop ((m : Int)).toNat) : Int) := by
          rw [Int.toNat_natCast, drop_cons s m (by omega), headRun, if_pos rfl]
          omega
        rw [hval] at hgo
        refine Ev.congr (f := fun k => bits_Run.j0 k s (m : Int) false) (fun k => ?_) (Ev.step (fun k => ?_) hgo)
        · rw [if_pos hv, if_neg h0, decide_eq_false h1]
        · simp only [bits_Run.j0, ↓reduceIte, Bool.false_eq_true]; rfl
  · rw [if_neg (by simp [hv])]
    refine Ev.congr (fun k => ?_) hemp
    rw [if_neg hv]
theorem ev_ref_Run_l0 (s : ByteArray) (a : Nat) (hs : s.size ≤ 65536) (ha : a < s.size) : ∀ (d i : Nat), a + i + d = s.size →
    Ev (fun k => signalbenchref03_Run.l0 k s (a : Int) (i : Int)) ((i + headRun (bt s a) ((bytesOf s).drop (a + i)) : Nat) : Int) := by
  intro d
  induction d with
  | zero =>
    intro i h
    have e : wrap64 ((a : Int) + (i : Int)) = ((a + i : Nat) : Int) := by rw [w64 (by omega) (by omega)]; rfl
    refine Ev.stop fun k => ?_
    simp only [signalbenchref03_Run.l0]
    rw [e, if_neg (by omega), drop_end s _ (by omega)]; rfl
  | succ d ih =>
    intro i h
    have e : wrap64 ((a : Int) + (i : Int)) = ((a + i : Nat) : Int) := by rw [w64 (by omega) (by omega)]; rfl
    have e1 : wrap64 ((i : Int) + 1) = ((i + 1 : Nat) : Int) := by rw [w64 (by omega) (by omega)]; rfl
    rw [drop_cons s (a + i) (by omega), headRun]
    by_cases hq : bt s ((a + i : Nat) : Int) = bt s a
    · rw [if_pos hq]
      have := ih (i + 1) (by omega)
      rw [show i + (headRun (bt s a) (List.drop (a + i + 1) (bytesOf s)) + 1) = i + 1 + headRun (bt s a) (List.drop (a + (i + 1)) (bytesOf s)) by rw [← Nat.add_assoc a i 1]; omega]
      refine Ev.step (fun k => ?_) this
      simp only [signalbenchref03_Run.l0]
      rw [e, if_pos (by omega), if_pos (by omega), if_pos (by omega), if_pos (by omega), if_pos hq, e1]
    · rw [if_neg hq]
      refine Ev.stop fun k => ?_
      simp only [signalbenchref03_Run.l0]
      rw [e, if_pos (by omega), if_pos (by omega), if_pos (by omega), if_pos (by omega), if_neg hq]; rfl
theorem ev_ref_Run (s : ByteArray) (a : Int) : Ev (fun k => signalbenchref03_Run.f k s a) (runS s a) := by
  unfold signalbenchref03_Run.f
  refine Ev.bind (ev_ref_Valid s) ?_
  have hemp : Ev (fun k => signalbenchref03_Run.j0 k s a true) 0 := by
    refine Ev.stop fun k => ?_
    simp only [signalbenchref03_Run.j0, ↓reduceIte]
  unfold runS
  by_cases hv : vB s = true
  · obtain ⟨hs, _⟩ := vB_iff.mp hv
    by_cases h0 : a < 0
    · rw [if_neg (by omega)]
      refine Ev.congr (fun k => ?_) hemp
      rw [if_pos hv, if_pos h0]
    · by_cases h1 : a ≥ (s.size : Int)
      · rw [if_neg (by omega)]
        refine Ev.congr (fun k => ?_) hemp
        rw [if_pos hv, if_neg h0, decide_eq_true h1]
      · rw [if_pos ⟨hv, by omega, by omega⟩]
        obtain ⟨m, rfl⟩ := Int.eq_ofNat_of_zero_le (Int.not_lt.mp h0)
        have hgo := ev_ref_Run_l0 s m hs (by omega) (s.size - m - 0) 0 (by omega)
        have hval : ((0 + headRun (bt s m) ((bytesOf s).drop (m + 0)) : Nat) : Int) = (headRun (bt s (m : Int)) ((bytesOf s).drop ((m : Int)).toNat) : Int) := by
          rw [Int.toNat_natCast, Nat.zero_add, Nat.add_zero]
        rw [hval] at hgo
        refine Ev.congr (f := fun k => signalbenchref03_Run.j0 k s (m : Int) false) (fun k => ?_) (Ev.step (fun k => ?_) hgo)
        · rw [if_pos hv, if_neg h0, decide_eq_false h1]
        · simp only [signalbenchref03_Run.j0, ↓reduceIte, Bool.false_eq_true]; rfl
  · rw [if_neg (by simp [hv])]
    refine Ev.congr (fun k => ?_) hemp
    rw [if_neg hv]
theorem ev_lives : Ev (fun k => signalbenchlaw03_lives.f k) true := by
  refine Ev.of (fun k => signalbenchlaw03_lives.mono k) (k := 20) ?_
  decide +kernel
theorem main : signalbenchlaw03_BitsText.Pure := by
  intro s a hs ha
  refine Ev.rounds (g := fun k => signalbenchlaw03_BitsText.f k s a) ?_
  unfold signalbenchlaw03_BitsText.f
  refine Ev.bind ev_lives ?_
  by_cases h : (s.size : Int) > 70000
  · refine Ev.now' fun k => ?_
    rw [if_pos rfl, if_pos h]
  · refine Ev.congr (fun k => by rw [if_pos rfl, if_neg h]) ?_
    refine Ev.bind (ev_bits_Invert s) (Ev.bind (ev_ref_Invert s) ?_)
    simp only [↓reduceIte]
    refine Ev.bind (ev_bits_Reverse s) (Ev.bind (ev_ref_Reverse s) ?_)
    simp only [↓reduceIte]
    refine Ev.bind (ev_bits_Ones s) (Ev.bind (ev_ref_Ones s) ?_)
    simp only [↓reduceIte]
    refine Ev.bind (ev_bits_Run s a) (Ev.bind (ev_ref_Run s a) ?_)
    refine Ev.now' fun k => ?_
    simp
end BitsText_
theorem BitsText : signalbenchlaw03_BitsText.Pure := BitsText_.main
end Go.Proofs.Ytgheedkpiaemfaa.Pure
