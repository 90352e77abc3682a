/- The law BitsTurns holds as a statement on numbers and lists: reversing turns the order of a number's bits, and inverting or reversing twice gives back a sequence of bits. No condition beyond those of the statement. -/
import Derived.Test.YtgheedkpiaemfaaPBitsTurnsx3
import Derived.Test.YtgheedkpiaemfaaSpecBits
namespace Go.Proofs.Ytgheedkpiaemfaa.Pure
open Go.RowKit Go.Proofs.Ytgheedkpiaemfaa.PBitsTurns Go.Proofs.YtgheedkpiaemfaaW.PrintWords Go.Proofs.YtgheedkpiaemfaaW.PrintLast Go.Proofs.Ytgheedkpiaemfaa.Aid
namespace BitsTurns_
theorem ev_bits_Valid_l0 (s : ByteArray) (hs : s.size ≤ 65536) : ∀ (d i : Nat), i + d = s.size → Ev (fun k => bits_Valid.l0 k s (s.size : Int) (i : Int)) (((bytesOf s).drop i).all isB) := by
  intro d
  induction d with
  | zero =>
    intro i h
    refine Ev.stop fun k => ?_
    simp only [bits_Valid.l0]
    rw [if_neg (by omega), drop_end s i (by omega)]; rfl
  | succ d ih =>
    intro i h
    have e : wrap64 ((i : Int) + 1) = ((i + 1 : Nat) : Int) := by rw [w64 (by omega) (by omega)]; rfl
    rw [drop_cons s i (by omega), List.all_cons]
    by_cases h48 : bt s i = 48
    · have e2 : isB (bt s i) = true := isB_iff.mpr (.inl h48)
      rw [e2, Bool.true_and]
      refine Ev.step (fun k => ?_) (ih (i + 1) (by omega))
      simp only [bits_Valid.l0]
      rw [if_pos (by omega), if_pos (by omega), if_pos (by omega), if_pos h48, e]
    · by_cases h49 : bt s i = 49
      · have e2 : isB (bt s i) = true := isB_iff.mpr (.inr h49)
        rw [e2, Bool.true_and]
        refine Ev.step (fun k => ?_) (ih (i + 1) (by omega))
        simp only [bits_Valid.l0]
        rw [if_pos (by omega), if_pos (by omega), if_pos (by omega), if_neg h48, if_pos h49, e]
      · have e2 : isB (bt s i) = false := by simp [isB, h48, h49]
        rw [e2, Bool.false_and]
        refine Ev.stop fun k => ?_
        simp only [bits_Valid.l0]
        rw [if_pos (by omega), if_pos (by omega), if_pos (by omega), if_neg h48, if_neg h49]
theorem ev_bits_Valid (s : ByteArray) : Ev (fun k => bits_Valid.f k s) (vB s) := by
  unfold bits_Valid.f vB
  by_cases h : s.size ≤ 65536
  · rw [decide_eq_true h, Bool.true_and]
    refine Ev.congr (fun k => ?_) (ev_bits_Valid_l0 s h s.size 0 (by omega))
    rw [if_neg (by omega)]; rfl
  · rw [decide_eq_false h, Bool.false_and]
    refine Ev.now' fun k => ?_
    rw [if_pos (by omega)]
theorem ev_bits_FromInt_l0 (n : Int) (w : Nat) (msb : Bool) (hw : w ≤ 62) : ∀ (d i : Nat), i + d = w →
    Ev (fun k => bits_FromInt.l0 k n (w : Int) msb ((fromIntL n w msb).take i ++ List.replicate d 0) (w : Int) (i : Int)) (strOfNums (fromIntL n w msb)) := by
  have hlen := fromIntL_len n w msb
  intro d
  induction d with
  | zero =>
    intro i h
    refine Ev.stop fun k => ?_
    simp only [bits_FromInt.l0]
    rw [if_neg (by omega), List.take_of_length_le (by omega)]
    simp
  | succ d ih =>
    intro i h
    have hi : i < (fromIntL n w msb).length := by omega
    have e : wrap64 ((i : Int) + 1) = ((i + 1 : Nat) : Int) := by rw [w64 (by omega) (by omega)]; rfl
    have e1 : wrap64 ((w : Int) - 1) = (w : Int) - 1 := w64 (by omega) (by omega)
    have e2 : wrap64 ((w : Int) - 1 - (i : Int)) = (d : Int) := by rw [w64 (by omega) (by omega)]; omega
    have hg := fromIntL_get n w msb i hi
    have htl : ((fromIntL n w msb).take i).length = i := by rw [List.length_take]; omega
    have hset : ∀ v, v = (fromIntL n w msb)[i] → ((fromIntL n w msb).take i ++ List.replicate (d + 1) 0).set ((i : Int)).toNat v = (fromIntL n w msb).take (i + 1) ++ List.replicate d 0 := by
      rintro v rfl
      rw [List.replicate_succ, set_fill _ _ _ _ _ (by rw [htl]; rfl), List.take_succ_eq_append_getElem hi, List.append_assoc]
      rfl
    have hl2 : (((fromIntL n w msb).take i ++ List.replicate (d + 1) 0).length : Int) = w := by simp; omega
    have hsg : ∀ x : Int, (48 + x % 2 % 256) % 256 = 48 + x % 2 := fun x => by omega
    cases msb with
    | true =>
      refine Ev.step (fun k => ?_) (ih (i + 1) (by omega))
      have hd : w - 1 - i = d := by omega
      simp only [↓reduceIte, hd] at hg
      simp only [bits_FromInt.l0, ↓reduceIte]
      rw [if_pos (by omega), e1, e2, if_pos (by omega)]
      simp only [bits_sign.f, Option.bind_some]
      rw [if_pos (by omega), if_pos (by omega), e, and_one, shr_eq n (d : Int) d rfl (by omega), hsg, hset _ hg.symm]
    | false =>
      refine Ev.step (fun k => ?_) (ih (i + 1) (by omega))
      simp only [↓reduceIte, Bool.false_eq_true] at hg
      simp only [bits_FromInt.l0, ↓reduceIte, Bool.false_eq_true]
      rw [if_pos (by omega), if_pos (by omega)]
      simp only [bits_sign.f, Option.bind_some]
      rw [if_pos (by omega), e, and_one, shr_eq n (i : Int) i rfl (by omega), hsg, hset _ hg.symm]
theorem ev_bits_FromInt (n w : Int) (msb : Bool) : Ev (fun k => bits_FromInt.f k n w msb) (fromIntS n w msb) := by
  unfold bits_FromInt.f fromIntS
  have hemp : Ev (fun k => bits_FromInt.j0 k n w msb true) (⟨#[]⟩ : ByteArray) := by
    refine Ev.stop fun k => ?_
    simp only [bits_FromInt.j0, ↓reduceIte]
  by_cases h : w < 0
  · rw [if_pos h]
    refine Ev.congr (fun k => ?_) hemp
    rw [if_pos h]
  · rw [if_neg h]
    by_cases h2 : w > 62
    · rw [if_pos h2]
      refine Ev.congr (fun k => ?_) hemp
      rw [if_neg h, decide_eq_true h2]
    · rw [if_neg h2]
      obtain ⟨m, rfl⟩ := Int.eq_ofNat_of_zero_le (Int.not_lt.mp h)
      refine Ev.congr (f := fun k => bits_FromInt.j0 k n (m : Int) msb false) (fun k => ?_) (Ev.step (fun k => ?_) (ev_bits_FromInt_l0 n m msb (by omega) m 0 (by omega)))
      · rw [if_neg h, decide_eq_false h2]
      · simp only [bits_FromInt.j0, ↓reduceIte, Bool.false_eq_true]
        rw [if_pos (by omega), if_pos (by omega)]
        simp
theorem ev_bits_Invert_l0 (s : ByteArray) (hs : s.size ≤ 65536) : ∀ (d i : Nat), i + d = s.size →
    Ev (fun k => bits_Invert.l0 k s (invL ((bytesOf s).take i) ++ List.replicate d 0) (s.size : Int) (i : Int)) (strOfNums (invL (bytesOf s))) := by
  intro d
  have hlen := len_bytes s
  induction d with
  | zero =>
    intro i h
    refine Ev.stop fun k => ?_
    simp only [bits_Invert.l0]
    rw [if_neg (by omega), List.take_of_length_le (by omega)]
    simp
  | succ d ih =>
    intro i h
    have e : wrap64 ((i : Int) + 1) = ((i + 1 : Nat) : Int) := by rw [w64 (by omega) (by omega)]; rfl
    have htl : (invL ((bytesOf s).take i)).length = i := by simp [invL]; omega
    have hset : (invL ((bytesOf s).take i) ++ List.replicate (d + 1) 0).set ((i : Int)).toNat ((97 - bt s i) % 256) = invL ((bytesOf s).take (i + 1)) ++ List.replicate d 0 := by
      rw [List.replicate_succ, set_fill _ _ _ _ _ (by rw [htl]; rfl), take_snoc s i (by omega)]
      simp [invL, inv]
    have hl2 : ((invL ((bytesOf s).take i) ++ List.replicate (d + 1) 0).length : Int) = s.size := by rw [List.length_append, htl]; simp; omega
    refine Ev.step (fun k => ?_) (ih (i + 1) (by omega))
    simp only [bits_Invert.l0]
    rw [if_pos (by omega), if_pos (by omega), if_pos (by omega), if_pos (by omega), hset, e]
theorem ev_bits_Invert (s : ByteArray) : Ev (fun k => bits_Invert.f k s) (invS s) := by
  unfold bits_Invert.f invS
  refine Ev.bind (ev_bits_Valid s) ?_
  by_cases hv : vB s = true
  · obtain ⟨hs, _⟩ := vB_iff.mp hv
    rw [if_pos hv]
    refine Ev.congr (fun k => ?_) (ev_bits_Invert_l0 s hs s.size 0 (by omega))
    rw [if_pos hv, if_pos (by omega), if_pos (by omega)]
    simp [invL]
  · rw [if_neg hv]
    refine Ev.now' fun k => ?_
    rw [if_neg hv]
theorem ev_bits_Reverse_l0 (s : ByteArray) (hs : s.size ≤ 65536) : ∀ (d i : Nat), i + d = s.size →
    Ev (fun k => bits_Reverse.l0 k s (List.replicate d 0 ++ ((bytesOf s).take i).reverse) (s.size : Int) (i : Int)) (strOfNums (bytesOf s).reverse) := by
  intro d
  have hlen := len_bytes s
  induction d with
  | zero =>
    intro i h
    refine Ev.stop fun k => ?_
    simp only [bits_Reverse.l0]
    rw [if_neg (by omega), List.take_of_length_le (by omega)]
    simp
  | succ d ih =>
    intro i h
    have e : wrap64 ((i : Int) + 1) = ((i + 1 : Nat) : Int) := by rw [w64 (by omega) (by omega)]; rfl
    have e1 : wrap64 ((s.size : Int) - 1) = (s.size : Int) - 1 := w64 (by omega) (by omega)
    have e2 : wrap64 ((s.size : Int) - 1 - (i : Int)) = (d : Int) := by rw [w64 (by omega) (by omega)]; omega
    have hset : (List.replicate (d + 1) 0 ++ ((bytesOf s).take i).reverse).set ((d : Int)).toNat (bt s i) = List.replicate d 0 ++ ((bytesOf s).take (i + 1)).reverse := by
      rw [List.replicate_succ', List.append_assoc, List.singleton_append, set_fill _ _ _ _ _ (by simp), take_snoc s i (by omega)]
      simp
    have hl2 : ((List.replicate (d + 1) (0 : Int) ++ ((bytesOf s).take i).reverse).length : Int) = s.size := by simp; omega
    refine Ev.step (fun k => ?_) (ih (i + 1) (by omega))
    simp only [bits_Reverse.l0]
    rw [if_pos (by omega), if_pos (by omega), if_pos (by omega), e1, e2, if_pos (by omega), if_pos (by omega), hset, e]
theorem ev_bits_Reverse (s : ByteArray) : Ev (fun k => bits_Reverse.f k s) (revS s) := by
  unfold bits_Reverse.f revS
  refine Ev.bind (ev_bits_Valid s) ?_
  by_cases hv : vB s = true
  · obtain ⟨hs, _⟩ := vB_iff.mp hv
    rw [if_pos hv]
    refine Ev.congr (fun k => ?_) (ev_bits_Reverse_l0 s hs s.size 0 (by omega))
    rw [if_pos hv, if_pos (by omega), if_pos (by omega)]
    simp
  · rw [if_neg hv]
    refine Ev.now' fun k => ?_
    rw [if_neg hv]
theorem ev_bits_Ones_l0 (s : ByteArray) (hs : s.size ≤ 65536) (hb : AllB (bytesOf s)) : ∀ (d i : Nat) (n : Int), i + d = s.size → 0 ≤ n → n ≤ i →
    Ev (fun k => bits_Ones.l0 k s n (s.size : Int) (i : Int)) (n + onesL ((bytesOf s).drop i)) := by
  intro d
  induction d with
  | zero =>
    intro i n h h0 h1
    refine Ev.stop fun k => ?_
    simp only [bits_Ones.l0]
    rw [if_neg (by omega), drop_end s i (by omega), onesL, Int.add_zero]
  | succ d ih =>
    intro i n h h0 h1
    have e : wrap64 ((i : Int) + 1) = ((i + 1 : Nat) : Int) := by rw [w64 (by omega) (by omega)]; rfl
    have hm : bt s i = 48 ∨ bt s i = 49 := hb _ (bt_mem s i (by omega))
    have hx : (bt s i - 48) % 256 = bt s i - 48 := by rcases hm with h | h <;> rw [h] <;> decide
    have := ih (i + 1) (n + (bt s i - 48)) (by omega) (by omega) (by omega)
    rw [drop_cons s i (by omega), onesL, ← Int.add_assoc]
    refine Ev.step (fun k => ?_) this
    simp only [bits_Ones.l0]
    rw [if_pos (by omega), if_pos (by omega), if_pos (by omega), hx, e, w64 (by omega) (by omega)]
theorem ev_bits_Ones (s : ByteArray) : Ev (fun k => bits_Ones.f k s) (onesS s) := by
  unfold bits_Ones.f onesS
  refine Ev.bind (ev_bits_Valid s) ?_
  by_cases hv : vB s = true
  · obtain ⟨hs, hb⟩ := vB_iff.mp hv
    rw [if_pos hv]
    have := ev_bits_Ones_l0 s hs hb s.size 0 0 (by omega) (by omega) (by omega)
    rw [Int.zero_add, List.drop_zero] at this
    refine Ev.congr (fun k => ?_) this
    rw [if_pos hv]; rfl
  · rw [if_neg hv]
    refine Ev.now' fun k => ?_
    rw [if_neg hv]
theorem ev_lives : Ev (fun k => signalbenchlaw03_lives.f k) true := by
  refine Ev.of (fun k => signalbenchlaw03_lives.mono k) (k := 20) ?_
  decide +kernel
theorem ev_j0 (s : ByteArray) : Ev (fun k => signalbenchlaw03_BitsTurns.j0 k s false) true := by
  refine Ev.step (f := fun k => (bits_Valid.f k s).bind fun t => _) (fun k => by simp only [signalbenchlaw03_BitsTurns.j0, ↓reduceIte, Bool.false_eq_true]; rfl) ?_
  refine Ev.bind (ev_bits_Valid s) ?_
  by_cases hv : vB s = true
  · obtain ⟨hs, hb⟩ := vB_iff.mp hv
    have hlen := len_bytes s
    have e1 : invS s = strOfNums (invL (bytesOf s)) := if_pos hv
    have e2 : vB (invS s) = true := by rw [e1]; exact vB_str (invL_bits hb) (by simp [invL]; omega)
    have e3 : invS (invS s) = s := by
      rw [invS, if_pos e2, e1, bytes_str (invL_bits hb).byts, invL_invL hb, str_bytes]
    have e4 : revS s = strOfNums (bytesOf s).reverse := if_pos hv
    have e5 : vB (revS s) = true := by rw [e4]; exact vB_str hb.reverse (by simp; omega)
    have e6 : revS (revS s) = s := by
      rw [revS, if_pos e5, e4, bytes_str hb.reverse.byts, List.reverse_reverse, str_bytes]
    have e7 : onesS s + onesS (invS s) = s.size := by
      rw [onesS, if_pos hv, onesS, if_pos e2, e1, bytes_str (invL_bits hb).byts, onesL_inv hb, hlen]
    refine Ev.congr (fun k => by rw [if_pos hv]) ?_
    refine Ev.bind (ev_bits_Invert s) (Ev.bind (ev_bits_Invert _) ?_)
    simp only [e3, ↓reduceIte]
    refine Ev.bind (ev_bits_Reverse s) (Ev.bind (ev_bits_Reverse _) ?_)
    simp only [e6, ↓reduceIte]
    refine Ev.bind (ev_bits_Ones s) (Ev.bind (ev_bits_Invert _) (Ev.bind (ev_bits_Ones _) ?_))
    refine Ev.now' fun k => ?_
    rw [e7, w64 (by omega) (by omega)]
    simp
  · refine Ev.congr (fun k => by rw [if_neg hv]) ?_
    have e1 : invS s = ⟨#[]⟩ := if_neg hv
    have e2 : revS s = ⟨#[]⟩ := if_neg hv
    have e3 : onesS s = 0 := if_neg hv
    have e4 : (⟨#[]⟩ : ByteArray).toList = [] := by rw [toList_data]
    refine Ev.bind (ev_bits_Invert s) ?_
    simp only [e1, e4, ↓reduceIte]
    refine Ev.bind (ev_bits_Reverse s) ?_
    simp only [e2, e4, ↓reduceIte]
    refine Ev.bind (ev_bits_Ones s) ?_
    refine Ev.now' fun k => ?_
    rw [e3]; rfl
theorem main : signalbenchlaw03_BitsTurns.Pure := by
  intro n w s hn hw hs
  refine Ev.rounds (g := fun k => signalbenchlaw03_BitsTurns.f k n w s) ?_
  unfold signalbenchlaw03_BitsTurns.f
  refine Ev.bind ev_lives ?_
  by_cases h : (s.size : Int) > 70000
  · refine Ev.now' fun k => ?_
    rw [if_pos rfl, if_pos h]
  · by_cases h0 : w ≥ 0
    · by_cases h1 : w ≤ 62
      · refine Ev.congr (fun k => by rw [if_pos rfl, if_neg h, if_pos h0, if_pos h1]) ?_
        have e1 : fromIntS n w true = strOfNums (lsb n w.toNat).reverse := by unfold fromIntS; rw [if_neg (by omega), if_neg (by omega)]; rfl
        have e2 : fromIntS n w false = strOfNums (lsb n w.toNat) := by unfold fromIntS; rw [if_neg (by omega), if_neg (by omega)]; rfl
        have hb := lsb_bits n w.toNat
        have e3 : revS (fromIntS n w true) = fromIntS n w false := by
          rw [e1, e2, revS, if_pos (vB_str hb.reverse (by rw [List.length_reverse, lsb_len]; omega)), bytes_str hb.reverse.byts, List.reverse_reverse]
        refine Ev.bind (ev_bits_FromInt n w true) (Ev.bind (ev_bits_Reverse _) (Ev.bind (ev_bits_FromInt n w false) ?_))
        rw [e3]
        simpa using ev_j0 s
      · refine Ev.congr (fun k => by rw [if_pos rfl, if_neg h, if_pos h0, if_neg h1]) (ev_j0 s)
    · refine Ev.congr (fun k => by rw [if_pos rfl, if_neg h, if_neg h0]) (ev_j0 s)
end BitsTurns_
theorem BitsTurns : signalbenchlaw03_BitsTurns.Pure := BitsTurns_.main
end Go.Proofs.Ytgheedkpiaemfaa.Pure
