/- The law BitsRoundTrip holds as a statement on numbers and lists: numbers and bytes are read back from their bits, in both orders. No condition beyond those of the statement. -/
import Derived.Test.YtgheedkpiaemfaaPBitsRoundTripx2
import Derived.Test.YtgheedkpiaemfaaSpecBytes
namespace Go.Proofs.Ytgheedkpiaemfaa.Pure
open Go.RowKit Go.Proofs.Ytgheedkpiaemfaa.PBitsRoundTrip Go.Proofs.YtgheedkpiaemfaaW.PrintWords Go.Proofs.YtgheedkpiaemfaaW.PrintLast Go.Proofs.Ytgheedkpiaemfaa.Aid
namespace BitsRoundTrip_
theorem ev_bits_Valid_l0 (s : ByteArray) (hs : s.size ≤ 65536) : ∀ (d i : Nat), i + d = s.size → Ev (fun k => bits_Valid.l0 k s (s.size : Int) (i : Int)) (((bytesOf s).drop i).all isB) := by
  intro d
  induction d with
  | zero =>
    intro i h
    refine Ev.stop fun k => ?_
    simp only [bits_Valid.l0]
    rw [if_neg (by omega), drop_end s i (by omega)]; rfl
  | succ d ih =>
    intro i h
    have e : wrap64 ((i : Int) + 1) = ((i + 1 : Nat) : Int) := by rw [w64 (by omega) (by omega)]; rfl
    rw [drop_cons s i (by omega), List.all_cons]
    by_cases h48 : bt s i = 48
    · have e2 : isB (bt s i) = true := isB_iff.mpr (.inl h48)
      rw [e2, Bool.true_and]
      refine Ev.step (fun k => ?_) (ih (i + 1) (by omega))
      simp only [bits_Valid.l0]
      rw [if_pos (by omega), if_pos (by omega), if_pos (by omega), if_pos h48, e]
    · by_cases h49 : bt s i = 49
      · have e2 : isB (bt s i) = true := isB_iff.mpr (.inr h49)
        rw [e2, Bool.true_and]
        refine Ev.step (fun k => ?_) (ih (i + 1) (by omega))
        simp only [bits_Valid.l0]
        rw [if_pos (by omega), if_pos (by omega), if_pos (by omega), if_neg h48, if_pos h49, e]
      · have e2 : isB (bt s i) = false := by simp [isB, h48, h49]
        rw [e2, Bool.false_and]
        refine Ev.stop fun k => ?_
        simp only [bits_Valid.l0]
        rw [if_pos (by omega), if_pos (by omega), if_pos (by omega), if_neg h48, if_neg h49]
theorem ev_bits_Valid (s : ByteArray) : Ev (fun k => bits_Valid.f k s) (vB s) := by
  unfold bits_Valid.f vB
  by_cases h : s.size ≤ 65536
  · rw [decide_eq_true h, Bool.true_and]
    refine Ev.congr (fun k => ?_) (ev_bits_Valid_l0 s h s.size 0 (by omega))
    rw [if_neg (by omega)]; rfl
  · rw [decide_eq_false h, Bool.false_and]
    refine Ev.now' fun k => ?_
    rw [if_pos (by omega)]
theorem ev_bits_Int_l0 (s : ByteArray) (msb : Bool) (hs : s.size ≤ 62) (hb : AllB (bytesOf s)) : ∀ (d i : Nat), i + d = s.size →
    Ev (fun k => bits_Int.l0 k s msb (if msb = true then valL ((bytesOf s).take i).reverse * 2 ^ d else valL ((bytesOf s).take i)) (s.size : Int) (i : Int)) (intL (bytesOf s) msb, 0) := by
  have hlen := len_bytes s
  have hbd : ∀ (l : List Int) (n : Nat), AllB l → l.length ≤ n → n ≤ 62 → 0 ≤ valL l ∧ valL l < 2 ^ n := fun l n h1 h2 h3 => by
    have := valL_bd h1
    have := pow2_le h2
    omega
  intro d
  induction d with
  | zero =>
    intro i h
    refine Ev.stop fun k => ?_
    simp only [bits_Int.l0]
    rw [if_neg (by omega), List.take_of_length_le (by omega)]
    unfold intL
    cases msb <;> simp
  | succ d ih =>
    intro i h
    have e : wrap64 ((i : Int) + 1) = ((i + 1 : Nat) : Int) := by rw [w64 (by omega) (by omega)]; rfl
    have e1 : wrap64 ((s.size : Int) - 1) = (s.size : Int) - 1 := w64 (by omega) (by omega)
    have e2 : wrap64 ((s.size : Int) - 1 - (i : Int)) = (d : Int) := by rw [w64 (by omega) (by omega)]; omega
    have hm : bt s i = 48 ∨ bt s i = 49 := hb _ (bt_mem s i (by omega))
    have h62 := pow2_62
    have hsn := take_snoc s i (by omega)
    have hd0 := pow2_pos d
    have hi0 := pow2_pos i
    have hdl : (2 : Int) ^ d ≤ 2 ^ 62 := pow2_le (by omega)
    have hil : (2 : Int) ^ i ≤ 2 ^ 62 := pow2_le (by omega)
    have hx : (bt s i - 48) % 256 = bt s i - 48 := by rcases hm with h | h <;> rw [h] <;> decide
    have hxd : 0 ≤ (bt s i - 48) * 2 ^ d ∧ (bt s i - 48) * 2 ^ d ≤ 2 ^ d := by rcases hm with h | h <;> rw [h] <;> simp <;> omega
    have hxi : 0 ≤ (bt s i - 48) * 2 ^ i ∧ (bt s i - 48) * 2 ^ i ≤ 2 ^ i := by rcases hm with h | h <;> rw [h] <;> simp <;> omega
    have htl : ((bytesOf s).take i).length = i := by rw [List.length_take]; omega
    cases msb with
    | true =>
      obtain ⟨a0, a1⟩ := hbd ((bytesOf s).take i).reverse i (hb.take i).reverse (by simp; omega) (by omega)
      have hgoal : Go.bits .or .i64 (valL ((bytesOf s).take i).reverse * 2 ^ (d + 1)) (shl .i64 (bt s i - 48) (d : Int)) = valL ((bytesOf s).take (i + 1)).reverse * 2 ^ d := by
        have hq : valL ((bytesOf s).take i).reverse * 2 ^ (d + 1) + 2 ^ (d + 1) ≤ 2 ^ 62 := by
          have h1 : (valL ((bytesOf s).take i).reverse + 1) * 2 ^ (d + 1) ≤ 2 ^ i * 2 ^ (d + 1) := Int.mul_le_mul_of_nonneg_right (by omega) (Int.le_of_lt (pow2_pos _))
          rw [← pow2_add, Int.add_mul, Int.one_mul] at h1
          have h2 : (2 : Int) ^ (i + (d + 1)) ≤ 2 ^ 62 := pow2_le (by omega)
          omega
        have hp := pow2_succ d
        rw [shl_eq d rfl (by omega) hxd.1 (by omega), or_add (d + 1) a0 (by omega) hxd.1 (by omega)]
        rw [hsn, List.reverse_append, List.reverse_singleton, List.singleton_append, valL, Int.add_mul, hp]
        rw [Int.mul_comm 2 (valL _), Int.mul_assoc, Int.add_comm]
      refine Ev.step (fun k => ?_) (ih (i + 1) (by omega))
      simp only [bits_Int.l0, ↓reduceIte]
      rw [if_pos (by omega), if_pos (by omega), if_pos (by omega), e1, e2, if_pos (by omega), hx, e, hgoal]
    | false =>
      obtain ⟨a0, a1⟩ := hbd ((bytesOf s).take i) i (hb.take i) (by omega) (by omega)
      have hgoal : Go.bits .or .i64 (valL ((bytesOf s).take i)) (shl .i64 (bt s i - 48) (i : Int)) = valL ((bytesOf s).take (i + 1)) := by
        rw [shl_eq i rfl (by omega) hxi.1 (by omega), or_comm a0 (by omega) hxi.1 (by omega)]
        rw [or_add i (by rcases hm with h | h <;> rw [h] <;> decide) (by omega) a0 a1, hsn, valL_snoc, htl, Int.add_comm]
      refine Ev.step (fun k => ?_) (ih (i + 1) (by omega))
      simp only [bits_Int.l0, ↓reduceIte, Bool.false_eq_true]
      rw [if_pos (by omega), if_pos (by omega), if_pos (by omega), hx, e, hgoal]
theorem ev_bits_Int (s : ByteArray) (msb : Bool) : Ev (fun k => bits_Int.f k s msb) (intS s msb) := by
  unfold bits_Int.f intS
  refine Ev.bind (ev_bits_Valid s) ?_
  by_cases hv : vB s = true
  · obtain ⟨_, hb⟩ := vB_iff.mp hv
    by_cases h : s.size ≤ 62
    · rw [if_pos hv, if_pos h]
      refine Ev.congr (fun k => ?_) (ev_bits_Int_l0 s msb h hb s.size 0 (by omega))
      rw [if_pos hv, if_neg (by omega)]
      cases msb <;> simp [valL]
    · rw [if_pos hv, if_neg h]
      refine Ev.now' fun k => ?_
      rw [if_pos hv, if_pos (by omega)]
  · rw [if_neg hv]
    refine Ev.now' fun k => ?_
    rw [if_neg hv]
theorem ev_bits_FromInt_l0 (n : Int) (w : Nat) (msb : Bool) (hw : w ≤ 62) : ∀ (d i : Nat), i + d = w →
    Ev (fun k => bits_FromInt.l0 k n (w : Int) msb ((fromIntL n w msb).take i ++ List.replicate d 0) (w : Int) (i : Int)) (strOfNums (fromIntL n w msb)) := by
  have hlen := fromIntL_len n w msb
  intro d
  induction d with
  | zero =>
    intro i h
    refine Ev.stop fun k => ?_
    simp only [bits_FromInt.l0]
    rw [if_neg (by omega), List.take_of_length_le (by omega)]
    simp
  | succ d ih =>
    intro i h
    have hi : i < (fromIntL n w msb).length := by omega
    have e : wrap64 ((i : Int) + 1) = ((i + 1 : Nat) : Int) := by rw [w64 (by omega) (by omega)]; rfl
    have e1 : wrap64 ((w : Int) - 1) = (w : Int) - 1 := w64 (by omega) (by omega)
    have e2 : wrap64 ((w : Int) - 1 - (i : Int)) = (d : Int) := by rw [w64 (by omega) (by omega)]; omega
    have hg := fromIntL_get n w msb i hi
    have htl : ((fromIntL n w msb).take i).length = i := by rw [List.length_take]; omega
    have hset : ∀ v, v = (fromIntL n w msb)[i] → ((fromIntL n w msb).take i ++ List.replicate (d + 1) 0).set ((i : Int)).toNat v = (fromIntL n w msb).take (i + 1) ++ List.replicate d 0 := by
      rintro v rfl
      rw [List.replicate_succ, set_fill _ _ _ _ _ (by rw [htl]; rfl), List.take_succ_eq_append_getElem hi, List.append_assoc]
      rfl
    have hl2 : (((fromIntL n w msb).take i ++ List.replicate (d + 1) 0).length : Int) = w := by simp; omega
    have hsg : ∀ x : Int, (48 + x % 2 % 256) % 256 = 48 + x % 2 := fun x => by omega
    cases msb with
    | true =>
      refine Ev.step (fun k => ?_) (ih (i + 1) (by omega))
      have hd : w - 1 - i = d := by omega
      simp only [↓reduceIte, hd] at hg
      simp only [bits_FromInt.l0, ↓reduceIte]
      rw [if_pos (by omega), e1, e2, if_pos (by omega)]
      simp only [bits_sign.f, Option.bind_some]
      rw [if_pos (by omega), if_pos (by omega), e, and_one, shr_eq n (d : Int) d rfl (by omega), hsg, hset _ hg.symm]
    | false =>
      refine Ev.step (fun k => ?_) (ih (i + 1) (by omega))
      simp only [↓reduceIte, Bool.false_eq_true] at hg
      simp only [bits_FromInt.l0, ↓reduceIte, Bool.false_eq_true]
      rw [if_pos (by omega), if_pos (by omega)]
      simp only [bits_sign.f, Option.bind_some]
      rw [if_pos (by omega), e, and_one, shr_eq n (i : Int) i rfl (by omega), hsg, hset _ hg.symm]
theorem ev_bits_FromInt (n w : Int) (msb : Bool) : Ev (fun k => bits_FromInt.f k n w msb) (fromIntS n w msb) := by
  unfold bits_FromInt.f fromIntS
  have hemp : Ev (fun k => bits_FromInt.j0 k n w msb true) (⟨#[]⟩ : ByteArray) := by
    refine Ev.stop fun k => ?_
    simp only [bits_FromInt.j0, ↓reduceIte]
  by_cases h : w < 0
  · rw [if_pos h]
    refine Ev.congr (fun k => ?_) hemp
    rw [if_pos h]
  · rw [if_neg h]
    by_cases h2 : w > 62
    · rw [if_pos h2]
      refine Ev.congr (fun k => ?_) hemp
      rw [if_neg h, decide_eq_true h2]
    · rw [if_neg h2]
      obtain ⟨m, rfl⟩ := Int.eq_ofNat_of_zero_le (Int.not_lt.mp h)
      refine Ev.congr (f := fun k => bits_FromInt.j0 k n (m : Int) msb false) (fun k => ?_) (Ev.step (fun k => ?_) (ev_bits_FromInt_l0 n m msb (by omega) m 0 (by omega)))
      · rw [if_neg h, decide_eq_false h2]
      · simp only [bits_FromInt.j0, ↓reduceIte, Bool.false_eq_true]
        rw [if_pos (by omega), if_pos (by omega)]
        simp
theorem ev_bits_FromBytes_l0 (s : ByteArray) (msb : Bool) (hs : s.size ≤ 8192) : ∀ (d i : Nat), i + d = s.size →
    Ev (fun k => bits_FromBytes.l0 k s msb (fromBytesL ((bytesOf s).take i) msb) (s.size : Int) (i : Int)) (strOfNums (fromBytesL (bytesOf s) msb)) := by
  intro d
  have hlen := len_bytes s
  induction d with
  | zero =>
    intro i h
    refine Ev.stop fun k => ?_
    simp only [bits_FromBytes.l0]
    rw [if_neg (by omega), List.take_of_length_le (by omega)]
  | succ d ih =>
    intro i h
    have e : wrap64 ((i : Int) + 1) = ((i + 1 : Nat) : Int) := by rw [w64 (by omega) (by omega)]; rfl
    have h0 := bt_lo s i
    have h1 := bt_hi s i
    have eb : wrap64 (bt s i) = bt s i := w64 (by omega) (by omega)
    have efs : fromIntS (bt s i) 8 msb = strOfNums (fromIntL (bt s i) 8 msb) := rfl
    have e5 : fromBytesL ((bytesOf s).take i) msb ++ fromIntL (bt s i) 8 msb = fromBytesL ((bytesOf s).take (i + 1)) msb := by
      rw [take_snoc s i (by omega), fromBytesL_append]
      simp [fromBytesL]
    have hl : (fromBytesL ((bytesOf s).take i) msb).length + (strOfNums (fromIntL (bt s i) 8 msb)).size < 140737488355328 := by
      rw [fromBytesL_len, size_str, fromIntL_len, List.length_take]; omega
    refine Ev.step (f := fun k => (bits_FromInt.f k (wrap64 (bt s i)) 8 msb).bind fun t => _) (fun k => by
      simp only [bits_FromBytes.l0]; rw [if_pos (by omega), if_pos (by omega), if_pos (by omega)]; try rfl) ?_
    refine Ev.bind (ev_bits_FromInt _ 8 msb) ?_
    rw [eb, efs]
    have := ih (i + 1) (by omega)
    simp only [if_pos hl, bytes_str (fromIntL_bits _ _ _).byts, e, e5]
    exact this
theorem ev_bits_FromBytes (s : ByteArray) (msb : Bool) (hs : s.size ≤ 140737488351232) : Ev (fun k => bits_FromBytes.f k s msb) (fromBytesS s msb) := by
  unfold bits_FromBytes.f fromBytesS
  by_cases h : s.size > 8192
  · rw [if_pos h]
    refine Ev.now' fun k => ?_
    rw [if_pos (by omega)]
  · rw [if_neg h]
    refine Ev.congr (fun k => ?_) (ev_bits_FromBytes_l0 s msb (by omega) s.size 0 (by omega))
    have e : wrap64 (8 * (s.size : Int)) = ((8 * s.size : Nat) : Int) := by rw [w64 (by omega) (by omega)]; rfl
    rw [if_neg (by omega), e, if_pos (by omega), if_pos (by omega)]; rfl
theorem ev_bits_Bytes_l0 (s : ByteArray) (msb : Bool) (hs : s.size ≤ 65536) (hb : AllB (bytesOf s)) (n : Nat) (hn : 8 * n = s.size) : ∀ (d i : Nat), i + d = n →
    Ev (fun k => bits_Bytes.l0 k s msb (bytesL (bytesOf s) msb i ++ List.replicate d 0) (n : Int) (i : Int)) (strOfNums (bytesL (bytesOf s) msb n), 0) := by
  intro d
  induction d with
  | zero =>
    intro i h
    have : i = n := by omega
    subst this
    refine Ev.stop fun k => ?_
    simp only [bits_Bytes.l0]
    rw [if_neg (by omega)]
    simp
  | succ d ih =>
    intro i h
    have e : wrap64 ((i : Int) + 1) = ((i + 1 : Nat) : Int) := by rw [w64 (by omega) (by omega)]; rfl
    have e1 : wrap64 (8 * (i : Int)) = ((8 * i : Nat) : Int) := by rw [w64 (by omega) (by omega)]; rfl
    have e2 : wrap64 (((8 * i : Nat) : Int) + 8) = ((8 * i + 8 : Nat) : Int) := by rw [w64 (by omega) (by omega)]; rfl
    have hc := chunk_bd hb msb i
    have hset : (bytesL (bytesOf s) msb i ++ List.replicate (d + 1) 0).set ((i : Int)).toNat (chunk (bytesOf s) msb i % 256) = bytesL (bytesOf s) msb (i + 1) ++ List.replicate d 0 := by
      rw [List.replicate_succ, set_fill _ _ _ _ _ (by rw [bytesL_len]; rfl), bytesL_succ, Int.emod_eq_of_lt hc.1 hc.2]
      simp
    have hl2 : ((bytesL (bytesOf s) msb i ++ List.replicate (d + 1) 0).length : Int) = n := by rw [List.length_append, bytesL_len]; simp; omega
    refine Ev.step (f := fun k => (bits_Int.f k (s.extract (8 * i) (8 * i + 8)) msb).bind fun t => _) (fun k => by
      simp only [bits_Bytes.l0, e1, e2]; rw [if_pos (by omega), if_pos (by omega), if_pos (by omega), if_pos (by omega)]; try rfl) ?_
    refine Ev.bind (ev_bits_Int _ msb) ?_
    rw [intS_extract s msb hb i]
    have h1 : (0 : Int) ≤ (i : Int) := by omega
    have h2 : (i : Int) < ((bytesL (bytesOf s) msb i ++ List.replicate (d + 1) 0).length : Int) := by omega
    simp only [if_pos h1, if_pos h2, hset, e]
    exact ih (i + 1) (by omega)
theorem ev_bits_Bytes (s : ByteArray) (msb : Bool) : Ev (fun k => bits_Bytes.f k s msb) (bytesS s msb) := by
  unfold bits_Bytes.f bytesS
  refine Ev.bind (ev_bits_Valid s) ?_
  by_cases hv : vB s = true
  · obtain ⟨hs, hb⟩ := vB_iff.mp hv
    rw [if_pos hv]
    by_cases h8 : s.size % 8 = 0
    · rw [if_pos h8]
      have e : wrap64 ((s.size : Int) / 8) = ((s.size / 8 : Nat) : Int) := by rw [w64 (by omega) (by omega)]; rfl
      refine Ev.congr (fun k => ?_) (ev_bits_Bytes_l0 s msb hs hb (s.size / 8) (by omega) (s.size / 8) 0 (by omega))
      rw [if_pos hv, if_pos (by omega), e, if_pos (by omega), if_pos (by omega)]
      simp only [Option.bind_some, Int.toNat_natCast, List.length_replicate, bytesL, List.range_zero, List.map_nil, List.nil_append]
      try rfl
    · rw [if_neg h8]
      refine Ev.now' fun k => ?_
      rw [if_pos hv, if_neg (by omega)]
  · rw [if_neg hv]
    refine Ev.now' fun k => ?_
    rw [if_neg hv]
theorem ev_lives : Ev (fun k => signalbenchlaw03_lives.f k) true := by
  refine Ev.of (fun k => signalbenchlaw03_lives.mono k) (k := 20) ?_
  decide +kernel
theorem main : signalbenchlaw03_BitsRoundTrip.Pure := by
  intro n w b hn hw hb
  refine Ev.rounds (g := fun k => signalbenchlaw03_BitsRoundTrip.f k n w b) ?_
  unfold signalbenchlaw03_BitsRoundTrip.f
  refine Ev.bind ev_lives ?_
  have hyes : Ev (fun k => signalbenchlaw03_BitsRoundTrip.j0 k n w b true) true := Ev.stop fun k => by simp only [signalbenchlaw03_BitsRoundTrip.j0, ↓reduceIte]
  by_cases h1 : w < 0
  · refine Ev.congr (fun k => by rw [if_pos rfl, if_pos h1]) hyes
  · by_cases h2 : w > 62
    · refine Ev.congr (fun k => by rw [if_pos rfl, if_neg h1, if_pos h2]) hyes
    · by_cases h3 : n < 0
      · refine Ev.congr (fun k => by rw [if_pos rfl, if_neg h1, if_neg h2, if_pos h3]) hyes
      · have h62 := pow2_62
        have hle : (2 : Int) ^ w.toNat ≤ 2 ^ 62 := pow2_le (by omega)
        have hp := pow2_pos w.toNat
        have e : wrap64 (shl .i64 1 w - 1) = 2 ^ w.toNat - 1 := by
          rw [shl_eq w.toNat (by omega) (by omega) (by omega) (by omega), w64 (by omega) (by omega)]; omega
        by_cases h4 : n > 2 ^ w.toNat - 1
        · refine Ev.congr (fun k => by rw [if_pos rfl, if_neg h1, if_neg h2, if_neg h3, if_pos (by omega), e, if_pos h4]) hyes
        · by_cases h5 : (b.size : Int) > 8192
          · refine Ev.congr (fun k => by rw [if_pos rfl, if_neg h1, if_neg h2, if_neg h3, if_pos (by omega), e, if_neg h4, decide_eq_true h5]) hyes
          · refine Ev.congr (fun k => by rw [if_pos rfl, if_neg h1, if_neg h2, if_neg h3, if_pos (by omega), e, if_neg h4, decide_eq_false h5]) ?_
            refine Ev.step (f := fun k => (bits_FromInt.f k n w true).bind fun t => _) (fun k => by simp only [signalbenchlaw03_BitsRoundTrip.j0, ↓reduceIte, Bool.false_eq_true]; rfl) ?_
            refine Ev.bind (ev_bits_FromInt n w true) (Ev.bind (ev_bits_Int _ true) (Ev.bind (ev_bits_FromInt n w false) (Ev.bind (ev_bits_Int _ false) ?_)))
            refine Ev.bind (ev_bits_FromBytes b true hb) (Ev.bind (ev_bits_Bytes _ true) (Ev.bind (ev_bits_FromBytes b false hb) (Ev.bind (ev_bits_Bytes _ false) ?_)))
            have h6 : b.size ≤ 8192 := by omega
            rw [intS_fromIntS n w true (by omega) (by omega) (by omega) (by omega), intS_fromIntS n w false (by omega) (by omega) (by omega) (by omega), bytesS_fromBytesS b true h6, bytesS_fromBytesS b false h6]
            simp only [↓reduceIte]
            refine Ev.bind (ev_bits_FromInt n w true) ?_
            have h7 : ((fromIntS n w true).size : Int) = w := by
              unfold fromIntS; rw [if_neg (by omega), if_neg (by omega), size_str, fromIntL_len]; omega
            simp only [if_pos h7]
            refine Ev.bind (ev_bits_FromBytes b true hb) ?_
            refine Ev.now' fun k => ?_
            rw [fromBytesS_size b true h6, w64 (by omega) (by omega)]
            simp
end BitsRoundTrip_
theorem BitsRoundTrip : signalbenchlaw03_BitsRoundTrip.Pure := BitsRoundTrip_.main
end Go.Proofs.Ytgheedkpiaemfaa.Pure
