/- The law SyncDecodes holds as a statement on numbers and lists: the events, step by step and together, are those of the reference. No condition beyond those of the statement. -/
import Derived.Test.YtbggkaofkohecaaPSyncDecodesx15
import Derived.Test.YtbggkaofkohecaaSpecBytes
namespace Go.Proofs.Ytbggkaofkohecaa.Pure
open Go.RowKit Go.Proofs.Ytbggkaofkohecaa.PSyncDecodes Go.Proofs.YtbggkaofkohecaaW.PrintWords Go.Proofs.YtbggkaofkohecaaW.PrintLast Go.Proofs.Ytbggkaofkohecaa.Aid
set_option linter.unusedVariables false
set_option linter.unusedSimpArgs false
namespace SyncDecodes_
theorem ev_bits_Valid_l0 (s : ByteArray) (hs : s.size ≤ 65536) : ∀ (d i : Nat), i + d = s.size → Ev (fun k => bits_Valid.l0 k s (s.size : Int) (i : Int)) (((bytesOf s).drop i).all isB) := by
  intro d
  induction d with
  | zero =>
    intro i h
    refine Ev.stop fun k => ?_
    simp only [bits_Valid.l0]
    rw [if_neg (by omega), drop_end s i (by omega)]; rfl
  | succ d ih =>
    intro i h
    have e : wrap64 ((i : Int) + 1) = ((i + 1 : Nat) : Int) := by rw [w64 (by omega) (by omega)]; rfl
    rw [drop_cons s i (by omega), List.all_cons]
    by_cases h48 : bt s i = 48
    · have e2 : isB (bt s i) = true := isB_iff.mpr (.inl h48)
      rw [e2, Bool.true_and]
      refine Ev.step (fun k => ?_) (ih (i + 1) (by omega))
      simp only [bits_Valid.l0]
      rw [if_pos (by omega), if_pos (by omega), if_pos (by omega), if_pos h48, e]
    · by_cases h49 : bt s i = 49
      · have e2 : isB (bt s i) = true := isB_iff.mpr (.inr h49)
        rw [e2, Bool.true_and]
        refine Ev.step (fun k => ?_) (ih (i + 1) (by omega))
        simp only [bits_Valid.l0]
        rw [if_pos (by omega), if_pos (by omega), if_pos (by omega), if_neg h48, if_pos h49, e]
      · have e2 : isB (bt s i) = false := by simp [isB, h48, h49]
        rw [e2, Bool.false_and]
        refine Ev.stop fun k => ?_
        simp only [bits_Valid.l0]
        rw [if_pos (by omega), if_pos (by omega), if_pos (by omega), if_neg h48, if_neg h49]
theorem ev_bits_Valid (s : ByteArray) : Ev (fun k => bits_Valid.f k s) (vB s) := by
  unfold bits_Valid.f vB
  by_cases h : s.size ≤ 65536
  · rw [decide_eq_true h, Bool.true_and]
    refine Ev.congr (fun k => by rw [if_neg (by omega)]) ?_
    exact Ev.step (fun k => by simp only [bits_Valid.j0]; rfl) (ev_bits_Valid_l0 s h s.size 0 (by omega))
  · rw [decide_eq_false h, Bool.false_and]
    refine Ev.now' fun k => ?_
    rw [if_pos (by omega)]
theorem ev_ref_Valid_l0 (s : ByteArray) (hs : s.size ≤ 65536) : ∀ (d i : Nat), i + d = s.size → Ev (fun k => signalbenchref03_Valid.l0 k s (i : Int)) (((bytesOf s).drop i).all isB) := by
  intro d
  induction d with
  | zero =>
    intro i h
    refine Ev.stop fun k => ?_
    simp only [signalbenchref03_Valid.l0]
    rw [if_neg (by omega), drop_end s i (by omega)]; rfl
  | succ d ih =>
    intro i h
    have e : wrap64 ((i : Int) + 1) = ((i + 1 : Nat) : Int) := by rw [w64 (by omega) (by omega)]; rfl
    rw [drop_cons s i (by omega), List.all_cons]
    by_cases h48 : bt s i = 48
    · have e2 : isB (bt s i) = true := isB_iff.mpr (.inl h48)
      rw [e2, Bool.true_and]
      refine Ev.step (fun k => ?_) (ih (i + 1) (by omega))
      simp only [signalbenchref03_Valid.l0]
      rw [if_pos (by omega), if_pos (by omega), if_pos h48, e]
    · by_cases h49 : bt s i = 49
      · have e2 : isB (bt s i) = true := isB_iff.mpr (.inr h49)
        rw [e2, Bool.true_and]
        refine Ev.step (fun k => ?_) (ih (i + 1) (by omega))
        simp only [signalbenchref03_Valid.l0]
        rw [if_pos (by omega), if_pos (by omega), if_neg h48, if_pos h49, e]
      · have e2 : isB (bt s i) = false := by simp [isB, h48, h49]
        rw [e2, Bool.false_and]
        refine Ev.stop fun k => ?_
        simp only [signalbenchref03_Valid.l0]
        rw [if_pos (by omega), if_pos (by omega), if_neg h48, if_neg h49]
theorem ev_ref_Valid (s : ByteArray) : Ev (fun k => signalbenchref03_Valid.f k s) (vB s) := by
  unfold signalbenchref03_Valid.f vB
  by_cases h : s.size ≤ 65536
  · rw [decide_eq_true h, Bool.true_and]
    refine Ev.neg (by omega) ?_
    refine Ev.step (fun k => signalbenchref03_Valid.j0.eq_2 ..) ?_
    exact ev_ref_Valid_l0 s h s.size 0 (by omega)
  · rw [decide_eq_false h, Bool.false_and]
    refine Ev.now' fun k => ?_
    rw [if_pos (by omega)]
theorem ev_bits_Int_l0 (s : ByteArray) (msb : Bool) (hs : s.size ≤ 62) (hb : AllB (bytesOf s)) : ∀ (d i : Nat), i + d = s.size →
    Ev (fun k => bits_Int.l0 k s msb (if msb = true then valL ((bytesOf s).take i).reverse * 2 ^ d else valL ((bytesOf s).take i)) (s.size : Int) (i : Int)) (intL (bytesOf s) msb, 0) := by
  have hlen := len_bytes s
  have hbd : ∀ (l : List Int) (n : Nat), AllB l → l.length ≤ n → n ≤ 62 → 0 ≤ valL l ∧ valL l < 2 ^ n := fun l n h1 h2 h3 => by
    have := valL_bd h1
    have := pow2_le h2
    omega
  intro d
  induction d with
  | zero =>
    intro i h
    refine Ev.stop fun k => ?_
    simp only [bits_Int.l0]
    rw [if_neg (by omega), List.take_of_length_le (by omega)]
    unfold intL
    cases msb <;> simp
  | succ d ih =>
    intro i h
    have e : wrap64 ((i : Int) + 1) = ((i + 1 : Nat) : Int) := by rw [w64 (by omega) (by omega)]; rfl
    have e1 : wrap64 ((s.size : Int) - 1) = (s.size : Int) - 1 := w64 (by omega) (by omega)
    have e2 : wrap64 ((s.size : Int) - 1 - (i : Int)) = (d : Int) := by rw [w64 (by omega) (by omega)]; omega
    have hm : bt s i = 48 ∨ bt s i = 49 := hb _ (bt_mem s i (by omega))
    have h62 := pow2_62
    have hsn := take_snoc s i (by omega)
    have hd0 := pow2_pos d
    have hi0 := pow2_pos i
    have hdl : (2 : Int) ^ d ≤ 2 ^ 62 := pow2_le (by omega)
    have hil : (2 : Int) ^ i ≤ 2 ^ 62 := pow2_le (by omega)
    have hx : (bt s i - 48) % 256 = bt s i - 48 := by rcases hm with h | h <;> rw [h] <;> decide
    have hxd : 0 ≤ (bt s i - 48) * 2 ^ d ∧ (bt s i - 48) * 2 ^ d ≤ 2 ^ d := by rcases hm with h | h <;> rw [h] <;> simp <;> omega
    have hxi : 0 ≤ (bt s i - 48) * 2 ^ i ∧ (bt s i - 48) * 2 ^ i ≤ 2 ^ i := by rcases hm with h | h <;> rw [h] <;> simp <;> omega
    have htl : ((bytesOf s).take i).length = i := by rw [List.length_take]; omega
    cases msb with
    | true =>
      obtain ⟨a0, a1⟩ := hbd ((bytesOf s).take i).reverse i (hb.take i).reverse (by simp; omega) (by omega)
      have hgoal : Go.bits .or .i64 (valL ((bytesOf s).take i).reverse * 2 ^ (d + 1)) (shl .i64 (bt s i - 48) (d : Int)) = valL ((bytesOf s).take (i + 1)).reverse * 2 ^ d := by
        have hq : valL ((bytesOf s).take i).reverse * 2 ^ (d + 1) + 2 ^ (d + 1) ≤ 2 ^ 62 := by
          have h1 : (valL ((bytesOf s).take i).reverse + 1) * 2 ^ (d + 1) ≤ 2 ^ i * 2 ^ (d + 1) := Int.mul_le_mul_of_nonneg_right (by omega) (Int.le_of_lt (pow2_pos _))
          rw [← pow2_add, Int.add_mul, Int.one_mul] at h1
          have h2 : (2 : Int) ^ (i + (d + 1)) ≤ 2 ^ 62 := pow2_le (by omega)
          omega
        have hp := pow2_succ d
        rw [shl_eq d rfl (by omega) hxd.1 (by omega), or_add (d + 1) a0 (by omega) hxd.1 (by omega)]
        rw [hsn, List.reverse_append, List.reverse_singleton, List.singleton_append, valL, Int.add_mul, hp]
        rw [Int.mul_comm 2 (valL _), Int.mul_assoc, Int.add_comm]
      refine Ev.step (fun k => ?_) (ih (i + 1) (by omega))
      simp only [bits_Int.l0, ↓reduceIte]
      rw [if_pos (by omega), if_pos (by omega), if_pos (by omega), e1, e2, if_pos (by omega), hx, e, hgoal]
    | false =>
      obtain ⟨a0, a1⟩ := hbd ((bytesOf s).take i) i (hb.take i) (by omega) (by omega)
      have hgoal : Go.bits .or .i64 (valL ((bytesOf s).take i)) (shl .i64 (bt s i - 48) (i : Int)) = valL ((bytesOf s).take (i + 1)) := by
        rw [shl_eq i rfl (by omega) hxi.1 (by omega), or_comm a0 (by omega) hxi.1 (by omega)]
        rw [or_add i (by rcases hm with h | h <;> rw [h] <;> decide) (by omega) a0 a1, hsn, valL_snoc, htl, Int.add_comm]
      refine Ev.step (fun k => ?_) (ih (i + 1) (by omega))
      simp only [bits_Int.l0, ↓reduceIte, Bool.false_eq_true]
      rw [if_pos (by omega), if_pos (by omega), if_pos (by omega), hx, e, hgoal]
theorem ev_bits_Int (s : ByteArray) (msb : Bool) : Ev (fun k => bits_Int.f k s msb) (intS s msb) := by
  unfold bits_Int.f intS
  refine Ev.bind (ev_bits_Valid s) (Ev.ite (fun hv => ?_) (fun hv => ?_))
  · obtain ⟨_, hb⟩ := vB_iff.mp hv
    rw [if_pos hv]
    refine Ev.step (fun k => bits_Int.j0.eq_2 ..) ?_
    refine Ev.ite (fun h => ?_) (fun h => ?_)
    · rw [if_neg (by omega)]; exact Ev.now _
    · rw [if_pos (by omega)]
      refine Ev.step (fun k => bits_Int.j1.eq_2 ..) ?_
      refine Ev.congr (fun k => ?_) (ev_bits_Int_l0 s msb (by omega) hb s.size 0 (by omega))
      cases msb <;> simp [valL]
  · rw [if_neg hv]; exact Ev.now _
theorem ev_bits_Bytes_l0 (s : ByteArray) (msb : Bool) (hs : s.size ≤ 65536) (hb : AllB (bytesOf s)) (n : Nat) (hn : 8 * n = s.size) : ∀ (d i : Nat), i + d = n →
    Ev (fun k => bits_Bytes.l0 k s msb (bytesL (bytesOf s) msb i ++ List.replicate d 0) (n : Int) (i : Int)) (strOfNums (bytesL (bytesOf s) msb n), 0) := by
  intro d
  induction d with
  | zero =>
    intro i h
    have : i = n := by omega
    subst this
    refine Ev.stop fun k => ?_
    simp only [bits_Bytes.l0]
    rw [if_neg (by omega)]
    simp
  | succ d ih =>
    intro i h
    have e : wrap64 ((i : Int) + 1) = ((i + 1 : Nat) : Int) := by rw [w64 (by omega) (by omega)]; rfl
    have e1 : wrap64 (8 * (i : Int)) = ((8 * i : Nat) : Int) := by rw [w64 (by omega) (by omega)]; rfl
    have e2 : wrap64 (((8 * i : Nat) : Int) + 8) = ((8 * i + 8 : Nat) : Int) := by rw [w64 (by omega) (by omega)]; rfl
    have hc := chunk_bd hb msb i
    have hset : (bytesL (bytesOf s) msb i ++ List.replicate (d + 1) 0).set ((i : Int)).toNat (chunk (bytesOf s) msb i % 256) = bytesL (bytesOf s) msb (i + 1) ++ List.replicate d 0 := by
      rw [List.replicate_succ, set_fill _ _ _ _ _ (by rw [bytesL_len]; rfl), bytesL_succ, Int.emod_eq_of_lt hc.1 hc.2]
      simp
    have hl2 : ((bytesL (bytesOf s) msb i ++ List.replicate (d + 1) 0).length : Int) = n := by rw [List.length_append, bytesL_len]; simp; omega
    refine Ev.step (f := fun k => (bits_Int.f k (s.extract (8 * i) (8 * i + 8)) msb).bind fun t => _) (fun k => by
      simp only [bits_Bytes.l0, e1, e2]; rw [if_pos (by omega), if_pos (by omega), if_pos (by omega), if_pos (by omega)]; try rfl) ?_
    refine Ev.bind (ev_bits_Int _ msb) ?_
    rw [intS_extract s msb hb i]
    have h1 : (0 : Int) ≤ (i : Int) := by omega
    have h2 : (i : Int) < ((bytesL (bytesOf s) msb i ++ List.replicate (d + 1) 0).length : Int) := by omega
    simp only [if_pos h1, if_pos h2, hset, e]
    exact ih (i + 1) (by omega)
theorem ev_bits_Bytes (s : ByteArray) (msb : Bool) : Ev (fun k => bits_Bytes.f k s msb) (bytesS s msb) := by
  unfold bits_Bytes.f bytesS
  refine Ev.bind (ev_bits_Valid s) (Ev.ite (fun hv => ?_) (fun hv => ?_))
  · obtain ⟨hs, hb⟩ := vB_iff.mp hv
    rw [if_pos hv]
    refine Ev.step (fun k => bits_Bytes.j0.eq_2 ..) ?_
    refine Ev.ite (fun h8 => ?_) (fun h8 => ?_)
    · rw [if_pos (by omega)]
      have e : wrap64 ((s.size : Int) / 8) = ((s.size / 8 : Nat) : Int) := by rw [w64 (by omega) (by omega)]; rfl
      rw [e]
      refine Ev.pos (by omega) (Ev.pos (by omega) (Ev.sbind ?_))
      refine Ev.congr (fun k => ?_) (ev_bits_Bytes_l0 s msb hs hb (s.size / 8) (by omega) (s.size / 8) 0 (by omega))
      simp only [Int.toNat_natCast, List.length_replicate, bytesL, List.range_zero, List.map_nil, List.nil_append]
      try rfl
    · rw [if_neg (by omega)]; exact Ev.now _
  · rw [if_neg hv]; exact Ev.now _
theorem ev_bits_FromInt_l0 (n : Int) (w : Nat) (msb : Bool) (hw : w ≤ 62) : ∀ (d i : Nat), i + d = w →
    Ev (fun k => bits_FromInt.l0 k n (w : Int) msb ((fromIntL n w msb).take i ++ List.replicate d 0) (w : Int) (i : Int)) (strOfNums (fromIntL n w msb)) := by
  have hlen := fromIntL_len n w msb
  intro d
  induction d with
  | zero =>
    intro i h
    refine Ev.stop fun k => ?_
    simp only [bits_FromInt.l0]
    rw [if_neg (by omega), List.take_of_length_le (by omega)]
    simp
  | succ d ih =>
    intro i h
    have hi : i < (fromIntL n w msb).length := by omega
    have e : wrap64 ((i : Int) + 1) = ((i + 1 : Nat) : Int) := by rw [w64 (by omega) (by omega)]; rfl
    have e1 : wrap64 ((w : Int) - 1) = (w : Int) - 1 := w64 (by omega) (by omega)
    have e2 : wrap64 ((w : Int) - 1 - (i : Int)) = (d : Int) := by rw [w64 (by omega) (by omega)]; omega
    have hg := fromIntL_get n w msb i hi
    have htl : ((fromIntL n w msb).take i).length = i := by rw [List.length_take]; omega
    have hset : ∀ v, v = (fromIntL n w msb)[i] → ((fromIntL n w msb).take i ++ List.replicate (d + 1) 0).set ((i : Int)).toNat v = (fromIntL n w msb).take (i + 1) ++ List.replicate d 0 := by
      rintro v rfl
      rw [List.replicate_succ, set_fill _ _ _ _ _ (by rw [htl]; rfl), List.take_succ_eq_append_getElem hi, List.append_assoc]
      rfl
    have hl2 : (((fromIntL n w msb).take i ++ List.replicate (d + 1) 0).length : Int) = w := by simp; omega
    have hsg : ∀ x : Int, (48 + x % 2 % 256) % 256 = 48 + x % 2 := fun x => by omega
    cases msb with
    | true =>
      refine Ev.step (fun k => ?_) (ih (i + 1) (by omega))
      have hd : w - 1 - i = d := by omega
      simp only [↓reduceIte, hd] at hg
      simp only [bits_FromInt.l0, ↓reduceIte]
      rw [if_pos (by omega), e1, e2, if_pos (by omega)]
      simp only [bits_sign.f, Option.bind_some]
      rw [if_pos (by omega), if_pos (by omega), e, and_one, shr_eq n (d : Int) d rfl (by omega), hsg, hset _ hg.symm]
    | false =>
      refine Ev.step (fun k => ?_) (ih (i + 1) (by omega))
      simp only [↓reduceIte, Bool.false_eq_true] at hg
      simp only [bits_FromInt.l0, ↓reduceIte, Bool.false_eq_true]
      rw [if_pos (by omega), if_pos (by omega)]
      simp only [bits_sign.f, Option.bind_some]
      rw [if_pos (by omega), e, and_one, shr_eq n (i : Int) i rfl (by omega), hsg, hset _ hg.symm]
theorem ev_bits_FromInt (n w : Int) (msb : Bool) : Ev (fun k => bits_FromInt.f k n w msb) (fromIntS n w msb) := by
  unfold bits_FromInt.f fromIntS
  have hemp : Ev (fun k => bits_FromInt.j0 k n w msb true) (⟨#[]⟩ : ByteArray) := by
    refine Ev.stop fun k => ?_
    simp only [bits_FromInt.j0, ↓reduceIte]
  by_cases h : w < 0
  · rw [if_pos h]
    refine Ev.congr (fun k => ?_) hemp
    rw [if_pos h]
  · rw [if_neg h]
    by_cases h2 : w > 62
    · rw [if_pos h2]
      refine Ev.congr (fun k => ?_) hemp
      rw [if_neg h, decide_eq_true h2]
    · rw [if_neg h2]
      obtain ⟨m, rfl⟩ := Int.eq_ofNat_of_zero_le (Int.not_lt.mp h)
      refine Ev.neg h ?_
      rw [decide_eq_false h2]
      refine Ev.step (fun k => bits_FromInt.j0.eq_2 ..) ?_
      refine Ev.neg (by decide) ?_
      refine Ev.step (fun k => bits_FromInt.j1.eq_2 ..) ?_
      have h0 := ev_bits_FromInt_l0 n m msb (by omega) m 0 (by omega)
      refine Ev.pos (by omega) (Ev.pos (by omega) ?_)
      simpa using h0
theorem ev_bits_FromBytes_l0 (s : ByteArray) (msb : Bool) (hs : s.size ≤ 8192) : ∀ (d i : Nat), i + d = s.size →
    Ev (fun k => bits_FromBytes.l0 k s msb (fromBytesL ((bytesOf s).take i) msb) (s.size : Int) (i : Int)) (strOfNums (fromBytesL (bytesOf s) msb)) := by
  intro d
  have hlen := len_bytes s
  induction d with
  | zero =>
    intro i h
    refine Ev.stop fun k => ?_
    simp only [bits_FromBytes.l0]
    rw [if_neg (by omega), List.take_of_length_le (by omega)]
  | succ d ih =>
    intro i h
    have e : wrap64 ((i : Int) + 1) = ((i + 1 : Nat) : Int) := by rw [w64 (by omega) (by omega)]; rfl
    have h0 := bt_lo s i
    have h1 := bt_hi s i
    have eb : wrap64 (bt s i) = bt s i := w64 (by omega) (by omega)
    have efs : fromIntS (bt s i) 8 msb = strOfNums (fromIntL (bt s i) 8 msb) := rfl
    have e5 : fromBytesL ((bytesOf s).take i) msb ++ fromIntL (bt s i) 8 msb = fromBytesL ((bytesOf s).take (i + 1)) msb := by
      rw [take_snoc s i (by omega), fromBytesL_append]
      simp [fromBytesL]
    have hl : (fromBytesL ((bytesOf s).take i) msb).length + (strOfNums (fromIntL (bt s i) 8 msb)).size < 140737488355328 := by
      rw [fromBytesL_len, size_str, fromIntL_len, List.length_take]; omega
    refine Ev.step (f := fun k => (bits_FromInt.f k (wrap64 (bt s i)) 8 msb).bind fun t => _) (fun k => by
      simp only [bits_FromBytes.l0]; rw [if_pos (by omega), if_pos (by omega), if_pos (by omega)]; try rfl) ?_
    refine Ev.bind (ev_bits_FromInt _ 8 msb) ?_
    rw [eb, efs]
    have := ih (i + 1) (by omega)
    simp only [if_pos hl, bytes_str (fromIntL_bits _ _ _).byts, e, e5]
    exact this
theorem ev_bits_FromBytes (s : ByteArray) (msb : Bool) (hs : s.size ≤ 140737488351232) : Ev (fun k => bits_FromBytes.f k s msb) (fromBytesS s msb) := by
  unfold bits_FromBytes.f fromBytesS
  by_cases h : s.size > 8192
  · rw [if_pos h]
    refine Ev.now' fun k => ?_
    rw [if_pos (by omega)]
  · rw [if_neg h]
    refine Ev.congr (fun k => ?_) (ev_bits_FromBytes_l0 s msb (by omega) s.size 0 (by omega))
    have e : wrap64 (8 * (s.size : Int)) = ((8 * s.size : Nat) : Int) := by rw [w64 (by omega) (by omega)]; rfl
    rw [if_neg (by omega), e, if_pos (by omega), if_pos (by omega)]; rfl
theorem ev_ref_turn_l0 (s : ByteArray) (hs : s.size ≤ 140737488351232) : ∀ (d : Nat) (acc : List Int), d ≤ s.size → acc.length + d = s.size →
    Ev (fun k => signalbenchref03_turn.l0 k s acc ((d : Int) - 1)) (strOfNums (acc ++ ((bytesOf s).take d).reverse)) := by
  intro d
  induction d with
  | zero =>
    intro acc h1 h2
    refine Ev.stop fun k => ?_
    simp only [signalbenchref03_turn.l0]
    rw [if_neg (by omega)]; simp
  | succ d ih =>
    intro acc h1 h2
    have e0 : ((d + 1 : Nat) : Int) - 1 = (d : Int) := by omega
    have e : wrap64 ((d : Int) - 1) = (d : Int) - 1 := w64 (by omega) (by omega)
    have := ih (acc ++ [bt s d]) (by omega) (by simp; omega)
    rw [take_snoc s d (by omega), List.reverse_append, List.reverse_singleton, List.singleton_append]
    rw [List.append_assoc, List.singleton_append] at this
    refine Ev.step (fun k => ?_) this
    simp only [signalbenchref03_turn.l0]
    rw [e0, if_pos (by omega), if_pos (by omega), if_pos (by omega), if_pos (by omega), e]
theorem ev_ref_turn (s : ByteArray) (hs : s.size ≤ 140737488351232) : Ev (fun k => signalbenchref03_turn.f k s) (strOfNums (bytesOf s).reverse) := by
  unfold signalbenchref03_turn.f
  rw [w64 (by omega) (by omega)]
  have := ev_ref_turn_l0 s hs s.size [] (Nat.le_refl _) (by simp)
  rw [List.take_of_length_le (by rw [len_bytes]; exact Nat.le_refl _), List.nil_append] at this
  exact this
theorem ev_ref_Int_l0 (s : ByteArray) (hs : s.size ≤ 62) (hb : AllB (bytesOf s)) : ∀ (d i : Nat), i + d = s.size →
    Ev (fun k => signalbenchref03_Int.l0 k s (valL ((bytesOf s).take i).reverse) (i : Int)) (valL (bytesOf s).reverse, 0) := by
  intro d
  have hlen := len_bytes s
  induction d with
  | zero =>
    intro i h
    refine Ev.stop fun k => ?_
    simp only [signalbenchref03_Int.l0]
    rw [if_neg (by omega), List.take_of_length_le (by omega)]
  | succ d ih =>
    intro i h
    have e : wrap64 ((i : Int) + 1) = ((i + 1 : Nat) : Int) := by rw [w64 (by omega) (by omega)]; rfl
    have hm : bt s i = 48 ∨ bt s i = 49 := hb _ (bt_mem s i (by omega))
    have hx : (bt s i - 48) % 256 = bt s i - 48 := by rcases hm with h | h <;> rw [h] <;> decide
    have hsn := take_snoc s i (by omega)
    have h62 := pow2_62
    have hbd := valL_bd (hb.take i).reverse
    have hle : (2 : Int) ^ ((bytesOf s).take i).reverse.length ≤ 2 ^ 62 := pow2_le (by simp; omega)
    refine Ev.step (fun k => ?_) (ih (i + 1) (by omega))
    simp only [signalbenchref03_Int.l0]
    rw [if_pos (by omega), if_pos (by omega), hx, e]
    rw [w64 (x := 2 * _) (by omega) (by omega), w64 (by omega) (by omega), hsn, List.reverse_append, List.reverse_singleton, List.singleton_append, valL, Int.add_comm]
theorem ev_ref_Int (s : ByteArray) (msb : Bool) : Ev (fun k => signalbenchref03_Int.f k s msb) (intS s msb) := by
  unfold signalbenchref03_Int.f intS
  refine Ev.bind (ev_ref_Valid s) (Ev.ite (fun hv => ?_) (fun hv => ?_))
  · obtain ⟨_, hb⟩ := vB_iff.mp hv
    rw [if_pos hv]
    refine Ev.step (fun k => signalbenchref03_Int.j0.eq_2 ..) ?_
    by_cases h : s.size ≤ 62
    · rw [if_pos h]
      refine Ev.neg (by omega) ?_
      refine Ev.step (fun k => signalbenchref03_Int.j1.eq_2 ..) ?_
      cases msb with
      | true =>
        refine Ev.pos rfl ?_
        refine Ev.step (fun k => signalbenchref03_Int.j2.eq_2 ..) ?_
        exact ev_ref_Int_l0 s h hb s.size 0 (by omega)
      | false =>
        have hb2 : bytesOf (strOfNums (bytesOf s).reverse) = (bytesOf s).reverse := bytes_str (byts_of s).reverse
        have hsz : (strOfNums (bytesOf s).reverse).size = s.size := by rw [size_str, List.length_reverse, len_bytes]
        have := ev_ref_Int_l0 (strOfNums (bytesOf s).reverse) (by omega) (by rw [hb2]; exact hb.reverse) s.size 0 (by omega)
        rw [hb2, List.reverse_reverse] at this
        refine Ev.neg (by decide) (Ev.bind (ev_ref_turn s (by omega)) ?_)
        refine Ev.step (fun k => signalbenchref03_Int.j2.eq_2 ..) ?_
        exact this
    · rw [if_neg h]
      exact Ev.pos (by omega) (Ev.now _)
  · rw [if_neg hv]; exact Ev.now _
theorem ev_ref_Bytes_l0 (s : ByteArray) (msb : Bool) (hs : s.size ≤ 65536) (hb : AllB (bytesOf s)) (n : Nat) (hn : 8 * n = s.size) : ∀ (d i : Nat), i + d = n →
    Ev (fun k => signalbenchref03_Bytes.l0 k s msb (bytesL (bytesOf s) msb i) ((8 * i : Nat) : Int)) (strOfNums (bytesL (bytesOf s) msb n), 0) := by
  intro d
  induction d with
  | zero =>
    intro i h
    have : i = n := by omega
    subst this
    refine Ev.stop fun k => ?_
    simp only [signalbenchref03_Bytes.l0]
    rw [if_neg (by omega)]
  | succ d ih =>
    intro i h
    have e2 : wrap64 (((8 * i : Nat) : Int) + 8) = ((8 * i + 8 : Nat) : Int) := by rw [w64 (by omega) (by omega)]; rfl
    have e3 : 8 * (i + 1) = 8 * i + 8 := by omega
    have hc := chunk_bd hb msb i
    have hl := bytesL_len (bytesOf s) msb i
    refine Ev.step (f := fun k => (signalbenchref03_Int.f k (s.extract (8 * i) (8 * i + 8)) msb).bind fun t => _) (fun k => by
      simp only [signalbenchref03_Bytes.l0, e2]; rw [if_pos (by omega), if_pos (by omega), if_pos (by omega), if_pos (by omega)]; try rfl) ?_
    refine Ev.bind (ev_ref_Int _ msb) ?_
    rw [intS_extract s msb hb i]
    have h1 : (bytesL (bytesOf s) msb i).length < 140737488355328 := by omega
    simp only [if_pos h1, Int.emod_eq_of_lt hc.1 hc.2, ← bytesL_succ, ← e3]
    exact ih (i + 1) (by omega)
theorem ev_ref_Bytes (s : ByteArray) (msb : Bool) : Ev (fun k => signalbenchref03_Bytes.f k s msb) (bytesS s msb) := by
  unfold signalbenchref03_Bytes.f bytesS
  refine Ev.bind (ev_ref_Valid s) (Ev.ite (fun hv => ?_) (fun hv => ?_))
  · obtain ⟨hs, hb⟩ := vB_iff.mp hv
    rw [if_pos hv]
    refine Ev.step (fun k => signalbenchref03_Bytes.j0.eq_2 ..) ?_
    refine Ev.ite (fun h8 => ?_) (fun h8 => ?_)
    · rw [if_pos (by omega)]
      exact ev_ref_Bytes_l0 s msb hs hb (s.size / 8) (by omega) (s.size / 8) 0 (by omega)
    · rw [if_neg (by omega)]; exact Ev.now _
  · rw [if_neg hv]; exact Ev.now _
theorem rdI_mid (pre : List S46) (x : S46) (post : List S46) (i : Nat) (h : i = pre.length) : rd_T46 (pre ++ x :: post) (i : Int) = x := by
  subst h; simp [rd_T46]
theorem rdE_mid (pre : List S32) (x : S32) (post : List S32) (i : Nat) (h : i = pre.length) : rd_T32 (pre ++ x :: post) (i : Int) = x := by
  subst h; simp [rd_T32]
def validE (a b c d e : Int) (s : ByteArray) (f : Int) : Bool :=
  decide (1 ≤ a ∧ a ≤ 8 ∧ 0 ≤ b ∧ b ≤ c ∧ c ≤ 1099511627776 ∧ -9007199254740992 ≤ d ∧ d ≤ 9007199254740992 ∧ -9007199254740992 ≤ e ∧ e ≤ 9007199254740992 ∧ s.size ≤ 4096 ∧ 0 ≤ f ∧ f ≤ 12)
theorem ev_event_Valid (a b c d e : Int) (s : ByteArray) (f : Int) : Ev (fun k => event_Valid.f k a b c d e s f) (validE a b c d e s f) := by
  refine ⟨2, fun k hk => ?_⟩
  obtain ⟨m, rfl⟩ : ∃ m, k = m + 2 := ⟨k - 2, by omega⟩
  simp only [event_Valid.f, event_Valid.j0, event_Valid.j1, validE, decide_eq_true_eq, ↓reduceIte]
  repeat' split
  all_goals first
    | (rw [decide_eq_false (by omega)])
    | (congr 1; rw [decide_eq_decide]; omega)
/-- Is a configuration valid: the error, or 0. -/
def chkY (w : ByteArray) (n : Int) : Int := if vB w = true then (if w.size < 8 ∨ w.size > 32 ∨ n < 1 ∨ n > 256 then 2 else 0) else 4
theorem chkY_ok {w : ByteArray} {n : Int} (h : chkY w n = 0) : AllB (bytesOf w) ∧ 8 ≤ w.size ∧ w.size ≤ 32 ∧ 1 ≤ n ∧ n ≤ 256 := by
  unfold chkY at h
  split at h
  · rename_i hv
    split at h
    · omega
    · exact ⟨(vB_iff.mp hv).2, by omega, by omega, by omega, by omega⟩
  · omega
theorem ev_sync_Check (w : ByteArray) (n : Int) (m : Bool) : Ev (fun k => sync_Check.f k w n m) (chkY w n) := by
  unfold sync_Check.f chkY
  refine Ev.bind (ev_bits_Valid w) (Ev.ite (fun h => ?_) (fun h => ?_))
  · rw [if_pos h]
    refine Ev.now' fun _ => ?_
    repeat' split
    all_goals first | rfl | omega
  · rw [if_neg h]; exact Ev.now _
def itY (n : Int) (x : S46) : Int := if x.f0 < 0 ∨ x.f0 > 1048576 then 1 else if x.f3.size > 4096 then 6 else if (x.f3.size : Int) = n then (if x.f1 = 0 ∧ x.f2 = 0 ∧ x.f4 = 0 then 0 else 1) else 2
theorem itY_ok {n : Int} {x : S46} (h : itY n x = 0) : 0 ≤ x.f0 ∧ x.f0 ≤ 1048576 ∧ (x.f3.size : Int) = n ∧ x.f3.size ≤ 4096 ∧ x.f1 = 0 ∧ x.f2 = 0 ∧ x.f4 = 0 := by
  unfold itY at h
  split at h
  · omega
  · split at h
    · omega
    · split at h
      · split at h
        · rename_i h1 h2 h3 h4; exact ⟨by omega, by omega, h3, by omega, h4⟩
        · omega
      · omega
def outY (w : ByteArray) (m : Bool) (x : S46) : S46 := ⟨x.f0, 0, 0, w ++ fromBytesS x.f3 m, 0⟩
def encY (w : ByteArray) (n : Int) (m : Bool) : List S46 → List S46 → List S46 × Int
  | out, [] => (out, 0)
  | out, x :: l => if itY n x = 0 then encY w n m (out ++ [outY w m x]) l else ([], itY n x)
def encodeY (w : ByteArray) (n : Int) (m : Bool) (l : List S46) : List S46 × Int := if chkY w n = 0 then (if l.length > 1024 then ([], 6) else encY w n m [] l) else ([], chkY w n)
theorem encY_len (w : ByteArray) (n : Int) (m : Bool) : ∀ (l out : List S46), (encY w n m out l).1.length ≤ out.length + l.length
  | [], _ => by simp [encY]
  | x :: l, out => by
    unfold encY
    split
    · have := encY_len w n m l (out ++ [outY w m x]); simp at this ⊢; omega
    · simp
theorem encodeY_len (w : ByteArray) (n : Int) (m : Bool) (l : List S46) : (encodeY w n m l).1.length ≤ 1024 := by
  unfold encodeY
  split
  · split
    · simp
    · have := encY_len w n m l []; simp at this; omega
  · simp
theorem ev_sync_Encode (w : ByteArray) (n : Int) (m : Bool) (l : List S46) : Ev (fun k => sync_Encode.f k w n m l) (encodeY w n m l) := by
  unfold sync_Encode.f encodeY
  refine Ev.bind (ev_sync_Check w n m) (Ev.ite (fun hc => ?_) (fun hc => ?_))
  case refine_2 => rw [if_neg hc]; exact Ev.now _
  rw [if_pos hc]
  obtain ⟨_, hw1, hw2, _⟩ := chkY_ok hc
  refine Ev.step (fun k => sync_Encode.j0.eq_2 ..) ?_
  refine Ev.ite (fun hl => ?_) (fun hl => ?_)
  · rw [if_pos (by omega)]; exact Ev.now _
  rw [if_neg (by omega)]
  refine Ev.step (fun k => sync_Encode.j1.eq_2 ..) ?_
  refine Ev.pos (by omega) (Ev.pos (by omega) ?_)
  have key : ∀ (q pre out : List S46) (i : Nat), l = pre ++ q → i = pre.length → out.length = i → Ev (fun k => sync_Encode.l0 k out l (l.length : Int) (i : Int) w n m) (encY w n m out q) := by
    intro q
    induction q with
    | nil =>
      intro pre out i he hi ho
      rw [List.append_nil] at he
      have hi' : i = l.length := by rw [hi, he]
      clear he
      refine Ev.step (fun k => sync_Encode.l0.eq_2 ..) ?_
      exact Ev.neg (by omega) (Ev.now _)
    | cons x q ih =>
      intro pre out i he hi ho
      have hlen : l.length = i + (q.length + 1) := by rw [he, hi, List.length_append, List.length_cons]
      have hx : rd_T46 l (i : Int) = x := by rw [he]; exact rdI_mid pre x q i hi
      have ih2 := ih (pre ++ [x]) (out ++ [outY w m x]) (i + 1) (by rw [he]; simp) (by simp [hi]) (by simp [ho])
      clear ih he
      have hyes : itY n x = 1 → Ev (fun k => sync_Encode.j4 k out l (l.length : Int) (i : Int) true w n m x.f0 x.f1 x.f2 x.f3 x.f4) (encY w n m out (x :: q)) := by
        intro h
        rw [encY, if_neg (by omega), h]
        refine Ev.step (fun k => sync_Encode.j4.eq_2 ..) ?_
        exact Ev.pos rfl (Ev.now _)
      refine Ev.step (fun k => sync_Encode.l0.eq_2 ..) ?_
      refine Ev.pos (by omega) ?_
      refine Ev.step (fun k => sync_Encode.j3.eq_2 ..) ?_
      rw [hx]
      refine Ev.pos (by omega) (Ev.pos (by omega) (Ev.ite (fun h0 => hyes (by unfold itY; rw [if_pos (.inl h0)])) (fun h0 => ?_)))
      by_cases h1 : x.f0 > 1048576
      · rw [decide_eq_true h1]; exact hyes (by unfold itY; rw [if_pos (.inr h1)])
      rw [decide_eq_false h1]
      have hor : ¬ (x.f0 < 0 ∨ x.f0 > 1048576) := by omega
      refine Ev.step (fun k => sync_Encode.j4.eq_2 ..) ?_
      rw [wnat (by omega)]
      refine Ev.neg (by decide) ?_
      by_cases h2 : x.f3.size > 4096
      · rw [encY, show itY n x = 6 by unfold itY; rw [if_neg hor, if_pos h2]]
        exact Ev.pos (by omega) (Ev.now _)
      refine Ev.neg (by omega) (Ev.ite (fun h3 => ?_) (fun h3 => ?_))
      case refine_2 =>
        rw [encY, show itY n x = 2 by unfold itY; rw [if_neg hor, if_neg h2, if_neg h3]]
        exact Ev.now _
      by_cases h4 : x.f1 = 0 ∧ x.f2 = 0 ∧ x.f4 = 0
      · rw [encY, if_pos (show itY n x = 0 by unfold itY; rw [if_neg hor, if_neg h2, if_pos h3, if_pos h4])]
        have hsz := fromBytesS_size x.f3 m (by omega)
        exact Ev.pos h4.1 (Ev.pos h4.2.1 (Ev.pos h4.2.2 (Ev.bind (ev_bits_FromBytes x.f3 m (by omega)) (Ev.pos (by omega) (Ev.pos (by omega) ih2)))))
      · rw [encY, show itY n x = 1 by unfold itY; rw [if_neg hor, if_neg h2, if_pos h3, if_neg h4]]
        refine Ev.now' fun _ => ?_
        repeat' split
        all_goals first | rfl | (exfalso; omega) | (exfalso; exact h4 ⟨by assumption, by assumption, by assumption⟩)
  exact key l [] [] 0 rfl rfl rfl
theorem ev_ref21_Check (w : ByteArray) (n : Int) (m : Bool) : Ev (fun k => signalbenchref21_Check.f k w n m) (chkY w n) := by
  unfold signalbenchref21_Check.f chkY
  refine Ev.bind (ev_ref_Valid w) (Ev.ite (fun h => ?_) (fun h => ?_))
  · rw [if_pos h]
    refine Ev.now' fun _ => ?_
    repeat' split
    all_goals first | rfl | omega
  · rw [if_neg h]; exact Ev.now _
/-- The first bytes of a time, the lowest first. -/
def leY (n : Int) (i : Nat) : List Int := (List.range i).map fun j => n / 2 ^ (8 * j) % 256
theorem leY_len (n : Int) (i : Nat) : (leY n i).length = i := by simp [leY]
theorem leY_succ (n : Int) (i : Nat) : leY n (i + 1) = leY n i ++ [n / 2 ^ (8 * i) % 256] := by simp [leY, List.range_succ]
theorem leY_get (n : Int) (i j : Nat) (h : j < i) : (leY n i)[j]? = some (n / 2 ^ (8 * j) % 256) := by simp [leY, h]
/-- The record of a bit: what it is, and its time. -/
def recY (p : Int × Int) : List Int := (48 + p.1) :: leY p.2 8
def flatY : List (Int × Int) → List Int
  | [] => []
  | p :: l => recY p ++ flatY l
def bitP (p : Int × Int) : Prop := (p.1 = 0 ∨ p.1 = 1) ∧ 0 ≤ p.2 ∧ p.2 ≤ 1099511627776
theorem recY_len (p : Int × Int) : (recY p).length = 9 := by simp [recY, leY_len]
theorem flatY_len : ∀ l, (flatY l).length = 9 * l.length
  | [] => rfl
  | p :: l => by rw [flatY, List.length_append, recY_len, flatY_len l, List.length_cons]; omega
theorem flatY_append : ∀ l m, flatY (l ++ m) = flatY l ++ flatY m
  | [], _ => rfl
  | p :: l, m => by rw [List.cons_append, flatY, flatY, flatY_append l m, List.append_assoc]
theorem flatY_drop : ∀ (k : Nat) l, (flatY l).drop (9 * k) = flatY (l.drop k)
  | 0, l => rfl
  | k + 1, [] => by simp [flatY]
  | k + 1, p :: l => by
    rw [flatY, List.drop_succ_cons, ← flatY_drop k l, show 9 * (k + 1) = (recY p).length + 9 * k by rw [recY_len]; omega, List.drop_length_add_append]
theorem recY_byts {p : Int × Int} (h : bitP p) : Byts (recY p) := by
  intro x hx
  rcases List.mem_cons.mp hx with rfl | hx
  · have := h.1; omega
  · obtain ⟨j, _, rfl⟩ := List.mem_map.mp hx
    omega
theorem flatY_byts : ∀ {l : List (Int × Int)}, (∀ p ∈ l, bitP p) → Byts (flatY l)
  | [], _ => Byts.nil
  | p :: l, h => (recY_byts (h p (by simp))).append (flatY_byts (fun q hq => h q (by simp [hq])))
theorem flatY_get : ∀ (l : List (Int × Int)) (i j : Nat) (hi : i < l.length), j < 9 → (flatY l)[9 * i + j]? = (recY l[i])[j]?
  | p :: l, 0, j, _, hj => by
    rw [flatY, List.getElem?_append_left (by rw [recY_len]; omega)]
    simp
  | p :: l, i + 1, j, hi, hj => by
    rw [flatY, List.getElem?_append_right (by rw [recY_len]; omega), recY_len, show 9 * (i + 1) + j - 9 = 9 * i + j by omega]
    simp only [List.length_cons] at hi
    rw [flatY_get l i j (by omega) hj]
    simp
theorem rd_some {xs : List Int} {i : Nat} {x : Int} (h : xs[i]? = some x) : rd xs (i : Int) = x := by
  unfold rd; simp [h]
theorem ev_sync_record (a0 f t a4 f6 v : Int) (s : ByteArray) (hv : v = 0 ∨ v = 1) (h0 : 0 ≤ f) (h1 : f ≤ 1099511627776) : Ev (fun k => sync_record.f k a0 f t v a4 s f6) (recY (v, f)) := by
  have key : ∀ (d i : Nat), i + d = 8 → Ev (fun k => sync_record.l0 k ((48 + v) :: leY f i) (i : Int) a0 f t v a4 s f6) (recY (v, f)) := by
    intro d
    induction d with
    | zero =>
      intro i h
      obtain rfl : i = 8 := by omega
      refine Ev.step (fun k => sync_record.l0.eq_2 ..) ?_
      exact Ev.neg (by omega) (Ev.now _)
    | succ d ih =>
      intro i h
      have hn := ih (i + 1) (by omega)
      rw [leY_succ, ← List.cons_append] at hn
      have e8 : wrap64 (8 * (i : Int)) = ((8 * i : Nat) : Int) := by rw [w64 (by omega) (by omega)]; rfl
      refine Ev.step (fun k => sync_record.l0.eq_2 ..) ?_
      rw [e8, wnat (by omega), shr_eq f _ (8 * i) rfl (by omega)]
      exact Ev.pos (by omega) (Ev.pos (by omega) (Ev.pos (by rw [List.length_cons, leY_len]; omega) hn))
  have := key 8 0 rfl
  unfold sync_record.f
  rw [show (48 + v % 256) % 256 = 48 + v by omega]
  exact this
theorem or_byte (p : Int) (i : Nat) (hi : i < 8) (h0 : 0 ≤ p) (h1 : p ≤ 1099511627776) : Go.bits .or .i64 (p % 2 ^ (8 * i)) (shl .i64 (wrap64 (p / 2 ^ (8 * i) % 256)) ((8 * i : Nat) : Int)) = p % 2 ^ (8 * (i + 1)) := by
  have e : wrap64 (p / 2 ^ (8 * i) % 256) = p / 2 ^ (8 * i) % 256 := w64 (by omega) (by omega)
  have hlt : p % 2 ^ (8 * i) < 2 ^ (8 * i) := Int.emod_lt_of_pos _ (Int.pow_pos (by decide))
  have hge : 0 ≤ p % 2 ^ (8 * i) := Int.emod_nonneg _ (Int.ne_of_gt (Int.pow_pos (by decide)))
  have hb : 0 ≤ p / 2 ^ (8 * i) % 256 := by omega
  have hsum : p / 2 ^ (8 * i) % 256 * 2 ^ (8 * i) + p % 2 ^ (8 * i) = p % 2 ^ (8 * (i + 1)) := by
    match i, hi with
    | 0, _ => simp
    | 1, _ => omega
    | 2, _ => omega
    | 3, _ => omega
    | 4, _ => omega
    | 5, _ => omega
    | 6, _ => omega
    | 7, _ => omega
  have hle : p % 2 ^ (8 * (i + 1)) ≤ p := by
    match i, hi with
    | 0, _ => omega
    | 1, _ => omega
    | 2, _ => omega
    | 3, _ => omega
    | 4, _ => omega
    | 5, _ => omega
    | 6, _ => omega
    | 7, _ => omega
  have hm : 0 ≤ p / 2 ^ (8 * i) % 256 * 2 ^ (8 * i) := Int.mul_nonneg hb (Int.le_of_lt (Int.pow_pos (by decide)))
  rw [e, shl_eq (8 * i) rfl (by omega) hm (by omega), or_comm hge (by omega) hm (by omega), or_add (8 * i) hb (by omega) hge hlt, hsum]
theorem ev_sync_from (p : Int × Int) (l : List (Int × Int)) (hp : bitP p) : Ev (fun k => sync_from.f k (flatY (p :: l))) p.2 := by
  obtain ⟨_, h0, h1⟩ := hp
  have hlen := flatY_len (p :: l)
  rw [List.length_cons] at hlen
  have key : ∀ (d i : Nat), i + d = 8 → Ev (fun k => sync_from.l0 k (flatY (p :: l)) (p.2 % 2 ^ (8 * i)) (i : Int)) p.2 := by
    intro d
    induction d with
    | zero =>
      intro i h
      obtain rfl : i = 8 := by omega
      refine Ev.step (fun k => sync_from.l0.eq_2 ..) ?_
      have e : p.2 % 2 ^ (8 * 8) = p.2 := by omega
      rw [e]
      exact Ev.neg (by omega) (Ev.now _)
    | succ d ih =>
      intro i h
      have hn := ih (i + 1) (by omega)
      have e8 : wrap64 (8 * (i : Int)) = ((8 * i : Nat) : Int) := by rw [w64 (by omega) (by omega)]; rfl
      have e1 : wrap64 (1 + (i : Int)) = ((i + 1 : Nat) : Int) := by rw [w64 (by omega) (by omega)]; omega
      have hg := flatY_get (p :: l) 0 (i + 1) (by simp) (by omega)
      rw [show 9 * 0 + (i + 1) = i + 1 by omega, recY, List.getElem?_cons_succ, leY_get _ _ _ (by omega)] at hg
      refine Ev.step (fun k => sync_from.l0.eq_2 ..) ?_
      rw [e8, e1, wnat (by omega), rd_some hg, List.getElem_cons_zero, or_byte p.2 i (by omega) h0 h1]
      exact Ev.pos (by omega) (Ev.pos (by omega) (Ev.pos (by omega) (Ev.pos (by omega) hn)))
  have := key 8 0 rfl
  unfold sync_from.f
  rw [show p.2 % 2 ^ (8 * 0) = 0 by simp] at this
  exact this
def valY (p : Int × Int) : Int := 48 + p.1
theorem ev_sync_found (w : ByteArray) (n : Int) (m : Bool) (l : List (Int × Int)) (hw : w.size ≤ 32) (hl : l.length ≤ 32) : Ev (fun k => sync_found.f k w n m (flatY l)) (decide (l.map valY = bytesOf w)) := by
  have hlen := flatY_len l
  have hbl := len_bytes w
  unfold sync_found.f
  rw [w64 (x := 9 * (w.size : Int)) (by omega) (by omega)]
  refine Ev.ite (fun h => ?_) (fun h => ?_)
  case refine_2 =>
    rw [decide_eq_false (fun he => h (by have := congrArg List.length he; rw [List.length_map, hbl] at this; omega))]
    exact Ev.now _
  have hlw : l.length = w.size := by omega
  refine Ev.step (fun k => sync_found.j0.eq_2 ..) ?_
  have key : ∀ (d i : Nat), i + d = w.size → Ev (fun k => sync_found.l0 k (flatY l) (w.size : Int) (i : Int) w n m) (decide ((l.map valY).drop i = (bytesOf w).drop i)) := by
    intro d
    induction d with
    | zero =>
      intro i h
      rw [drop_end w i (by omega), List.drop_of_length_le (by rw [List.length_map]; omega), decide_eq_true rfl]
      refine Ev.step (fun k => sync_found.l0.eq_2 ..) ?_
      exact Ev.neg (by omega) (Ev.now _)
    | succ d ih =>
      intro i h
      have hn := ih (i + 1) (by omega)
      have e9 : wrap64 (9 * (i : Int)) = ((9 * i + 0 : Nat) : Int) := by rw [w64 (by omega) (by omega)]; omega
      have hg := flatY_get l i 0 (by omega) (by omega)
      rw [recY, List.getElem?_cons_zero] at hg
      have hd : (l.map valY).drop i = valY l[i] :: (l.map valY).drop (i + 1) := by
        rw [List.drop_eq_getElem_cons (by rw [List.length_map]; omega), List.getElem_map]
      rw [hd, drop_cons w i (by omega)]
      refine Ev.step (fun k => sync_found.l0.eq_2 ..) ?_
      rw [e9, rd_some hg, wnat (by omega)]
      refine Ev.pos (by omega) (Ev.pos (by omega) (Ev.pos (by omega) (Ev.pos (by omega) (Ev.pos (by omega) (Ev.ite (fun he => ?_) (fun he => ?_))))))
      · have e2 : decide (valY l[i] :: (l.map valY).drop (i + 1) = bt w (i : Int) :: (bytesOf w).drop (i + 1)) = decide ((l.map valY).drop (i + 1) = (bytesOf w).drop (i + 1)) := by
          rw [decide_eq_decide, List.cons.injEq]
          exact ⟨fun h => h.2, fun h => ⟨he, h⟩⟩
        rw [e2]; exact hn
      · have e3 : decide (valY l[i] :: (l.map valY).drop (i + 1) = bt w (i : Int) :: (bytesOf w).drop (i + 1)) = false := decide_eq_false (fun h => he (List.cons.inj h).1)
        rw [e3]
        exact Ev.now _
  exact key w.size 0 (by omega)
def lastY (n : Nat) (l : List (Int × Int)) : List (Int × Int) := l.drop (l.length - n)
theorem lastY_len (n : Nat) (l : List (Int × Int)) : (lastY n l).length ≤ n := by unfold lastY; rw [List.length_drop]; omega
theorem sync_last (l : List (Int × Int)) (n : Nat) (hl : l.length ≤ 1000) (hn : n ≤ 1000) : sync_last_byte.f (flatY l) (wrap64 (9 * (n : Int))) = some (flatY (lastY n l)) := by
  have hlen := flatY_len l
  unfold sync_last_byte.f lastY
  have e : mx 0 (wrap64 (((flatY l).length : Int) - wrap64 (9 * (n : Int)))) = ((9 * (l.length - n) : Nat) : Int) := by
    rw [w64 (x := 9 * (n : Int)) (by omega) (by omega), w64 (by omega) (by omega)]
    unfold mx; split <;> omega
  rw [e, if_pos (by omega), if_pos (by omega), Int.toNat_natCast, flatY_drop]
/-- What the decoder remembers: the last bits, or where the frame began and its bits. -/
inductive MY where
  | srch (win : List (Int × Int))
  | coll (f : Int) (bs : List Int)
def phY : MY → Int | .srch _ => 0 | .coll _ _ => 1
def frY : MY → Int | .srch _ => 0 | .coll f _ => f
def daY : MY → ByteArray | .srch l => strOfNums (flatY l) | .coll _ bs => strOfNums bs
def okY (w : ByteArray) (n : Int) : MY → Prop
  | .srch l => l.length ≤ w.size ∧ ∀ p ∈ l, bitP p
  | .coll f bs => 0 ≤ f ∧ f ≤ 1099511627776 ∧ AllB bs ∧ (bs.length : Int) < 8 * n
def accY (at_ : Int) (e : S32) : Bool := decide (e.f0 = 2) && (validE e.f0 e.f1 e.f2 e.f3 e.f4 e.f5 e.f6 && (decide (at_ ≤ e.f1) && (decide (e.f3 = 0) || decide (e.f3 = 1))))
theorem accY_ok {at_ : Int} {e : S32} (h : accY at_ e = true) : e.f0 = 2 ∧ validE e.f0 e.f1 e.f2 e.f3 e.f4 e.f5 e.f6 = true ∧ at_ ≤ e.f1 ∧ (e.f3 = 0 ∨ e.f3 = 1) := by
  simpa [accY] using h
theorem accY_times {at_ : Int} {e : S32} (h : accY at_ e = true) : 0 ≤ e.f1 ∧ e.f1 ≤ e.f2 ∧ e.f2 ≤ 1099511627776 := by
  have := (accY_ok h).2.1
  unfold validE at this
  rw [decide_eq_true_eq] at this
  omega
theorem ev_accY (a0 at_ a2 a3 a4 a5 p : Int) (s : ByteArray) (e : S32) : Ev (fun k => sync_accepts.f k a0 at_ a2 a3 a4 a5 p s e.f0 e.f1 e.f2 e.f3 e.f4 e.f5 e.f6) (accY at_ e) := by
  have hv := ev_event_Valid e.f0 e.f1 e.f2 e.f3 e.f4 e.f5 e.f6
  unfold sync_accepts.f accY
  refine Ev.ite (fun h => ?_) (fun h => ?_)
  · rw [decide_eq_true h, Bool.true_and]
    refine Ev.bind hv (Ev.ite (fun h2 => ?_) (fun h2 => ?_))
    · rw [h2, Bool.true_and]
      refine Ev.ite (fun h3 => ?_) (fun h3 => ?_)
      · rw [decide_eq_true (show at_ ≤ e.f1 by omega), Bool.true_and]
        refine Ev.ite (fun h4 => ?_) (fun h4 => ?_)
        · rw [decide_eq_true h4, Bool.true_or]; exact Ev.now _
        · rw [decide_eq_false h4, Bool.false_or]
          have : (e.f3 == 1) = decide (e.f3 = 1) := rfl
          rw [this]; exact Ev.now _
      · rw [decide_eq_false (show ¬ at_ ≤ e.f1 by omega), Bool.false_and]; exact Ev.now _
    · rw [Bool.eq_false_iff.mpr h2, Bool.false_and]; exact Ev.now _
  · rw [decide_eq_false h, Bool.false_and]; exact Ev.now _
def abY (s : MY) (t : Int) : List S32 := match s with | .srch _ => [] | .coll f _ => [⟨5, f, mx t f, 0, 0, (⟨#[]⟩ : ByteArray), 7⟩]
def frameY (m : Bool) (f t : Int) (bs : List Int) : S32 := ⟨5, f, t, 0, 0, (bytesS (strOfNums bs) m).1, 0⟩
/-- One accepted event: what is remembered, and what is told. -/
def stepY (w : ByteArray) (n : Int) (m : Bool) (s : MY) (e : S32) : MY × List S32 :=
  if e.f6 = 0 then
    match s with
    | .srch l => if (lastY w.size (l ++ [(e.f3, e.f1)])).map valY = bytesOf w then (.coll ((lastY w.size (l ++ [(e.f3, e.f1)])).headD (0, 0)).2 [], []) else (.srch (lastY w.size (l ++ [(e.f3, e.f1)])), [])
    | .coll f bs => if ((bs.length + 1 : Nat) : Int) < 8 * n then (.coll f (bs ++ [48 + e.f3]), []) else (.srch [], [frameY m f e.f2 (bs ++ [48 + e.f3])])
  else (.srch [], abY s e.f1)
theorem lastY_bits {n : Nat} {l : List (Int × Int)} (h : ∀ p ∈ l, bitP p) : ∀ p ∈ lastY n l, bitP p := fun p hp => h p (List.mem_of_mem_drop hp)
theorem stepY_ok {w : ByteArray} {n : Int} (m : Bool) (hw : chkY w n = 0) {s : MY} (hs : okY w n s) {e : S32} (h : e.f3 = 0 ∨ e.f3 = 1) (h0 : 0 ≤ e.f1) (h1 : e.f1 ≤ 1099511627776) : okY w n (stepY w n m s e).1 := by
  obtain ⟨_, hw1, hw2, hn1, hn2⟩ := chkY_ok hw
  unfold stepY
  split
  · cases s with
    | srch l =>
      have hb : ∀ p ∈ l ++ [(e.f3, e.f1)], bitP p := fun p hp => by
        rcases List.mem_append.mp hp with hp | hp
        · exact hs.2 p hp
        · rw [List.mem_singleton.mp hp]; exact ⟨h, h0, h1⟩
      dsimp only
      split
      · rename_i hm
        refine ⟨?_, ?_, AllB.nil, by simp; omega⟩
        all_goals
          have hb2 := lastY_bits (n := w.size) hb
          cases hq : lastY w.size (l ++ [(e.f3, e.f1)]) with
          | nil => simp
          | cons p q => rw [hq] at hb2; have := (hb2 p (by simp)).2; simp; omega
      · exact ⟨lastY_len _ _, lastY_bits hb⟩
    | coll f bs =>
      obtain ⟨k1, k2, k3, k4⟩ := hs
      dsimp only
      split
      · rename_i hm
        refine ⟨k1, k2, AllB.append_iff.mpr ⟨k3, AllB.cons_iff.mpr ⟨by omega, AllB.nil⟩⟩, by simp; omega⟩
      · exact ⟨by simp, fun p hp => by cases hp⟩
  · exact ⟨by simp, fun p hp => by cases hp⟩
theorem sync_searchY (a0 a1 a2 a3 a4 a5 a6 : Int) (s : ByteArray) : sync_search.f a0 a1 a2 a3 a4 a5 a6 s = some (0, a1, 0, 0, 0, 0, a6, (⟨#[]⟩ : ByteArray)) := rfl
theorem sync_abortedY (s : MY) (a1 a3 a4 a5 a6 : Int) (d : ByteArray) (t : Int) : sync_aborted.f (phY s) a1 (frY s) a3 a4 a5 a6 d t = some (abY s t) := by
  cases s <;> rfl
theorem ev_stepY (w : ByteArray) (n : Int) (m : Bool) (hw : chkY w n = 0) (s : MY) (hs : okY w n s) (at_ p : Int) (e : S32) :
    Ev (fun k => sync_Step.f k w n m (phY s) at_ (frY s) 0 0 0 p (daY s) e.f0 e.f1 e.f2 e.f3 e.f4 e.f5 e.f6)
      (if accY at_ e = true then (phY (stepY w n m s e).1, e.f1, frY (stepY w n m s e).1, 0, 0, 0, e.f2, daY (stepY w n m s e).1, (stepY w n m s e).2) else (phY s, at_, frY s, 0, 0, 0, p, daY s, [])) := by
  obtain ⟨_, hw1, hw2, hn1, hn2⟩ := chkY_ok hw
  unfold sync_Step.f
  refine Ev.bind (ev_sync_Check w n m) (Ev.pos hw (Ev.bind (ev_accY _ at_ _ 0 0 0 p _ e) ?_))
  refine Ev.step (fun k => sync_Step.j0.eq_2 ..) ?_
  by_cases ha : accY at_ e = true
  case neg =>
    rw [if_neg ha]
    exact Ev.pos (by simp [ha]) (Ev.now _)
  rw [if_pos ha]
  obtain ⟨a1, a2, a3, a4⟩ := accY_ok ha
  obtain ⟨t1, t2, t3⟩ := accY_times ha
  refine Ev.neg (by simp [ha]) ?_
  refine Ev.step (fun k => sync_Step.j1.eq_2 ..) ?_
  rw [sync_abortedY, sync_searchY]
  by_cases hf : e.f6 = 0
  case neg =>
    have : stepY w n m s e = (.srch [], abY s e.f1) := by unfold stepY; rw [if_neg hf]
    rw [this]
    exact Ev.neg hf (Ev.sbind (Ev.sbind (Ev.now _)))
  refine Ev.pos hf ?_
  refine Ev.step (fun k => sync_Step.j2.eq_2 ..) ?_
  cases s with
  | coll f bs =>
    obtain ⟨k1, k2, k3, k4⟩ := hs
    have hbits : AllB (bs ++ [48 + e.f3]) := AllB.append_iff.mpr ⟨k3, AllB.cons_iff.mpr ⟨by omega, AllB.nil⟩⟩
    have e1 : (48 + e.f3 % 256) % 256 = 48 + e.f3 := by omega
    have e2 : daY (.coll f bs) ++ strOfNums [(48 + e.f3)] = strOfNums (bs ++ [48 + e.f3]) := str_append _ _
    have hsz : (strOfNums (bs ++ [48 + e.f3])).size = bs.length + 1 := by rw [size_str]; simp
    refine Ev.pos rfl (Ev.sbind ?_)
    rw [e1, e2, hsz, w64 (x := 8 * n) (by omega) (by omega)]
    refine Ev.pos ?_ ?_
    · show (daY (.coll f bs)).size + _ ≤ _
      have : (daY (.coll f bs)).size = bs.length := size_str _
      rw [this, size_str]; simp; omega
    have hst : stepY w n m (.coll f bs) e = if ((bs.length + 1 : Nat) : Int) < 8 * n then (.coll f (bs ++ [48 + e.f3]), []) else (.srch [], [frameY m f e.f2 (bs ++ [48 + e.f3])]) := by unfold stepY; rw [if_pos hf]
    rw [hst]
    refine Ev.ite (fun h => ?_) (fun h => ?_)
    · rw [if_pos h]; exact Ev.now _
    · rw [if_neg h]
      exact Ev.bind (ev_bits_Bytes _ m) (Ev.sbind (Ev.now _))
  | srch l =>
    obtain ⟨k1, k2⟩ := hs
    have hb : ∀ p ∈ l ++ [(e.f3, e.f1)], bitP p := fun p hp => by
      rcases List.mem_append.mp hp with hp | hp
      · exact k2 p hp
      · rw [List.mem_singleton.mp hp]; exact ⟨a4, t1, by omega⟩
    have hda : (daY (.srch l)).size = 9 * l.length := by show (strOfNums _).size = _; rw [size_str, flatY_len]
    have hby : bytesOf (daY (.srch l)) = flatY l := bytes_str (flatY_byts k2)
    have hfl : flatY l ++ recY (e.f3, e.f1) = flatY (l ++ [(e.f3, e.f1)]) := by rw [flatY_append]; simp [flatY]
    refine Ev.neg (by show ¬ (0 : Int) = 1; decide) (Ev.pos (by omega) (Ev.sbind (Ev.bind (ev_sync_record _ _ _ _ _ _ _ a4 t1 (by omega)) ?_)))
    rw [hby, hfl, sync_last _ _ (by simp; omega) (by omega)]
    refine Ev.pos (by rw [flatY_len, recY_len]; omega) (Ev.sbind (Ev.bind (ev_sync_found w n m _ hw2 (Nat.le_trans (lastY_len _ _) hw2)) ?_))
    have hst : stepY w n m (.srch l) e = if (lastY w.size (l ++ [(e.f3, e.f1)])).map valY = bytesOf w then (.coll ((lastY w.size (l ++ [(e.f3, e.f1)])).headD (0, 0)).2 [], []) else (.srch (lastY w.size (l ++ [(e.f3, e.f1)])), []) := by unfold stepY; rw [if_pos hf]
    rw [hst]
    by_cases hm : (lastY w.size (l ++ [(e.f3, e.f1)])).map valY = bytesOf w
    · rw [if_pos hm, decide_eq_true hm]
      refine Ev.pos rfl (Ev.sbind ?_)
      have hb2 := lastY_bits (n := w.size) hb
      cases hq : lastY w.size (l ++ [(e.f3, e.f1)]) with
      | nil =>
        exfalso
        rw [hq] at hm
        have := congrArg List.length hm
        rw [len_bytes] at this
        simp at this
        omega
      | cons p q =>
        rw [hq] at hb2
        exact Ev.bind (ev_sync_from p q (hb2 p (by simp))) (Ev.now _)
    · rw [if_neg hm, decide_eq_false hm]
      exact Ev.neg (by decide) (Ev.now _)
/-- What is decoded of events behind what is remembered. -/
def decY (w : ByteArray) (n : Int) (m : Bool) : MY → Int → Int → List S32 → List S32
  | s, _, p, [] => abY s p
  | s, a, p, e :: l => if accY a e = true then (stepY w n m s e).2 ++ decY w n m (stepY w n m s e).1 e.f1 e.f2 l else decY w n m s a p l
theorem abY_len (s : MY) (t : Int) : (abY s t).length ≤ 1 := by cases s <;> simp [abY]
theorem stepY_len (w : ByteArray) (n : Int) (m : Bool) (s : MY) (e : S32) : (stepY w n m s e).2.length ≤ 1 := by
  unfold stepY
  split
  · cases s <;> dsimp only <;> split <;> simp
  · exact abY_len _ _
theorem decY_len (w : ByteArray) (n : Int) (m : Bool) : ∀ (l : List S32) (s : MY) (a p : Int), (decY w n m s a p l).length ≤ l.length + 1
  | [], s, a, p => by have := abY_len s p; unfold decY; simpa using this
  | e :: l, s, a, p => by
    unfold decY
    split
    · have h1 := stepY_len w n m s e
      have h2 := decY_len w n m l (stepY w n m s e).1 e.f1 e.f2
      rw [List.length_append, List.length_cons]; omega
    · have h2 := decY_len w n m l s a p
      rw [List.length_cons]; omega
theorem ev_sync_End (w : ByteArray) (n : Int) (m : Bool) (hw : chkY w n = 0) (s : MY) (a p : Int) : Ev (fun k => sync_End.f k w n m (phY s) a (frY s) 0 0 0 p (daY s)) (abY s p) := by
  unfold sync_End.f
  refine Ev.bind (ev_sync_Check w n m) (Ev.pos hw ?_)
  rw [sync_abortedY]
  exact Ev.sbind (Ev.now _)
theorem ev_DecodeY (w : ByteArray) (n : Int) (m : Bool) (hw : chkY w n = 0) (l : List S32) (hl : l.length < 1000000000) : Ev (fun k => sync_Decode.f k w n m l) (decY w n m (.srch []) 0 0 l) := by
  have key : ∀ (q pre out : List S32) (s : MY) (a p : Int) (i : Nat), okY w n s → l = pre ++ q → i = pre.length → out.length ≤ i → Ev (fun k => sync_Decode.l0 k out l (l.length : Int) (i : Int) w n m (phY s) a (frY s) 0 0 0 p (daY s)) (out ++ decY w n m s a p q) := by
    intro q
    induction q with
    | nil =>
      intro pre out s a p i hs he hi ho
      rw [List.append_nil] at he
      have hi' : i = l.length := by rw [hi, he]
      clear he
      have hab := abY_len s p
      unfold decY
      refine Ev.step (fun k => sync_Decode.l0.eq_2 ..) ?_
      exact Ev.neg (by omega) (Ev.bind (ev_sync_End w n m hw s a p) (Ev.pos (by omega) (Ev.now _)))
    | cons e q ih =>
      intro pre out s a p i hs he hi ho
      have hlen : l.length = i + (q.length + 1) := by rw [he, hi, List.length_append, List.length_cons]
      have hx : rd_T32 l (i : Int) = e := by rw [he]; exact rdE_mid pre e q i hi
      have ih2 := fun out' s' a' p' hs' => ih (pre ++ [e]) out' s' a' p' (i + 1) hs' (by rw [he]; simp) (by simp [hi])
      clear ih he
      have hst := ev_stepY w n m hw s hs a p e
      have hsl := stepY_len w n m s e
      refine Ev.step (fun k => sync_Decode.l0.eq_2 ..) ?_
      rw [hx, wnat (by omega), decY]
      refine Ev.pos (by omega) (Ev.pos (by omega) (Ev.pos (by omega) (Ev.bind hst ?_)))
      by_cases ha : accY a e = true
      · rw [if_pos ha, if_pos ha]
        obtain ⟨t1, t2, t3⟩ := accY_times ha
        have := ih2 (out ++ (stepY w n m s e).2) _ e.f1 e.f2 (stepY_ok m hw hs (accY_ok ha).2.2.2 t1 (by omega)) (by rw [List.length_append]; omega)
        rw [List.append_assoc] at this
        exact Ev.pos (by dsimp only; omega) this
      · rw [if_neg ha, if_neg ha]
        have := ih2 out s a p hs (by omega)
        refine Ev.pos (by dsimp only; simp; omega) ?_
        dsimp only
        rw [List.append_nil]
        exact this
  exact key l [] [] (.srch []) 0 0 0 ⟨by simp, fun p hp => by cases hp⟩ rfl rfl (by simp)
/-- The reference's record of a bit: what it is, and the bytes of its time, the highest first. -/
def packT (n : Int) : Nat → List Int
  | 0 => []
  | d + 1 => n / 2 ^ (8 * d) % 256 :: packT n d
theorem packT_len (n : Int) : ∀ d, (packT n d).length = d
  | 0 => rfl
  | d + 1 => by rw [packT, List.length_cons, packT_len n d]
theorem packT_get (n : Int) : ∀ (d i : Nat), i < d → (packT n d)[i]? = some (n / 2 ^ (8 * (d - 1 - i)) % 256)
  | d + 1, 0, _ => by simp [packT]
  | d + 1, i + 1, h => by
    rw [packT, List.getElem?_cons_succ, packT_get n d i (by omega), show d + 1 - 1 - (i + 1) = d - 1 - i by omega]
theorem packT_byts (n : Int) : ∀ d, Byts (packT n d)
  | 0 => Byts.nil
  | d + 1 => Byts.cons (by omega) (packT_byts n d)
def recR (p : Int × Int) : List Int := (48 + p.1) :: packT p.2 6
def flatR : List (Int × Int) → List Int
  | [] => []
  | p :: l => recR p ++ flatR l
theorem recR_len (p : Int × Int) : (recR p).length = 7 := by rw [recR, List.length_cons, packT_len]
theorem flatR_len : ∀ l, (flatR l).length = 7 * l.length
  | [] => rfl
  | p :: l => by rw [flatR, List.length_append, recR_len, flatR_len l, List.length_cons]; omega
theorem flatR_append : ∀ l m, flatR (l ++ m) = flatR l ++ flatR m
  | [], _ => rfl
  | p :: l, m => by rw [List.cons_append, flatR, flatR, flatR_append l m, List.append_assoc]
theorem flatR_byts : ∀ {l : List (Int × Int)}, (∀ p ∈ l, bitP p) → Byts (flatR l)
  | [], _ => Byts.nil
  | p :: l, h => (Byts.cons (by have := (h p (by simp)).1; omega) (packT_byts _ _)).append (flatR_byts (fun q hq => h q (by simp [hq])))
theorem flatR_get : ∀ (l : List (Int × Int)) (i : Nat) (hi : i < l.length), (flatR l)[7 * i]? = some (valY l[i])
  | p :: l, 0, _ => by simp [flatR, recR, valY]
  | p :: l, i + 1, hi => by
    rw [flatR, List.getElem?_append_right (by rw [recR_len]; omega), recR_len, show 7 * (i + 1) - 7 = 7 * i by omega]
    simp only [List.length_cons] at hi
    rw [flatR_get l i (by omega)]
    simp
theorem bt_some {xs : List Int} (h : Byts xs) {i : Nat} {x : Int} (hi : xs[i]? = some x) : bt (strOfNums xs) (i : Int) = x := by
  obtain ⟨h1, h2⟩ := List.getElem?_eq_some_iff.mp hi
  rw [bt_str h i h1, h2]
theorem ev_ref21_pack (n : Int) : Ev (fun k => signalbenchref21_pack.f k n) (strOfNums (packT n 6)) := by
  have key : ∀ (d : Nat) (out : List Int), d ≤ 6 → out.length + d ≤ 10 → Ev (fun k => signalbenchref21_pack.l0 k n out ((d : Int) - 1)) (strOfNums (out ++ packT n d)) := by
    intro d
    induction d with
    | zero =>
      intro out hd ho
      refine Ev.step (fun k => signalbenchref21_pack.l0.eq_2 ..) ?_
      rw [packT, List.append_nil]
      exact Ev.neg (by omega) (Ev.now _)
    | succ d ih =>
      intro out hd ho
      have hn := ih (out ++ [n / 2 ^ (8 * d) % 256]) (by omega) (by rw [List.length_append, List.length_singleton]; omega)
      rw [List.append_assoc, List.singleton_append] at hn
      have e : ((d + 1 : Nat) : Int) - 1 = (d : Int) := by omega
      have e8 : wrap64 (8 * (d : Int)) = ((8 * d : Nat) : Int) := by rw [w64 (by omega) (by omega)]; rfl
      rw [e]
      refine Ev.step (fun k => signalbenchref21_pack.l0.eq_2 ..) ?_
      rw [e8, w64 (x := (d : Int) - 1) (by omega) (by omega), shr_eq n _ (8 * d) rfl (by omega), packT]
      exact Ev.pos (by omega) (Ev.pos (by omega) (Ev.pos (by omega) hn))
  exact key 6 [] (by omega) (by simp)
theorem ev_ref21_unpack (n : Int) (h0 : 0 ≤ n) (h1 : n ≤ 1099511627776) : Ev (fun k => signalbenchref21_unpack.f k (strOfNums (packT n 6))) n := by
  have hsz : (strOfNums (packT n 6)).size = 6 := by rw [size_str, packT_len]
  have key : ∀ (d i : Nat), i + d = 6 → Ev (fun k => signalbenchref21_unpack.l0 k (strOfNums (packT n 6)) (n / 2 ^ (8 * d)) (i : Int)) n := by
    intro d
    induction d with
    | zero =>
      intro i h
      refine Ev.step (fun k => signalbenchref21_unpack.l0.eq_2 ..) ?_
      rw [show n / 2 ^ (8 * 0) = n by simp]
      exact Ev.neg (by omega) (Ev.now _)
    | succ d ih =>
      intro i h
      have hn := ih (i + 1) (by omega)
      have hb := bt_some (packT_byts n 6) (packT_get n 6 i (by omega))
      rw [show 6 - 1 - i = d by omega] at hb
      have hs : 256 * (n / 2 ^ (8 * (d + 1))) + n / 2 ^ (8 * d) % 256 = n / 2 ^ (8 * d) ∧ 0 ≤ n / 2 ^ (8 * d) ∧ n / 2 ^ (8 * d) ≤ 1099511627776 ∧ 0 ≤ n / 2 ^ (8 * (d + 1)) := by
        match d, h with
        | 0, _ => simp; omega
        | 1, _ => omega
        | 2, _ => omega
        | 3, _ => omega
        | 4, _ => omega
        | 5, _ => omega
      obtain ⟨s1, s2, s3, s4⟩ := hs
      refine Ev.step (fun k => signalbenchref21_unpack.l0.eq_2 ..) ?_
      rw [hb, wnat (by omega), w64 (x := n / 2 ^ (8 * d) % 256) (by omega) (by omega), w64 (x := 256 * (n / 2 ^ (8 * (d + 1)))) (by omega) (by omega), w64 (by omega) (by omega), s1]
      exact Ev.pos (by omega) (Ev.pos (by omega) (Ev.pos (by omega) hn))
  have := key 6 0 rfl
  rw [show n / 2 ^ (8 * 6) = 0 by omega] at this
  exact this
theorem ev_ref21_word (l : List (Int × Int)) (hl : l.length ≤ 1000) (hb : ∀ p ∈ l, bitP p) : Ev (fun k => signalbenchref21_word.f k (strOfNums (flatR l))) (strOfNums (l.map valY)) := by
  have hsz : (strOfNums (flatR l)).size = 7 * l.length := by rw [size_str, flatR_len]
  have hby := flatR_byts hb
  have key : ∀ (d i : Nat), i + d = l.length → Ev (fun k => signalbenchref21_word.l0 k (strOfNums (flatR l)) ((l.map valY).take i) ((7 * i : Nat) : Int)) (strOfNums (l.map valY)) := by
    intro d
    induction d with
    | zero =>
      intro i h
      have e7 : wrap64 (((7 * i : Nat) : Int) + 7) = ((7 * (i + 1) : Nat) : Int) := by rw [w64 (by omega) (by omega)]; omega
      refine Ev.step (fun k => signalbenchref21_word.l0.eq_2 ..) ?_
      rw [e7, List.take_of_length_le (by rw [List.length_map]; omega)]
      exact Ev.neg (by omega) (Ev.now _)
    | succ d ih =>
      intro i h
      have e7 : wrap64 (((7 * i : Nat) : Int) + 7) = ((7 * (i + 1) : Nat) : Int) := by rw [w64 (by omega) (by omega)]; omega
      have hn := ih (i + 1) (by omega)
      have hg := bt_some hby (flatR_get l i (by omega))
      have ht : (l.map valY).take (i + 1) = (l.map valY).take i ++ [valY l[i]] := by
        rw [List.take_succ_eq_append_getElem (by rw [List.length_map]; omega), List.getElem_map]
      rw [ht] at hn
      refine Ev.step (fun k => signalbenchref21_word.l0.eq_2 ..) ?_
      rw [e7, hg]
      exact Ev.pos (by omega) (Ev.pos (by omega) (Ev.pos (by omega) (Ev.pos (by rw [List.length_take, List.length_map]; omega) hn)))
  exact key l.length 0 (by omega)
def daR : MY → ByteArray | .srch l => strOfNums (flatR l) | .coll _ bs => strOfNums bs
theorem str49 : (⟨#[49]⟩ : ByteArray) = strOfNums [49] := rfl
theorem str48 : (⟨#[48]⟩ : ByteArray) = strOfNums [48] := rfl
theorem ref21_valid (x : S32) : signalbenchref07_Valid.f x.f0 x.f1 x.f2 x.f3 x.f4 x.f5 x.f6 = some (validE x.f0 x.f1 x.f2 x.f3 x.f4 x.f5 x.f6) := by
  unfold signalbenchref07_Valid.f validE
  repeat' split
  all_goals first
    | (rw [decide_eq_false (by omega)])
    | (congr 1; rw [decide_eq_decide]; omega)
theorem ref21_acc (a0 a1 a2 a3 a4 a5 at_ : Int) (s : ByteArray) (e : S32) : signalbenchref21_accepted.f a0 a1 a2 a3 a4 a5 at_ s e.f0 e.f1 e.f2 e.f3 e.f4 e.f5 e.f6 = some (accY at_ e) := by
  unfold signalbenchref21_accepted.f accY
  rw [ref21_valid, Option.bind_some]
  cases validE e.f0 e.f1 e.f2 e.f3 e.f4 e.f5 e.f6
  · simp
  · rw [if_pos rfl]
    by_cases h0 : e.f0 = 2
    · rw [if_pos h0, decide_eq_true h0]
      by_cases h3 : e.f3 = 0
      · rw [if_pos h3, decide_eq_true h3]; simp
      · rw [if_neg h3, decide_eq_false h3]
        by_cases h4 : e.f3 = 1
        · rw [if_pos h4, decide_eq_true h4]; simp
        · rw [if_neg h4, decide_eq_false h4]; simp
    · rw [if_neg h0, decide_eq_false h0]; rfl
theorem ref21_collected (s : MY) (a1 a3 a4 a5 a6 : Int) (d : ByteArray) (t : Int) : signalbenchref21_collected.f (phY s) a1 (frY s) a3 a4 a5 a6 d t = some (abY s t) := by
  cases s with
  | srch l => rfl
  | coll f bs =>
    unfold signalbenchref21_collected.f abY mx phY frY
    dsimp only
    rw [if_neg (by decide)]
    by_cases h : t < f
    · rw [if_pos h, if_pos h]
    · rw [if_neg h, if_neg h]
theorem ev_ref21_search (w : ByteArray) (n : Int) (m : Bool) (hw : chkY w n = 0) (l : List (Int × Int)) (hl : l.length ≤ w.size) (hb : ∀ p ∈ l, bitP p) (v f p fr : Int) (hv : v = 0 ∨ v = 1) (h0 : 0 ≤ f) (h1 : f ≤ 1099511627776) (bit : ByteArray) (hbit : bit = strOfNums [48 + v]) :
    Ev (fun k => signalbenchref21_search.f k w n m 0 p 0 0 0 0 fr (strOfNums (flatR l)) bit f)
      (if (lastY w.size (l ++ [(v, f)])).map valY = bytesOf w then (1, p, ((lastY w.size (l ++ [(v, f)])).headD (0, 0)).2, 0, 0, 0, fr, (⟨#[]⟩ : ByteArray)) else (0, p, 0, 0, 0, 0, fr, strOfNums (flatR (lastY w.size (l ++ [(v, f)]))))) := by
  obtain ⟨_, hw1, hw2, _, _⟩ := chkY_ok hw
  subst hbit
  have hb2 : ∀ q ∈ l ++ [(v, f)], bitP q := fun q hq => by
    rcases List.mem_append.mp hq with hq | hq
    · exact hb q hq
    · rw [List.mem_singleton.mp hq]; exact ⟨hv, h0, h1⟩
  have hb3 := lastY_bits (n := w.size) hb2
  have hll := lastY_len w.size (l ++ [(v, f)])
  have hcat : strOfNums (flatR l) ++ strOfNums [48 + v] ++ strOfNums (packT f 6) = strOfNums (flatR (l ++ [(v, f)])) := by
    rw [str_append, str_append, flatR_append, List.append_assoc]
    rfl
  have hsz : (strOfNums (flatR (l ++ [(v, f)]))).size = 7 * l.length + 7 := by rw [size_str, flatR_len, List.length_append, List.length_singleton]; omega
  have hs1 : (strOfNums (flatR l)).size = 7 * l.length := by rw [size_str, flatR_len]
  have hs2 : (strOfNums (flatR l) ++ strOfNums [48 + v]).size = 7 * l.length + 1 := by rw [str_append, size_str, List.length_append, flatR_len, List.length_singleton]
  -- behind the cut
  have hj : Ev (fun k => signalbenchref21_search.j0 k w n m 0 p 0 0 0 0 fr (strOfNums (flatR (lastY w.size (l ++ [(v, f)]))))) (if (lastY w.size (l ++ [(v, f)])).map valY = bytesOf w then (1, p, ((lastY w.size (l ++ [(v, f)])).headD (0, 0)).2, 0, 0, 0, fr, (⟨#[]⟩ : ByteArray)) else (0, p, 0, 0, 0, 0, fr, strOfNums (flatR (lastY w.size (l ++ [(v, f)]))))) := by
    generalize hq : lastY w.size (l ++ [(v, f)]) = q at hb3 hll ⊢
    have hwd := ev_ref21_word q (by omega) hb3
    have hqs : (strOfNums (flatR q)).size = 7 * q.length := by rw [size_str, flatR_len]
    refine Ev.step (fun k => signalbenchref21_search.j0.eq_2 ..) ?_
    refine Ev.bind hwd ?_
    have hby : Byts (q.map valY) := fun x hx => by
      obtain ⟨y, hy, rfl⟩ := List.mem_map.mp hx
      have := (hb3 y hy).1
      unfold valY; omega
    by_cases hm : q.map valY = bytesOf w
    · rw [if_pos hm]
      have e : strOfNums (q.map valY) = w := by rw [hm, str_bytes]
      rw [e]
      have hql := congrArg List.length hm
      rw [List.length_map, len_bytes] at hql
      cases q with
      | nil => simp at hql; omega
      | cons x q =>
        have hx := hb3 x (by simp)
        have hex : (strOfNums (flatR (x :: q))).extract 1 7 = strOfNums (packT x.2 6) := by
          apply bytes_inj
          rw [bytes_extract, bytes_str (flatR_byts hb3), bytes_str (packT_byts _ _), flatR, List.take_append_of_le_length (by rw [recR_len]; exact Nat.le_refl _), List.take_of_length_le (by rw [recR_len]; exact Nat.le_refl _)]
          rfl
        rw [hex]
        exact Ev.pos rfl (Ev.pos (by omega) (Ev.pos (by rw [List.length_cons] at hqs; omega) (Ev.bind (ev_ref21_unpack x.2 hx.2.1 hx.2.2) (Ev.now _))))
    · rw [if_neg hm]
      refine Ev.neg (fun he => hm ?_) (Ev.now _)
      rw [← toList_inj he, bytes_str hby]
  unfold signalbenchref21_search.f
  refine Ev.pos (by rw [hs1, size_str, List.length_singleton]; omega) (Ev.bind (ev_ref21_pack f) ?_)
  rw [hcat, w64 (x := 7 * (w.size : Int)) (by omega) (by omega), hsz]
  refine Ev.pos (by rw [hs2, size_str, packT_len]; omega) (Ev.ite (fun h => ?_) (fun h => ?_))
  · have hlw : l.length = w.size := by omega
    refine Ev.pos (by omega) ?_
    have hex : (strOfNums (flatR (l ++ [(v, f)]))).extract 7 (7 * l.length + 7) = strOfNums (flatR (lastY w.size (l ++ [(v, f)]))) := by
      apply bytes_inj
      rw [bytes_extract, bytes_str (flatR_byts hb2), bytes_str (flatR_byts hb3), List.take_of_length_le (by rw [flatR_len, List.length_append, List.length_singleton]; omega)]
      unfold lastY
      rw [List.length_append, List.length_singleton, show l.length + 1 - w.size = 1 by omega]
      cases hq : l ++ [(v, f)] with
      | nil => simp at hq
      | cons x q => rw [flatR, List.drop_left' (recR_len x), List.drop_succ_cons, List.drop_zero]
    rw [hex]
    exact hj
  · have hla : lastY w.size (l ++ [(v, f)]) = l ++ [(v, f)] := by
      unfold lastY
      rw [show (l ++ [(v, f)]).length - w.size = 0 by rw [List.length_append, List.length_singleton]; omega, List.drop_zero]
    rw [hla] at hj
    rw [hla]
    exact hj
/-- One step by any configuration. -/
def stV (w : ByteArray) (n : Int) (m : Bool) (s : MY) (a p : Int) (e : S32) : MY × Int × Int × List S32 :=
  if chkY w n = 0 ∧ accY a e = true then ((stepY w n m s e).1, e.f1, e.f2, (stepY w n m s e).2) else (s, a, p, [])
def okV (w : ByteArray) (n : Int) (s : MY) : Prop := chkY w n = 0 → okY w n s
theorem stV_ok {w : ByteArray} {n : Int} (m : Bool) {s : MY} (hs : okV w n s) (a p : Int) (e : S32) : okV w n (stV w n m s a p e).1 := by
  intro hc
  unfold stV
  by_cases h : chkY w n = 0 ∧ accY a e = true
  · rw [if_pos h]
    obtain ⟨t1, t2, t3⟩ := accY_times h.2
    exact stepY_ok m hc (hs hc) (accY_ok h.2).2.2.2 t1 (by omega)
  · rw [if_neg h]; exact hs hc
theorem stV_len (w : ByteArray) (n : Int) (m : Bool) (s : MY) (a p : Int) (e : S32) : (stV w n m s a p e).2.2.2.length ≤ 1 := by
  unfold stV
  split
  · exact stepY_len _ _ _ _ _
  · simp
theorem ev_stV (w : ByteArray) (n : Int) (m : Bool) (s : MY) (hs : okV w n s) (a p : Int) (e : S32) :
    Ev (fun k => sync_Step.f k w n m (phY s) a (frY s) 0 0 0 p (daY s) e.f0 e.f1 e.f2 e.f3 e.f4 e.f5 e.f6)
      (phY (stV w n m s a p e).1, (stV w n m s a p e).2.1, frY (stV w n m s a p e).1, 0, 0, 0, (stV w n m s a p e).2.2.1, daY (stV w n m s a p e).1, (stV w n m s a p e).2.2.2) := by
  unfold stV
  by_cases hc : chkY w n = 0
  · have h := ev_stepY w n m hc s (hs hc) a p e
    by_cases ha : accY a e = true
    · rw [if_pos ha] at h; rw [if_pos ⟨hc, ha⟩]; exact h
    · rw [if_neg ha] at h; rw [if_neg (fun h => ha h.2)]; exact h
  · rw [if_neg (fun h => hc h.1)]
    unfold sync_Step.f
    refine Ev.bind (ev_sync_Check w n m) (Ev.neg hc ?_)
    refine Ev.step (fun k => sync_Step.j0.eq_2 ..) ?_
    exact Ev.pos rfl (Ev.now _)
theorem ev_refstV (w : ByteArray) (n : Int) (m : Bool) (s : MY) (hs : okV w n s) (a p : Int) (e : S32) :
    Ev (fun k => signalbenchref21_Step.f k w n m (phY s) p (frY s) 0 0 0 a (daR s) e.f0 e.f1 e.f2 e.f3 e.f4 e.f5 e.f6)
      (phY (stV w n m s a p e).1, (stV w n m s a p e).2.2.1, frY (stV w n m s a p e).1, 0, 0, 0, (stV w n m s a p e).2.1, daR (stV w n m s a p e).1, (stV w n m s a p e).2.2.2) := by
  unfold stV
  have hno : Ev (fun k => signalbenchref21_Step.j0 k true w n m (phY s) p (frY s) 0 0 0 a (daR s) e.f0 e.f1 e.f2 e.f3 e.f4 e.f5 e.f6) (phY s, p, frY s, 0, 0, 0, a, daR s, ([] : List S32)) := by
    refine Ev.step (fun k => signalbenchref21_Step.j0.eq_2 ..) ?_
    exact Ev.pos rfl (Ev.now _)
  unfold signalbenchref21_Step.f
  by_cases hc : chkY w n = 0
  case neg =>
    rw [if_neg (fun h => hc h.1)]
    exact Ev.bind (ev_ref21_Check w n m) (Ev.neg hc hno)
  by_cases ha : accY a e = true
  case neg =>
    rw [if_neg (fun h => ha h.2)]
    refine Ev.bind (ev_ref21_Check w n m) (Ev.pos hc ?_)
    rw [ref21_acc, Bool.eq_false_iff.mpr ha]
    exact Ev.sbind hno
  clear hno
  rw [if_pos ⟨hc, ha⟩]
  obtain ⟨a1, a2, a3, a4⟩ := accY_ok ha
  obtain ⟨t1, t2, t3⟩ := accY_times ha
  obtain ⟨_, hw1, hw2, hn1, hn2⟩ := chkY_ok hc
  have hsok := hs hc
  refine Ev.bind (ev_ref21_Check w n m) (Ev.pos hc ?_)
  rw [ref21_acc, ha]
  refine Ev.sbind ?_
  refine Ev.step (fun k => signalbenchref21_Step.j0.eq_2 ..) ?_
  refine Ev.neg (by decide) ?_
  refine Ev.step (fun k => signalbenchref21_Step.j1.eq_2 ..) ?_
  by_cases hf : e.f6 = 0
  case neg =>
    have : stepY w n m s e = (.srch [], abY s e.f1) := by unfold stepY; rw [if_neg hf]
    rw [this, ref21_collected]
    exact Ev.neg hf (Ev.sbind (Ev.sbind (Ev.now _)))
  refine Ev.pos hf ?_
  have hj3 : ∀ bit : ByteArray, bit = strOfNums [48 + e.f3] → Ev (fun k => signalbenchref21_Step.j3 k bit w n m (phY s) e.f2 (frY s) 0 0 0 e.f1 (daR s) e.f0 e.f1 e.f2 e.f3 e.f4 e.f5 e.f6) (phY (stepY w n m s e).1, e.f2, frY (stepY w n m s e).1, 0, 0, 0, e.f1, daR (stepY w n m s e).1, (stepY w n m s e).2) := by
    intro bit hbit
    refine Ev.step (fun k => signalbenchref21_Step.j3.eq_2 ..) ?_
    cases s with
    | srch l =>
      have hst : stepY w n m (.srch l) e = if (lastY w.size (l ++ [(e.f3, e.f1)])).map valY = bytesOf w then (.coll ((lastY w.size (l ++ [(e.f3, e.f1)])).headD (0, 0)).2 [], []) else (.srch (lastY w.size (l ++ [(e.f3, e.f1)])), []) := by unfold stepY; rw [if_pos hf]
      rw [hst]
      refine Ev.pos rfl (Ev.bind (ev_ref21_search w n m hc l hsok.1 hsok.2 e.f3 e.f1 e.f2 e.f1 a4 t1 (by omega) bit hbit) ?_)
      by_cases hm : (lastY w.size (l ++ [(e.f3, e.f1)])).map valY = bytesOf w
      · rw [if_pos hm, if_pos hm]; exact Ev.now _
      · rw [if_neg hm, if_neg hm]; exact Ev.now _
    | coll f bs =>
      obtain ⟨k1, k2, k3, k4⟩ := hsok
      have e2 : daR (.coll f bs) ++ bit = strOfNums (bs ++ [48 + e.f3]) := by rw [hbit]; exact str_append _ _
      have hsz : (strOfNums (bs ++ [48 + e.f3])).size = bs.length + 1 := by rw [size_str]; simp
      have hst : stepY w n m (.coll f bs) e = if ((bs.length + 1 : Nat) : Int) < 8 * n then (.coll f (bs ++ [48 + e.f3]), []) else (.srch [], [frameY m f e.f2 (bs ++ [48 + e.f3])]) := by unfold stepY; rw [if_pos hf]
      have hd0 : (daR (.coll f bs)).size = bs.length := size_str _
      have hbs : bit.size = 1 := by rw [hbit, size_str]; rfl
      rw [hst, e2, hsz, w64 (x := 8 * n) (by omega) (by omega)]
      refine Ev.neg (by show ¬ (1 : Int) = 0; decide) (Ev.pos (by rw [hd0, hbs]; omega) (Ev.ite (fun h => ?_) (fun h => ?_)))
      · rw [if_pos h]; exact Ev.now _
      · rw [if_neg h]
        exact Ev.bind (ev_ref_Bytes _ m) (Ev.sbind (Ev.now _))
  refine Ev.step (fun k => signalbenchref21_Step.j2.eq_2 ..) ?_
  refine Ev.ite (fun h => hj3 _ (by rw [h]; rfl)) (fun h => hj3 _ (by rw [show e.f3 = 0 by omega]; rfl))
def endV (w : ByteArray) (n : Int) (s : MY) (p : Int) : List S32 := if chkY w n = 0 then abY s p else []
theorem endV_len (w : ByteArray) (n : Int) (s : MY) (p : Int) : (endV w n s p).length ≤ 1 := by
  unfold endV; split
  · exact abY_len _ _
  · simp
theorem ev_endV (w : ByteArray) (n : Int) (m : Bool) (s : MY) (a p : Int) : Ev (fun k => sync_End.f k w n m (phY s) a (frY s) 0 0 0 p (daY s)) (endV w n s p) := by
  unfold sync_End.f endV
  refine Ev.bind (ev_sync_Check w n m) (Ev.ite (fun h => ?_) (fun h => ?_))
  · rw [if_pos h, sync_abortedY]; exact Ev.sbind (Ev.now _)
  · rw [if_neg h]; exact Ev.now _
theorem ev_refendV (w : ByteArray) (n : Int) (m : Bool) (s : MY) (a p : Int) : Ev (fun k => signalbenchref21_End.f k w n m (phY s) p (frY s) 0 0 0 a (daR s)) (endV w n s p) := by
  unfold signalbenchref21_End.f endV
  refine Ev.bind (ev_ref21_Check w n m) (Ev.ite (fun h => ?_) (fun h => ?_))
  · rw [if_pos h, ref21_collected]; exact Ev.sbind (Ev.now _)
  · rw [if_neg h]; exact Ev.now _
def decV (w : ByteArray) (n : Int) (m : Bool) : MY → Int → Int → List S32 → List S32
  | s, _, p, [] => endV w n s p
  | s, a, p, e :: l => (stV w n m s a p e).2.2.2 ++ decV w n m (stV w n m s a p e).1 (stV w n m s a p e).2.1 (stV w n m s a p e).2.2.1 l
theorem decV_len (w : ByteArray) (n : Int) (m : Bool) : ∀ (l : List S32) (s : MY) (a p : Int), (decV w n m s a p l).length ≤ l.length + 1
  | [], s, a, p => by have := endV_len w n s p; rw [decV]; simpa using this
  | e :: l, s, a, p => by
    have h1 := stV_len w n m s a p e
    have h2 := decV_len w n m l (stV w n m s a p e).1 (stV w n m s a p e).2.1 (stV w n m s a p e).2.2.1
    rw [decV, List.length_append, List.length_cons]; omega
theorem okV0 (w : ByteArray) (n : Int) : okV w n (.srch []) := fun _ => ⟨by simp, fun p hp => by cases hp⟩
theorem ev_DecodeV (w : ByteArray) (n : Int) (m : Bool) (l : List S32) (hl : l.length < 1000000000) : Ev (fun k => sync_Decode.f k w n m l) (decV w n m (.srch []) 0 0 l) := by
  have key : ∀ (q pre out : List S32) (s : MY) (a p : Int) (i : Nat), okV w n s → l = pre ++ q → i = pre.length → out.length ≤ i → Ev (fun k => sync_Decode.l0 k out l (l.length : Int) (i : Int) w n m (phY s) a (frY s) 0 0 0 p (daY s)) (out ++ decV w n m s a p q) := by
    intro q
    induction q with
    | nil =>
      intro pre out s a p i hs he hi ho
      rw [List.append_nil] at he
      have hi' : i = l.length := by rw [hi, he]
      clear he
      have hab := endV_len w n s p
      rw [decV]
      refine Ev.step (fun k => sync_Decode.l0.eq_2 ..) ?_
      exact Ev.neg (by omega) (Ev.bind (ev_endV w n m s a p) (Ev.pos (by omega) (Ev.now _)))
    | cons e q ih =>
      intro pre out s a p i hs he hi ho
      have hlen : l.length = i + (q.length + 1) := by rw [he, hi, List.length_append, List.length_cons]
      have hx : rd_T32 l (i : Int) = e := by rw [he]; exact rdE_mid pre e q i hi
      have hsl := stV_len w n m s a p e
      have ih2 := ih (pre ++ [e]) (out ++ (stV w n m s a p e).2.2.2) (stV w n m s a p e).1 (stV w n m s a p e).2.1 (stV w n m s a p e).2.2.1 (i + 1) (stV_ok m hs a p e) (by rw [he]; simp) (by simp [hi]) (by rw [List.length_append]; omega)
      rw [List.append_assoc] at ih2
      clear ih he
      refine Ev.step (fun k => sync_Decode.l0.eq_2 ..) ?_
      rw [hx, wnat (by omega), decV]
      exact Ev.pos (by omega) (Ev.pos (by omega) (Ev.pos (by omega) (Ev.bind (ev_stV w n m s hs a p e) (Ev.pos (by dsimp only; omega) ih2))))
  exact key l [] [] (.srch []) 0 0 0 (okV0 w n) rfl rfl (by simp)
theorem ev_refDecodeV (w : ByteArray) (n : Int) (m : Bool) (l : List S32) (hl : l.length < 1000000000) : Ev (fun k => signalbenchref21_Decode.f k w n m l) (decV w n m (.srch []) 0 0 l) := by
  have key : ∀ (q pre out : List S32) (s : MY) (a p : Int) (i : Nat), okV w n s → l = pre ++ q → i = pre.length → out.length ≤ i → Ev (fun k => signalbenchref21_Decode.l0 k l out (i : Int) w n m (phY s) p (frY s) 0 0 0 a (daR s)) (out ++ decV w n m s a p q) := by
    intro q
    induction q with
    | nil =>
      intro pre out s a p i hs he hi ho
      rw [List.append_nil] at he
      have hi' : i = l.length := by rw [hi, he]
      clear he
      have hab := endV_len w n s p
      rw [decV]
      refine Ev.step (fun k => signalbenchref21_Decode.l0.eq_2 ..) ?_
      exact Ev.neg (by omega) (Ev.bind (ev_refendV w n m s a p) (Ev.pos (by omega) (Ev.now _)))
    | cons e q ih =>
      intro pre out s a p i hs he hi ho
      have hlen : l.length = i + (q.length + 1) := by rw [he, hi, List.length_append, List.length_cons]
      have hx : rd_T32 l (i : Int) = e := by rw [he]; exact rdE_mid pre e q i hi
      have hsl := stV_len w n m s a p e
      have ih2 := ih (pre ++ [e]) (out ++ (stV w n m s a p e).2.2.2) (stV w n m s a p e).1 (stV w n m s a p e).2.1 (stV w n m s a p e).2.2.1 (i + 1) (stV_ok m hs a p e) (by rw [he]; simp) (by simp [hi]) (by rw [List.length_append]; omega)
      rw [List.append_assoc] at ih2
      clear ih he
      refine Ev.step (fun k => signalbenchref21_Decode.l0.eq_2 ..) ?_
      rw [hx, wnat (by omega), decV]
      exact Ev.pos (by omega) (Ev.pos (by omega) (Ev.bind (ev_refstV w n m s hs a p e) (Ev.pos (by dsimp only; omega) ih2)))
  exact key l [] [] (.srch []) 0 0 0 (okV0 w n) rfl rfl (by simp)
/-- Two lists of events that are one. -/
theorem ev_same (l : List S32) (hl : l.length < 1000000) : Ev (fun k => signalbenchlaw21_same.f k l l) true := by
  unfold signalbenchlaw21_same.f
  refine Ev.pos rfl ?_
  refine Ev.step (fun k => signalbenchlaw21_same.j0.eq_2 ..) ?_
  have key : ∀ (d i : Nat), i + d = l.length → Ev (fun k => signalbenchlaw21_same.l0 k l l (i : Int)) true := by
    intro d
    induction d with
    | zero =>
      intro i h
      refine Ev.step (fun k => signalbenchlaw21_same.l0.eq_2 ..) ?_
      exact Ev.neg (by omega) (Ev.now _)
    | succ d ih =>
      intro i h
      refine Ev.step (fun k => signalbenchlaw21_same.l0.eq_2 ..) ?_
      rw [wnat (by omega)]
      exact Ev.pos (by omega) (Ev.pos (by omega) (Ev.pos (by omega) (Ev.neg (by simp) (ih (i + 1) (by omega)))))
  exact key l.length 0 (by omega)
theorem ev_lives : Ev (fun k => signalbenchlaw21_lives.f k) true := by
  refine Ev.of (fun k => signalbenchlaw21_lives.mono k) (k := 120) ?_
  decide +kernel
theorem main : signalbenchlaw21_SyncDecodes.Pure := by
  intro w n m l _ _ _ _ _
  refine Ev.rounds (g := fun k => signalbenchlaw21_SyncDecodes.f k w n m l) ?_
  unfold signalbenchlaw21_SyncDecodes.f
  refine Ev.bind ev_lives (Ev.pos rfl ?_)
  have hj : Ev (fun k => signalbenchlaw21_SyncDecodes.j1 k l true w n m) true := by
    refine Ev.step (fun k => signalbenchlaw21_SyncDecodes.j1.eq_2 ..) ?_
    exact Ev.pos rfl (Ev.now _)
  refine Ev.step (fun k => signalbenchlaw21_SyncDecodes.j0.eq_2 ..) ?_
  refine Ev.ite (fun h => hj) (fun hl => ?_)
  by_cases hb : (w.size : Int) > 70000
  · rw [decide_eq_true hb]; exact hj
  rw [decide_eq_false hb]
  clear hj
  refine Ev.step (fun k => signalbenchlaw21_SyncDecodes.j1.eq_2 ..) ?_
  refine Ev.neg (by decide) ?_
  refine Ev.step (fun k => signalbenchlaw21_SyncDecodes.j2.eq_2 ..) ?_
  refine Ev.sbind (Ev.sbind ?_)
  have hdl := decV_len w n m l (.srch []) 0 0
  have key : ∀ (q pre : List S32) (s : MY) (a p : Int) (i : Nat), okV w n s → l = pre ++ q → i = pre.length → Ev (fun k => signalbenchlaw21_SyncDecodes.l0 k l (i : Int) w n m (phY s) a (frY s) 0 0 0 p (daY s) (phY s) p (frY s) 0 0 0 a (daR s)) true := by
    intro q
    induction q with
    | nil =>
      intro pre s a p i hs he hi
      rw [List.append_nil] at he
      have hi' : i = l.length := by rw [hi, he]
      clear he
      have hab := endV_len w n s p
      refine Ev.step (fun k => signalbenchlaw21_SyncDecodes.l0.eq_2 ..) ?_
      exact Ev.neg (by omega) (Ev.bind (ev_endV w n m s a p) (Ev.bind (ev_refendV w n m s a p) (Ev.bind (ev_same _ (by omega)) (Ev.pos rfl (Ev.bind (ev_DecodeV w n m l (by omega)) (Ev.bind (ev_refDecodeV w n m l (by omega)) (Ev.bind (ev_same _ (by omega)) (Ev.now _))))))))
    | cons e q ih =>
      intro pre s a p i hs he hi
      have hlen2 : l.length = i + (q.length + 1) := by rw [he, hi, List.length_append, List.length_cons]
      have hx : rd_T32 l (i : Int) = e := by rw [he]; exact rdE_mid pre e q i hi
      have hs1 := stV_len w n m s a p e
      have ih2 := ih (pre ++ [e]) (stV w n m s a p e).1 (stV w n m s a p e).2.1 (stV w n m s a p e).2.2.1 (i + 1) (stV_ok m hs a p e) (by rw [he]; simp) (by simp [hi])
      clear ih he
      refine Ev.step (fun k => signalbenchlaw21_SyncDecodes.l0.eq_2 ..) ?_
      rw [hx, wnat (by omega)]
      exact Ev.pos (by omega) (Ev.pos (by omega) (Ev.bind (ev_stV w n m s hs a p e) (Ev.bind (ev_refstV w n m s hs a p e) (Ev.bind (ev_same _ (by dsimp only; omega)) (Ev.pos rfl ih2)))))
  exact key l [] (.srch []) 0 0 0 (okV0 w n) rfl rfl
end SyncDecodes_
theorem SyncDecodes : signalbenchlaw21_SyncDecodes.Pure := SyncDecodes_.main
end Go.Proofs.Ytbggkaofkohecaa.Pure
