/- The law SyncRoundTrips holds as a statement on numbers and lists: what is decoded of what is sent are the items, with their times. No condition beyond those of the statement. -/
import Derived.Test.YtbggkaofkohecaaPSyncRoundTripsx11
import Derived.Test.YtbggkaofkohecaaSpecBytes
namespace Go.Proofs.Ytbggkaofkohecaa.Pure
open Go.RowKit Go.Proofs.Ytbggkaofkohecaa.PSyncRoundTrips Go.Proofs.YtbggkaofkohecaaW.PrintWords Go.Proofs.YtbggkaofkohecaaW.PrintLast Go.Proofs.Ytbggkaofkohecaa.Aid
set_option linter.unusedVariables false
set_option linter.unusedSimpArgs false
namespace SyncRoundTrips_
theorem ev_bits_Valid_l0 (s : ByteArray) (hs : s.size ≤ 65536) : ∀ (d i : Nat), i + d = s.size → Ev (fun k => bits_Valid.l0 k s (s.size : Int) (i : Int)) (((bytesOf s).drop i).all isB) := by
  intro d
  induction d with
  | zero =>
    intro i h
    refine Ev.stop fun k => ?_
    simp only [bits_Valid.l0]
    rw [if_neg (by omega), drop_end s i (by omega)]; rfl
  | succ d ih =>
    intro i h
    have e : wrap64 ((i : Int) + 1) = ((i + 1 : Nat) : Int) := by rw [w64 (by omega) (by omega)]; rfl
    rw [drop_cons s i (by omega), List.all_cons]
    by_cases h48 : bt s i = 48
    · have e2 : isB (bt s i) = true := isB_iff.mpr (.inl h48)
      rw [e2, Bool.true_and]
      refine Ev.step (fun k => ?_) (ih (i + 1) (by omega))
      simp only [bits_Valid.l0]
      rw [if_pos (by omega), if_pos (by omega), if_pos (by omega), if_pos h48, e]
    · by_cases h49 : bt s i = 49
      · have e2 : isB (bt s i) = true := isB_iff.mpr (.inr h49)
        rw [e2, Bool.true_and]
        refine Ev.step (fun k => ?_) (ih (i + 1) (by omega))
        simp only [bits_Valid.l0]
        rw [if_pos (by omega), if_pos (by omega), if_pos (by omega), if_neg h48, if_pos h49, e]
      · have e2 : isB (bt s i) = false := by simp [isB, h48, h49]
        rw [e2, Bool.false_and]
        refine Ev.stop fun k => ?_
        simp only [bits_Valid.l0]
        rw [if_pos (by omega), if_pos (by omega), if_pos (by omega), if_neg h48, if_neg h49]
theorem ev_bits_Valid (s : ByteArray) : Ev (fun k => bits_Valid.f k s) (vB s) := by
  unfold bits_Valid.f vB
  by_cases h : s.size ≤ 65536
  · rw [decide_eq_true h, Bool.true_and]
    refine Ev.congr (fun k => by rw [if_neg (by omega)]) ?_
    exact Ev.step (fun k => by simp only [bits_Valid.j0]; rfl) (ev_bits_Valid_l0 s h s.size 0 (by omega))
  · rw [decide_eq_false h, Bool.false_and]
    refine Ev.now' fun k => ?_
    rw [if_pos (by omega)]
theorem ev_bits_Int_l0 (s : ByteArray) (msb : Bool) (hs : s.size ≤ 62) (hb : AllB (bytesOf s)) : ∀ (d i : Nat), i + d = s.size →
    Ev (fun k => bits_Int.l0 k s msb (if msb = true then valL ((bytesOf s).take i).reverse * 2 ^ d else valL ((bytesOf s).take i)) (s.size : Int) (i : Int)) (intL (bytesOf s) msb, 0) := by
  have hlen := len_bytes s
  have hbd : ∀ (l : List Int) (n : Nat), AllB l → l.length ≤ n → n ≤ 62 → 0 ≤ valL l ∧ valL l < 2 ^ n := fun l n h1 h2 h3 => by
    have := valL_bd h1
    have := pow2_le h2
    omega
  intro d
  induction d with
  | zero =>
    intro i h
    refine Ev.stop fun k => ?_
    simp only [bits_Int.l0]
    rw [if_neg (by omega), List.take_of_length_le (by omega)]
    unfold intL
    cases msb <;> simp
  | succ d ih =>
    intro i h
    have e : wrap64 ((i : Int) + 1) = ((i + 1 : Nat) : Int) := by rw [w64 (by omega) (by omega)]; rfl
    have e1 : wrap64 ((s.size : Int) - 1) = (s.size : Int) - 1 := w64 (by omega) (by omega)
    have e2 : wrap64 ((s.size : Int) - 1 - (i : Int)) = (d : Int) := by rw [w64 (by omega) (by omega)]; omega
    have hm : bt s i = 48 ∨ bt s i = 49 := hb _ (bt_mem s i (by omega))
    have h62 := pow2_62
    have hsn := take_snoc s i (by omega)
    have hd0 := pow2_pos d
    have hi0 := pow2_pos i
    have hdl : (2 : Int) ^ d ≤ 2 ^ 62 := pow2_le (by omega)
    have hil : (2 : Int) ^ i ≤ 2 ^ 62 := pow2_le (by omega)
    have hx : (bt s i - 48) % 256 = bt s i - 48 := by rcases hm with h | h <;> rw [h] <;> decide
    have hxd : 0 ≤ (bt s i - 48) * 2 ^ d ∧ (bt s i - 48) * 2 ^ d ≤ 2 ^ d := by rcases hm with h | h <;> rw [h] <;> simp <;> omega
    have hxi : 0 ≤ (bt s i - 48) * 2 ^ i ∧ (bt s i - 48) * 2 ^ i ≤ 2 ^ i := by rcases hm with h | h <;> rw [h] <;> simp <;> omega
    have htl : ((bytesOf s).take i).length = i := by rw [List.length_take]; omega
    cases msb with
    | true =>
      obtain ⟨a0, a1⟩ := hbd ((bytesOf s).take i).reverse i (hb.take i).reverse (by simp; omega) (by omega)
      have hgoal : Go.bits .or .i64 (valL ((bytesOf s).take i).reverse * 2 ^ (d + 1)) (shl .i64 (bt s i - 48) (d : Int)) = valL ((bytesOf s).take (i + 1)).reverse * 2 ^ d := by
        have hq : valL ((bytesOf s).take i).reverse * 2 ^ (d + 1) + 2 ^ (d + 1) ≤ 2 ^ 62 := by
          have h1 : (valL ((bytesOf s).take i).reverse + 1) * 2 ^ (d + 1) ≤ 2 ^ i * 2 ^ (d + 1) := Int.mul_le_mul_of_nonneg_right (by omega) (Int.le_of_lt (pow2_pos _))
          rw [← pow2_add, Int.add_mul, Int.one_mul] at h1
          have h2 : (2 : Int) ^ (i + (d + 1)) ≤ 2 ^ 62 := pow2_le (by omega)
          omega
        have hp := pow2_succ d
        rw [shl_eq d rfl (by omega) hxd.1 (by omega), or_add (d + 1) a0 (by omega) hxd.1 (by omega)]
        rw [hsn, List.reverse_append, List.reverse_singleton, List.singleton_append, valL, Int.add_mul, hp]
        rw [Int.mul_comm 2 (valL _), Int.mul_assoc, Int.add_comm]
      refine Ev.step (fun k => ?_) (ih (i + 1) (by omega))
      simp only [bits_Int.l0, ↓reduceIte]
      rw [if_pos (by omega), if_pos (by omega), if_pos (by omega), e1, e2, if_pos (by omega), hx, e, hgoal]
    | false =>
      obtain ⟨a0, a1⟩ := hbd ((bytesOf s).take i) i (hb.take i) (by omega) (by omega)
      have hgoal : Go.bits .or .i64 (valL ((bytesOf s).take i)) (shl .i64 (bt s i - 48) (i : Int)) = valL ((bytesOf s).take (i + 1)) := by
        rw [shl_eq i rfl (by omega) hxi.1 (by omega), or_comm a0 (by omega) hxi.1 (by omega)]
        rw [or_add i (by rcases hm with h | h <;> rw [h] <;> decide) (by omega) a0 a1, hsn, valL_snoc, htl, Int.add_comm]
      refine Ev.step (fun k => ?_) (ih (i + 1) (by omega))
      simp only [bits_Int.l0, ↓reduceIte, Bool.false_eq_true]
      rw [if_pos (by omega), if_pos (by omega), if_pos (by omega), hx, e, hgoal]
theorem ev_bits_Int (s : ByteArray) (msb : Bool) : Ev (fun k => bits_Int.f k s msb) (intS s msb) := by
  unfold bits_Int.f intS
  refine Ev.bind (ev_bits_Valid s) (Ev.ite (fun hv => ?_) (fun hv => ?_))
  · obtain ⟨_, hb⟩ := vB_iff.mp hv
    rw [if_pos hv]
    refine Ev.step (fun k => bits_Int.j0.eq_2 ..) ?_
    refine Ev.ite (fun h => ?_) (fun h => ?_)
    · rw [if_neg (by omega)]; exact Ev.now _
    · rw [if_pos (by omega)]
      refine Ev.step (fun k => bits_Int.j1.eq_2 ..) ?_
      refine Ev.congr (fun k => ?_) (ev_bits_Int_l0 s msb (by omega) hb s.size 0 (by omega))
      cases msb <;> simp [valL]
  · rw [if_neg hv]; exact Ev.now _
theorem ev_bits_Bytes_l0 (s : ByteArray) (msb : Bool) (hs : s.size ≤ 65536) (hb : AllB (bytesOf s)) (n : Nat) (hn : 8 * n = s.size) : ∀ (d i : Nat), i + d = n →
    Ev (fun k => bits_Bytes.l0 k s msb (bytesL (bytesOf s) msb i ++ List.replicate d 0) (n : Int) (i : Int)) (strOfNums (bytesL (bytesOf s) msb n), 0) := by
  intro d
  induction d with
  | zero =>
    intro i h
    have : i = n := by omega
    subst this
    refine Ev.stop fun k => ?_
    simp only [bits_Bytes.l0]
    rw [if_neg (by omega)]
    simp
  | succ d ih =>
    intro i h
    have e : wrap64 ((i : Int) + 1) = ((i + 1 : Nat) : Int) := by rw [w64 (by omega) (by omega)]; rfl
    have e1 : wrap64 (8 * (i : Int)) = ((8 * i : Nat) : Int) := by rw [w64 (by omega) (by omega)]; rfl
    have e2 : wrap64 (((8 * i : Nat) : Int) + 8) = ((8 * i + 8 : Nat) : Int) := by rw [w64 (by omega) (by omega)]; rfl
    have hc := chunk_bd hb msb i
    have hset : (bytesL (bytesOf s) msb i ++ List.replicate (d + 1) 0).set ((i : Int)).toNat (chunk (bytesOf s) msb i % 256) = bytesL (bytesOf s) msb (i + 1) ++ List.replicate d 0 := by
      rw [List.replicate_succ, set_fill _ _ _ _ _ (by rw [bytesL_len]; rfl), bytesL_succ, Int.emod_eq_of_lt hc.1 hc.2]
      simp
    have hl2 : ((bytesL (bytesOf s) msb i ++ List.replicate (d + 1) 0).length : Int) = n := by rw [List.length_append, bytesL_len]; simp; omega
    refine Ev.step (f := fun k => (bits_Int.f k (s.extract (8 * i) (8 * i + 8)) msb).bind fun t => _) (fun k => by
      simp only [bits_Bytes.l0, e1, e2]; rw [if_pos (by omega), if_pos (by omega), if_pos (by omega), if_pos (by omega)]; try rfl) ?_
    refine Ev.bind (ev_bits_Int _ msb) ?_
    rw [intS_extract s msb hb i]
    have h1 : (0 : Int) ≤ (i : Int) := by omega
    have h2 : (i : Int) < ((bytesL (bytesOf s) msb i ++ List.replicate (d + 1) 0).length : Int) := by omega
    simp only [if_pos h1, if_pos h2, hset, e]
    exact ih (i + 1) (by omega)
theorem ev_bits_Bytes (s : ByteArray) (msb : Bool) : Ev (fun k => bits_Bytes.f k s msb) (bytesS s msb) := by
  unfold bits_Bytes.f bytesS
  refine Ev.bind (ev_bits_Valid s) (Ev.ite (fun hv => ?_) (fun hv => ?_))
  · obtain ⟨hs, hb⟩ := vB_iff.mp hv
    rw [if_pos hv]
    refine Ev.step (fun k => bits_Bytes.j0.eq_2 ..) ?_
    refine Ev.ite (fun h8 => ?_) (fun h8 => ?_)
    · rw [if_pos (by omega)]
      have e : wrap64 ((s.size : Int) / 8) = ((s.size / 8 : Nat) : Int) := by rw [w64 (by omega) (by omega)]; rfl
      rw [e]
      refine Ev.pos (by omega) (Ev.pos (by omega) (Ev.sbind ?_))
      refine Ev.congr (fun k => ?_) (ev_bits_Bytes_l0 s msb hs hb (s.size / 8) (by omega) (s.size / 8) 0 (by omega))
      simp only [Int.toNat_natCast, List.length_replicate, bytesL, List.range_zero, List.map_nil, List.nil_append]
      try rfl
    · rw [if_neg (by omega)]; exact Ev.now _
  · rw [if_neg hv]; exact Ev.now _
theorem ev_bits_FromInt_l0 (n : Int) (w : Nat) (msb : Bool) (hw : w ≤ 62) : ∀ (d i : Nat), i + d = w →
    Ev (fun k => bits_FromInt.l0 k n (w : Int) msb ((fromIntL n w msb).take i ++ List.replicate d 0) (w : Int) (i : Int)) (strOfNums (fromIntL n w msb)) := by
  have hlen := fromIntL_len n w msb
  intro d
  induction d with
  | zero =>
    intro i h
    refine Ev.stop fun k => ?_
    simp only [bits_FromInt.l0]
    rw [if_neg (by omega), List.take_of_length_le (by omega)]
    simp
  | succ d ih =>
    intro i h
    have hi : i < (fromIntL n w msb).length := by omega
    have e : wrap64 ((i : Int) + 1) = ((i + 1 : Nat) : Int) := by rw [w64 (by omega) (by omega)]; rfl
    have e1 : wrap64 ((w : Int) - 1) = (w : Int) - 1 := w64 (by omega) (by omega)
    have e2 : wrap64 ((w : Int) - 1 - (i : Int)) = (d : Int) := by rw [w64 (by omega) (by omega)]; omega
    have hg := fromIntL_get n w msb i hi
    have htl : ((fromIntL n w msb).take i).length = i := by rw [List.length_take]; omega
    have hset : ∀ v, v = (fromIntL n w msb)[i] → ((fromIntL n w msb).take i ++ List.replicate (d + 1) 0).set ((i : Int)).toNat v = (fromIntL n w msb).take (i + 1) ++ List.replicate d 0 := by
      rintro v rfl
      rw [List.replicate_succ, set_fill _ _ _ _ _ (by rw [htl]; rfl), List.take_succ_eq_append_getElem hi, List.append_assoc]
      rfl
    have hl2 : (((fromIntL n w msb).take i ++ List.replicate (d + 1) 0).length : Int) = w := by simp; omega
    have hsg : ∀ x : Int, (48 + x % 2 % 256) % 256 = 48 + x % 2 := fun x => by omega
    cases msb with
    | true =>
      refine Ev.step (fun k => ?_) (ih (i + 1) (by omega))
      have hd : w - 1 - i = d := by omega
      simp only [↓reduceIte, hd] at hg
      simp only [bits_FromInt.l0, ↓reduceIte]
      rw [if_pos (by omega), e1, e2, if_pos (by omega)]
      simp only [bits_sign.f, Option.bind_some]
      rw [if_pos (by omega), if_pos (by omega), e, and_one, shr_eq n (d : Int) d rfl (by omega), hsg, hset _ hg.symm]
    | false =>
      refine Ev.step (fun k => ?_) (ih (i + 1) (by omega))
      simp only [↓reduceIte, Bool.false_eq_true] at hg
      simp only [bits_FromInt.l0, ↓reduceIte, Bool.false_eq_true]
      rw [if_pos (by omega), if_pos (by omega)]
      simp only [bits_sign.f, Option.bind_some]
      rw [if_pos (by omega), e, and_one, shr_eq n (i : Int) i rfl (by omega), hsg, hset _ hg.symm]
theorem ev_bits_FromInt (n w : Int) (msb : Bool) : Ev (fun k => bits_FromInt.f k n w msb) (fromIntS n w msb) := by
  unfold bits_FromInt.f fromIntS
  have hemp : Ev (fun k => bits_FromInt.j0 k n w msb true) (⟨#[]⟩ : ByteArray) := by
    refine Ev.stop fun k => ?_
    simp only [bits_FromInt.j0, ↓reduceIte]
  by_cases h : w < 0
  · rw [if_pos h]
    refine Ev.congr (fun k => ?_) hemp
    rw [if_pos h]
  · rw [if_neg h]
    by_cases h2 : w > 62
    · rw [if_pos h2]
      refine Ev.congr (fun k => ?_) hemp
      rw [if_neg h, decide_eq_true h2]
    · rw [if_neg h2]
      obtain ⟨m, rfl⟩ := Int.eq_ofNat_of_zero_le (Int.not_lt.mp h)
      refine Ev.neg h ?_
      rw [decide_eq_false h2]
      refine Ev.step (fun k => bits_FromInt.j0.eq_2 ..) ?_
      refine Ev.neg (by decide) ?_
      refine Ev.step (fun k => bits_FromInt.j1.eq_2 ..) ?_
      have h0 := ev_bits_FromInt_l0 n m msb (by omega) m 0 (by omega)
      refine Ev.pos (by omega) (Ev.pos (by omega) ?_)
      simpa using h0
theorem ev_bits_FromBytes_l0 (s : ByteArray) (msb : Bool) (hs : s.size ≤ 8192) : ∀ (d i : Nat), i + d = s.size →
    Ev (fun k => bits_FromBytes.l0 k s msb (fromBytesL ((bytesOf s).take i) msb) (s.size : Int) (i : Int)) (strOfNums (fromBytesL (bytesOf s) msb)) := by
  intro d
  have hlen := len_bytes s
  induction d with
  | zero =>
    intro i h
    refine Ev.stop fun k => ?_
    simp only [bits_FromBytes.l0]
    rw [if_neg (by omega), List.take_of_length_le (by omega)]
  | succ d ih =>
    intro i h
    have e : wrap64 ((i : Int) + 1) = ((i + 1 : Nat) : Int) := by rw [w64 (by omega) (by omega)]; rfl
    have h0 := bt_lo s i
    have h1 := bt_hi s i
    have eb : wrap64 (bt s i) = bt s i := w64 (by omega) (by omega)
    have efs : fromIntS (bt s i) 8 msb = strOfNums (fromIntL (bt s i) 8 msb) := rfl
    have e5 : fromBytesL ((bytesOf s).take i) msb ++ fromIntL (bt s i) 8 msb = fromBytesL ((bytesOf s).take (i + 1)) msb := by
      rw [take_snoc s i (by omega), fromBytesL_append]
      simp [fromBytesL]
    have hl : (fromBytesL ((bytesOf s).take i) msb).length + (strOfNums (fromIntL (bt s i) 8 msb)).size < 140737488355328 := by
      rw [fromBytesL_len, size_str, fromIntL_len, List.length_take]; omega
    refine Ev.step (f := fun k => (bits_FromInt.f k (wrap64 (bt s i)) 8 msb).bind fun t => _) (fun k => by
      simp only [bits_FromBytes.l0]; rw [if_pos (by omega), if_pos (by omega), if_pos (by omega)]; try rfl) ?_
    refine Ev.bind (ev_bits_FromInt _ 8 msb) ?_
    rw [eb, efs]
    have := ih (i + 1) (by omega)
    simp only [if_pos hl, bytes_str (fromIntL_bits _ _ _).byts, e, e5]
    exact this
theorem ev_bits_FromBytes (s : ByteArray) (msb : Bool) (hs : s.size ≤ 140737488351232) : Ev (fun k => bits_FromBytes.f k s msb) (fromBytesS s msb) := by
  unfold bits_FromBytes.f fromBytesS
  by_cases h : s.size > 8192
  · rw [if_pos h]
    refine Ev.now' fun k => ?_
    rw [if_pos (by omega)]
  · rw [if_neg h]
    refine Ev.congr (fun k => ?_) (ev_bits_FromBytes_l0 s msb (by omega) s.size 0 (by omega))
    have e : wrap64 (8 * (s.size : Int)) = ((8 * s.size : Nat) : Int) := by rw [w64 (by omega) (by omega)]; rfl
    rw [if_neg (by omega), e, if_pos (by omega), if_pos (by omega)]; rfl
theorem rdI_mid (pre : List S46) (x : S46) (post : List S46) (i : Nat) (h : i = pre.length) : rd_T46 (pre ++ x :: post) (i : Int) = x := by
  subst h; simp [rd_T46]
theorem rdE_mid (pre : List S32) (x : S32) (post : List S32) (i : Nat) (h : i = pre.length) : rd_T32 (pre ++ x :: post) (i : Int) = x := by
  subst h; simp [rd_T32]
def validE (a b c d e : Int) (s : ByteArray) (f : Int) : Bool :=
  decide (1 ≤ a ∧ a ≤ 8 ∧ 0 ≤ b ∧ b ≤ c ∧ c ≤ 1099511627776 ∧ -9007199254740992 ≤ d ∧ d ≤ 9007199254740992 ∧ -9007199254740992 ≤ e ∧ e ≤ 9007199254740992 ∧ s.size ≤ 4096 ∧ 0 ≤ f ∧ f ≤ 12)
theorem ev_event_Valid (a b c d e : Int) (s : ByteArray) (f : Int) : Ev (fun k => event_Valid.f k a b c d e s f) (validE a b c d e s f) := by
  refine ⟨2, fun k hk => ?_⟩
  obtain ⟨m, rfl⟩ : ∃ m, k = m + 2 := ⟨k - 2, by omega⟩
  simp only [event_Valid.f, event_Valid.j0, event_Valid.j1, validE, decide_eq_true_eq, ↓reduceIte]
  repeat' split
  all_goals first
    | (rw [decide_eq_false (by omega)])
    | (congr 1; rw [decide_eq_decide]; omega)
/-- Is a configuration valid: the error, or 0. -/
def chkY (w : ByteArray) (n : Int) : Int := if vB w = true then (if w.size < 8 ∨ w.size > 32 ∨ n < 1 ∨ n > 256 then 2 else 0) else 4
theorem chkY_ok {w : ByteArray} {n : Int} (h : chkY w n = 0) : AllB (bytesOf w) ∧ 8 ≤ w.size ∧ w.size ≤ 32 ∧ 1 ≤ n ∧ n ≤ 256 := by
  unfold chkY at h
  split at h
  · rename_i hv
    split at h
    · omega
    · exact ⟨(vB_iff.mp hv).2, by omega, by omega, by omega, by omega⟩
  · omega
theorem ev_sync_Check (w : ByteArray) (n : Int) (m : Bool) : Ev (fun k => sync_Check.f k w n m) (chkY w n) := by
  unfold sync_Check.f chkY
  refine Ev.bind (ev_bits_Valid w) (Ev.ite (fun h => ?_) (fun h => ?_))
  · rw [if_pos h]
    refine Ev.now' fun _ => ?_
    repeat' split
    all_goals first | rfl | omega
  · rw [if_neg h]; exact Ev.now _
def itY (n : Int) (x : S46) : Int := if x.f0 < 0 ∨ x.f0 > 1048576 then 1 else if x.f3.size > 4096 then 6 else if (x.f3.size : Int) = n then (if x.f1 = 0 ∧ x.f2 = 0 ∧ x.f4 = 0 then 0 else 1) else 2
theorem itY_ok {n : Int} {x : S46} (h : itY n x = 0) : 0 ≤ x.f0 ∧ x.f0 ≤ 1048576 ∧ (x.f3.size : Int) = n ∧ x.f3.size ≤ 4096 ∧ x.f1 = 0 ∧ x.f2 = 0 ∧ x.f4 = 0 := by
  unfold itY at h
  split at h
  · omega
  · split at h
    · omega
    · split at h
      · split at h
        · rename_i h1 h2 h3 h4; exact ⟨by omega, by omega, h3, by omega, h4⟩
        · omega
      · omega
def outY (w : ByteArray) (m : Bool) (x : S46) : S46 := ⟨x.f0, 0, 0, w ++ fromBytesS x.f3 m, 0⟩
def encY (w : ByteArray) (n : Int) (m : Bool) : List S46 → List S46 → List S46 × Int
  | out, [] => (out, 0)
  | out, x :: l => if itY n x = 0 then encY w n m (out ++ [outY w m x]) l else ([], itY n x)
def encodeY (w : ByteArray) (n : Int) (m : Bool) (l : List S46) : List S46 × Int := if chkY w n = 0 then (if l.length > 1024 then ([], 6) else encY w n m [] l) else ([], chkY w n)
theorem encY_len (w : ByteArray) (n : Int) (m : Bool) : ∀ (l out : List S46), (encY w n m out l).1.length ≤ out.length + l.length
  | [], _ => by simp [encY]
  | x :: l, out => by
    unfold encY
    split
    · have := encY_len w n m l (out ++ [outY w m x]); simp at this ⊢; omega
    · simp
theorem encodeY_len (w : ByteArray) (n : Int) (m : Bool) (l : List S46) : (encodeY w n m l).1.length ≤ 1024 := by
  unfold encodeY
  split
  · split
    · simp
    · have := encY_len w n m l []; simp at this; omega
  · simp
theorem ev_sync_Encode (w : ByteArray) (n : Int) (m : Bool) (l : List S46) : Ev (fun k => sync_Encode.f k w n m l) (encodeY w n m l) := by
  unfold sync_Encode.f encodeY
  refine Ev.bind (ev_sync_Check w n m) (Ev.ite (fun hc => ?_) (fun hc => ?_))
  case refine_2 => rw [if_neg hc]; exact Ev.now _
  rw [if_pos hc]
  obtain ⟨_, hw1, hw2, _⟩ := chkY_ok hc
  refine Ev.step (fun k => sync_Encode.j0.eq_2 ..) ?_
  refine Ev.ite (fun hl => ?_) (fun hl => ?_)
  · rw [if_pos (by omega)]; exact Ev.now _
  rw [if_neg (by omega)]
  refine Ev.step (fun k => sync_Encode.j1.eq_2 ..) ?_
  refine Ev.pos (by omega) (Ev.pos (by omega) ?_)
  have key : ∀ (q pre out : List S46) (i : Nat), l = pre ++ q → i = pre.length → out.length = i → Ev (fun k => sync_Encode.l0 k out l (l.length : Int) (i : Int) w n m) (encY w n m out q) := by
    intro q
    induction q with
    | nil =>
      intro pre out i he hi ho
      rw [List.append_nil] at he
      have hi' : i = l.length := by rw [hi, he]
      clear he
      refine Ev.step (fun k => sync_Encode.l0.eq_2 ..) ?_
      exact Ev.neg (by omega) (Ev.now _)
    | cons x q ih =>
      intro pre out i he hi ho
      have hlen : l.length = i + (q.length + 1) := by rw [he, hi, List.length_append, List.length_cons]
      have hx : rd_T46 l (i : Int) = x := by rw [he]; exact rdI_mid pre x q i hi
      have ih2 := ih (pre ++ [x]) (out ++ [outY w m x]) (i + 1) (by rw [he]; simp) (by simp [hi]) (by simp [ho])
      clear ih he
      have hyes : itY n x = 1 → Ev (fun k => sync_Encode.j4 k out l (l.length : Int) (i : Int) true w n m x.f0 x.f1 x.f2 x.f3 x.f4) (encY w n m out (x :: q)) := by
        intro h
        rw [encY, if_neg (by omega), h]
        refine Ev.step (fun k => sync_Encode.j4.eq_2 ..) ?_
        exact Ev.pos rfl (Ev.now _)
      refine Ev.step (fun k => sync_Encode.l0.eq_2 ..) ?_
      refine Ev.pos (by omega) ?_
      refine Ev.step (fun k => sync_Encode.j3.eq_2 ..) ?_
      rw [hx]
      refine Ev.pos (by omega) (Ev.pos (by omega) (Ev.ite (fun h0 => hyes (by unfold itY; rw [if_pos (.inl h0)])) (fun h0 => ?_)))
      by_cases h1 : x.f0 > 1048576
      · rw [decide_eq_true h1]; exact hyes (by unfold itY; rw [if_pos (.inr h1)])
      rw [decide_eq_false h1]
      have hor : ¬ (x.f0 < 0 ∨ x.f0 > 1048576) := by omega
      refine Ev.step (fun k => sync_Encode.j4.eq_2 ..) ?_
      rw [wnat (by omega)]
      refine Ev.neg (by decide) ?_
      by_cases h2 : x.f3.size > 4096
      · rw [encY, show itY n x = 6 by unfold itY; rw [if_neg hor, if_pos h2]]
        exact Ev.pos (by omega) (Ev.now _)
      refine Ev.neg (by omega) (Ev.ite (fun h3 => ?_) (fun h3 => ?_))
      case refine_2 =>
        rw [encY, show itY n x = 2 by unfold itY; rw [if_neg hor, if_neg h2, if_neg h3]]
        exact Ev.now _
      by_cases h4 : x.f1 = 0 ∧ x.f2 = 0 ∧ x.f4 = 0
      · rw [encY, if_pos (show itY n x = 0 by unfold itY; rw [if_neg hor, if_neg h2, if_pos h3, if_pos h4])]
        have hsz := fromBytesS_size x.f3 m (by omega)
        exact Ev.pos h4.1 (Ev.pos h4.2.1 (Ev.pos h4.2.2 (Ev.bind (ev_bits_FromBytes x.f3 m (by omega)) (Ev.pos (by omega) (Ev.pos (by omega) ih2)))))
      · rw [encY, show itY n x = 1 by unfold itY; rw [if_neg hor, if_neg h2, if_pos h3, if_neg h4]]
        refine Ev.now' fun _ => ?_
        repeat' split
        all_goals first | rfl | (exfalso; omega) | (exfalso; exact h4 ⟨by assumption, by assumption, by assumption⟩)
  exact key l [] [] 0 rfl rfl rfl
/-- The first bytes of a time, the lowest first. -/
def leY (n : Int) (i : Nat) : List Int := (List.range i).map fun j => n / 2 ^ (8 * j) % 256
theorem leY_len (n : Int) (i : Nat) : (leY n i).length = i := by simp [leY]
theorem leY_succ (n : Int) (i : Nat) : leY n (i + 1) = leY n i ++ [n / 2 ^ (8 * i) % 256] := by simp [leY, List.range_succ]
theorem leY_get (n : Int) (i j : Nat) (h : j < i) : (leY n i)[j]? = some (n / 2 ^ (8 * j) % 256) := by simp [leY, h]
/-- The record of a bit: what it is, and its time. -/
def recY (p : Int × Int) : List Int := (48 + p.1) :: leY p.2 8
def flatY : List (Int × Int) → List Int
  | [] => []
  | p :: l => recY p ++ flatY l
def bitP (p : Int × Int) : Prop := (p.1 = 0 ∨ p.1 = 1) ∧ 0 ≤ p.2 ∧ p.2 ≤ 1099511627776
theorem recY_len (p : Int × Int) : (recY p).length = 9 := by simp [recY, leY_len]
theorem flatY_len : ∀ l, (flatY l).length = 9 * l.length
  | [] => rfl
  | p :: l => by rw [flatY, List.length_append, recY_len, flatY_len l, List.length_cons]; omega
theorem flatY_append : ∀ l m, flatY (l ++ m) = flatY l ++ flatY m
  | [], _ => rfl
  | p :: l, m => by rw [List.cons_append, flatY, flatY, flatY_append l m, List.append_assoc]
theorem flatY_drop : ∀ (k : Nat) l, (flatY l).drop (9 * k) = flatY (l.drop k)
  | 0, l => rfl
  | k + 1, [] => by simp [flatY]
  | k + 1, p :: l => by
    rw [flatY, List.drop_succ_cons, ← flatY_drop k l, show 9 * (k + 1) = (recY p).length + 9 * k by rw [recY_len]; omega, List.drop_length_add_append]
theorem recY_byts {p : Int × Int} (h : bitP p) : Byts (recY p) := by
  intro x hx
  rcases List.mem_cons.mp hx with rfl | hx
  · have := h.1; omega
  · obtain ⟨j, _, rfl⟩ := List.mem_map.mp hx
    omega
theorem flatY_byts : ∀ {l : List (Int × Int)}, (∀ p ∈ l, bitP p) → Byts (flatY l)
  | [], _ => Byts.nil
  | p :: l, h => (recY_byts (h p (by simp))).append (flatY_byts (fun q hq => h q (by simp [hq])))
theorem flatY_get : ∀ (l : List (Int × Int)) (i j : Nat) (hi : i < l.length), j < 9 → (flatY l)[9 * i + j]? = (recY l[i])[j]?
  | p :: l, 0, j, _, hj => by
    rw [flatY, List.getElem?_append_left (by rw [recY_len]; omega)]
    simp
  | p :: l, i + 1, j, hi, hj => by
    rw [flatY, List.getElem?_append_right (by rw [recY_len]; omega), recY_len, show 9 * (i + 1) + j - 9 = 9 * i + j by omega]
    simp only [List.length_cons] at hi
    rw [flatY_get l i j (by omega) hj]
    simp
theorem rd_some {xs : List Int} {i : Nat} {x : Int} (h : xs[i]? = some x) : rd xs (i : Int) = x := by
  unfold rd; simp [h]
theorem ev_sync_record (a0 f t a4 f6 v : Int) (s : ByteArray) (hv : v = 0 ∨ v = 1) (h0 : 0 ≤ f) (h1 : f ≤ 1099511627776) : Ev (fun k => sync_record.f k a0 f t v a4 s f6) (recY (v, f)) := by
  have key : ∀ (d i : Nat), i + d = 8 → Ev (fun k => sync_record.l0 k ((48 + v) :: leY f i) (i : Int) a0 f t v a4 s f6) (recY (v, f)) := by
    intro d
    induction d with
    | zero =>
      intro i h
      obtain rfl : i = 8 := by omega
      refine Ev.step (fun k => sync_record.l0.eq_2 ..) ?_
      exact Ev.neg (by omega) (Ev.now _)
    | succ d ih =>
      intro i h
      have hn := ih (i + 1) (by omega)
      rw [leY_succ, ← List.cons_append] at hn
      have e8 : wrap64 (8 * (i : Int)) = ((8 * i : Nat) : Int) := by rw [w64 (by omega) (by omega)]; rfl
      refine Ev.step (fun k => sync_record.l0.eq_2 ..) ?_
      rw [e8, wnat (by omega), shr_eq f _ (8 * i) rfl (by omega)]
      exact Ev.pos (by omega) (Ev.pos (by omega) (Ev.pos (by rw [List.length_cons, leY_len]; omega) hn))
  have := key 8 0 rfl
  unfold sync_record.f
  rw [show (48 + v % 256) % 256 = 48 + v by omega]
  exact this
theorem or_byte (p : Int) (i : Nat) (hi : i < 8) (h0 : 0 ≤ p) (h1 : p ≤ 1099511627776) : Go.bits .or .i64 (p % 2 ^ (8 * i)) (shl .i64 (wrap64 (p / 2 ^ (8 * i) % 256)) ((8 * i : Nat) : Int)) = p % 2 ^ (8 * (i + 1)) := by
  have e : wrap64 (p / 2 ^ (8 * i) % 256) = p / 2 ^ (8 * i) % 256 := w64 (by omega) (by omega)
  have hlt : p % 2 ^ (8 * i) < 2 ^ (8 * i) := Int.emod_lt_of_pos _ (Int.pow_pos (by decide))
  have hge : 0 ≤ p % 2 ^ (8 * i) := Int.emod_nonneg _ (Int.ne_of_gt (Int.pow_pos (by decide)))
  have hb : 0 ≤ p / 2 ^ (8 * i) % 256 := by omega
  have hsum : p / 2 ^ (8 * i) % 256 * 2 ^ (8 * i) + p % 2 ^ (8 * i) = p % 2 ^ (8 * (i + 1)) := by
    match i, hi with
    | 0, _ => simp
    | 1, _ => omega
    | 2, _ => omega
    | 3, _ => omega
    | 4, _ => omega
    | 5, _ => omega
    | 6, _ => omega
    | 7, _ => omega
  have hle : p % 2 ^ (8 * (i + 1)) ≤ p := by
    match i, hi with
    | 0, _ => omega
    | 1, _ => omega
    | 2, _ => omega
    | 3, _ => omega
    | 4, _ => omega
    | 5, _ => omega
    | 6, _ => omega
    | 7, _ => omega
  have hm : 0 ≤ p / 2 ^ (8 * i) % 256 * 2 ^ (8 * i) := Int.mul_nonneg hb (Int.le_of_lt (Int.pow_pos (by decide)))
  rw [e, shl_eq (8 * i) rfl (by omega) hm (by omega), or_comm hge (by omega) hm (by omega), or_add (8 * i) hb (by omega) hge hlt, hsum]
theorem ev_sync_from (p : Int × Int) (l : List (Int × Int)) (hp : bitP p) : Ev (fun k => sync_from.f k (flatY (p :: l))) p.2 := by
  obtain ⟨_, h0, h1⟩ := hp
  have hlen := flatY_len (p :: l)
  rw [List.length_cons] at hlen
  have key : ∀ (d i : Nat), i + d = 8 → Ev (fun k => sync_from.l0 k (flatY (p :: l)) (p.2 % 2 ^ (8 * i)) (i : Int)) p.2 := by
    intro d
    induction d with
    | zero =>
      intro i h
      obtain rfl : i = 8 := by omega
      refine Ev.step (fun k => sync_from.l0.eq_2 ..) ?_
      have e : p.2 % 2 ^ (8 * 8) = p.2 := by omega
      rw [e]
      exact Ev.neg (by omega) (Ev.now _)
    | succ d ih =>
      intro i h
      have hn := ih (i + 1) (by omega)
      have e8 : wrap64 (8 * (i : Int)) = ((8 * i : Nat) : Int) := by rw [w64 (by omega) (by omega)]; rfl
      have e1 : wrap64 (1 + (i : Int)) = ((i + 1 : Nat) : Int) := by rw [w64 (by omega) (by omega)]; omega
      have hg := flatY_get (p :: l) 0 (i + 1) (by simp) (by omega)
      rw [show 9 * 0 + (i + 1) = i + 1 by omega, recY, List.getElem?_cons_succ, leY_get _ _ _ (by omega)] at hg
      refine Ev.step (fun k => sync_from.l0.eq_2 ..) ?_
      rw [e8, e1, wnat (by omega), rd_some hg, List.getElem_cons_zero, or_byte p.2 i (by omega) h0 h1]
      exact Ev.pos (by omega) (Ev.pos (by omega) (Ev.pos (by omega) (Ev.pos (by omega) hn)))
  have := key 8 0 rfl
  unfold sync_from.f
  rw [show p.2 % 2 ^ (8 * 0) = 0 by simp] at this
  exact this
def valY (p : Int × Int) : Int := 48 + p.1
theorem ev_sync_found (w : ByteArray) (n : Int) (m : Bool) (l : List (Int × Int)) (hw : w.size ≤ 32) (hl : l.length ≤ 32) : Ev (fun k => sync_found.f k w n m (flatY l)) (decide (l.map valY = bytesOf w)) := by
  have hlen := flatY_len l
  have hbl := len_bytes w
  unfold sync_found.f
  rw [w64 (x := 9 * (w.size : Int)) (by omega) (by omega)]
  refine Ev.ite (fun h => ?_) (fun h => ?_)
  case refine_2 =>
    rw [decide_eq_false (fun he => h (by have := congrArg List.length he; rw [List.length_map, hbl] at this; omega))]
    exact Ev.now _
  have hlw : l.length = w.size := by omega
  refine Ev.step (fun k => sync_found.j0.eq_2 ..) ?_
  have key : ∀ (d i : Nat), i + d = w.size → Ev (fun k => sync_found.l0 k (flatY l) (w.size : Int) (i : Int) w n m) (decide ((l.map valY).drop i = (bytesOf w).drop i)) := by
    intro d
    induction d with
    | zero =>
      intro i h
      rw [drop_end w i (by omega), List.drop_of_length_le (by rw [List.length_map]; omega), decide_eq_true rfl]
      refine Ev.step (fun k => sync_found.l0.eq_2 ..) ?_
      exact Ev.neg (by omega) (Ev.now _)
    | succ d ih =>
      intro i h
      have hn := ih (i + 1) (by omega)
      have e9 : wrap64 (9 * (i : Int)) = ((9 * i + 0 : Nat) : Int) := by rw [w64 (by omega) (by omega)]; omega
      have hg := flatY_get l i 0 (by omega) (by omega)
      rw [recY, List.getElem?_cons_zero] at hg
      have hd : (l.map valY).drop i = valY l[i] :: (l.map valY).drop (i + 1) := by
        rw [List.drop_eq_getElem_cons (by rw [List.length_map]; omega), List.getElem_map]
      rw [hd, drop_cons w i (by omega)]
      refine Ev.step (fun k => sync_found.l0.eq_2 ..) ?_
      rw [e9, rd_some hg, wnat (by omega)]
      refine Ev.pos (by omega) (Ev.pos (by omega) (Ev.pos (by omega) (Ev.pos (by omega) (Ev.pos (by omega) (Ev.ite (fun he => ?_) (fun he => ?_))))))
      · have e2 : decide (valY l[i] :: (l.map valY).drop (i + 1) = bt w (i : Int) :: (bytesOf w).drop (i + 1)) = decide ((l.map valY).drop (i + 1) = (bytesOf w).drop (i + 1)) := by
          rw [decide_eq_decide, List.cons.injEq]
          exact ⟨fun h => h.2, fun h => ⟨he, h⟩⟩
        rw [e2]; exact hn
      · have e3 : decide (valY l[i] :: (l.map valY).drop (i + 1) = bt w (i : Int) :: (bytesOf w).drop (i + 1)) = false := decide_eq_false (fun h => he (List.cons.inj h).1)
        rw [e3]
        exact Ev.now _
  exact key w.size 0 (by omega)
def lastY (n : Nat) (l : List (Int × Int)) : List (Int × Int) := l.drop (l.length - n)
theorem lastY_len (n : Nat) (l : List (Int × Int)) : (lastY n l).length ≤ n := by unfold lastY; rw [List.length_drop]; omega
theorem sync_last (l : List (Int × Int)) (n : Nat) (hl : l.length ≤ 1000) (hn : n ≤ 1000) : sync_last_byte.f (flatY l) (wrap64 (9 * (n : Int))) = some (flatY (lastY n l)) := by
  have hlen := flatY_len l
  unfold sync_last_byte.f lastY
  have e : mx 0 (wrap64 (((flatY l).length : Int) - wrap64 (9 * (n : Int)))) = ((9 * (l.length - n) : Nat) : Int) := by
    rw [w64 (x := 9 * (n : Int)) (by omega) (by omega), w64 (by omega) (by omega)]
    unfold mx; split <;> omega
  rw [e, if_pos (by omega), if_pos (by omega), Int.toNat_natCast, flatY_drop]
/-- What the decoder remembers: the last bits, or where the frame began and its bits. -/
inductive MY where
  | srch (win : List (Int × Int))
  | coll (f : Int) (bs : List Int)
def phY : MY → Int | .srch _ => 0 | .coll _ _ => 1
def frY : MY → Int | .srch _ => 0 | .coll f _ => f
def daY : MY → ByteArray | .srch l => strOfNums (flatY l) | .coll _ bs => strOfNums bs
def okY (w : ByteArray) (n : Int) : MY → Prop
  | .srch l => l.length ≤ w.size ∧ ∀ p ∈ l, bitP p
  | .coll f bs => 0 ≤ f ∧ f ≤ 1099511627776 ∧ AllB bs ∧ (bs.length : Int) < 8 * n
def accY (at_ : Int) (e : S32) : Bool := decide (e.f0 = 2) && (validE e.f0 e.f1 e.f2 e.f3 e.f4 e.f5 e.f6 && (decide (at_ ≤ e.f1) && (decide (e.f3 = 0) || decide (e.f3 = 1))))
theorem accY_ok {at_ : Int} {e : S32} (h : accY at_ e = true) : e.f0 = 2 ∧ validE e.f0 e.f1 e.f2 e.f3 e.f4 e.f5 e.f6 = true ∧ at_ ≤ e.f1 ∧ (e.f3 = 0 ∨ e.f3 = 1) := by
  simpa [accY] using h
theorem accY_times {at_ : Int} {e : S32} (h : accY at_ e = true) : 0 ≤ e.f1 ∧ e.f1 ≤ e.f2 ∧ e.f2 ≤ 1099511627776 := by
  have := (accY_ok h).2.1
  unfold validE at this
  rw [decide_eq_true_eq] at this
  omega
theorem ev_accY (a0 at_ a2 a3 a4 a5 p : Int) (s : ByteArray) (e : S32) : Ev (fun k => sync_accepts.f k a0 at_ a2 a3 a4 a5 p s e.f0 e.f1 e.f2 e.f3 e.f4 e.f5 e.f6) (accY at_ e) := by
  have hv := ev_event_Valid e.f0 e.f1 e.f2 e.f3 e.f4 e.f5 e.f6
  unfold sync_accepts.f accY
  refine Ev.ite (fun h => ?_) (fun h => ?_)
  · rw [decide_eq_true h, Bool.true_and]
    refine Ev.bind hv (Ev.ite (fun h2 => ?_) (fun h2 => ?_))
    · rw [h2, Bool.true_and]
      refine Ev.ite (fun h3 => ?_) (fun h3 => ?_)
      · rw [decide_eq_true (show at_ ≤ e.f1 by omega), Bool.true_and]
        refine Ev.ite (fun h4 => ?_) (fun h4 => ?_)
        · rw [decide_eq_true h4, Bool.true_or]; exact Ev.now _
        · rw [decide_eq_false h4, Bool.false_or]
          have : (e.f3 == 1) = decide (e.f3 = 1) := rfl
          rw [this]; exact Ev.now _
      · rw [decide_eq_false (show ¬ at_ ≤ e.f1 by omega), Bool.false_and]; exact Ev.now _
    · rw [Bool.eq_false_iff.mpr h2, Bool.false_and]; exact Ev.now _
  · rw [decide_eq_false h, Bool.false_and]; exact Ev.now _
def abY (s : MY) (t : Int) : List S32 := match s with | .srch _ => [] | .coll f _ => [⟨5, f, mx t f, 0, 0, (⟨#[]⟩ : ByteArray), 7⟩]
def frameY (m : Bool) (f t : Int) (bs : List Int) : S32 := ⟨5, f, t, 0, 0, (bytesS (strOfNums bs) m).1, 0⟩
/-- One accepted event: what is remembered, and what is told. -/
def stepY (w : ByteArray) (n : Int) (m : Bool) (s : MY) (e : S32) : MY × List S32 :=
  if e.f6 = 0 then
    match s with
    | .srch l => if (lastY w.size (l ++ [(e.f3, e.f1)])).map valY = bytesOf w then (.coll ((lastY w.size (l ++ [(e.f3, e.f1)])).headD (0, 0)).2 [], []) else (.srch (lastY w.size (l ++ [(e.f3, e.f1)])), [])
    | .coll f bs => if ((bs.length + 1 : Nat) : Int) < 8 * n then (.coll f (bs ++ [48 + e.f3]), []) else (.srch [], [frameY m f e.f2 (bs ++ [48 + e.f3])])
  else (.srch [], abY s e.f1)
theorem lastY_bits {n : Nat} {l : List (Int × Int)} (h : ∀ p ∈ l, bitP p) : ∀ p ∈ lastY n l, bitP p := fun p hp => h p (List.mem_of_mem_drop hp)
theorem stepY_ok {w : ByteArray} {n : Int} (m : Bool) (hw : chkY w n = 0) {s : MY} (hs : okY w n s) {e : S32} (h : e.f3 = 0 ∨ e.f3 = 1) (h0 : 0 ≤ e.f1) (h1 : e.f1 ≤ 1099511627776) : okY w n (stepY w n m s e).1 := by
  obtain ⟨_, hw1, hw2, hn1, hn2⟩ := chkY_ok hw
  unfold stepY
  split
  · cases s with
    | srch l =>
      have hb : ∀ p ∈ l ++ [(e.f3, e.f1)], bitP p := fun p hp => by
        rcases List.mem_append.mp hp with hp | hp
        · exact hs.2 p hp
        · rw [List.mem_singleton.mp hp]; exact ⟨h, h0, h1⟩
      dsimp only
      split
      · rename_i hm
        refine ⟨?_, ?_, AllB.nil, by simp; omega⟩
        all_goals
          have hb2 := lastY_bits (n := w.size) hb
          cases hq : lastY w.size (l ++ [(e.f3, e.f1)]) with
          | nil => simp
          | cons p q => rw [hq] at hb2; have := (hb2 p (by simp)).2; simp; omega
      · exact ⟨lastY_len _ _, lastY_bits hb⟩
    | coll f bs =>
      obtain ⟨k1, k2, k3, k4⟩ := hs
      dsimp only
      split
      · rename_i hm
        refine ⟨k1, k2, AllB.append_iff.mpr ⟨k3, AllB.cons_iff.mpr ⟨by omega, AllB.nil⟩⟩, by simp; omega⟩
      · exact ⟨by simp, fun p hp => by cases hp⟩
  · exact ⟨by simp, fun p hp => by cases hp⟩
theorem sync_searchY (a0 a1 a2 a3 a4 a5 a6 : Int) (s : ByteArray) : sync_search.f a0 a1 a2 a3 a4 a5 a6 s = some (0, a1, 0, 0, 0, 0, a6, (⟨#[]⟩ : ByteArray)) := rfl
theorem sync_abortedY (s : MY) (a1 a3 a4 a5 a6 : Int) (d : ByteArray) (t : Int) : sync_aborted.f (phY s) a1 (frY s) a3 a4 a5 a6 d t = some (abY s t) := by
  cases s <;> rfl
theorem ev_stepY (w : ByteArray) (n : Int) (m : Bool) (hw : chkY w n = 0) (s : MY) (hs : okY w n s) (at_ p : Int) (e : S32) :
    Ev (fun k => sync_Step.f k w n m (phY s) at_ (frY s) 0 0 0 p (daY s) e.f0 e.f1 e.f2 e.f3 e.f4 e.f5 e.f6)
      (if accY at_ e = true then (phY (stepY w n m s e).1, e.f1, frY (stepY w n m s e).1, 0, 0, 0, e.f2, daY (stepY w n m s e).1, (stepY w n m s e).2) else (phY s, at_, frY s, 0, 0, 0, p, daY s, [])) := by
  obtain ⟨_, hw1, hw2, hn1, hn2⟩ := chkY_ok hw
  unfold sync_Step.f
  refine Ev.bind (ev_sync_Check w n m) (Ev.pos hw (Ev.bind (ev_accY _ at_ _ 0 0 0 p _ e) ?_))
  refine Ev.step (fun k => sync_Step.j0.eq_2 ..) ?_
  by_cases ha : accY at_ e = true
  case neg =>
    rw [if_neg ha]
    exact Ev.pos (by simp [ha]) (Ev.now _)
  rw [if_pos ha]
  obtain ⟨a1, a2, a3, a4⟩ := accY_ok ha
  obtain ⟨t1, t2, t3⟩ := accY_times ha
  refine Ev.neg (by simp [ha]) ?_
  refine Ev.step (fun k => sync_Step.j1.eq_2 ..) ?_
  rw [sync_abortedY, sync_searchY]
  by_cases hf : e.f6 = 0
  case neg =>
    have : stepY w n m s e = (.srch [], abY s e.f1) := by unfold stepY; rw [if_neg hf]
    rw [this]
    exact Ev.neg hf (Ev.sbind (Ev.sbind (Ev.now _)))
  refine Ev.pos hf ?_
  refine Ev.step (fun k => sync_Step.j2.eq_2 ..) ?_
  cases s with
  | coll f bs =>
    obtain ⟨k1, k2, k3, k4⟩ := hs
    have hbits : AllB (bs ++ [48 + e.f3]) := AllB.append_iff.mpr ⟨k3, AllB.cons_iff.mpr ⟨by omega, AllB.nil⟩⟩
    have e1 : (48 + e.f3 % 256) % 256 = 48 + e.f3 := by omega
    have e2 : daY (.coll f bs) ++ strOfNums [(48 + e.f3)] = strOfNums (bs ++ [48 + e.f3]) := str_append _ _
    have hsz : (strOfNums (bs ++ [48 + e.f3])).size = bs.length + 1 := by rw [size_str]; simp
    refine Ev.pos rfl (Ev.sbind ?_)
    rw [e1, e2, hsz, w64 (x := 8 * n) (by omega) (by omega)]
    refine Ev.pos ?_ ?_
    · show (daY (.coll f bs)).size + _ ≤ _
      have : (daY (.coll f bs)).size = bs.length := size_str _
      rw [this, size_str]; simp; omega
    have hst : stepY w n m (.coll f bs) e = if ((bs.length + 1 : Nat) : Int) < 8 * n then (.coll f (bs ++ [48 + e.f3]), []) else (.srch [], [frameY m f e.f2 (bs ++ [48 + e.f3])]) := by unfold stepY; rw [if_pos hf]
    rw [hst]
    refine Ev.ite (fun h => ?_) (fun h => ?_)
    · rw [if_pos h]; exact Ev.now _
    · rw [if_neg h]
      exact Ev.bind (ev_bits_Bytes _ m) (Ev.sbind (Ev.now _))
  | srch l =>
    obtain ⟨k1, k2⟩ := hs
    have hb : ∀ p ∈ l ++ [(e.f3, e.f1)], bitP p := fun p hp => by
      rcases List.mem_append.mp hp with hp | hp
      · exact k2 p hp
      · rw [List.mem_singleton.mp hp]; exact ⟨a4, t1, by omega⟩
    have hda : (daY (.srch l)).size = 9 * l.length := by show (strOfNums _).size = _; rw [size_str, flatY_len]
    have hby : bytesOf (daY (.srch l)) = flatY l := bytes_str (flatY_byts k2)
    have hfl : flatY l ++ recY (e.f3, e.f1) = flatY (l ++ [(e.f3, e.f1)]) := by rw [flatY_append]; simp [flatY]
    refine Ev.neg (by show ¬ (0 : Int) = 1; decide) (Ev.pos (by omega) (Ev.sbind (Ev.bind (ev_sync_record _ _ _ _ _ _ _ a4 t1 (by omega)) ?_)))
    rw [hby, hfl, sync_last _ _ (by simp; omega) (by omega)]
    refine Ev.pos (by rw [flatY_len, recY_len]; omega) (Ev.sbind (Ev.bind (ev_sync_found w n m _ hw2 (Nat.le_trans (lastY_len _ _) hw2)) ?_))
    have hst : stepY w n m (.srch l) e = if (lastY w.size (l ++ [(e.f3, e.f1)])).map valY = bytesOf w then (.coll ((lastY w.size (l ++ [(e.f3, e.f1)])).headD (0, 0)).2 [], []) else (.srch (lastY w.size (l ++ [(e.f3, e.f1)])), []) := by unfold stepY; rw [if_pos hf]
    rw [hst]
    by_cases hm : (lastY w.size (l ++ [(e.f3, e.f1)])).map valY = bytesOf w
    · rw [if_pos hm, decide_eq_true hm]
      refine Ev.pos rfl (Ev.sbind ?_)
      have hb2 := lastY_bits (n := w.size) hb
      cases hq : lastY w.size (l ++ [(e.f3, e.f1)]) with
      | nil =>
        exfalso
        rw [hq] at hm
        have := congrArg List.length hm
        rw [len_bytes] at this
        simp at this
        omega
      | cons p q =>
        rw [hq] at hb2
        exact Ev.bind (ev_sync_from p q (hb2 p (by simp))) (Ev.now _)
    · rw [if_neg hm, decide_eq_false hm]
      exact Ev.neg (by decide) (Ev.now _)
/-- What is decoded of events behind what is remembered. -/
def decY (w : ByteArray) (n : Int) (m : Bool) : MY → Int → Int → List S32 → List S32
  | s, _, p, [] => abY s p
  | s, a, p, e :: l => if accY a e = true then (stepY w n m s e).2 ++ decY w n m (stepY w n m s e).1 e.f1 e.f2 l else decY w n m s a p l
theorem abY_len (s : MY) (t : Int) : (abY s t).length ≤ 1 := by cases s <;> simp [abY]
theorem stepY_len (w : ByteArray) (n : Int) (m : Bool) (s : MY) (e : S32) : (stepY w n m s e).2.length ≤ 1 := by
  unfold stepY
  split
  · cases s <;> dsimp only <;> split <;> simp
  · exact abY_len _ _
theorem decY_len (w : ByteArray) (n : Int) (m : Bool) : ∀ (l : List S32) (s : MY) (a p : Int), (decY w n m s a p l).length ≤ l.length + 1
  | [], s, a, p => by have := abY_len s p; unfold decY; simpa using this
  | e :: l, s, a, p => by
    unfold decY
    split
    · have h1 := stepY_len w n m s e
      have h2 := decY_len w n m l (stepY w n m s e).1 e.f1 e.f2
      rw [List.length_append, List.length_cons]; omega
    · have h2 := decY_len w n m l s a p
      rw [List.length_cons]; omega
theorem ev_sync_End (w : ByteArray) (n : Int) (m : Bool) (hw : chkY w n = 0) (s : MY) (a p : Int) : Ev (fun k => sync_End.f k w n m (phY s) a (frY s) 0 0 0 p (daY s)) (abY s p) := by
  unfold sync_End.f
  refine Ev.bind (ev_sync_Check w n m) (Ev.pos hw ?_)
  rw [sync_abortedY]
  exact Ev.sbind (Ev.now _)
theorem ev_DecodeY (w : ByteArray) (n : Int) (m : Bool) (hw : chkY w n = 0) (l : List S32) (hl : l.length < 1000000000) : Ev (fun k => sync_Decode.f k w n m l) (decY w n m (.srch []) 0 0 l) := by
  have key : ∀ (q pre out : List S32) (s : MY) (a p : Int) (i : Nat), okY w n s → l = pre ++ q → i = pre.length → out.length ≤ i → Ev (fun k => sync_Decode.l0 k out l (l.length : Int) (i : Int) w n m (phY s) a (frY s) 0 0 0 p (daY s)) (out ++ decY w n m s a p q) := by
    intro q
    induction q with
    | nil =>
      intro pre out s a p i hs he hi ho
      rw [List.append_nil] at he
      have hi' : i = l.length := by rw [hi, he]
      clear he
      have hab := abY_len s p
      unfold decY
      refine Ev.step (fun k => sync_Decode.l0.eq_2 ..) ?_
      exact Ev.neg (by omega) (Ev.bind (ev_sync_End w n m hw s a p) (Ev.pos (by omega) (Ev.now _)))
    | cons e q ih =>
      intro pre out s a p i hs he hi ho
      have hlen : l.length = i + (q.length + 1) := by rw [he, hi, List.length_append, List.length_cons]
      have hx : rd_T32 l (i : Int) = e := by rw [he]; exact rdE_mid pre e q i hi
      have ih2 := fun out' s' a' p' hs' => ih (pre ++ [e]) out' s' a' p' (i + 1) hs' (by rw [he]; simp) (by simp [hi])
      clear ih he
      have hst := ev_stepY w n m hw s hs a p e
      have hsl := stepY_len w n m s e
      refine Ev.step (fun k => sync_Decode.l0.eq_2 ..) ?_
      rw [hx, wnat (by omega), decY]
      refine Ev.pos (by omega) (Ev.pos (by omega) (Ev.pos (by omega) (Ev.bind hst ?_)))
      by_cases ha : accY a e = true
      · rw [if_pos ha, if_pos ha]
        obtain ⟨t1, t2, t3⟩ := accY_times ha
        have := ih2 (out ++ (stepY w n m s e).2) _ e.f1 e.f2 (stepY_ok m hw hs (accY_ok ha).2.2.2 t1 (by omega)) (by rw [List.length_append]; omega)
        rw [List.append_assoc] at this
        exact Ev.pos (by dsimp only; omega) this
      · rw [if_neg ha, if_neg ha]
        have := ih2 out s a p hs (by omega)
        refine Ev.pos (by dsimp only; simp; omega) ?_
        dsimp only
        rw [List.append_nil]
        exact this
  exact key l [] [] (.srch []) 0 0 0 ⟨by simp, fun p hp => by cases hp⟩ rfl rfl (by simp)
/-- An event that is a bit. -/
structure BitE (e : S32) : Prop where
  k : e.f0 = 2
  f0 : 0 ≤ e.f1
  f1 : e.f1 ≤ e.f2
  f2 : e.f2 ≤ 1099511627776
  v : e.f3 = 0 ∨ e.f3 = 1
  a : e.f4 = 0
  s : e.f5 = ⟨#[]⟩
  f : e.f6 = 0
theorem BitE.valid {e : S32} (h : BitE e) : validE e.f0 e.f1 e.f2 e.f3 e.f4 e.f5 e.f6 = true := by
  have h1 := h.k; have h2 := h.f0; have h3 := h.f1; have h4 := h.f2; have h5 := h.v; have h7 := h.a; have h8 := h.f
  have h9 : e.f5.size = 0 := by rw [h.s]; rfl
  unfold validE
  rw [decide_eq_true_eq]
  omega
theorem BitE.acc {e : S32} (h : BitE e) {a : Int} (ha : a ≤ e.f1) : accY a e = true := by
  have h1 := h.valid
  unfold accY
  rw [h1, decide_eq_true h.k, decide_eq_true ha, Bool.true_and, Bool.true_and, Bool.true_and]
  simpa using h.v
/-- Bits whose times do not go back. -/
def timesE : Int → List S32 → Prop
  | _, [] => True
  | a, e :: l => a ≤ e.f1 ∧ BitE e ∧ timesE e.f1 l
def lastAt : Int → List S32 → Int
  | a, [] => a
  | _, e :: l => lastAt e.f1 l
def lastTo : Int → List S32 → Int
  | p, [] => p
  | _, e :: l => lastTo e.f2 l
theorem lastAt_app : ∀ (l m : List S32) (a : Int), lastAt a (l ++ m) = lastAt (lastAt a l) m
  | [], _, _ => rfl
  | e :: l, m, _ => by rw [List.cons_append, lastAt, lastAt, lastAt_app l m]
theorem lastTo_app : ∀ (l m : List S32) (a : Int), lastTo a (l ++ m) = lastTo (lastTo a l) m
  | [], _, _ => rfl
  | e :: l, m, _ => by rw [List.cons_append, lastTo, lastTo, lastTo_app l m]
theorem timesE_app : ∀ (l m : List S32) (a : Int), timesE a (l ++ m) ↔ timesE a l ∧ timesE (lastAt a l) m
  | [], m, a => by simp [timesE, lastAt]
  | e :: l, m, a => by
    rw [List.cons_append, timesE, timesE, lastAt, timesE_app l m]
    constructor
    · rintro ⟨h1, h2, h3, h4⟩; exact ⟨⟨h1, h2, h3⟩, h4⟩
    · rintro ⟨⟨h1, h2, h3⟩, h4⟩; exact ⟨h1, h2, h3, h4⟩
def prE (e : S32) : Int × Int := (e.f3, e.f1)
def vlE (e : S32) : Int := 48 + e.f3
theorem val_prs (l : List S32) : (l.map prE).map valY = l.map vlE := by rw [List.map_map]; rfl
theorem vals_bits : ∀ {l : List S32} {a : Int}, timesE a l → AllB (l.map vlE)
  | [], _, _ => AllB.nil
  | e :: l, a, h => by
    rw [List.map_cons]
    refine AllB.cons_iff.mpr ⟨?_, vals_bits h.2.2⟩
    have := h.2.1.v
    unfold vlE; omega
theorem lastY_snoc (n : Nat) (hn : 0 < n) (l : List (Int × Int)) (x : Int × Int) : lastY n (lastY n l ++ [x]) = lastY n (l ++ [x]) := by
  unfold lastY
  rw [List.drop_append_of_le_length (by simp only [List.length_append, List.length_drop, List.length_singleton]; omega),
    List.drop_append_of_le_length (by rw [List.length_append, List.length_singleton]; omega), List.drop_drop]
  congr 2
  simp only [List.length_append, List.length_drop, List.length_singleton]
  omega
theorem lastY_all {n : Nat} {l : List (Int × Int)} (h : l.length ≤ n) : lastY n l = l := by
  unfold lastY
  rw [show l.length - n = 0 by omega, List.drop_zero]
theorem lastY_end (n : Nat) (l m : List (Int × Int)) (h : m.length = n) : lastY n (l ++ m) = m := by
  unfold lastY
  rw [List.length_append, show l.length + m.length - n = l.length by omega, List.drop_left]
/-- The word does not end here: what is remembered goes on. -/
def hitY (w : ByteArray) (l : List (Int × Int)) : Prop := (lastY w.size l).map valY = bytesOf w
theorem dec_srch (w : ByteArray) (n : Int) (m : Bool) (hw : 0 < w.size) : ∀ (es q : List S32) (win : List (Int × Int)) (a p : Int), timesE a es → (∀ j, j < es.length → ¬ hitY w (win ++ (es.take (j + 1)).map prE)) →
    decY w n m (.srch (lastY w.size win)) a p (es ++ q) = decY w n m (.srch (lastY w.size (win ++ es.map prE))) (lastAt a es) (lastTo p es) q
  | [], q, win, a, p, _, _ => by simp [lastAt, lastTo]
  | e :: es, q, win, a, p, ht, hno => by
    obtain ⟨h1, h2, h3⟩ := ht
    have hno0 : ¬ hitY w (win ++ [prE e]) := by simpa using hno 0 (by simp)
    have hst : stepY w n m (.srch (lastY w.size win)) e = (.srch (lastY w.size (win ++ [prE e])), []) := by
      unfold stepY
      rw [if_pos h2.f]
      dsimp only
      rw [show ((e.f3, e.f1) : Int × Int) = prE e from rfl, lastY_snoc _ hw, if_neg (show ¬ (lastY w.size (win ++ [prE e])).map valY = bytesOf w from hno0)]
    rw [List.cons_append, decY, if_pos (h2.acc h1), hst, List.nil_append, lastAt, lastTo]
    dsimp only
    rw [dec_srch w n m hw es q (win ++ [prE e]) e.f1 e.f2 h3 (fun j hj => by
      have := hno (j + 1) (by simp; omega)
      simpa using this)]
    simp
theorem dec_hit (w : ByteArray) (n : Int) (m : Bool) (hw : 0 < w.size) (e : S32) (q : List S32) (win : List (Int × Int)) (a p : Int) (h1 : a ≤ e.f1) (h2 : BitE e) (hh : hitY w (win ++ [prE e])) :
    decY w n m (.srch (lastY w.size win)) a p (e :: q) = decY w n m (.coll ((lastY w.size (win ++ [prE e])).headD (0, 0)).2 []) e.f1 e.f2 q := by
  have hst : stepY w n m (.srch (lastY w.size win)) e = (.coll ((lastY w.size (win ++ [prE e])).headD (0, 0)).2 [], []) := by
    unfold stepY
    rw [if_pos h2.f]
    dsimp only
    rw [show ((e.f3, e.f1) : Int × Int) = prE e from rfl, lastY_snoc _ hw, if_pos (show (lastY w.size (win ++ [prE e])).map valY = bytesOf w from hh)]
  rw [decY, if_pos (h2.acc h1), hst, List.nil_append]
/-- The word's first occurrence: there the frame begins. -/
theorem dec_find (w : ByteArray) (n : Int) (m : Bool) (hw : 0 < w.size) (pre : List S32) (b : S32) (ws q : List S32) (a p : Int) (ht : timesE a (pre ++ b :: ws)) (hv : (b :: ws).map vlE = bytesOf w)
    (hno : ∀ i, i < pre.length → (((pre ++ b :: ws).map vlE).drop i).take w.size ≠ bytesOf w) :
    decY w n m (.srch []) a p (pre ++ b :: ws ++ q) = decY w n m (.coll b.f1 []) (lastAt a (pre ++ b :: ws)) (lastTo p (pre ++ b :: ws)) q := by
  have hlen : ws.length + 1 = w.size := by have := congrArg List.length hv; rw [List.length_map, len_bytes] at this; simpa using this
  have hbl := len_bytes w
  -- all of it but the last
  obtain ⟨es, e, he⟩ : ∃ es e, pre ++ b :: ws = es ++ [e] := ⟨(pre ++ b :: ws).dropLast, (pre ++ b :: ws).getLast (by simp), (List.dropLast_concat_getLast (by simp)).symm⟩
  have hel : es.length + 1 = pre.length + w.size := by have := congrArg List.length he; simp at this; omega
  rw [he] at ht hno ⊢
  obtain ⟨t1, t2⟩ := (timesE_app _ _ _).mp ht
  obtain ⟨t3, t4, _⟩ := t2
  rw [List.append_assoc]
  have h0 : lastY w.size [] = [] := by simp [lastY]
  have hs := dec_srch w n m hw es ([e] ++ q) [] a p t1 (fun j hj hh => by
    unfold hitY at hh
    rw [List.nil_append] at hh
    have hh2 := congrArg List.length hh
    have hjl : ((es.take (j + 1)).map prE).length = j + 1 := by rw [List.length_map, List.length_take]; omega
    have hll : (lastY w.size ((es.take (j + 1)).map prE)).length = (j + 1) - (j + 1 - w.size) := by unfold lastY; rw [List.length_drop, hjl]
    rw [List.length_map, hll, hbl] at hh2
    refine hno (j + 1 - w.size) (by omega) ?_
    rw [← hh]
    unfold lastY
    rw [List.map_drop, val_prs, hjl, List.map_take, List.drop_take, List.map_append,
      List.drop_append_of_le_length (by rw [List.length_map]; omega), List.take_append_of_le_length (by rw [List.length_drop, List.length_map]; omega)]
    congr 1
    omega)
  rw [h0, List.nil_append] at hs
  rw [hs, List.singleton_append]
  have hend : lastY w.size (es.map prE ++ [prE e]) = (b :: ws).map prE := by
    have : es.map prE ++ [prE e] = pre.map prE ++ (b :: ws).map prE := by rw [← List.map_append, he, List.map_append]; rfl
    rw [this]
    exact lastY_end _ _ _ (by simp; omega)
  have hhit : hitY w (es.map prE ++ [prE e]) := by
    unfold hitY
    rw [hend, val_prs, hv]
  rw [dec_hit w n m hw e q _ _ _ t3 t4 hhit, hend, lastAt_app, lastTo_app]
  rfl
/-- The bits of a frame. -/
theorem dec_few (w : ByteArray) (n : Int) (m : Bool) (f : Int) : ∀ (es q : List S32) (bs : List Int) (a p : Int), timesE a es → ((bs.length + es.length : Nat) : Int) < 8 * n →
    decY w n m (.coll f bs) a p (es ++ q) = decY w n m (.coll f (bs ++ es.map vlE)) (lastAt a es) (lastTo p es) q
  | [], q, bs, a, p, _, _ => by simp [lastAt, lastTo]
  | e :: es, q, bs, a, p, ht, hl => by
    obtain ⟨h1, h2, h3⟩ := ht
    rw [List.length_cons] at hl
    have hst : stepY w n m (.coll f bs) e = (.coll f (bs ++ [vlE e]), []) := by
      unfold stepY
      rw [if_pos h2.f]
      dsimp only
      rw [if_pos (by omega)]
      rfl
    rw [List.cons_append, decY, if_pos (h2.acc h1), hst, List.nil_append, lastAt, lastTo]
    dsimp only
    rw [dec_few w n m f es q (bs ++ [vlE e]) e.f1 e.f2 h3 (by rw [List.length_append, List.length_singleton]; omega)]
    simp
theorem dec_frame (w : ByteArray) (n : Int) (m : Bool) (f : Int) (es : List S32) (q : List S32) (a p : Int) (hn : 1 ≤ n) (ht : timesE a es) (hl : (es.length : Int) = 8 * n) :
    decY w n m (.coll f []) a p (es ++ q) = frameY m f (lastTo p es) (es.map vlE) :: decY w n m (.srch []) (lastAt a es) (lastTo p es) q := by
  obtain ⟨fs, e, rfl⟩ : ∃ fs e, es = fs ++ [e] := ⟨es.dropLast, es.getLast (by intro h; rw [h] at hl; simp at hl; omega), (List.dropLast_concat_getLast _).symm⟩
  rw [List.length_append, List.length_singleton] at hl
  obtain ⟨t1, t2⟩ := (timesE_app _ _ _).mp ht
  obtain ⟨t3, t4, _⟩ := t2
  rw [List.append_assoc, dec_few w n m f fs _ [] a p t1 (by rw [List.length_nil]; omega), List.nil_append, List.singleton_append]
  have hst : stepY w n m (.coll f (fs.map vlE)) e = (.srch [], [frameY m f e.f2 (fs.map vlE ++ [vlE e])]) := by
    unfold stepY
    rw [if_pos t4.f]
    dsimp only
    rw [if_neg (by rw [List.length_map]; omega)]
    rfl
  rw [decY, if_pos (t4.acc t3), hst, lastAt_app, lastTo_app, List.map_append]
  rfl
/-- The events of bits of some ticks each. -/
def evT (t a c : Int) : S32 := ⟨2, a, a + t, c - 48, 0, (⟨#[]⟩ : ByteArray), 0⟩
def evsT (t : Int) : Int → List Int → List S32
  | _, [] => []
  | a, c :: l => evT t a c :: evsT t (a + t) l
theorem evsT_len (t : Int) : ∀ (l : List Int) (a : Int), (evsT t a l).length = l.length
  | [], _ => rfl
  | _ :: l, a => by simp [evsT, evsT_len t l]
theorem evsT_app (t : Int) : ∀ (l m : List Int) (a : Int), evsT t a (l ++ m) = evsT t a l ++ evsT t (a + t * l.length) m
  | [], m, a => by simp [evsT]
  | c :: l, m, a => by
    rw [List.cons_append, evsT, evsT, evsT_app t l m, List.cons_append, List.length_cons]
    have : a + t + t * (l.length : Int) = a + t * ((l.length + 1 : Nat) : Int) := by rw [Int.natCast_add, Int.mul_add]; simp; omega
    rw [this]
theorem evsT_vals (t : Int) : ∀ (l : List Int) (a : Int), (evsT t a l).map vlE = l
  | [], _ => rfl
  | c :: l, a => by
    rw [evsT, List.map_cons, evsT_vals t l]
    unfold vlE evT
    dsimp only
    rw [show 48 + (c - 48) = c by omega]
theorem evsT_to (t : Int) : ∀ (l : List Int) (a p : Int), 0 < l.length → lastTo p (evsT t a l) = a + t * l.length
  | [], _, _, h => by simp at h
  | [c], a, p, _ => by simp [evsT, lastTo, evT]
  | c :: d :: l, a, p, _ => by
    rw [evsT, lastTo, evsT_to t (d :: l) (a + t) _ (by simp)]
    simp only [List.length_cons]
    rw [Int.natCast_add (l.length + 1) 1, Int.mul_add]
    omega
theorem evsT_at (t : Int) (ht : 0 ≤ t) : ∀ (l : List Int) (a p : Int), p ≤ a → lastAt p (evsT t a l) ≤ a + t * l.length
  | [], a, p, h => by simpa [evsT, lastAt] using h
  | c :: l, a, p, _ => by
    have h1 := evsT_at t ht l (a + t) a (by omega)
    rw [evsT, lastAt, List.length_cons, Int.natCast_add, Int.mul_add]
    have : (evT t a c).f1 = a := rfl
    rw [this]
    simp
    omega
theorem times_evsT (t : Int) (ht : 0 ≤ t) : ∀ (l : List Int) (a b : Int), AllB l → b ≤ a → 0 ≤ a → a + t * l.length ≤ 1099511627776 → timesE b (evsT t a l)
  | [], _, _, _, _, _, _ => trivial
  | c :: l, a, b, hb, h1, h2, h3 => by
    obtain ⟨hc, hb⟩ := AllB.cons_iff.mp hb
    rw [List.length_cons, Int.natCast_add, Int.mul_add] at h3
    have h4 : 0 ≤ t * (l.length : Int) := Int.mul_nonneg ht (by omega)
    simp at h3
    refine ⟨h1, ⟨rfl, h2, by show a ≤ a + t; omega, by show a + t ≤ _; omega, ?_, rfl, rfl, rfl⟩, ?_⟩
    · show c - 48 = 0 ∨ c - 48 = 1
      omega
    · exact times_evsT t ht l (a + t) a hb (by omega) (by omega) (by omega)
def evI (t : Int) : Int → List S46 → List S32
  | _, [] => []
  | a, x :: l => evsT t (a + x.f0) (bytesOf x.f3) ++ evI t (a + x.f0 + t * x.f3.size) l
theorem evI_len (t : Int) : ∀ (l : List S46) (a : Int), (∀ x ∈ l, x.f3.size ≤ 4096) → (evI t a l).length ≤ 4096 * l.length
  | [], _, _ => by simp [evI]
  | x :: l, a, hx => by
    have h1 := hx x (by simp)
    have hlen := len_bytes x.f3
    have := evI_len t l (a + x.f0 + t * x.f3.size) (fun y hy => hx y (by simp [hy]))
    rw [evI, List.length_append, evsT_len, List.length_cons]
    omega
theorem ev_events (l : List S46) (t : Int) (hl : l.length ≤ 1100) (ht1 : 1 ≤ t) (ht2 : t ≤ 1000) (hx : ∀ x ∈ l, 0 ≤ x.f0 ∧ x.f0 ≤ 1048576 ∧ x.f3.size ≤ 4096 ∧ AllB (bytesOf x.f3)) : Ev (fun k => signalbenchlaw21_events.f k l t) (evI t 0 l) := by
  have hmul : ∀ j : Nat, j ≤ 4096 → 0 ≤ t * (j : Int) ∧ t * (j : Int) ≤ 4096000 := fun j hj =>
    ⟨Int.mul_nonneg (by omega) (by omega), by have := Int.mul_le_mul ht2 (show (j : Int) ≤ 4096 by omega) (by omega) (by omega); omega⟩
  have key : ∀ (q pre : List S46) (out : List S32) (a : Int) (i : Nat), l = pre ++ q → i = pre.length → out.length ≤ 4096 * i → 0 ≤ a → a ≤ 6000000 * i →
      Ev (fun k => signalbenchlaw21_events.l0 k l t out a (i : Int)) (out ++ evI t a q) := by
    intro q
    induction q with
    | nil =>
      intro pre out a i he hi ho h0 h1
      rw [List.append_nil] at he
      have hi' : i = l.length := by rw [hi, he]
      clear he
      rw [evI, List.append_nil]
      refine Ev.step (fun k => signalbenchlaw21_events.l0.eq_2 ..) ?_
      exact Ev.neg (by omega) (Ev.now _)
    | cons x q ih =>
      intro pre out a i he hi ho h0 h1
      have hlen : l.length = i + (q.length + 1) := by rw [he, hi, List.length_append, List.length_cons]
      have hr : rd_T46 l (i : Int) = x := by rw [he]; exact rdI_mid pre x q i hi
      obtain ⟨g0, g1, g2, g3⟩ := hx x (by rw [he]; simp)
      have ih2 := fun out' a' => ih (pre ++ [x]) out' a' (i + 1) (by rw [he]; simp) (by simp [hi])
      clear ih he
      have hbl := len_bytes x.f3
      have inner : ∀ (cs cpre : List Int) (out' : List S32) (a' : Int) (j : Nat), bytesOf x.f3 = cpre ++ cs → j = cpre.length → out'.length ≤ 4096 * i + j → a' = a + x.f0 + t * (j : Int) →
          Ev (fun k => signalbenchlaw21_events.l0 k l t (out' ++ evsT t a' cs) (a' + t * cs.length) ((i + 1 : Nat) : Int)) (out' ++ evsT t a' cs ++ evI t (a' + t * cs.length) q) →
          Ev (fun k => signalbenchlaw21_events.l1 k l t out' a' (i : Int) (j : Int)) (out' ++ evsT t a' cs ++ evI t (a' + t * cs.length) q) := by
        intro cs
        induction cs with
        | nil =>
          intro cpre out' a' j he hj ho' ha' h
          rw [List.append_nil] at he
          rw [he] at hbl
          simp only [evsT, List.length_nil, List.append_nil, Int.natCast_zero, Int.mul_zero, Int.add_zero] at h ⊢
          refine Ev.step (fun k => signalbenchlaw21_events.l1.eq_2 ..) ?_
          rw [hr, wnat (i := i) (by omega)]
          exact Ev.pos (by omega) (Ev.pos (by omega) (Ev.neg (by omega) h))
        | cons c cs ihc =>
          intro cpre out' a' j he hj ho' ha' h
          have hcl : x.f3.size = j + (cs.length + 1) := by rw [← hbl, he, hj, List.length_append, List.length_cons]
          have hbt : bt x.f3 (j : Int) = c := by rw [bt_get x.f3 j (by omega)]; simp [he, hj]
          have hc : c = 48 ∨ c = 49 := g3 c (by rw [he]; simp)
          have hm := hmul j (by omega)
          have hm1 : t * ((j + 1 : Nat) : Int) = t * (j : Int) + t := by rw [Int.natCast_add, Int.mul_add]; simp
          have e1 : out' ++ evsT t a' (c :: cs) = out' ++ [evT t a' c] ++ evsT t (a' + t) cs := by rw [evsT, List.append_assoc]; rfl
          have e2 : a' + t * ((c :: cs).length : Nat) = a' + t + t * (cs.length : Nat) := by rw [List.length_cons, Int.natCast_add, Int.mul_add]; simp; omega
          rw [e1, e2] at h ⊢
          have hn := ihc (cpre ++ [c]) (out' ++ [evT t a' c]) (a' + t) (j + 1) (by rw [he]; simp) (by simp [hj]) (by simp; omega) (by rw [hm1]; omega) h
          clear ihc he h
          refine Ev.step (fun k => signalbenchlaw21_events.l1.eq_2 ..) ?_
          rw [hr, hbt, wnat (i := j) (by omega), w64 (x := a' + t) (by omega) (by omega)]
          have ev : (⟨2, a', a' + t, (c - 48) % 256, 0, (⟨#[]⟩ : ByteArray), 0⟩ : S32) = evT t a' c := by unfold evT; rw [show (c - 48) % 256 = c - 48 by omega]
          rw [ev]
          exact Ev.pos (by omega) (Ev.pos (by omega) (Ev.pos (by omega) (Ev.pos (by omega) (Ev.pos (by omega) hn))))
      have hm := hmul x.f3.size g2
      have hgo := ih2 (out ++ evsT t (a + x.f0) (bytesOf x.f3)) (a + x.f0 + t * x.f3.size) (by rw [List.length_append, evsT_len]; omega) (by omega) (by omega)
      have hin := inner (bytesOf x.f3) [] out (a + x.f0) 0 rfl rfl (by omega) (by simp) (by rw [hbl]; exact hgo)
      rw [hbl] at hin
      refine Ev.step (fun k => signalbenchlaw21_events.l0.eq_2 ..) ?_
      rw [hr, w64 (x := a + x.f0) (by omega) (by omega), evI, ← List.append_assoc]
      exact Ev.pos (by omega) (Ev.pos (by omega) hin)
  exact key l [] [] 0 0 rfl rfl (by simp) (by omega) (by omega)
/-- Items of bits. -/
def bitsI (l : List S46) : Bool := l.all fun x => decide (0 ≤ x.f0 ∧ x.f0 ≤ 1048576) && (bytesOf x.f3).all isB
theorem ev_bitItems (l : List S46) (hl : l.length ≤ 1000000) (hx : ∀ x ∈ l, x.f3.size ≤ 140737488351232) : Ev (fun k => signalbenchlaw21_bitItems.f k l) (bitsI l) := by
  unfold signalbenchlaw21_bitItems.f bitsI
  have key : ∀ (q pre : List S46) (i : Nat), l = pre ++ q → i = pre.length → Ev (fun k => signalbenchlaw21_bitItems.l0 k l (i : Int)) (q.all fun x => decide (0 ≤ x.f0 ∧ x.f0 ≤ 1048576) && (bytesOf x.f3).all isB) := by
    intro q
    induction q with
    | nil =>
      intro pre i he hi
      rw [List.append_nil] at he
      have hi' : i = l.length := by rw [hi, he]
      clear he
      refine Ev.step (fun k => signalbenchlaw21_bitItems.l0.eq_2 ..) ?_
      exact Ev.neg (by omega) (Ev.now _)
    | cons x q ih =>
      intro pre i he hi
      have hlen : l.length = i + (q.length + 1) := by rw [he, hi, List.length_append, List.length_cons]
      have hr : rd_T46 l (i : Int) = x := by rw [he]; exact rdI_mid pre x q i hi
      have hxs := hx x (by rw [he]; simp)
      have ih2 := ih (pre ++ [x]) (i + 1) (by rw [he]; simp) (by simp [hi])
      clear ih he
      have hbl := len_bytes x.f3
      have inner : ∀ (cs cpre : List Int) (j : Nat), bytesOf x.f3 = cpre ++ cs → j = cpre.length → Ev (fun k => signalbenchlaw21_bitItems.l1 k l (i : Int) (j : Int)) (cs.all isB && q.all fun x => decide (0 ≤ x.f0 ∧ x.f0 ≤ 1048576) && (bytesOf x.f3).all isB) := by
        intro cs
        induction cs with
        | nil =>
          intro cpre j he hj
          rw [List.append_nil] at he
          rw [he] at hbl
          refine Ev.step (fun k => signalbenchlaw21_bitItems.l1.eq_2 ..) ?_
          rw [hr, wnat (i := i) (by omega)]
          exact Ev.pos (by omega) (Ev.pos (by omega) (Ev.neg (by omega) (by simpa using ih2)))
        | cons c cs ihc =>
          intro cpre j he hj
          have hcl : x.f3.size = j + (cs.length + 1) := by rw [← hbl, he, hj, List.length_append, List.length_cons]
          have hbt : bt x.f3 (j : Int) = c := by rw [bt_get x.f3 j (by omega)]; simp [he, hj]
          have hn := ihc (cpre ++ [c]) (j + 1) (by rw [he]; simp) (by simp [hj])
          clear ihc he
          refine Ev.step (fun k => signalbenchlaw21_bitItems.l1.eq_2 ..) ?_
          rw [hr, hbt, wnat (i := j) (by omega), List.all_cons]
          refine Ev.pos (by omega) (Ev.pos (by omega) (Ev.pos (by omega) (Ev.pos (by omega) (Ev.ite (fun h => ?_) (fun h => Ev.ite (fun h2 => ?_) (fun h2 => ?_))))))
          · rw [show isB c = true by rw [isB_iff]; exact .inl h, Bool.true_and]; exact hn
          · rw [show isB c = true by rw [isB_iff]; exact .inr h2, Bool.true_and]; exact hn
          · have : isB c = false := by rw [Bool.eq_false_iff]; intro h3; rcases isB_iff.mp h3 with h3 | h3 <;> contradiction
            rw [this, Bool.false_and, Bool.false_and]; exact Ev.now _
      have hin := inner (bytesOf x.f3) [] 0 rfl rfl
      rw [List.all_cons]
      have hno : ¬ (0 ≤ x.f0 ∧ x.f0 ≤ 1048576) → Ev (fun k => signalbenchlaw21_bitItems.j2 k l (i : Int) true) ((decide (0 ≤ x.f0 ∧ x.f0 ≤ 1048576) && (bytesOf x.f3).all isB) && q.all fun x => decide (0 ≤ x.f0 ∧ x.f0 ≤ 1048576) && (bytesOf x.f3).all isB) := by
        intro h
        rw [decide_eq_false h, Bool.false_and, Bool.false_and]
        refine Ev.step (fun k => signalbenchlaw21_bitItems.j2.eq_2 ..) ?_
        exact Ev.pos rfl (Ev.now _)
      refine Ev.step (fun k => signalbenchlaw21_bitItems.l0.eq_2 ..) ?_
      refine Ev.pos (by omega) ?_
      refine Ev.step (fun k => signalbenchlaw21_bitItems.j1.eq_2 ..) ?_
      rw [hr]
      refine Ev.pos (by omega) (Ev.pos (by omega) (Ev.ite (fun h => hno (by omega)) (fun h => ?_)))
      by_cases h2 : x.f0 > 1048576
      · rw [decide_eq_true h2]; exact hno (by omega)
      rw [decide_eq_false h2]
      refine Ev.step (fun k => signalbenchlaw21_bitItems.j2.eq_2 ..) ?_
      refine Ev.neg (by decide) ?_
      refine Ev.step (fun k => signalbenchlaw21_bitItems.j3.eq_2 ..) ?_
      rw [decide_eq_true (show 0 ≤ x.f0 ∧ x.f0 ≤ 1048576 by omega), Bool.true_and]
      exact hin
  exact key l [] 0 rfl rfl
theorem encY_ok (w : ByteArray) (n : Int) (m : Bool) : ∀ (l out : List S46), ((encY w n m out l).2 = 0 → (∀ x ∈ l, itY n x = 0) ∧ (encY w n m out l).1 = out ++ l.map (outY w m)) ∧ ((encY w n m out l).2 ≠ 0 → (encY w n m out l).1 = [])
  | [], out => by simp [encY]
  | x :: l, out => by
    unfold encY
    by_cases hx : itY n x = 0
    · rw [if_pos hx]
      obtain ⟨h1, h2⟩ := encY_ok w n m l (out ++ [outY w m x])
      refine ⟨fun h => ?_, h2⟩
      obtain ⟨h3, h4⟩ := h1 h
      exact ⟨fun y hy => by rcases List.mem_cons.mp hy with rfl | hy; exact hx; exact h3 y hy, by rw [h4]; simp⟩
    · rw [if_neg hx]
      exact ⟨fun h => absurd h hx, fun _ => rfl⟩
theorem encodeY_ok {w : ByteArray} {n : Int} {m : Bool} {l : List S46} (h : (encodeY w n m l).2 = 0) : chkY w n = 0 ∧ l.length ≤ 1024 ∧ (∀ x ∈ l, itY n x = 0) ∧ (encodeY w n m l).1 = l.map (outY w m) := by
  unfold encodeY at h ⊢
  by_cases hc : chkY w n = 0
  · rw [if_pos hc] at h ⊢
    by_cases hl : l.length > 1024
    · rw [if_pos hl] at h; exact absurd h (by decide)
    · rw [if_neg hl] at h ⊢
      obtain ⟨h1, h2⟩ := (encY_ok w n m l []).1 h
      exact ⟨hc, by omega, h1, h2⟩
  · rw [if_neg hc] at h
    exact absurd h hc
theorem encodeY_no {w : ByteArray} {n : Int} {m : Bool} {l : List S46} (h : (encodeY w n m l).2 ≠ 0) : (encodeY w n m l).1 = [] := by
  unfold encodeY at h ⊢
  by_cases hc : chkY w n = 0
  · rw [if_pos hc] at h ⊢
    by_cases hl : l.length > 1024
    · rw [if_pos hl]
    · rw [if_neg hl] at h ⊢
      exact (encY_ok w n m l []).2 h
  · rw [if_neg hc]
theorem outY_bytes {w : ByteArray} {m : Bool} {x : S46} (hx : x.f3.size ≤ 4096) : bytesOf (outY w m x).f3 = bytesOf w ++ fromBytesL (bytesOf x.f3) m := by
  show bytesOf (w ++ fromBytesS x.f3 m) = _
  rw [bytes_append]
  unfold fromBytesS
  rw [if_neg (by omega), bytes_str (fromBytesL_bits _ _).byts]
theorem outY_size {w : ByteArray} {m : Bool} {x : S46} (hx : x.f3.size ≤ 4096) : (outY w m x).f3.size = w.size + 8 * x.f3.size := by
  have h1 := congrArg List.length (outY_bytes (w := w) (m := m) hx)
  rw [len_bytes, List.length_append, len_bytes, fromBytesL_len, len_bytes] at h1
  exact h1
theorem outY_head {w : ByteArray} {m : Bool} {x : S46} (hx : x.f3.size ≤ 4096) : (outY w m x).f3.extract 0 w.size = w := by
  apply bytes_inj
  rw [bytes_extract, outY_bytes hx, List.take_append_of_le_length (by rw [len_bytes]; exact Nat.le_refl _), List.take_of_length_le (by rw [len_bytes]; exact Nat.le_refl _), List.drop_zero]
theorem outY_bits {w : ByteArray} {n : Int} {m : Bool} (hw : chkY w n = 0) {x : S46} (hx : itY n x = 0) : 0 ≤ (outY w m x).f0 ∧ (outY w m x).f0 ≤ 1048576 ∧ (outY w m x).f3.size ≤ 4096 ∧ AllB (bytesOf (outY w m x).f3) := by
  obtain ⟨c0, c1, c2, c3, c4⟩ := chkY_ok hw
  obtain ⟨g0, g1, g2, g3, _⟩ := itY_ok hx
  refine ⟨g0, g1, by rw [outY_size g3]; omega, ?_⟩
  rw [outY_bytes g3]
  exact AllB.append_iff.mpr ⟨c0, fromBytesL_bits _ _⟩
/-- The frames of items that are sent. -/
def frameI (n0 : Nat) (t a : Int) (x : S46) : S32 := ⟨5, a + x.f0, a + x.f0 + t * ((n0 + 8 * x.f3.size : Nat) : Int), 0, 0, x.f3, 0⟩
def framesI (n0 : Nat) (t : Int) : Int → List S46 → List S32
  | _, [] => []
  | a, x :: l => frameI n0 t a x :: framesI n0 t (a + x.f0 + t * ((n0 + 8 * x.f3.size : Nat) : Int)) l
theorem framesI_len (n0 : Nat) (t : Int) : ∀ (l : List S46) (a : Int), (framesI n0 t a l).length = l.length
  | [], _ => rfl
  | x :: l, a => by rw [framesI, List.length_cons, framesI_len n0 t l, List.length_cons]
theorem frameY_sent (m : Bool) (f t : Int) (d : ByteArray) (hd : d.size ≤ 4096) : frameY m f t (fromBytesL (bytesOf d) m) = ⟨5, f, t, 0, 0, d, 0⟩ := by
  have h := bytesS_fromBytesS d m (by omega)
  unfold fromBytesS at h
  rw [if_neg (by omega)] at h
  unfold frameY
  rw [h]
/-- One item that is sent, behind the end of a search's bits. -/
theorem dec_item (w : ByteArray) (n : Int) (m : Bool) (hw : chkY w n = 0) (t : Int) (ht1 : 1 ≤ t) (ht2 : t ≤ 1000) (x : S46) (hx : itY n x = 0) (a at_ p : Int) (q : List S32) (h1 : at_ ≤ a) (h2 : 0 ≤ a) (h3 : a + 6000000 ≤ 1099511627776) :
    ∃ at' p', at' ≤ a + x.f0 + t * ((w.size + 8 * x.f3.size : Nat) : Int) ∧ decY w n m (.srch []) at_ p (evsT t (a + x.f0) (bytesOf (outY w m x).f3) ++ q) = frameI w.size t a x :: decY w n m (.srch []) at' p' q := by
  obtain ⟨c0, c1, c2, c3, c4⟩ := chkY_ok hw
  obtain ⟨g0, g1, g2, g3, _⟩ := itY_ok hx
  have hlw := len_bytes w
  have hlx := len_bytes x.f3
  have hlf := fromBytesL_len m (bytesOf x.f3)
  have hm1 : t * (w.size : Int) ≤ 32000 := by have := Int.mul_le_mul ht2 (show (w.size : Int) ≤ 32 by omega) (by omega) (by omega); omega
  have hm0 : 0 ≤ t * (w.size : Int) := Int.mul_nonneg (by omega) (by omega)
  have hk1 : t * ((8 * x.f3.size : Nat) : Int) ≤ 2048000 := by have := Int.mul_le_mul ht2 (show ((8 * x.f3.size : Nat) : Int) ≤ 2048 by omega) (by omega) (by omega); omega
  have hk0 : 0 ≤ t * ((8 * x.f3.size : Nat) : Int) := Int.mul_nonneg (by omega) (by omega)
  have hsum : t * ((w.size + 8 * x.f3.size : Nat) : Int) = t * (w.size : Int) + t * ((8 * x.f3.size : Nat) : Int) := by rw [Int.natCast_add, Int.mul_add]
  have hT1 : timesE at_ (evsT t (a + x.f0) (bytesOf w)) := times_evsT t (by omega) _ _ _ c0 (by omega) (by omega) (by rw [hlw]; omega)
  obtain ⟨b, ws, hb⟩ : ∃ b ws, evsT t (a + x.f0) (bytesOf w) = b :: ws := by
    cases hq : evsT t (a + x.f0) (bytesOf w) with
    | nil => have := evsT_len t (bytesOf w) (a + x.f0); rw [hq] at this; simp at this; omega
    | cons b ws => exact ⟨b, ws, rfl⟩
  have hbf : b.f1 = a + x.f0 := by
    cases hq : bytesOf w with
    | nil => rw [hq] at hlw; simp at hlw; omega
    | cons c cs => rw [hq, evsT] at hb; rw [← (List.cons.inj hb).1]; rfl
  have hat := evsT_at t (by omega) (bytesOf w) (a + x.f0) at_ (by omega)
  have hv := evsT_vals t (bytesOf w) (a + x.f0)
  rw [hb] at hT1 hat hv
  rw [hlw] at hat
  have hf := dec_find w n m (by omega) [] b ws (evsT t (a + x.f0 + t * (w.size : Int)) (fromBytesL (bytesOf x.f3) m) ++ q) at_ p hT1 hv (fun i hi => absurd hi (by simp))
  rw [List.nil_append] at hf
  have hT2 : timesE (lastAt at_ (b :: ws)) (evsT t (a + x.f0 + t * (w.size : Int)) (fromBytesL (bytesOf x.f3) m)) :=
    times_evsT t (by omega) _ _ _ (fromBytesL_bits _ _) hat (by omega) (by rw [hlf, hlx]; omega)
  have hg := dec_frame w n m b.f1 (evsT t (a + x.f0 + t * (w.size : Int)) (fromBytesL (bytesOf x.f3) m)) q (lastAt at_ (b :: ws)) (lastTo p (b :: ws)) c3 hT2 (by rw [evsT_len, hlf, hlx]; omega)
  have hto := evsT_to t (fromBytesL (bytesOf x.f3) m) (a + x.f0 + t * (w.size : Int)) (lastTo p (b :: ws)) (by rw [hlf, hlx]; omega)
  have hat2 := evsT_at t (by omega) (fromBytesL (bytesOf x.f3) m) (a + x.f0 + t * (w.size : Int)) (lastAt at_ (b :: ws)) hat
  rw [hlf, hlx] at hto hat2
  refine ⟨lastAt (lastAt at_ (b :: ws)) (evsT t (a + x.f0 + t * (w.size : Int)) (fromBytesL (bytesOf x.f3) m)), lastTo (lastTo p (b :: ws)) (evsT t (a + x.f0 + t * (w.size : Int)) (fromBytesL (bytesOf x.f3) m)), by rw [hsum]; omega, ?_⟩
  rw [outY_bytes g3, evsT_app, List.append_assoc, hb, hlw, hf, hg, evsT_vals, hto, hbf, frameY_sent m _ _ x.f3 g3]
  unfold frameI
  rw [hsum, ← Int.add_assoc]
theorem dec_items (w : ByteArray) (n : Int) (m : Bool) (hw : chkY w n = 0) (t : Int) (ht1 : 1 ≤ t) (ht2 : t ≤ 1000) : ∀ (l : List S46) (a at_ p : Int), (∀ x ∈ l, itY n x = 0) → at_ ≤ a → 0 ≤ a → a + 6000000 * l.length ≤ 1099511627776 →
    decY w n m (.srch []) at_ p (evI t a (l.map (outY w m))) = framesI w.size t a l
  | [], _, _, _, _, _, _, _ => rfl
  | x :: l, a, at_, p, hx, h1, h2, h3 => by
    have hx0 := hx x (by simp)
    obtain ⟨c0, c1, c2, c3, c4⟩ := chkY_ok hw
    obtain ⟨g0, g1, g2, g3, _⟩ := itY_ok hx0
    rw [List.length_cons] at h3
    have hk1 : t * ((w.size + 8 * x.f3.size : Nat) : Int) ≤ 2080000 := by have := Int.mul_le_mul ht2 (show ((w.size + 8 * x.f3.size : Nat) : Int) ≤ 2080 by omega) (by omega) (by omega); omega
    have hk0 : 0 ≤ t * ((w.size + 8 * x.f3.size : Nat) : Int) := Int.mul_nonneg (by omega) (by omega)
    obtain ⟨at', p', k1, k2⟩ := dec_item w n m hw t ht1 ht2 x hx0 a at_ p (evI t (a + x.f0 + t * ((w.size + 8 * x.f3.size : Nat) : Int)) (l.map (outY w m))) h1 h2 (by omega)
    rw [List.map_cons, evI, outY_size g3]
    show decY w n m (.srch []) at_ p (evsT t (a + x.f0) _ ++ evI t (a + x.f0 + _) _) = _
    rw [k2, framesI, dec_items w n m hw t ht1 ht2 l _ at' p' (fun y hy => hx y (by simp [hy])) k1 (by omega) (by omega)]
/-- The law's measure of items: how many bytes they hold. -/
def sizesI : List S46 → Nat
  | [] => 0
  | x :: l => x.f3.size + sizesI l
def fewI (l : List S46) : Bool := decide (l.length ≤ 1100) && decide (sizesI l ≤ 20000)
theorem ev_few (l : List S46) (hs : ∀ x ∈ l, x.f3.size ≤ 140737488351232) : Ev (fun k => signalbenchlaw21_few.f k l) (fewI l) := by
  unfold signalbenchlaw21_few.f fewI
  refine Ev.ite (fun h => ?_) (fun h => ?_)
  · rw [decide_eq_false (by omega), Bool.false_and]; exact Ev.now _
  rw [decide_eq_true (show l.length ≤ 1100 by omega), Bool.true_and]
  refine Ev.step (fun k => signalbenchlaw21_few.j0.eq_2 ..) ?_
  have key : ∀ (m pre : List S46) (n i : Nat), l = pre ++ m → i = pre.length → n ≤ 20000 → Ev (fun k => signalbenchlaw21_few.l0 k l (n : Int) (i : Int)) (decide (n + sizesI m ≤ 20000)) := by
    intro m
    induction m with
    | nil =>
      intro pre n i he hi hn
      rw [List.append_nil] at he
      refine Ev.step (fun k => signalbenchlaw21_few.l0.eq_2 ..) ?_
      rw [sizesI, decide_eq_true (by omega)]
      exact Ev.neg (by rw [he]; omega) (Ev.now _)
    | cons x m ih =>
      intro pre n i he hi hn
      have hlen : l.length = i + (m.length + 1) := by rw [he, hi, List.length_append, List.length_cons]
      have hx : rd_T46 l (i : Int) = x := by rw [he]; exact rdI_mid pre x m i hi
      have hxs := hs x (by rw [he]; simp)
      have ih2 := ih (pre ++ [x]) (n + x.f3.size) (i + 1) (by rw [he]; simp) (by simp [hi])
      clear ih he
      refine Ev.step (fun k => signalbenchlaw21_few.l0.eq_2 ..) ?_
      rw [hx, wnat (by omega), w64 (x := (n : Int) + (x.f3.size : Int)) (by omega) (by omega), sizesI]
      refine Ev.pos (by omega) (Ev.pos (by omega) (Ev.ite (fun hb => ?_) (fun hb => ?_)))
      · rw [decide_eq_false (by omega)]; exact Ev.now _
      · have := ih2 (by omega)
        rw [Nat.add_assoc] at this
        exact this
  have := key l [] 0 0 rfl rfl (by omega)
  rwa [Nat.zero_add] at this
theorem ev_lives : Ev (fun k => signalbenchlaw21_lives.f k) true := by
  refine Ev.of (fun k => signalbenchlaw21_lives.mono k) (k := 120) ?_
  decide +kernel
theorem main : signalbenchlaw21_SyncRoundTrips.Pure := by
  intro w n m l t _ _ _ _ hl _
  refine Ev.rounds (g := fun k => signalbenchlaw21_SyncRoundTrips.f k w n m l t) ?_
  unfold signalbenchlaw21_SyncRoundTrips.f
  refine Ev.bind ev_lives (Ev.pos rfl ?_)
  have hj : Ev (fun k => signalbenchlaw21_SyncRoundTrips.j1 k l t true w n m) true := by
    refine Ev.step (fun k => signalbenchlaw21_SyncRoundTrips.j1.eq_2 ..) ?_
    exact Ev.pos rfl (Ev.now _)
  refine Ev.step (fun k => signalbenchlaw21_SyncRoundTrips.j0.eq_2 ..) ?_
  refine Ev.bind (ev_few l (fun x hx => (hl x hx).2.2.2.1)) (Ev.ite (fun hf => ?_) (fun hf => hj))
  refine Ev.ite (fun h => hj) (fun ht1 => Ev.ite (fun h => hj) (fun ht2 => ?_))
  by_cases hb : (w.size : Int) > 32
  · rw [decide_eq_true hb]; exact hj
  rw [decide_eq_false hb]
  refine Ev.step (fun k => signalbenchlaw21_SyncRoundTrips.j1.eq_2 ..) ?_
  refine Ev.neg (by decide) ?_
  refine Ev.step (fun k => signalbenchlaw21_SyncRoundTrips.j2.eq_2 ..) ?_
  refine Ev.bind (ev_sync_Encode w n m l) ?_
  by_cases hE : (encodeY w n m l).2 = 0
  case neg =>
    refine Ev.neg hE ?_
    rw [encodeY_no hE]
    exact Ev.now _
  refine Ev.pos hE ?_
  obtain ⟨hc, hlen, hit, hm⟩ := encodeY_ok hE
  rw [hm]
  clear hm hE hj hf
  have hw1 := (chkY_ok hc).2.1
  have hbit : ∀ x ∈ l.map (outY w m), 0 ≤ x.f0 ∧ x.f0 ≤ 1048576 ∧ x.f3.size ≤ 4096 ∧ AllB (bytesOf x.f3) := by
    intro x hx
    obtain ⟨y, hy, rfl⟩ := List.mem_map.mp hx
    exact outY_bits hc (hit y hy)
  have hbI : bitsI (l.map (outY w m)) = true := by
    unfold bitsI
    rw [List.all_eq_true]
    intro x hx
    obtain ⟨h1, h2, _, h4⟩ := hbit x hx
    rw [decide_eq_true ⟨h1, h2⟩, all_isB.mpr h4]
    rfl
  have hB := ev_bitItems (l.map (outY w m)) (by rw [List.length_map]; omega) (fun x hx => by have := (hbit x hx).2.2.1; omega)
  rw [hbI] at hB
  have hml : (l.map (outY w m)).length = l.length := List.length_map ..
  have hev := ev_events (l.map (outY w m)) t (by omega) (by omega) (by omega) hbit
  have hel := evI_len t (l.map (outY w m)) 0 (fun x hx => (hbit x hx).2.2.1)
  have hdec := ev_DecodeY w n m hc (evI t 0 (l.map (outY w m))) (by omega)
  rw [dec_items w n m hc t (by omega) (by omega) l 0 0 0 hit (by omega) (by omega) (by omega)] at hdec
  have hfl := framesI_len w.size t l 0
  refine Ev.step (fun k => signalbenchlaw21_SyncRoundTrips.j3.eq_2 ..) ?_
  refine Ev.pos (by rw [hml]) (Ev.bind hB ?_)
  refine Ev.step (fun k => signalbenchlaw21_SyncRoundTrips.j4.eq_2 ..) ?_
  refine Ev.neg (by decide) ?_
  refine Ev.step (fun k => signalbenchlaw21_SyncRoundTrips.j5.eq_2 ..) ?_
  have last : ∀ (q pre : List S46) (out : List S32) (a : Int) (i : Nat), l = pre ++ q → i = pre.length → framesI w.size t 0 l = out ++ framesI w.size t a q → out.length = i → 0 ≤ a → a ≤ 6000000 * i →
      Ev (fun k => signalbenchlaw21_SyncRoundTrips.l1 k l t (l.map (outY w m)) (framesI w.size t 0 l) a (i : Int)) true := by
    intro q
    induction q with
    | nil =>
      intro pre out a i he hi ho hoi h0 h1
      rw [List.append_nil] at he
      have hi' : i = l.length := by rw [hi, he]
      clear he
      refine Ev.step (fun k => signalbenchlaw21_SyncRoundTrips.l1.eq_2 ..) ?_
      exact Ev.neg (by omega) (Ev.now _)
    | cons x q ih =>
      intro pre out a i he hi ho hoi h0 h1
      have hlen2 : l.length = i + (q.length + 1) := by rw [he, hi, List.length_append, List.length_cons]
      have hr : rd_T46 l (i : Int) = x := by rw [he]; exact rdI_mid pre x q i hi
      have hr2 : rd_T46 (l.map (outY w m)) (i : Int) = outY w m x := by
        rw [he, List.map_append, List.map_cons]; exact rdI_mid _ _ _ i (by rw [List.length_map]; exact hi)
      have hr3 : rd_T32 (framesI w.size t 0 l) (i : Int) = frameI w.size t a x := by rw [ho, framesI]; exact rdE_mid _ _ _ i hoi.symm
      have hx0 := hit x (by rw [he]; simp)
      obtain ⟨g0, g1, g2, g3, _⟩ := itY_ok hx0
      have hn4 := (chkY_ok hc).2.2.2.2
      have hk1 : t * ((w.size + 8 * x.f3.size : Nat) : Int) ≤ 2080000 := by have := Int.mul_le_mul (show t ≤ 1000 by omega) (show ((w.size + 8 * x.f3.size : Nat) : Int) ≤ 2080 by omega) (by omega) (by omega); omega
      have hk0 : 0 ≤ t * ((w.size + 8 * x.f3.size : Nat) : Int) := Int.mul_nonneg (by omega) (by omega)
      have ih2 := ih (pre ++ [x]) (out ++ [frameI w.size t a x]) (a + x.f0 + t * ((w.size + 8 * x.f3.size : Nat) : Int)) (i + 1) (by rw [he]; simp) (by simp [hi]) (by rw [ho, framesI]; simp) (by simp [hoi]) (by omega) (by omega)
      clear ih he ho
      refine Ev.step (fun k => signalbenchlaw21_SyncRoundTrips.l1.eq_2 ..) ?_
      rw [hr, hr2, hr3, outY_size g3, w64 (x := a + x.f0) (by omega) (by omega), w64 (x := t * ((w.size + 8 * x.f3.size : Nat) : Int)) (by omega) (by omega), w64 (x := a + x.f0 + t * ((w.size + 8 * x.f3.size : Nat) : Int)) (by omega) (by omega), wnat (by omega)]
      exact Ev.pos (by omega) (Ev.pos (by omega) (Ev.pos (by omega) (Ev.pos (by omega) (Ev.neg (by simp [frameI]) ih2))))
  have key : ∀ (q pre : List S46) (i : Nat), l = pre ++ q → i = pre.length → Ev (fun k => signalbenchlaw21_SyncRoundTrips.l0 k l t (l.map (outY w m)) (i : Int) w n m) true := by
    intro q
    induction q with
    | nil =>
      intro pre i he hi
      rw [List.append_nil] at he
      have hi' : i = l.length := by rw [hi, he]
      clear he
      have hl1 := last l [] [] 0 0 rfl rfl rfl rfl (by omega) (by omega)
      refine Ev.step (fun k => signalbenchlaw21_SyncRoundTrips.l0.eq_2 ..) ?_
      refine Ev.neg (by omega) (Ev.bind hev (Ev.bind hdec (Ev.pos (by omega) ?_)))
      refine Ev.step (fun k => signalbenchlaw21_SyncRoundTrips.j7.eq_2 ..) ?_
      exact hl1
    | cons x q ih =>
      intro pre i he hi
      have hlen2 : l.length = i + (q.length + 1) := by rw [he, hi, List.length_append, List.length_cons]
      have hr : rd_T46 l (i : Int) = x := by rw [he]; exact rdI_mid pre x q i hi
      have hr2 : rd_T46 (l.map (outY w m)) (i : Int) = outY w m x := by
        rw [he, List.map_append, List.map_cons]; exact rdI_mid _ _ _ i (by rw [List.length_map]; exact hi)
      obtain ⟨g0, g1, g2, g3, _⟩ := itY_ok (hit x (by rw [he]; simp))
      have ih2 := ih (pre ++ [x]) (i + 1) (by rw [he]; simp) (by simp [hi])
      have hhd := outY_head (w := w) (m := m) g3
      clear ih he
      refine Ev.step (fun k => signalbenchlaw21_SyncRoundTrips.l0.eq_2 ..) ?_
      rw [hr, hr2, outY_size g3, Int.toNat_natCast, hhd, wnat (by omega), w64 (x := 8 * (x.f3.size : Int)) (by omega) (by omega), w64 (x := (w.size : Int) + 8 * (x.f3.size : Int)) (by omega) (by omega)]
      exact Ev.pos (by omega) (Ev.pos (by omega) (Ev.pos (by omega) (Ev.pos (by omega) (Ev.pos (by omega) (Ev.pos (by omega) (Ev.pos rfl (Ev.pos rfl ih2)))))))
  exact key l [] 0 rfl rfl
end SyncRoundTrips_
theorem SyncRoundTrips : signalbenchlaw21_SyncRoundTrips.Pure := SyncRoundTrips_.main
end Go.Proofs.Ytbggkaofkohecaa.Pure
