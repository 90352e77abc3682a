/- The law SyncEncodes holds as a statement on numbers and lists: the sender makes of any items what the reference makes, or tells the same error. No condition beyond those of the statement. -/
import Derived.Test.YtbggkaofkohecaaPSyncEncodesx14
import Derived.Test.YtbggkaofkohecaaSpecBytes
namespace Go.Proofs.Ytbggkaofkohecaa.Pure
open Go.RowKit Go.Proofs.Ytbggkaofkohecaa.PSyncEncodes Go.Proofs.YtbggkaofkohecaaW.PrintWords Go.Proofs.YtbggkaofkohecaaW.PrintLast Go.Proofs.Ytbggkaofkohecaa.Aid
set_option linter.unusedVariables false
set_option linter.unusedSimpArgs false
namespace SyncEncodes_
theorem ev_bits_Valid_l0 (s : ByteArray) (hs : s.size ≤ 65536) : ∀ (d i : Nat), i + d = s.size → Ev (fun k => bits_Valid.l0 k s (s.size : Int) (i : Int)) (((bytesOf s).drop i).all isB) := by
  intro d
  induction d with
  | zero =>
    intro i h
    refine Ev.stop fun k => ?_
    simp only [bits_Valid.l0]
    rw [if_neg (by omega), drop_end s i (by omega)]; rfl
  | succ d ih =>
    intro i h
    have e : wrap64 ((i : Int) + 1) = ((i + 1 : Nat) : Int) := by rw [w64 (by omega) (by omega)]; rfl
    rw [drop_cons s i (by omega), List.all_cons]
    by_cases h48 : bt s i = 48
    · have e2 : isB (bt s i) = true := isB_iff.mpr (.inl h48)
      rw [e2, Bool.true_and]
      refine Ev.step (fun k => ?_) (ih (i + 1) (by omega))
      simp only [bits_Valid.l0]
      rw [if_pos (by omega), if_pos (by omega), if_pos (by omega), if_pos h48, e]
    · by_cases h49 : bt s i = 49
      · have e2 : isB (bt s i) = true := isB_iff.mpr (.inr h49)
        rw [e2, Bool.true_and]
        refine Ev.step (fun k => ?_) (ih (i + 1) (by omega))
        simp only [bits_Valid.l0]
        rw [if_pos (by omega), if_pos (by omega), if_pos (by omega), if_neg h48, if_pos h49, e]
      · have e2 : isB (bt s i) = false := by simp [isB, h48, h49]
        rw [e2, Bool.false_and]
        refine Ev.stop fun k => ?_
        simp only [bits_Valid.l0]
        rw [if_pos (by omega), if_pos (by omega), if_pos (by omega), if_neg h48, if_neg h49]
theorem ev_bits_Valid (s : ByteArray) : Ev (fun k => bits_Valid.f k s) (vB s) := by
  unfold bits_Valid.f vB
  by_cases h : s.size ≤ 65536
  · rw [decide_eq_true h, Bool.true_and]
    refine Ev.congr (fun k => by rw [if_neg (by omega)]) ?_
    exact Ev.step (fun k => by simp only [bits_Valid.j0]; rfl) (ev_bits_Valid_l0 s h s.size 0 (by omega))
  · rw [decide_eq_false h, Bool.false_and]
    refine Ev.now' fun k => ?_
    rw [if_pos (by omega)]
theorem ev_ref_Valid_l0 (s : ByteArray) (hs : s.size ≤ 65536) : ∀ (d i : Nat), i + d = s.size → Ev (fun k => signalbenchref03_Valid.l0 k s (i : Int)) (((bytesOf s).drop i).all isB) := by
  intro d
  induction d with
  | zero =>
    intro i h
    refine Ev.stop fun k => ?_
    simp only [signalbenchref03_Valid.l0]
    rw [if_neg (by omega), drop_end s i (by omega)]; rfl
  | succ d ih =>
    intro i h
    have e : wrap64 ((i : Int) + 1) = ((i + 1 : Nat) : Int) := by rw [w64 (by omega) (by omega)]; rfl
    rw [drop_cons s i (by omega), List.all_cons]
    by_cases h48 : bt s i = 48
    · have e2 : isB (bt s i) = true := isB_iff.mpr (.inl h48)
      rw [e2, Bool.true_and]
      refine Ev.step (fun k => ?_) (ih (i + 1) (by omega))
      simp only [signalbenchref03_Valid.l0]
      rw [if_pos (by omega), if_pos (by omega), if_pos h48, e]
    · by_cases h49 : bt s i = 49
      · have e2 : isB (bt s i) = true := isB_iff.mpr (.inr h49)
        rw [e2, Bool.true_and]
        refine Ev.step (fun k => ?_) (ih (i + 1) (by omega))
        simp only [signalbenchref03_Valid.l0]
        rw [if_pos (by omega), if_pos (by omega), if_neg h48, if_pos h49, e]
      · have e2 : isB (bt s i) = false := by simp [isB, h48, h49]
        rw [e2, Bool.false_and]
        refine Ev.stop fun k => ?_
        simp only [signalbenchref03_Valid.l0]
        rw [if_pos (by omega), if_pos (by omega), if_neg h48, if_neg h49]
theorem ev_ref_Valid (s : ByteArray) : Ev (fun k => signalbenchref03_Valid.f k s) (vB s) := by
  unfold signalbenchref03_Valid.f vB
  by_cases h : s.size ≤ 65536
  · rw [decide_eq_true h, Bool.true_and]
    refine Ev.neg (by omega) ?_
    refine Ev.step (fun k => signalbenchref03_Valid.j0.eq_2 ..) ?_
    exact ev_ref_Valid_l0 s h s.size 0 (by omega)
  · rw [decide_eq_false h, Bool.false_and]
    refine Ev.now' fun k => ?_
    rw [if_pos (by omega)]
theorem rdI_mid (pre : List S46) (x : S46) (post : List S46) (i : Nat) (h : i = pre.length) : rd_T46 (pre ++ x :: post) (i : Int) = x := by
  subst h; simp [rd_T46]
theorem rdE_mid (pre : List S32) (x : S32) (post : List S32) (i : Nat) (h : i = pre.length) : rd_T32 (pre ++ x :: post) (i : Int) = x := by
  subst h; simp [rd_T32]
theorem ev_bits_FromInt_l0 (n : Int) (w : Nat) (msb : Bool) (hw : w ≤ 62) : ∀ (d i : Nat), i + d = w →
    Ev (fun k => bits_FromInt.l0 k n (w : Int) msb ((fromIntL n w msb).take i ++ List.replicate d 0) (w : Int) (i : Int)) (strOfNums (fromIntL n w msb)) := by
  have hlen := fromIntL_len n w msb
  intro d
  induction d with
  | zero =>
    intro i h
    refine Ev.stop fun k => ?_
    simp only [bits_FromInt.l0]
    rw [if_neg (by omega), List.take_of_length_le (by omega)]
    simp
  | succ d ih =>
    intro i h
    have hi : i < (fromIntL n w msb).length := by omega
    have e : wrap64 ((i : Int) + 1) = ((i + 1 : Nat) : Int) := by rw [w64 (by omega) (by omega)]; rfl
    have e1 : wrap64 ((w : Int) - 1) = (w : Int) - 1 := w64 (by omega) (by omega)
    have e2 : wrap64 ((w : Int) - 1 - (i : Int)) = (d : Int) := by rw [w64 (by omega) (by omega)]; omega
    have hg := fromIntL_get n w msb i hi
    have htl : ((fromIntL n w msb).take i).length = i := by rw [List.length_take]; omega
    have hset : ∀ v, v = (fromIntL n w msb)[i] → ((fromIntL n w msb).take i ++ List.replicate (d + 1) 0).set ((i : Int)).toNat v = (fromIntL n w msb).take (i + 1) ++ List.replicate d 0 := by
      rintro v rfl
      rw [List.replicate_succ, set_fill _ _ _ _ _ (by rw [htl]; rfl), List.take_succ_eq_append_getElem hi, List.append_assoc]
      rfl
    have hl2 : (((fromIntL n w msb).take i ++ List.replicate (d + 1) 0).length : Int) = w := by simp; omega
    have hsg : ∀ x : Int, (48 + x % 2 % 256) % 256 = 48 + x % 2 := fun x => by omega
    cases msb with
    | true =>
      refine Ev.step (fun k => ?_) (ih (i + 1) (by omega))
      have hd : w - 1 - i = d := by omega
      simp only [↓reduceIte, hd] at hg
      simp only [bits_FromInt.l0, ↓reduceIte]
      rw [if_pos (by omega), e1, e2, if_pos (by omega)]
      simp only [bits_sign.f, Option.bind_some]
      rw [if_pos (by omega), if_pos (by omega), e, and_one, shr_eq n (d : Int) d rfl (by omega), hsg, hset _ hg.symm]
    | false =>
      refine Ev.step (fun k => ?_) (ih (i + 1) (by omega))
      simp only [↓reduceIte, Bool.false_eq_true] at hg
      simp only [bits_FromInt.l0, ↓reduceIte, Bool.false_eq_true]
      rw [if_pos (by omega), if_pos (by omega)]
      simp only [bits_sign.f, Option.bind_some]
      rw [if_pos (by omega), e, and_one, shr_eq n (i : Int) i rfl (by omega), hsg, hset _ hg.symm]
theorem ev_bits_FromInt (n w : Int) (msb : Bool) : Ev (fun k => bits_FromInt.f k n w msb) (fromIntS n w msb) := by
  unfold bits_FromInt.f fromIntS
  have hemp : Ev (fun k => bits_FromInt.j0 k n w msb true) (⟨#[]⟩ : ByteArray) := by
    refine Ev.stop fun k => ?_
    simp only [bits_FromInt.j0, ↓reduceIte]
  by_cases h : w < 0
  · rw [if_pos h]
    refine Ev.congr (fun k => ?_) hemp
    rw [if_pos h]
  · rw [if_neg h]
    by_cases h2 : w > 62
    · rw [if_pos h2]
      refine Ev.congr (fun k => ?_) hemp
      rw [if_neg h, decide_eq_true h2]
    · rw [if_neg h2]
      obtain ⟨m, rfl⟩ := Int.eq_ofNat_of_zero_le (Int.not_lt.mp h)
      refine Ev.neg h ?_
      rw [decide_eq_false h2]
      refine Ev.step (fun k => bits_FromInt.j0.eq_2 ..) ?_
      refine Ev.neg (by decide) ?_
      refine Ev.step (fun k => bits_FromInt.j1.eq_2 ..) ?_
      have h0 := ev_bits_FromInt_l0 n m msb (by omega) m 0 (by omega)
      refine Ev.pos (by omega) (Ev.pos (by omega) ?_)
      simpa using h0
theorem ev_bits_FromBytes_l0 (s : ByteArray) (msb : Bool) (hs : s.size ≤ 8192) : ∀ (d i : Nat), i + d = s.size →
    Ev (fun k => bits_FromBytes.l0 k s msb (fromBytesL ((bytesOf s).take i) msb) (s.size : Int) (i : Int)) (strOfNums (fromBytesL (bytesOf s) msb)) := by
  intro d
  have hlen := len_bytes s
  induction d with
  | zero =>
    intro i h
    refine Ev.stop fun k => ?_
    simp only [bits_FromBytes.l0]
    rw [if_neg (by omega), List.take_of_length_le (by omega)]
  | succ d ih =>
    intro i h
    have e : wrap64 ((i : Int) + 1) = ((i + 1 : Nat) : Int) := by rw [w64 (by omega) (by omega)]; rfl
    have h0 := bt_lo s i
    have h1 := bt_hi s i
    have eb : wrap64 (bt s i) = bt s i := w64 (by omega) (by omega)
    have efs : fromIntS (bt s i) 8 msb = strOfNums (fromIntL (bt s i) 8 msb) := rfl
    have e5 : fromBytesL ((bytesOf s).take i) msb ++ fromIntL (bt s i) 8 msb = fromBytesL ((bytesOf s).take (i + 1)) msb := by
      rw [take_snoc s i (by omega), fromBytesL_append]
      simp [fromBytesL]
    have hl : (fromBytesL ((bytesOf s).take i) msb).length + (strOfNums (fromIntL (bt s i) 8 msb)).size < 140737488355328 := by
      rw [fromBytesL_len, size_str, fromIntL_len, List.length_take]; omega
    refine Ev.step (f := fun k => (bits_FromInt.f k (wrap64 (bt s i)) 8 msb).bind fun t => _) (fun k => by
      simp only [bits_FromBytes.l0]; rw [if_pos (by omega), if_pos (by omega), if_pos (by omega)]; try rfl) ?_
    refine Ev.bind (ev_bits_FromInt _ 8 msb) ?_
    rw [eb, efs]
    have := ih (i + 1) (by omega)
    simp only [if_pos hl, bytes_str (fromIntL_bits _ _ _).byts, e, e5]
    exact this
theorem ev_bits_FromBytes (s : ByteArray) (msb : Bool) (hs : s.size ≤ 140737488351232) : Ev (fun k => bits_FromBytes.f k s msb) (fromBytesS s msb) := by
  unfold bits_FromBytes.f fromBytesS
  by_cases h : s.size > 8192
  · rw [if_pos h]
    refine Ev.now' fun k => ?_
    rw [if_pos (by omega)]
  · rw [if_neg h]
    refine Ev.congr (fun k => ?_) (ev_bits_FromBytes_l0 s msb (by omega) s.size 0 (by omega))
    have e : wrap64 (8 * (s.size : Int)) = ((8 * s.size : Nat) : Int) := by rw [w64 (by omega) (by omega)]; rfl
    rw [if_neg (by omega), e, if_pos (by omega), if_pos (by omega)]; rfl
theorem ev_ref_turn_l0 (s : ByteArray) (hs : s.size ≤ 140737488351232) : ∀ (d : Nat) (acc : List Int), d ≤ s.size → acc.length + d = s.size →
    Ev (fun k => signalbenchref03_turn.l0 k s acc ((d : Int) - 1)) (strOfNums (acc ++ ((bytesOf s).take d).reverse)) := by
  intro d
  induction d with
  | zero =>
    intro acc h1 h2
    refine Ev.stop fun k => ?_
    simp only [signalbenchref03_turn.l0]
    rw [if_neg (by omega)]; simp
  | succ d ih =>
    intro acc h1 h2
    have e0 : ((d + 1 : Nat) : Int) - 1 = (d : Int) := by omega
    have e : wrap64 ((d : Int) - 1) = (d : Int) - 1 := w64 (by omega) (by omega)
    have := ih (acc ++ [bt s d]) (by omega) (by simp; omega)
    rw [take_snoc s d (by omega), List.reverse_append, List.reverse_singleton, List.singleton_append]
    rw [List.append_assoc, List.singleton_append] at this
    refine Ev.step (fun k => ?_) this
    simp only [signalbenchref03_turn.l0]
    rw [e0, if_pos (by omega), if_pos (by omega), if_pos (by omega), if_pos (by omega), e]
theorem ev_ref_turn (s : ByteArray) (hs : s.size ≤ 140737488351232) : Ev (fun k => signalbenchref03_turn.f k s) (strOfNums (bytesOf s).reverse) := by
  unfold signalbenchref03_turn.f
  rw [w64 (by omega) (by omega)]
  have := ev_ref_turn_l0 s hs s.size [] (Nat.le_refl _) (by simp)
  rw [List.take_of_length_le (by rw [len_bytes]; exact Nat.le_refl _), List.nil_append] at this
  exact this
theorem ev_ref_FromInt_l0 (n : Int) (w : Nat) (msb : Bool) (hw : w ≤ 62) : ∀ (d i : Nat), i + d = w →
    Ev (fun k => signalbenchref03_FromInt.l0 k n (w : Int) msb (lsb n i) (i : Int)) (strOfNums (fromIntL n w msb)) := by
  intro d
  induction d with
  | zero =>
    intro i h
    have : i = w := by omega
    subst this
    cases msb with
    | true =>
      have hb := bytes_str (lsb_bits n i).byts
      have ht := ev_ref_turn (strOfNums (lsb n i)) (by rw [size_str, lsb_len]; omega)
      rw [hb] at ht
      refine Ev.step (fun k => ?_) (Ev.bind ht (Ev.now _))
      simp only [signalbenchref03_FromInt.l0, ↓reduceIte]
      rw [if_neg (by omega)]
    | false =>
      refine Ev.stop fun k => ?_
      simp only [signalbenchref03_FromInt.l0, ↓reduceIte, Bool.false_eq_true]
      rw [if_neg (by omega)]
      simp [fromIntL]
  | succ d ih =>
    intro i h
    have e : wrap64 ((i : Int) + 1) = ((i + 1 : Nat) : Int) := by rw [w64 (by omega) (by omega)]; rfl
    have hl := lsb_len n i
    refine Ev.step (fun k => ?_) (ih (i + 1) (by omega))
    simp only [signalbenchref03_FromInt.l0]
    rw [if_pos (by omega), if_pos (by omega), and_one, shr_eq n (i : Int) i rfl (by omega), e]
    by_cases hbit : n / 2 ^ i % 2 = 1
    · rw [if_pos hbit, if_pos (by omega), lsb, hbit]; rfl
    · rw [if_neg hbit, if_pos (by omega), lsb]
      have : n / 2 ^ i % 2 = 0 := by omega
      rw [this]
      rfl
theorem ev_ref_FromInt (n w : Int) (msb : Bool) : Ev (fun k => signalbenchref03_FromInt.f k n w msb) (fromIntS n w msb) := by
  unfold signalbenchref03_FromInt.f fromIntS
  have hemp : Ev (fun k => signalbenchref03_FromInt.j0 k n w msb true) (⟨#[]⟩ : ByteArray) := by
    refine Ev.stop fun k => ?_
    simp only [signalbenchref03_FromInt.j0, ↓reduceIte]
  by_cases h : w < 0
  · rw [if_pos h]
    refine Ev.congr (fun k => ?_) hemp
    rw [if_pos h]
  · rw [if_neg h]
    by_cases h2 : w > 62
    · rw [if_pos h2]
      refine Ev.congr (fun k => ?_) hemp
      rw [if_neg h, decide_eq_true h2]
    · rw [if_neg h2]
      obtain ⟨m, rfl⟩ := Int.eq_ofNat_of_zero_le (Int.not_lt.mp h)
      refine Ev.neg h ?_
      rw [decide_eq_false h2]
      refine Ev.step (fun k => signalbenchref03_FromInt.j0.eq_2 ..) ?_
      refine Ev.neg (by decide) ?_
      refine Ev.step (fun k => signalbenchref03_FromInt.j1.eq_2 ..) ?_
      exact ev_ref_FromInt_l0 n m msb (by omega) m 0 (by omega)
theorem ev_ref_FromBytes_l0 (s : ByteArray) (msb : Bool) (hs : s.size ≤ 8192) : ∀ (d i : Nat), i + d = s.size →
    Ev (fun k => signalbenchref03_FromBytes.l0 k s msb (fromBytesL ((bytesOf s).take i) msb) (i : Int)) (strOfNums (fromBytesL (bytesOf s) msb)) := by
  intro d
  have hlen := len_bytes s
  induction d with
  | zero =>
    intro i h
    refine Ev.stop fun k => ?_
    simp only [signalbenchref03_FromBytes.l0]
    rw [if_neg (by omega), List.take_of_length_le (by omega)]
  | succ d ih =>
    intro i h
    have e : wrap64 ((i : Int) + 1) = ((i + 1 : Nat) : Int) := by rw [w64 (by omega) (by omega)]; rfl
    have h0 := bt_lo s i
    have h1 := bt_hi s i
    have eb : wrap64 (bt s i) = bt s i := w64 (by omega) (by omega)
    have efs : fromIntS (bt s i) 8 msb = strOfNums (fromIntL (bt s i) 8 msb) := rfl
    have e5 : fromBytesL ((bytesOf s).take i) msb ++ fromIntL (bt s i) 8 msb = fromBytesL ((bytesOf s).take (i + 1)) msb := by
      rw [take_snoc s i (by omega), fromBytesL_append]
      simp [fromBytesL]
    have hl : (fromBytesL ((bytesOf s).take i) msb).length + (strOfNums (fromIntL (bt s i) 8 msb)).size < 140737488355328 := by
      rw [fromBytesL_len, size_str, fromIntL_len, List.length_take]; omega
    refine Ev.step (f := fun k => (signalbenchref03_FromInt.f k (wrap64 (bt s i)) 8 msb).bind fun t => _) (fun k => by
      simp only [signalbenchref03_FromBytes.l0]; rw [if_pos (by omega), if_pos (by omega)]; try rfl) ?_
    refine Ev.bind (ev_ref_FromInt _ 8 msb) ?_
    rw [eb, efs]
    have := ih (i + 1) (by omega)
    simp only [if_pos hl, bytes_str (fromIntL_bits _ _ _).byts, e, e5]
    exact this
theorem ev_ref_FromBytes (s : ByteArray) (msb : Bool) (hs : s.size ≤ 140737488351232) : Ev (fun k => signalbenchref03_FromBytes.f k s msb) (fromBytesS s msb) := by
  unfold signalbenchref03_FromBytes.f fromBytesS
  by_cases h : s.size > 8192
  · rw [if_pos h]
    refine Ev.now' fun k => ?_
    rw [if_pos (by omega)]
  · rw [if_neg h]
    refine Ev.congr (fun k => ?_) (ev_ref_FromBytes_l0 s msb (by omega) s.size 0 (by omega))
    rw [if_neg (by omega)]; rfl
/-- Is a configuration valid: the error, or 0. -/
def chkY (w : ByteArray) (n : Int) : Int := if vB w = true then (if w.size < 8 ∨ w.size > 32 ∨ n < 1 ∨ n > 256 then 2 else 0) else 4
theorem chkY_ok {w : ByteArray} {n : Int} (h : chkY w n = 0) : AllB (bytesOf w) ∧ 8 ≤ w.size ∧ w.size ≤ 32 ∧ 1 ≤ n ∧ n ≤ 256 := by
  unfold chkY at h
  split at h
  · rename_i hv
    split at h
    · omega
    · exact ⟨(vB_iff.mp hv).2, by omega, by omega, by omega, by omega⟩
  · omega
theorem ev_sync_Check (w : ByteArray) (n : Int) (m : Bool) : Ev (fun k => sync_Check.f k w n m) (chkY w n) := by
  unfold sync_Check.f chkY
  refine Ev.bind (ev_bits_Valid w) (Ev.ite (fun h => ?_) (fun h => ?_))
  · rw [if_pos h]
    refine Ev.now' fun _ => ?_
    repeat' split
    all_goals first | rfl | omega
  · rw [if_neg h]; exact Ev.now _
def itY (n : Int) (x : S46) : Int := if x.f0 < 0 ∨ x.f0 > 1048576 then 1 else if x.f3.size > 4096 then 6 else if (x.f3.size : Int) = n then (if x.f1 = 0 ∧ x.f2 = 0 ∧ x.f4 = 0 then 0 else 1) else 2
theorem itY_ok {n : Int} {x : S46} (h : itY n x = 0) : 0 ≤ x.f0 ∧ x.f0 ≤ 1048576 ∧ (x.f3.size : Int) = n ∧ x.f3.size ≤ 4096 ∧ x.f1 = 0 ∧ x.f2 = 0 ∧ x.f4 = 0 := by
  unfold itY at h
  split at h
  · omega
  · split at h
    · omega
    · split at h
      · split at h
        · rename_i h1 h2 h3 h4; exact ⟨by omega, by omega, h3, by omega, h4⟩
        · omega
      · omega
def outY (w : ByteArray) (m : Bool) (x : S46) : S46 := ⟨x.f0, 0, 0, w ++ fromBytesS x.f3 m, 0⟩
def encY (w : ByteArray) (n : Int) (m : Bool) : List S46 → List S46 → List S46 × Int
  | out, [] => (out, 0)
  | out, x :: l => if itY n x = 0 then encY w n m (out ++ [outY w m x]) l else ([], itY n x)
def encodeY (w : ByteArray) (n : Int) (m : Bool) (l : List S46) : List S46 × Int := if chkY w n = 0 then (if l.length > 1024 then ([], 6) else encY w n m [] l) else ([], chkY w n)
theorem encY_len (w : ByteArray) (n : Int) (m : Bool) : ∀ (l out : List S46), (encY w n m out l).1.length ≤ out.length + l.length
  | [], _ => by simp [encY]
  | x :: l, out => by
    unfold encY
    split
    · have := encY_len w n m l (out ++ [outY w m x]); simp at this ⊢; omega
    · simp
theorem encodeY_len (w : ByteArray) (n : Int) (m : Bool) (l : List S46) : (encodeY w n m l).1.length ≤ 1024 := by
  unfold encodeY
  split
  · split
    · simp
    · have := encY_len w n m l []; simp at this; omega
  · simp
theorem ev_sync_Encode (w : ByteArray) (n : Int) (m : Bool) (l : List S46) : Ev (fun k => sync_Encode.f k w n m l) (encodeY w n m l) := by
  unfold sync_Encode.f encodeY
  refine Ev.bind (ev_sync_Check w n m) (Ev.ite (fun hc => ?_) (fun hc => ?_))
  case refine_2 => rw [if_neg hc]; exact Ev.now _
  rw [if_pos hc]
  obtain ⟨_, hw1, hw2, _⟩ := chkY_ok hc
  refine Ev.step (fun k => sync_Encode.j0.eq_2 ..) ?_
  refine Ev.ite (fun hl => ?_) (fun hl => ?_)
  · rw [if_pos (by omega)]; exact Ev.now _
  rw [if_neg (by omega)]
  refine Ev.step (fun k => sync_Encode.j1.eq_2 ..) ?_
  refine Ev.pos (by omega) (Ev.pos (by omega) ?_)
  have key : ∀ (q pre out : List S46) (i : Nat), l = pre ++ q → i = pre.length → out.length = i → Ev (fun k => sync_Encode.l0 k out l (l.length : Int) (i : Int) w n m) (encY w n m out q) := by
    intro q
    induction q with
    | nil =>
      intro pre out i he hi ho
      rw [List.append_nil] at he
      have hi' : i = l.length := by rw [hi, he]
      clear he
      refine Ev.step (fun k => sync_Encode.l0.eq_2 ..) ?_
      exact Ev.neg (by omega) (Ev.now _)
    | cons x q ih =>
      intro pre out i he hi ho
      have hlen : l.length = i + (q.length + 1) := by rw [he, hi, List.length_append, List.length_cons]
      have hx : rd_T46 l (i : Int) = x := by rw [he]; exact rdI_mid pre x q i hi
      have ih2 := ih (pre ++ [x]) (out ++ [outY w m x]) (i + 1) (by rw [he]; simp) (by simp [hi]) (by simp [ho])
      clear ih he
      have hyes : itY n x = 1 → Ev (fun k => sync_Encode.j4 k out l (l.length : Int) (i : Int) true w n m x.f0 x.f1 x.f2 x.f3 x.f4) (encY w n m out (x :: q)) := by
        intro h
        rw [encY, if_neg (by omega), h]
        refine Ev.step (fun k => sync_Encode.j4.eq_2 ..) ?_
        exact Ev.pos rfl (Ev.now _)
      refine Ev.step (fun k => sync_Encode.l0.eq_2 ..) ?_
      refine Ev.pos (by omega) ?_
      refine Ev.step (fun k => sync_Encode.j3.eq_2 ..) ?_
      rw [hx]
      refine Ev.pos (by omega) (Ev.pos (by omega) (Ev.ite (fun h0 => hyes (by unfold itY; rw [if_pos (.inl h0)])) (fun h0 => ?_)))
      by_cases h1 : x.f0 > 1048576
      · rw [decide_eq_true h1]; exact hyes (by unfold itY; rw [if_pos (.inr h1)])
      rw [decide_eq_false h1]
      have hor : ¬ (x.f0 < 0 ∨ x.f0 > 1048576) := by omega
      refine Ev.step (fun k => sync_Encode.j4.eq_2 ..) ?_
      rw [wnat (by omega)]
      refine Ev.neg (by decide) ?_
      by_cases h2 : x.f3.size > 4096
      · rw [encY, show itY n x = 6 by unfold itY; rw [if_neg hor, if_pos h2]]
        exact Ev.pos (by omega) (Ev.now _)
      refine Ev.neg (by omega) (Ev.ite (fun h3 => ?_) (fun h3 => ?_))
      case refine_2 =>
        rw [encY, show itY n x = 2 by unfold itY; rw [if_neg hor, if_neg h2, if_neg h3]]
        exact Ev.now _
      by_cases h4 : x.f1 = 0 ∧ x.f2 = 0 ∧ x.f4 = 0
      · rw [encY, if_pos (show itY n x = 0 by unfold itY; rw [if_neg hor, if_neg h2, if_pos h3, if_pos h4])]
        have hsz := fromBytesS_size x.f3 m (by omega)
        exact Ev.pos h4.1 (Ev.pos h4.2.1 (Ev.pos h4.2.2 (Ev.bind (ev_bits_FromBytes x.f3 m (by omega)) (Ev.pos (by omega) (Ev.pos (by omega) ih2)))))
      · rw [encY, show itY n x = 1 by unfold itY; rw [if_neg hor, if_neg h2, if_pos h3, if_neg h4]]
        refine Ev.now' fun _ => ?_
        repeat' split
        all_goals first | rfl | (exfalso; omega) | (exfalso; exact h4 ⟨by assumption, by assumption, by assumption⟩)
  exact key l [] [] 0 rfl rfl rfl
theorem ev_ref21_Check (w : ByteArray) (n : Int) (m : Bool) : Ev (fun k => signalbenchref21_Check.f k w n m) (chkY w n) := by
  unfold signalbenchref21_Check.f chkY
  refine Ev.bind (ev_ref_Valid w) (Ev.ite (fun h => ?_) (fun h => ?_))
  · rw [if_pos h]
    refine Ev.now' fun _ => ?_
    repeat' split
    all_goals first | rfl | omega
  · rw [if_neg h]; exact Ev.now _
theorem ev_ref21_Encode (w : ByteArray) (n : Int) (m : Bool) (l : List S46) : Ev (fun k => signalbenchref21_Encode.f k w n m l) (encodeY w n m l) := by
  unfold signalbenchref21_Encode.f encodeY
  refine Ev.bind (ev_ref21_Check w n m) (Ev.ite (fun hc => ?_) (fun hc => ?_))
  case refine_2 => rw [if_neg hc]; exact Ev.now _
  rw [if_pos hc]
  obtain ⟨_, hw1, hw2, _⟩ := chkY_ok hc
  refine Ev.step (fun k => signalbenchref21_Encode.j0.eq_2 ..) ?_
  refine Ev.ite (fun hl => ?_) (fun hl => ?_)
  · rw [if_pos (by omega)]; exact Ev.now _
  rw [if_neg (by omega)]
  refine Ev.step (fun k => signalbenchref21_Encode.j1.eq_2 ..) ?_
  have key : ∀ (q pre out : List S46) (i : Nat), l = pre ++ q → i = pre.length → out.length = i → Ev (fun k => signalbenchref21_Encode.l0 k l out (i : Int) w n m) (encY w n m out q) := by
    intro q
    induction q with
    | nil =>
      intro pre out i he hi ho
      rw [List.append_nil] at he
      have hi' : i = l.length := by rw [hi, he]
      clear he
      refine Ev.step (fun k => signalbenchref21_Encode.l0.eq_2 ..) ?_
      exact Ev.neg (by omega) (Ev.now _)
    | cons x q ih =>
      intro pre out i he hi ho
      have hlen : l.length = i + (q.length + 1) := by rw [he, hi, List.length_append, List.length_cons]
      have hx : rd_T46 l (i : Int) = x := by rw [he]; exact rdI_mid pre x q i hi
      have ih2 := ih (pre ++ [x]) (out ++ [outY w m x]) (i + 1) (by rw [he]; simp) (by simp [hi]) (by simp [ho])
      clear ih he
      have hyes : itY n x = 1 → Ev (fun k => signalbenchref21_Encode.j4 k l out (i : Int) true w n m x.f0 x.f1 x.f2 x.f3 x.f4) (encY w n m out (x :: q)) := by
        intro h
        rw [encY, if_neg (by omega), h]
        refine Ev.step (fun k => signalbenchref21_Encode.j4.eq_2 ..) ?_
        exact Ev.pos rfl (Ev.now _)
      refine Ev.step (fun k => signalbenchref21_Encode.l0.eq_2 ..) ?_
      refine Ev.pos (by omega) ?_
      refine Ev.step (fun k => signalbenchref21_Encode.j3.eq_2 ..) ?_
      rw [hx]
      refine Ev.pos (by omega) (Ev.pos (by omega) (Ev.ite (fun h0 => hyes (by unfold itY; rw [if_pos (.inl h0)])) (fun h0 => ?_)))
      by_cases h1 : x.f0 > 1048576
      · rw [decide_eq_true h1]; exact hyes (by unfold itY; rw [if_pos (.inr h1)])
      rw [decide_eq_false h1]
      have hor : ¬ (x.f0 < 0 ∨ x.f0 > 1048576) := by omega
      refine Ev.step (fun k => signalbenchref21_Encode.j4.eq_2 ..) ?_
      rw [wnat (by omega)]
      refine Ev.neg (by decide) ?_
      by_cases h2 : x.f3.size > 4096
      · rw [encY, show itY n x = 6 by unfold itY; rw [if_neg hor, if_pos h2]]
        exact Ev.pos (by omega) (Ev.now _)
      refine Ev.neg (by omega) (Ev.ite (fun h3 => ?_) (fun h3 => ?_))
      case refine_2 =>
        rw [encY, show itY n x = 2 by unfold itY; rw [if_neg hor, if_neg h2, if_neg h3]]
        exact Ev.now _
      by_cases h4 : x.f1 = 0 ∧ x.f2 = 0 ∧ x.f4 = 0
      · rw [encY, if_pos (show itY n x = 0 by unfold itY; rw [if_neg hor, if_neg h2, if_pos h3, if_pos h4])]
        have hsz := fromBytesS_size x.f3 m (by omega)
        exact Ev.pos h4.1 (Ev.pos h4.2.1 (Ev.pos h4.2.2 (Ev.bind (ev_ref_FromBytes x.f3 m (by omega)) (Ev.pos (by omega) (Ev.pos (by omega) ih2)))))
      · rw [encY, show itY n x = 1 by unfold itY; rw [if_neg hor, if_neg h2, if_pos h3, if_neg h4]]
        refine Ev.now' fun _ => ?_
        repeat' split
        all_goals first | rfl | (exfalso; omega) | (exfalso; exact h4 ⟨by assumption, by assumption, by assumption⟩)
  exact key l [] [] 0 rfl rfl rfl
/-- The law's measure of items: how many bytes they hold. -/
def sizesI : List S46 → Nat
  | [] => 0
  | x :: l => x.f3.size + sizesI l
def fewI (l : List S46) : Bool := decide (l.length ≤ 1100) && decide (sizesI l ≤ 20000)
theorem ev_few (l : List S46) (hs : ∀ x ∈ l, x.f3.size ≤ 140737488351232) : Ev (fun k => signalbenchlaw21_few.f k l) (fewI l) := by
  unfold signalbenchlaw21_few.f fewI
  refine Ev.ite (fun h => ?_) (fun h => ?_)
  · rw [decide_eq_false (by omega), Bool.false_and]; exact Ev.now _
  rw [decide_eq_true (show l.length ≤ 1100 by omega), Bool.true_and]
  refine Ev.step (fun k => signalbenchlaw21_few.j0.eq_2 ..) ?_
  have key : ∀ (m pre : List S46) (n i : Nat), l = pre ++ m → i = pre.length → n ≤ 20000 → Ev (fun k => signalbenchlaw21_few.l0 k l (n : Int) (i : Int)) (decide (n + sizesI m ≤ 20000)) := by
    intro m
    induction m with
    | nil =>
      intro pre n i he hi hn
      rw [List.append_nil] at he
      refine Ev.step (fun k => signalbenchlaw21_few.l0.eq_2 ..) ?_
      rw [sizesI, decide_eq_true (by omega)]
      exact Ev.neg (by rw [he]; omega) (Ev.now _)
    | cons x m ih =>
      intro pre n i he hi hn
      have hlen : l.length = i + (m.length + 1) := by rw [he, hi, List.length_append, List.length_cons]
      have hx : rd_T46 l (i : Int) = x := by rw [he]; exact rdI_mid pre x m i hi
      have hxs := hs x (by rw [he]; simp)
      have ih2 := ih (pre ++ [x]) (n + x.f3.size) (i + 1) (by rw [he]; simp) (by simp [hi])
      clear ih he
      refine Ev.step (fun k => signalbenchlaw21_few.l0.eq_2 ..) ?_
      rw [hx, wnat (by omega), w64 (x := (n : Int) + (x.f3.size : Int)) (by omega) (by omega), sizesI]
      refine Ev.pos (by omega) (Ev.pos (by omega) (Ev.ite (fun hb => ?_) (fun hb => ?_)))
      · rw [decide_eq_false (by omega)]; exact Ev.now _
      · have := ih2 (by omega)
        rw [Nat.add_assoc] at this
        exact this
  have := key l [] 0 0 rfl rfl (by omega)
  rwa [Nat.zero_add] at this
theorem ev_sameItems (l : List S46) (hl : l.length < 2199023255552) : Ev (fun k => signalbenchlaw21_sameItems.f k l l) true := by
  unfold signalbenchlaw21_sameItems.f
  refine Ev.pos rfl ?_
  refine Ev.step (fun k => signalbenchlaw21_sameItems.j0.eq_2 ..) ?_
  have key : ∀ (d i : Nat), i + d = l.length → Ev (fun k => signalbenchlaw21_sameItems.l0 k l l (i : Int)) true := by
    intro d
    induction d with
    | zero =>
      intro i h
      refine Ev.step (fun k => signalbenchlaw21_sameItems.l0.eq_2 ..) ?_
      exact Ev.neg (by omega) (Ev.now _)
    | succ d ih =>
      intro i h
      refine Ev.step (fun k => signalbenchlaw21_sameItems.l0.eq_2 ..) ?_
      rw [wnat (by omega)]
      exact Ev.pos (by omega) (Ev.pos (by omega) (Ev.pos (by omega) (Ev.neg (by simp) (ih (i + 1) (by omega)))))
  exact key l.length 0 (by omega)
theorem ev_lives : Ev (fun k => signalbenchlaw21_lives.f k) true := by
  refine Ev.of (fun k => signalbenchlaw21_lives.mono k) (k := 120) ?_
  decide +kernel
theorem main : signalbenchlaw21_SyncEncodes.Pure := by
  intro w n m l _ _ _ _ hl
  refine Ev.rounds (g := fun k => signalbenchlaw21_SyncEncodes.f k w n m l) ?_
  unfold signalbenchlaw21_SyncEncodes.f
  refine Ev.bind ev_lives (Ev.pos rfl ?_)
  have hj : Ev (fun k => signalbenchlaw21_SyncEncodes.j1 k l true w n m) true := by
    refine Ev.step (fun k => signalbenchlaw21_SyncEncodes.j1.eq_2 ..) ?_
    exact Ev.pos rfl (Ev.now _)
  refine Ev.step (fun k => signalbenchlaw21_SyncEncodes.j0.eq_2 ..) ?_
  refine Ev.bind (ev_few l (fun x hx => (hl x hx).2.2.2.1)) (Ev.ite (fun hf => ?_) (fun hf => hj))
  by_cases hb : (w.size : Int) > 70000
  · rw [decide_eq_true hb]; exact hj
  rw [decide_eq_false hb]
  have hlen := encodeY_len w n m l
  refine Ev.step (fun k => signalbenchlaw21_SyncEncodes.j1.eq_2 ..) ?_
  exact Ev.neg (by decide) (Ev.bind (ev_sync_Encode w n m l) (Ev.bind (ev_ref21_Encode w n m l) (Ev.bind (ev_sync_Check w n m) (Ev.bind (ev_ref21_Check w n m) (Ev.pos rfl (Ev.pos rfl (Ev.bind (ev_sameItems _ (by omega)) (Ev.now true))))))))
end SyncEncodes_
theorem SyncEncodes : signalbenchlaw21_SyncEncodes.Pure := SyncEncodes_.main
end Go.Proofs.Ytbggkaofkohecaa.Pure
