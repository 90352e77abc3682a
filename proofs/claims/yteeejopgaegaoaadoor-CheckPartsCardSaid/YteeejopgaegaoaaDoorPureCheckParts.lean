/- The law CheckParts holds as a statement on numbers and lists: the CRC of bytes is that of their bits, and the sums of two parts make those of the whole. No condition beyond those of the statement. -/
import Derived.Test.YteeejopgaegaoaaDoorPCheckPartsx6
import Derived.Test.YteeejopgaegaoaaDoorSpecCrc
namespace Go.Proofs.YteeejopgaegaoaaDoor.Pure
open Go.RowKit Go.Proofs.YteeejopgaegaoaaDoor.PCheckParts Go.Proofs.YteeejopgaegaoaaDoorW.PrintWords Go.Proofs.YteeejopgaegaoaaDoorW.PrintLast Go.Proofs.YteeejopgaegaoaaDoor.Aid
set_option linter.unusedVariables false
set_option linter.unusedSimpArgs false
namespace CheckParts_
theorem ev_bits_Valid_l0 (s : ByteArray) (hs : s.size ≤ 65536) : ∀ (d i : Nat), i + d = s.size → Ev (fun k => bits_Valid.l0 k s (s.size : Int) (i : Int)) (((bytesOf s).drop i).all isB) := by
  intro d
  induction d with
  | zero =>
    intro i h
    refine Ev.stop fun k => ?_
    simp only [bits_Valid.l0]
    rw [if_neg (by omega), drop_end s i (by omega)]; rfl
  | succ d ih =>
    intro i h
    have e : wrap64 ((i : Int) + 1) = ((i + 1 : Nat) : Int) := by rw [w64 (by omega) (by omega)]; rfl
    rw [drop_cons s i (by omega), List.all_cons]
    by_cases h48 : bt s i = 48
    · have e2 : isB (bt s i) = true := isB_iff.mpr (.inl h48)
      rw [e2, Bool.true_and]
      refine Ev.step (fun k => ?_) (ih (i + 1) (by omega))
      simp only [bits_Valid.l0]
      rw [if_pos (by omega), if_pos (by omega), if_pos (by omega), if_pos h48, e]
    · by_cases h49 : bt s i = 49
      · have e2 : isB (bt s i) = true := isB_iff.mpr (.inr h49)
        rw [e2, Bool.true_and]
        refine Ev.step (fun k => ?_) (ih (i + 1) (by omega))
        simp only [bits_Valid.l0]
        rw [if_pos (by omega), if_pos (by omega), if_pos (by omega), if_neg h48, if_pos h49, e]
      · have e2 : isB (bt s i) = false := by simp [isB, h48, h49]
        rw [e2, Bool.false_and]
        refine Ev.stop fun k => ?_
        simp only [bits_Valid.l0]
        rw [if_pos (by omega), if_pos (by omega), if_pos (by omega), if_neg h48, if_neg h49]
theorem ev_bits_Valid (s : ByteArray) : Ev (fun k => bits_Valid.f k s) (vB s) := by
  unfold bits_Valid.f vB
  by_cases h : s.size ≤ 65536
  · rw [decide_eq_true h, Bool.true_and]
    refine Ev.congr (fun k => by rw [if_neg (by omega)]) ?_
    exact Ev.step (fun k => by simp only [bits_Valid.j0]; rfl) (ev_bits_Valid_l0 s h s.size 0 (by omega))
  · rw [decide_eq_false h, Bool.false_and]
    refine Ev.now' fun k => ?_
    rw [if_pos (by omega)]
theorem ev_check_Right (w p i x : Int) (refl : Bool) : Ev (fun k => check_Right.f k w p i x refl) (rightC w p i x) := by
  have hyes : 1 ≤ w ∧ w ≤ 32 → False → Ev (fun k => check_Right.j0 k true w p i x refl) (rightC w p i x) := fun _ h => h.elim
  have hj : ¬ (1 ≤ w ∧ w ≤ 32) → Ev (fun k => check_Right.j0 k true w p i x refl) (rightC w p i x) := by
    intro h
    have e : rightC w p i x = false := by unfold rightC; rw [decide_eq_false (by omega)]
    rw [e]
    refine Ev.step (fun k => check_Right.j0.eq_2 ..) ?_
    exact Ev.pos rfl (Ev.now _)
  clear hyes
  unfold check_Right.f
  refine Ev.ite (fun h1 => hj (by omega)) (fun h1 => ?_)
  by_cases h2 : w > 32
  · rw [decide_eq_true h2]; exact hj (by omega)
  rw [decide_eq_false h2]
  obtain ⟨n, rfl⟩ := Int.eq_ofNat_of_zero_le (show 0 ≤ w by omega)
  have hle := pow2_le32 (show n ≤ 32 by omega)
  have hp := pow2_pos n
  refine Ev.step (fun k => check_Right.j0.eq_2 ..) ?_
  refine Ev.neg (by decide) (Ev.pos (by omega) (Ev.now' fun _ => ?_))
  rw [shl_one (by omega), w64 (x := 2 ^ n - 1) (by omega) (by omega)]
  unfold rightC
  rw [Int.toNat_natCast]
  repeat' split
  all_goals first
    | (rw [decide_eq_false (by omega)])
    | (congr 1; rw [Int.tmod_eq_emod_of_nonneg (by omega), Bool.eq_iff_iff, beq_iff_eq, decide_eq_true_iff]; omega)
theorem check_shift {w p i x : Nat} (C : Crc w p i x) (refl : Bool) {r b : Nat} (hr : r < 2 ^ w) : check_shift.f (w : Int) p i x refl r b = some ((stepC w p r b : Nat) : Int) := by
  have hw := C.w1
  have hw2 := C.w2
  have hle := pow2_le32 hw2
  have hln := npow_le32 hw2
  have hpp := pow2_pos w
  have hP := C.hp
  have ht := top_lt hw hr
  have e1 : wrap64 ((w : Int) - 1) = ((w - 1 : Nat) : Int) := by rw [w64 (by omega) (by omega)]; omega
  have e2 : Go.bits .and .i64 (shr .i64 (r : Int) ((w - 1 : Nat) : Int)) 1 = ((r / 2 ^ (w - 1) : Nat) : Int) := by
    rw [nshr _ (by omega), and_one]
    generalize r / 2 ^ (w - 1) = z at ht
    omega
  have e3 : wrap64 ((r : Int) * 2) = ((2 * r : Nat) : Int) := by rw [w64 (by omega) (by omega)]; omega
  have hm : 2 * r % 2 ^ w < 2 ^ w := Nat.mod_lt _ (npow_pos w)
  unfold check_shift.f stepC
  rw [e1, if_pos (by omega), if_pos (by omega), e2, e3, shl_one (by omega), w64 (x := 2 ^ w - 1) (by omega) (by omega), nmask w (by omega) (by omega), nxor (by omega) (by omega)]
  by_cases h : r / 2 ^ (w - 1) = b
  · rw [if_pos h, if_pos (by rw [h])]
  · rw [if_neg h, if_neg (fun e => h (by exact_mod_cast e))]
theorem ev_check_finish {w p i x : Nat} (C : Crc w p i x) (refl : Bool) {r : Nat} (hr : r < 2 ^ w) : Ev (fun k => check_finish.f k (w : Int) p i x refl r) ((finC w x refl r : Nat) : Int) := by
  have hw2 := C.w2
  have hln := npow_le32 hw2
  have hX := C.hx
  have key : ∀ (d j acc q : Nat), j + d = w → acc < 2 ^ j → q < 4294967296 → Ev (fun k => check_finish.l0 k (q : Int) (acc : Int) (w : Int) (j : Int) (w : Int) p i x refl) ((revN d acc q ^^^ x : Nat) : Int) := by
    intro d
    induction d with
    | zero =>
      intro j acc q hj ha hq
      have hb : 2 ^ j ≤ 4294967296 := npow_le32 (by omega)
      refine Ev.step (fun k => check_finish.l0.eq_2 ..) ?_
      rw [nxor (by omega) (by omega)]
      exact Ev.neg (by omega) (Ev.now _)
    | succ d ih =>
      intro j acc q hj ha hq
      have hb : 2 ^ j ≤ 4294967296 := npow_le32 (by omega)
      have e1 : (q : Int) / 2 = ((q / 2 : Nat) : Int) := by omega
      have e2 : Go.bits .and .i64 (q : Int) 1 = ((q % 2 : Nat) : Int) := by rw [and_one]; omega
      have e3 : wrap64 ((acc : Int) * 2) = (acc : Int) * 2 ^ 1 := by rw [w64 (by omega) (by omega)]; omega
      have e4 : Go.bits .or .i64 ((acc : Int) * 2 ^ 1) ((q % 2 : Nat) : Int) = ((2 * acc + q % 2 : Nat) : Int) := by
        rw [or_add 1 (by omega) (by omega) (by omega) (by omega)]; omega
      refine Ev.step (fun k => check_finish.l0.eq_2 ..) ?_
      rw [e1, e2, e3, e4, wnat (by omega)]
      refine Ev.pos (by omega) (ih (j + 1) _ _ (by omega) ?_ (by omega))
      rw [Nat.pow_succ]; omega
  unfold check_finish.f finC
  cases refl
  · rw [nxor (by omega) (by omega)]
    exact Ev.neg (by decide) (Ev.now _)
  · exact Ev.pos rfl (key w 0 0 r (by omega) (by decide) (by omega))
theorem bit_nat {b : Int} (h : b = 48 ∨ b = 49) : (b - 48) % 256 = (((b - 48).toNat : Nat) : Int) := by omega
theorem ev_check_Bits_l1 {w p i x : Nat} (C : Crc w p i x) (refl : Bool) (s : ByteArray) (hs : s.size ≤ 65536) : ∀ (l pre : List Int) (r j : Nat), bytesOf s = pre ++ l → j = pre.length → AllB l → r < 2 ^ w →
    Ev (fun k => check_Bits.l1 k s (r : Int) (s.size : Int) (j : Int) (w : Int) p i x refl) (((finC w x refl (runC w p r l) : Nat) : Int), 0) := by
  have hlen := len_bytes s
  intro l
  induction l with
  | nil =>
    intro pre r j he hj hb hr
    rw [List.append_nil] at he
    rw [he] at hlen
    refine Ev.step (fun k => check_Bits.l1.eq_2 ..) ?_
    rw [runC]
    exact Ev.neg (by omega) (Ev.bind (ev_check_finish C refl hr) (Ev.now _))
  | cons b l ih =>
    intro pre r j he hj hb hr
    obtain ⟨hb1, hb⟩ := AllB.cons_iff.mp hb
    have hl : s.size = j + (l.length + 1) := by rw [← hlen, he, hj, List.length_append, List.length_cons]
    have hbt : bt s (j : Int) = b := by rw [bt_get s j (by omega)]; simp [he, hj]
    refine Ev.step (fun k => check_Bits.l1.eq_2 ..) ?_
    rw [hbt, wnat (by omega), bit_nat hb1, check_shift C refl hr, runC]
    exact Ev.pos (by omega) (Ev.pos (by omega) (Ev.pos (by omega) (Ev.sbind (ih (pre ++ [b]) _ (j + 1) (by rw [he]; simp) (by simp [hj]) hb (stepC_lt C r _)))))
theorem ev_check_Bits_l0 (w p i x : Int) (refl : Bool) (s : ByteArray) (hs : s.size ≤ 140737488355328) (res : Int × Int) : ∀ (l pre : List Int) (j : Nat), bytesOf s = pre ++ l → j = pre.length → (l.all isB = true → Ev (fun k => (bits_Valid.f k s).bind fun t => (if t = true then (check_Bits.j2 k s w p i x refl) else (some (0, 6)))) res) → (l.all isB = false → res = (0, 4)) →
    Ev (fun k => check_Bits.l0 k s (s.size : Int) (j : Int) w p i x refl) res := by
  have hlen := len_bytes s
  intro l
  induction l with
  | nil =>
    intro pre j he hj h0 h1
    rw [List.append_nil] at he
    rw [he] at hlen
    refine Ev.step (fun k => check_Bits.l0.eq_2 ..) ?_
    exact Ev.neg (by omega) (h0 rfl)
  | cons b l ih =>
    intro pre j he hj h0 h1
    have hl : s.size = j + (l.length + 1) := by rw [← hlen, he, hj, List.length_append, List.length_cons]
    have hbt : bt s (j : Int) = b := by rw [bt_get s j (by omega)]; simp [he, hj]
    rw [List.all_cons] at h0 h1
    have hnext : isB b = true → Ev (fun k => check_Bits.l0 k s (s.size : Int) ((j + 1 : Nat) : Int) w p i x refl) res := by
      intro hb
      rw [hb, Bool.true_and] at h0 h1
      exact ih (pre ++ [b]) (j + 1) (by rw [he]; simp) (by simp [hj]) h0 h1
    refine Ev.step (fun k => check_Bits.l0.eq_2 ..) ?_
    rw [hbt, wnat (by omega)]
    refine Ev.pos (by omega) (Ev.pos (by omega) (Ev.pos (by omega) (Ev.ite (fun h48 => hnext (isB_iff.mpr (.inl h48))) (fun h48 => Ev.ite (fun h49 => hnext (isB_iff.mpr (.inr h49))) (fun h49 => ?_)))))
    have e2 : isB b = false := by simp [isB, h48, h49]
    rw [h1 (by rw [e2, Bool.false_and])]
    exact Ev.now _
theorem ev_check_Bits (w p i x : Int) (refl : Bool) (s : ByteArray) (hs : s.size ≤ 140737488355328) : Ev (fun k => check_Bits.f k w p i x refl s) (bitsC w p i x refl s) := by
  unfold check_Bits.f bitsC
  refine Ev.bind (ev_check_Right w p i x refl) (Ev.ite (fun hc => ?_) (fun hc => ?_))
  case refine_2 => rw [if_neg hc]; exact Ev.now _
  rw [if_pos hc]
  obtain ⟨W, P, I, X, rfl, rfl, rfl, rfl, C⟩ := rightC_ok hc
  refine Ev.step (fun k => check_Bits.j0.eq_2 ..) ?_
  refine ev_check_Bits_l0 _ _ _ _ refl s hs _ (bytesOf s) [] 0 rfl rfl (fun hb => ?_) (fun hb => by rw [hb]; rfl)
  rw [if_pos hb]
  refine Ev.bind (ev_bits_Valid s) ?_
  unfold vB
  rw [hb, Bool.and_true]
  by_cases hl : s.size ≤ 65536
  · rw [if_pos hl, decide_eq_true hl]
    refine Ev.pos rfl ?_
    refine Ev.step (fun k => check_Bits.j2.eq_2 ..) ?_
    exact ev_check_Bits_l1 C refl s hl (bytesOf s) [] I 0 rfl rfl (all_isB.mp hb) C.hi
  · rw [if_neg hl, decide_eq_false hl]
    exact Ev.neg (by decide) (Ev.now _)
theorem and1_u8 (x : Int) (h0 : 0 ≤ x) (h1 : x < 256) : Go.bits .and .u8 x 1 = x % 2 := by
  have g : ∀ y : Int, 0 ≤ y → y < 256 → (BitVec.ofInt 8 y).toNat = y.toNat := fun y a b => by rw [BitVec.toNat_ofInt]; show ((y % ((256 : Nat) : Int)).toNat) = y.toNat; omega
  have h : (BitVec.ofInt 8 x &&& BitVec.ofInt 8 1).toNat = (x % 2).toNat := by
    rw [BitVec.toNat_and, g x h0 h1, g 1 (by omega) (by omega)]
    show _ &&& 1 = _
    rw [Nat.and_one_is_mod]
    omega
  show IntKind.u8.wrap ((BitVec.ofInt 8 x &&& BitVec.ofInt 8 1).toNat : Int) = _
  rw [h]
  show (((x % 2).toNat : Int)) % 256 = _
  omega
theorem shr_u8 (x y : Int) (n : Nat) (hy : y = (n : Int)) (hn : n ≤ 8) : shr .u8 x y = x / 2 ^ n := by
  subst hy
  unfold shr
  have : min ((n : Int).toNat) IntKind.u8.bits = n := by
    show min ((n : Int).toNat) 8 = n
    rw [Int.toNat_natCast]; omega
  rw [this]
theorem div_bd {b : Int} (h0 : 0 ≤ b) (h1 : b < 256) (n : Nat) : 0 ≤ b / 2 ^ n ∧ b / 2 ^ n < 256 := by
  have hp := pow2_pos n
  refine ⟨Int.ediv_nonneg h0 (by omega), ?_⟩
  exact Int.lt_of_le_of_lt (Int.ediv_le_self _ h0) h1
theorem fromInt_drop (b : Int) (msb : Bool) (k : Nat) (h : k < 8) : (fromIntL b 8 msb).drop k = (48 + b / 2 ^ (if msb = true then 7 - k else k) % 2) :: (fromIntL b 8 msb).drop (k + 1) := by
  have hl : k < (fromIntL b 8 msb).length := by rw [fromIntL_len]; exact h
  rw [List.drop_eq_getElem_cons hl, fromIntL_get]
theorem ev_check_Bytes_l1 {w p i x : Nat} (C : Crc w p i x) (refl : Bool) (s : ByteArray) (hs : s.size ≤ 8192) (j : Nat) (hj : j < s.size) (res : Int × Int) (b : Int) (hb : bt s (j : Int) = b) (h0 : 0 ≤ b) (h1 : b < 256) : ∀ (d k' r : Nat), k' + d = 8 → r < 2 ^ w →
    Ev (fun k => check_Bytes.l0 k s ((runC w p r ((fromIntL b 8 (!refl)).drop k') : Nat) : Int) (s.size : Int) ((j + 1 : Nat) : Int) (w : Int) p i x refl) res → Ev (fun k => check_Bytes.l1 k s (r : Int) (j : Int) (s.size : Int) (j : Int) (k' : Int) (w : Int) p i x refl) res := by
  intro d
  induction d with
  | zero =>
    intro k' r hk hr h
    obtain rfl : k' = 8 := by omega
    rw [List.drop_of_length_le (by rw [fromIntL_len]; omega), runC] at h
    refine Ev.step (fun k => check_Bytes.l1.eq_2 ..) ?_
    rw [wnat (i := j) (by omega)]
    exact Ev.neg (by omega) h
  | succ d ih =>
    intro k' r hk hr h
    rw [fromInt_drop b (!refl) k' (by omega), runC] at h
    have ebit : ∀ (n : Nat), n ≤ 7 → wrap64 (Go.bits .and .u8 (shr .u8 b (n : Int)) 1) = (((b / 2 ^ n % 2).toNat : Nat) : Int) := by
      intro n hn
      have hd := div_bd h0 h1 n
      rw [shr_u8 _ _ n rfl (by omega), and1_u8 _ hd.1 hd.2]
      generalize b / 2 ^ n = z at hd
      rw [w64 (by omega) (by omega)]; omega
    have e7 : wrap64 (7 - (k' : Int)) = ((7 - k' : Nat) : Int) := by rw [w64 (by omega) (by omega)]; omega
    refine Ev.step (fun k => check_Bytes.l1.eq_2 ..) ?_
    rw [hb, wnat (i := k') (by omega), e7, ebit k' (by omega), ebit (7 - k') (by omega), check_shift C refl hr, check_shift C refl hr]
    have h48 : ∀ z : Int, (48 + z - 48).toNat = z.toNat := fun z => by congr 1; omega
    rw [h48] at h
    cases refl
    · exact Ev.pos (by omega) (Ev.neg (by decide) (Ev.pos (by omega) (Ev.pos (by omega) (Ev.pos (by omega) (Ev.sbind (ih (k' + 1) _ (by omega) (stepC_lt C r _) h))))))
    · exact Ev.pos (by omega) (Ev.pos rfl (Ev.pos (by omega) (Ev.pos (by omega) (Ev.pos (by omega) (Ev.sbind (ih (k' + 1) _ (by omega) (stepC_lt C r _) h))))))
theorem ev_check_Bytes_l0 {w p i x : Nat} (C : Crc w p i x) (refl : Bool) (s : ByteArray) (hs : s.size ≤ 8192) : ∀ (l pre : List Int) (r j : Nat), bytesOf s = pre ++ l → j = pre.length → r < 2 ^ w →
    Ev (fun k => check_Bytes.l0 k s (r : Int) (s.size : Int) (j : Int) (w : Int) p i x refl) (((finC w x refl (runC w p r (fromBytesL l (!refl))) : Nat) : Int), 0) := by
  have hlen := len_bytes s
  intro l
  induction l with
  | nil =>
    intro pre r j he hj hr
    rw [List.append_nil] at he
    rw [he] at hlen
    refine Ev.step (fun k => check_Bytes.l0.eq_2 ..) ?_
    rw [fromBytesL, runC]
    exact Ev.neg (by omega) (Ev.bind (ev_check_finish C refl hr) (Ev.now _))
  | cons b l ih =>
    intro pre r j he hj hr
    have hl : s.size = j + (l.length + 1) := by rw [← hlen, he, hj, List.length_append, List.length_cons]
    have hbt : bt s (j : Int) = b := by rw [bt_get s j (by omega)]; simp [he, hj]
    have g1 := bt_lo s (j : Int)
    have g2 := bt_hi s (j : Int)
    rw [hbt] at g1 g2
    rw [fromBytesL, runC_append]
    have hn := ih (pre ++ [b]) (runC w p r (fromIntL b 8 (!refl))) (j + 1) (by rw [he]; simp) (by simp [hj]) (runC_lt C _ _ hr)
    have hi := ev_check_Bytes_l1 C refl s hs j (by omega) _ b hbt g1 (by omega) 8 0 r rfl hr (by rw [List.drop_zero]; exact hn)
    refine Ev.step (fun k => check_Bytes.l0.eq_2 ..) ?_
    refine Ev.pos (by omega) ?_
    refine Ev.step (fun k => check_Bytes.j3.eq_2 ..) ?_
    exact hi
theorem ev_check_Bytes (w p i x : Int) (refl : Bool) (s : ByteArray) : Ev (fun k => check_Bytes.f k w p i x refl s) (bytesC w p i x refl s) := by
  unfold check_Bytes.f bytesC
  refine Ev.bind (ev_check_Right w p i x refl) (Ev.ite (fun hc => ?_) (fun hc => ?_))
  case refine_2 => rw [if_neg hc]; exact Ev.now _
  rw [if_pos hc]
  obtain ⟨W, P, I, X, rfl, rfl, rfl, rfl, C⟩ := rightC_ok hc
  refine Ev.step (fun k => check_Bytes.j0.eq_2 ..) ?_
  refine Ev.ite (fun hl => ?_) (fun hl => ?_)
  · rw [if_pos (by omega)]; exact Ev.now _
  · rw [if_neg (by omega)]
    refine Ev.step (fun k => check_Bytes.j1.eq_2 ..) ?_
    exact ev_check_Bytes_l0 C refl s (by omega) (bytesOf s) [] I 0 rfl rfl C.hi
theorem ev_bits_FromInt_l0 (n : Int) (w : Nat) (msb : Bool) (hw : w ≤ 62) : ∀ (d i : Nat), i + d = w →
    Ev (fun k => bits_FromInt.l0 k n (w : Int) msb ((fromIntL n w msb).take i ++ List.replicate d 0) (w : Int) (i : Int)) (strOfNums (fromIntL n w msb)) := by
  have hlen := fromIntL_len n w msb
  intro d
  induction d with
  | zero =>
    intro i h
    refine Ev.stop fun k => ?_
    simp only [bits_FromInt.l0]
    rw [if_neg (by omega), List.take_of_length_le (by omega)]
    simp
  | succ d ih =>
    intro i h
    have hi : i < (fromIntL n w msb).length := by omega
    have e : wrap64 ((i : Int) + 1) = ((i + 1 : Nat) : Int) := by rw [w64 (by omega) (by omega)]; rfl
    have e1 : wrap64 ((w : Int) - 1) = (w : Int) - 1 := w64 (by omega) (by omega)
    have e2 : wrap64 ((w : Int) - 1 - (i : Int)) = (d : Int) := by rw [w64 (by omega) (by omega)]; omega
    have hg := fromIntL_get n w msb i hi
    have htl : ((fromIntL n w msb).take i).length = i := by rw [List.length_take]; omega
    have hset : ∀ v, v = (fromIntL n w msb)[i] → ((fromIntL n w msb).take i ++ List.replicate (d + 1) 0).set ((i : Int)).toNat v = (fromIntL n w msb).take (i + 1) ++ List.replicate d 0 := by
      rintro v rfl
      rw [List.replicate_succ, set_fill _ _ _ _ _ (by rw [htl]; rfl), List.take_succ_eq_append_getElem hi, List.append_assoc]
      rfl
    have hl2 : (((fromIntL n w msb).take i ++ List.replicate (d + 1) 0).length : Int) = w := by simp; omega
    have hsg : ∀ x : Int, (48 + x % 2 % 256) % 256 = 48 + x % 2 := fun x => by omega
    cases msb with
    | true =>
      refine Ev.step (fun k => ?_) (ih (i + 1) (by omega))
      have hd : w - 1 - i = d := by omega
      simp only [↓reduceIte, hd] at hg
      simp only [bits_FromInt.l0, ↓reduceIte]
      rw [if_pos (by omega), e1, e2, if_pos (by omega)]
      simp only [bits_sign.f, Option.bind_some]
      rw [if_pos (by omega), if_pos (by omega), e, and_one, shr_eq n (d : Int) d rfl (by omega), hsg, hset _ hg.symm]
    | false =>
      refine Ev.step (fun k => ?_) (ih (i + 1) (by omega))
      simp only [↓reduceIte, Bool.false_eq_true] at hg
      simp only [bits_FromInt.l0, ↓reduceIte, Bool.false_eq_true]
      rw [if_pos (by omega), if_pos (by omega)]
      simp only [bits_sign.f, Option.bind_some]
      rw [if_pos (by omega), e, and_one, shr_eq n (i : Int) i rfl (by omega), hsg, hset _ hg.symm]
theorem ev_bits_FromInt (n w : Int) (msb : Bool) : Ev (fun k => bits_FromInt.f k n w msb) (fromIntS n w msb) := by
  unfold bits_FromInt.f fromIntS
  have hemp : Ev (fun k => bits_FromInt.j0 k n w msb true) (⟨#[]⟩ : ByteArray) := by
    refine Ev.stop fun k => ?_
    simp only [bits_FromInt.j0, ↓reduceIte]
  by_cases h : w < 0
  · rw [if_pos h]
    refine Ev.congr (fun k => ?_) hemp
    rw [if_pos h]
  · rw [if_neg h]
    by_cases h2 : w > 62
    · rw [if_pos h2]
      refine Ev.congr (fun k => ?_) hemp
      rw [if_neg h, decide_eq_true h2]
    · rw [if_neg h2]
      obtain ⟨m, rfl⟩ := Int.eq_ofNat_of_zero_le (Int.not_lt.mp h)
      refine Ev.neg h ?_
      rw [decide_eq_false h2]
      refine Ev.step (fun k => bits_FromInt.j0.eq_2 ..) ?_
      refine Ev.neg (by decide) ?_
      refine Ev.step (fun k => bits_FromInt.j1.eq_2 ..) ?_
      have h0 := ev_bits_FromInt_l0 n m msb (by omega) m 0 (by omega)
      refine Ev.pos (by omega) (Ev.pos (by omega) ?_)
      simpa using h0
theorem ev_bits_FromBytes_l0 (s : ByteArray) (msb : Bool) (hs : s.size ≤ 8192) : ∀ (d i : Nat), i + d = s.size →
    Ev (fun k => bits_FromBytes.l0 k s msb (fromBytesL ((bytesOf s).take i) msb) (s.size : Int) (i : Int)) (strOfNums (fromBytesL (bytesOf s) msb)) := by
  intro d
  have hlen := len_bytes s
  induction d with
  | zero =>
    intro i h
    refine Ev.stop fun k => ?_
    simp only [bits_FromBytes.l0]
    rw [if_neg (by omega), List.take_of_length_le (by omega)]
  | succ d ih =>
    intro i h
    have e : wrap64 ((i : Int) + 1) = ((i + 1 : Nat) : Int) := by rw [w64 (by omega) (by omega)]; rfl
    have h0 := bt_lo s i
    have h1 := bt_hi s i
    have eb : wrap64 (bt s i) = bt s i := w64 (by omega) (by omega)
    have efs : fromIntS (bt s i) 8 msb = strOfNums (fromIntL (bt s i) 8 msb) := rfl
    have e5 : fromBytesL ((bytesOf s).take i) msb ++ fromIntL (bt s i) 8 msb = fromBytesL ((bytesOf s).take (i + 1)) msb := by
      rw [take_snoc s i (by omega), fromBytesL_append]
      simp [fromBytesL]
    have hl : (fromBytesL ((bytesOf s).take i) msb).length + (strOfNums (fromIntL (bt s i) 8 msb)).size < 140737488355328 := by
      rw [fromBytesL_len, size_str, fromIntL_len, List.length_take]; omega
    refine Ev.step (f := fun k => (bits_FromInt.f k (wrap64 (bt s i)) 8 msb).bind fun t => _) (fun k => by
      simp only [bits_FromBytes.l0]; rw [if_pos (by omega), if_pos (by omega), if_pos (by omega)]; try rfl) ?_
    refine Ev.bind (ev_bits_FromInt _ 8 msb) ?_
    rw [eb, efs]
    have := ih (i + 1) (by omega)
    simp only [if_pos hl, bytes_str (fromIntL_bits _ _ _).byts, e, e5]
    exact this
theorem ev_bits_FromBytes (s : ByteArray) (msb : Bool) (hs : s.size ≤ 140737488351232) : Ev (fun k => bits_FromBytes.f k s msb) (fromBytesS s msb) := by
  unfold bits_FromBytes.f fromBytesS
  by_cases h : s.size > 8192
  · rw [if_pos h]
    refine Ev.now' fun k => ?_
    rw [if_pos (by omega)]
  · rw [if_neg h]
    refine Ev.congr (fun k => ?_) (ev_bits_FromBytes_l0 s msb (by omega) s.size 0 (by omega))
    have e : wrap64 (8 * (s.size : Int)) = ((8 * s.size : Nat) : Int) := by rw [w64 (by omega) (by omega)]; rfl
    rw [if_neg (by omega), e, if_pos (by omega), if_pos (by omega)]; rfl
def sumL : Int → List Int → Int
  | n, [] => n
  | n, b :: l => sumL ((n + b) % 256) l
def xorL : Nat → List Int → Nat
  | n, [] => n
  | n, b :: l => xorL (n ^^^ b.toNat) l
def carL : Int → List Int → Int
  | n, [] => 255 - n
  | n, b :: l => carL (if n + b > 255 then n + b - 255 else n + b) l
theorem xor_u8 {a b : Nat} (ha : a < 256) (hb : b < 256) : Go.bits .xor .u8 (a : Int) (b : Int) = ((a ^^^ b : Nat) : Int) := by
  have g : ∀ x : Nat, x < 256 → (BitVec.ofInt 8 (x : Int)).toNat = x := fun x hx => by rw [BitVec.toNat_ofInt]; show (((x : Int) % (256 : Nat)).toNat) = x; omega
  have h : (BitVec.ofInt 8 (a : Int) ^^^ BitVec.ofInt 8 (b : Int)).toNat = a ^^^ b := by
    rw [BitVec.toNat_xor, g a ha, g b hb]
  have hl : a ^^^ b < 2 ^ 8 := Nat.xor_lt_two_pow (by omega) (by omega)
  show IntKind.u8.wrap ((BitVec.ofInt 8 (a : Int) ^^^ BitVec.ofInt 8 (b : Int)).toNat : Int) = _
  rw [h]
  show ((a ^^^ b : Nat) : Int) % 256 = _
  omega
theorem ev_check_Sum (s : ByteArray) (hs : s.size ≤ 140737488355328) : Ev (fun k => check_Sum.f k s) (sumL 0 (bytesOf s)) := by
  have hlen := len_bytes s
  have key : ∀ (l pre : List Int) (n : Int) (j : Nat), bytesOf s = pre ++ l → j = pre.length → 0 ≤ n → n < 256 → Ev (fun k => check_Sum.l0 k s n (s.size : Int) (j : Int)) (sumL n l) := by
    intro l
    induction l with
    | nil =>
      intro pre n j he hj h0 h1
      rw [List.append_nil] at he
      rw [he] at hlen
      refine Ev.step (fun k => check_Sum.l0.eq_2 ..) ?_
      rw [w64 (x := n) (by omega) (by omega)]
      exact Ev.neg (by omega) (Ev.now _)
    | cons b l ih =>
      intro pre n j he hj h0 h1
      have hl : s.size = j + (l.length + 1) := by rw [← hlen, he, hj, List.length_append, List.length_cons]
      have hbt : bt s (j : Int) = b := by rw [bt_get s j (by omega)]; simp [he, hj]
      refine Ev.step (fun k => check_Sum.l0.eq_2 ..) ?_
      rw [hbt, wnat (by omega)]
      exact Ev.pos (by omega) (Ev.pos (by omega) (Ev.pos (by omega) (ih (pre ++ [b]) _ (j + 1) (by rw [he]; simp) (by simp [hj]) (by omega) (by omega))))
  exact key (bytesOf s) [] 0 0 rfl rfl (by omega) (by omega)
theorem ev_check_Xor (s : ByteArray) (hs : s.size ≤ 140737488355328) : Ev (fun k => check_Xor.f k s) ((xorL 0 (bytesOf s) : Nat) : Int) := by
  have hlen := len_bytes s
  have key : ∀ (l pre : List Int) (n j : Nat), bytesOf s = pre ++ l → j = pre.length → n < 256 → Ev (fun k => check_Xor.l0 k s (n : Int) (s.size : Int) (j : Int)) ((xorL n l : Nat) : Int) := by
    intro l
    induction l with
    | nil =>
      intro pre n j he hj h0
      rw [List.append_nil] at he
      rw [he] at hlen
      refine Ev.step (fun k => check_Xor.l0.eq_2 ..) ?_
      rw [w64 (x := (n : Int)) (by omega) (by omega)]
      exact Ev.neg (by omega) (Ev.now _)
    | cons b l ih =>
      intro pre n j he hj h0
      have hl : s.size = j + (l.length + 1) := by rw [← hlen, he, hj, List.length_append, List.length_cons]
      have hbt : bt s (j : Int) = b := by rw [bt_get s j (by omega)]; simp [he, hj]
      have h1 := bt_lo s (j : Int)
      have h2 := bt_hi s (j : Int)
      rw [hbt] at h1 h2
      obtain ⟨c, rfl⟩ := Int.eq_ofNat_of_zero_le h1
      have hl : n ^^^ c < 2 ^ 8 := Nat.xor_lt_two_pow (by omega) (by omega)
      refine Ev.step (fun k => check_Xor.l0.eq_2 ..) ?_
      rw [hbt, wnat (by omega), xor_u8 h0 (by omega)]
      exact Ev.pos (by omega) (Ev.pos (by omega) (Ev.pos (by omega) (ih (pre ++ [(c : Int)]) _ (j + 1) (by rw [he]; simp) (by simp [hj]) hl)))
  exact key (bytesOf s) [] 0 0 rfl rfl (by omega)
theorem ev_check_Carry (s : ByteArray) (hs : s.size ≤ 140737488355328) : Ev (fun k => check_Carry.f k s) (carL 0 (bytesOf s)) := by
  have hlen := len_bytes s
  have key : ∀ (l pre : List Int) (n : Int) (j : Nat), bytesOf s = pre ++ l → j = pre.length → 0 ≤ n → n < 256 → Ev (fun k => check_Carry.l0 k s n (s.size : Int) (j : Int)) (carL n l) := by
    intro l
    induction l with
    | nil =>
      intro pre n j he hj h0 h1
      rw [List.append_nil] at he
      rw [he] at hlen
      refine Ev.step (fun k => check_Carry.l0.eq_2 ..) ?_
      rw [w64 (x := 255 - n) (by omega) (by omega)]
      exact Ev.neg (by omega) (Ev.now _)
    | cons b l ih =>
      intro pre n j he hj h0 h1
      have hl : s.size = j + (l.length + 1) := by rw [← hlen, he, hj, List.length_append, List.length_cons]
      have hbt : bt s (j : Int) = b := by rw [bt_get s j (by omega)]; simp [he, hj]
      have h1 := bt_lo s (j : Int)
      have h2 := bt_hi s (j : Int)
      rw [hbt] at h1 h2
      have hn := ih (pre ++ [b]) (if n + b > 255 then n + b - 255 else n + b) (j + 1) (by rw [he]; simp) (by simp [hj]) (by split <;> omega) (by split <;> omega)
      refine Ev.step (fun k => check_Carry.l0.eq_2 ..) ?_
      rw [hbt, wnat (by omega), w64 (x := b) (by omega) (by omega), w64 (x := n + b) (by omega) (by omega), w64 (x := n + b - 255) (by omega) (by omega), carL]
      refine Ev.pos (by omega) (Ev.pos (by omega) (Ev.pos (by omega) (Ev.ite (fun h => ?_) (fun h => ?_))))
      · rw [if_pos h] at hn ⊢; exact hn
      · rw [if_neg h] at hn ⊢; exact hn
  exact key (bytesOf s) [] 0 0 rfl rfl (by omega) (by omega)
theorem ev_awake : Ev (fun k => signalbenchlaw04_awake.f k) true := by
  refine Ev.of (fun k => signalbenchlaw04_awake.mono k) (k := 80) ?_
  decide +kernel
theorem bytes_bits (w p i x : Int) (refl : Bool) (s : ByteArray) (hs : s.size ≤ 100) : bytesC w p i x refl s = bitsC w p i x refl (fromBytesS s (!refl)) := by
  have e : fromBytesS s (!refl) = strOfNums (fromBytesL (bytesOf s) (!refl)) := by unfold fromBytesS; rw [if_neg (by omega)]
  have hb := fromBytesL_bits (!refl) (bytesOf s)
  have hl := fromBytesL_len (!refl) (bytesOf s)
  have hl2 := len_bytes s
  unfold bytesC bitsC
  rw [e, bytes_str hb.byts, all_isB.mpr hb, size_str, if_neg (c := s.size > 8192) (by omega), if_pos (c := (true = true)) rfl, if_pos (c := (fromBytesL (bytesOf s) (!refl)).length ≤ 65536) (by omega)]
/-- A sum with carry. -/
def adC (a b : Int) : Int := if a + b > 255 then a + b - 255 else a + b
def totC : Int → List Int → Int
  | n, [] => n
  | n, b :: l => totC (adC n b) l
theorem carL_tot : ∀ (l : List Int) (n : Int), carL n l = 255 - totC n l
  | [], _ => rfl
  | b :: l, n => by rw [carL, totC, carL_tot l]; rfl
theorem totC_bd : ∀ (l : List Int) (n : Int), Byts l → 0 ≤ n → n < 256 → 0 ≤ totC n l ∧ totC n l < 256
  | [], _, _, h0, h1 => ⟨h0, h1⟩
  | b :: l, n, hb, h0, h1 => by
    have hb0 := hb b (List.mem_cons_self ..)
    exact totC_bd l _ (fun y hy => hb y (List.mem_cons_of_mem _ hy)) (by unfold adC; split <;> omega) (by unfold adC; split <;> omega)
theorem totC_app : ∀ (l m : List Int) (n : Int), totC n (l ++ m) = totC (totC n l) m
  | [], _, _ => rfl
  | b :: l, m, n => totC_app l m _
theorem totC_ad : ∀ (l : List Int) (a n : Int), Byts l → 0 ≤ a → a < 256 → 0 ≤ n → n < 256 → totC (adC a n) l = adC a (totC n l)
  | [], _, _, _, _, _, _, _ => rfl
  | b :: l, a, n, hb, h0, h1, h2, h3 => by
    have hb0 := hb b (List.mem_cons_self ..)
    have e : adC (adC a n) b = adC a (adC n b) := by unfold adC; repeat' split <;> omega
    rw [totC, totC, e]
    exact totC_ad l a _ (fun y hy => hb y (List.mem_cons_of_mem _ hy)) h0 h1 (by unfold adC; split <;> omega) (by unfold adC; split <;> omega)
theorem totC_two (l m : List Int) (hl : Byts l) (hm : Byts m) : totC 0 (l ++ m) = adC (totC 0 l) (totC 0 m) := by
  have h := totC_bd l 0 hl (by omega) (by omega)
  have e : adC (totC 0 l) 0 = totC 0 l := by unfold adC; rw [if_neg (by omega)]; omega
  rw [totC_app, ← totC_ad m _ 0 hm h.1 h.2 (by omega) (by omega), e]
def sumI : List Int → Int
  | [] => 0
  | b :: l => b + sumI l
theorem sumL_eq : ∀ (l : List Int) (n : Int), 0 ≤ n → n < 256 → sumL n l = (n + sumI l) % 256
  | [], n, h0, h1 => by rw [sumL, sumI]; omega
  | b :: l, n, h0, h1 => by rw [sumL, sumL_eq l _ (by omega) (by omega), sumI]; omega
theorem sumI_app : ∀ (l m : List Int), sumI (l ++ m) = sumI l + sumI m
  | [], m => by simp [sumI]
  | b :: l, m => by rw [List.cons_append, sumI, sumI, sumI_app l m]; omega
theorem xorL_app : ∀ (l m : List Int) (n : Nat), xorL n (l ++ m) = xorL (xorL n l) m
  | [], _, _ => rfl
  | b :: l, m, n => xorL_app l m _
theorem xorL_out : ∀ (l : List Int) (n : Nat), xorL n l = n ^^^ xorL 0 l
  | [], n => by simp [xorL]
  | b :: l, n => by rw [xorL, xorL, xorL_out l (n ^^^ b.toNat), xorL_out l (0 ^^^ b.toNat), Nat.zero_xor, Nat.xor_assoc]
theorem xorL_lt : ∀ (l : List Int) (n : Nat), Byts l → n < 256 → xorL n l < 256
  | [], _, _, h => h
  | b :: l, n, hb, h => by
    have hb0 := hb b (List.mem_cons_self ..)
    refine xorL_lt l _ (fun y hy => hb y (List.mem_cons_of_mem _ hy)) ?_
    exact Nat.xor_lt_two_pow (n := 8) h (by omega)
theorem main : signalbenchlaw04_CheckParts.Pure := by
  intro w p i x refl a b _ _ _ _ ha hb
  refine Ev.rounds (g := fun k => signalbenchlaw04_CheckParts.f k w p i x refl a b) ?_
  have hj : Ev (fun k => signalbenchlaw04_CheckParts.j0 k a b true w p i x refl) true := by
    refine Ev.step (fun k => signalbenchlaw04_CheckParts.j0.eq_2 ..) ?_
    exact Ev.pos rfl (Ev.bind ev_awake (Ev.now true))
  unfold signalbenchlaw04_CheckParts.f
  refine Ev.ite (fun _ => hj) (fun h1 => ?_)
  by_cases h2 : (b.size : Int) > 100
  · rw [decide_eq_true h2]; exact hj
  rw [decide_eq_false h2]
  have hsz : (a ++ b).size = a.size + b.size := ByteArray.size_append
  have ba := byts_of a
  have bb := byts_of b
  have ta := totC_bd (bytesOf a) 0 ba (by omega) (by omega)
  have tb := totC_bd (bytesOf b) 0 bb (by omega) (by omega)
  have xa := xorL_lt (bytesOf a) 0 ba (by omega)
  have xb := xorL_lt (bytesOf b) 0 bb (by omega)
  have hlast : ∀ n : Int, n = adC (totC 0 (bytesOf a)) (totC 0 (bytesOf b)) → Ev (fun k => signalbenchlaw04_CheckParts.j4 k a b n) true := by
    intro n hn
    have hnb : 0 ≤ n ∧ n < 256 := by rw [hn]; unfold adC; split <;> omega
    refine Ev.step (fun k => signalbenchlaw04_CheckParts.j4.eq_2 ..) ?_
    refine Ev.pos (by omega) (Ev.bind (ev_check_Carry (a ++ b) (by omega)) (Ev.pos ?_ (Ev.bind (ev_check_Sum (a ++ b) (by omega)) (Ev.bind (ev_check_Sum a (by omega)) (Ev.bind (ev_check_Sum b (by omega)) (Ev.pos ?_ (Ev.bind (ev_check_Xor (a ++ b) (by omega)) (Ev.bind (ev_check_Xor a (by omega)) (Ev.bind (ev_check_Xor b (by omega)) (Ev.pos ?_ (Ev.bind ev_awake (Ev.now true))))))))))))
    · rw [w64 (x := 255 - n) (by omega) (by omega), carL_tot, bytes_append, totC_two _ _ ba bb, hn]
    · rw [bytes_append, sumL_eq _ 0 (by omega) (by omega), sumL_eq _ 0 (by omega) (by omega), sumL_eq _ 0 (by omega) (by omega), sumI_app]
      generalize sumI (bytesOf a) = u
      generalize sumI (bytesOf b) = v
      rw [w64 (by omega) (by omega), Int.tmod_eq_emod_of_nonneg (by omega)]
      omega
    · rw [bytes_append, xorL_app, xorL_out, nxor (by omega) (by omega)]
  refine Ev.step (fun k => signalbenchlaw04_CheckParts.j0.eq_2 ..) ?_
  refine Ev.neg (by decide) ?_
  refine Ev.step (fun k => signalbenchlaw04_CheckParts.j1.eq_2 ..) ?_
  have hbits := ev_check_Bits w p i x refl (fromBytesS a (!refl)) (by rw [fromBytesS_size _ _ (by omega)]; omega)
  rw [← bytes_bits w p i x refl a (by omega)] at hbits
  refine Ev.bind (ev_check_Bytes w p i x refl a) (Ev.bind (ev_bits_FromBytes a (!refl) (by omega)) (Ev.bind hbits (Ev.pos rfl ?_)))
  rw [show ((bytesC w p i x refl a).2 != (bytesC w p i x refl a).2) = false by simp]
  refine Ev.step (fun k => signalbenchlaw04_CheckParts.j2.eq_2 ..) ?_
  refine Ev.neg (by decide) ?_
  refine Ev.step (fun k => signalbenchlaw04_CheckParts.j3.eq_2 ..) ?_
  refine Ev.bind (ev_check_Carry a (by omega)) (Ev.bind (ev_check_Carry b (by omega)) ?_)
  rw [carL_tot, carL_tot]
  generalize totC 0 (bytesOf a) = u at *
  generalize totC 0 (bytesOf b) = v at *
  rw [show wrap64 (255 - (255 - u)) = u by rw [w64 (by omega) (by omega)]; omega, show wrap64 (255 - (255 - v)) = v by rw [w64 (by omega) (by omega)]; omega, w64 (x := u + v) (by omega) (by omega)]
  refine Ev.ite (fun h => ?_) (fun h => ?_)
  · rw [w64 (x := u + v - 255) (by omega) (by omega)]
    exact hlast _ (by unfold adC; rw [if_pos h])
  · exact hlast _ (by unfold adC; rw [if_neg h])
end CheckParts_
theorem CheckParts : signalbenchlaw04_CheckParts.Pure := CheckParts_.main
end Go.Proofs.YteeejopgaegaoaaDoor.Pure
