/- The law CheckLimits holds as a statement on numbers and lists: what is accepted, and which error comes first. No condition beyond those of the statement. -/
import Derived.Test.YteeejopgaegaoaaDoorPCheckLimitsx5
import Derived.Test.YteeejopgaegaoaaDoorSpecCrc
namespace Go.Proofs.YteeejopgaegaoaaDoor.Pure
open Go.RowKit Go.Proofs.YteeejopgaegaoaaDoor.PCheckLimits Go.Proofs.YteeejopgaegaoaaDoorW.PrintWords Go.Proofs.YteeejopgaegaoaaDoorW.PrintLast Go.Proofs.YteeejopgaegaoaaDoor.Aid
set_option linter.unusedVariables false
set_option linter.unusedSimpArgs false
namespace CheckLimits_
theorem ev_bits_Valid_l0 (s : ByteArray) (hs : s.size ≤ 65536) : ∀ (d i : Nat), i + d = s.size → Ev (fun k => bits_Valid.l0 k s (s.size : Int) (i : Int)) (((bytesOf s).drop i).all isB) := by
  intro d
  induction d with
  | zero =>
    intro i h
    refine Ev.stop fun k => ?_
    simp only [bits_Valid.l0]
    rw [if_neg (by omega), drop_end s i (by omega)]; rfl
  | succ d ih =>
    intro i h
    have e : wrap64 ((i : Int) + 1) = ((i + 1 : Nat) : Int) := by rw [w64 (by omega) (by omega)]; rfl
    rw [drop_cons s i (by omega), List.all_cons]
    by_cases h48 : bt s i = 48
    · have e2 : isB (bt s i) = true := isB_iff.mpr (.inl h48)
      rw [e2, Bool.true_and]
      refine Ev.step (fun k => ?_) (ih (i + 1) (by omega))
      simp only [bits_Valid.l0]
      rw [if_pos (by omega), if_pos (by omega), if_pos (by omega), if_pos h48, e]
    · by_cases h49 : bt s i = 49
      · have e2 : isB (bt s i) = true := isB_iff.mpr (.inr h49)
        rw [e2, Bool.true_and]
        refine Ev.step (fun k => ?_) (ih (i + 1) (by omega))
        simp only [bits_Valid.l0]
        rw [if_pos (by omega), if_pos (by omega), if_pos (by omega), if_neg h48, if_pos h49, e]
      · have e2 : isB (bt s i) = false := by simp [isB, h48, h49]
        rw [e2, Bool.false_and]
        refine Ev.stop fun k => ?_
        simp only [bits_Valid.l0]
        rw [if_pos (by omega), if_pos (by omega), if_pos (by omega), if_neg h48, if_neg h49]
theorem ev_bits_Valid (s : ByteArray) : Ev (fun k => bits_Valid.f k s) (vB s) := by
  unfold bits_Valid.f vB
  by_cases h : s.size ≤ 65536
  · rw [decide_eq_true h, Bool.true_and]
    refine Ev.congr (fun k => by rw [if_neg (by omega)]) ?_
    exact Ev.step (fun k => by simp only [bits_Valid.j0]; rfl) (ev_bits_Valid_l0 s h s.size 0 (by omega))
  · rw [decide_eq_false h, Bool.false_and]
    refine Ev.now' fun k => ?_
    rw [if_pos (by omega)]
theorem ev_check_Right (w p i x : Int) (refl : Bool) : Ev (fun k => check_Right.f k w p i x refl) (rightC w p i x) := by
  have hyes : 1 ≤ w ∧ w ≤ 32 → False → Ev (fun k => check_Right.j0 k true w p i x refl) (rightC w p i x) := fun _ h => h.elim
  have hj : ¬ (1 ≤ w ∧ w ≤ 32) → Ev (fun k => check_Right.j0 k true w p i x refl) (rightC w p i x) := by
    intro h
    have e : rightC w p i x = false := by unfold rightC; rw [decide_eq_false (by omega)]
    rw [e]
    refine Ev.step (fun k => check_Right.j0.eq_2 ..) ?_
    exact Ev.pos rfl (Ev.now _)
  clear hyes
  unfold check_Right.f
  refine Ev.ite (fun h1 => hj (by omega)) (fun h1 => ?_)
  by_cases h2 : w > 32
  · rw [decide_eq_true h2]; exact hj (by omega)
  rw [decide_eq_false h2]
  obtain ⟨n, rfl⟩ := Int.eq_ofNat_of_zero_le (show 0 ≤ w by omega)
  have hle := pow2_le32 (show n ≤ 32 by omega)
  have hp := pow2_pos n
  refine Ev.step (fun k => check_Right.j0.eq_2 ..) ?_
  refine Ev.neg (by decide) (Ev.pos (by omega) (Ev.now' fun _ => ?_))
  rw [shl_one (by omega), w64 (x := 2 ^ n - 1) (by omega) (by omega)]
  unfold rightC
  rw [Int.toNat_natCast]
  repeat' split
  all_goals first
    | (rw [decide_eq_false (by omega)])
    | (congr 1; rw [Int.tmod_eq_emod_of_nonneg (by omega), Bool.eq_iff_iff, beq_iff_eq, decide_eq_true_iff]; omega)
theorem check_shift {w p i x : Nat} (C : Crc w p i x) (refl : Bool) {r b : Nat} (hr : r < 2 ^ w) : check_shift.f (w : Int) p i x refl r b = some ((stepC w p r b : Nat) : Int) := by
  have hw := C.w1
  have hw2 := C.w2
  have hle := pow2_le32 hw2
  have hln := npow_le32 hw2
  have hpp := pow2_pos w
  have hP := C.hp
  have ht := top_lt hw hr
  have e1 : wrap64 ((w : Int) - 1) = ((w - 1 : Nat) : Int) := by rw [w64 (by omega) (by omega)]; omega
  have e2 : Go.bits .and .i64 (shr .i64 (r : Int) ((w - 1 : Nat) : Int)) 1 = ((r / 2 ^ (w - 1) : Nat) : Int) := by
    rw [nshr _ (by omega), and_one]
    generalize r / 2 ^ (w - 1) = z at ht
    omega
  have e3 : wrap64 ((r : Int) * 2) = ((2 * r : Nat) : Int) := by rw [w64 (by omega) (by omega)]; omega
  have hm : 2 * r % 2 ^ w < 2 ^ w := Nat.mod_lt _ (npow_pos w)
  unfold check_shift.f stepC
  rw [e1, if_pos (by omega), if_pos (by omega), e2, e3, shl_one (by omega), w64 (x := 2 ^ w - 1) (by omega) (by omega), nmask w (by omega) (by omega), nxor (by omega) (by omega)]
  by_cases h : r / 2 ^ (w - 1) = b
  · rw [if_pos h, if_pos (by rw [h])]
  · rw [if_neg h, if_neg (fun e => h (by exact_mod_cast e))]
theorem ev_check_finish {w p i x : Nat} (C : Crc w p i x) (refl : Bool) {r : Nat} (hr : r < 2 ^ w) : Ev (fun k => check_finish.f k (w : Int) p i x refl r) ((finC w x refl r : Nat) : Int) := by
  have hw2 := C.w2
  have hln := npow_le32 hw2
  have hX := C.hx
  have key : ∀ (d j acc q : Nat), j + d = w → acc < 2 ^ j → q < 4294967296 → Ev (fun k => check_finish.l0 k (q : Int) (acc : Int) (w : Int) (j : Int) (w : Int) p i x refl) ((revN d acc q ^^^ x : Nat) : Int) := by
    intro d
    induction d with
    | zero =>
      intro j acc q hj ha hq
      have hb : 2 ^ j ≤ 4294967296 := npow_le32 (by omega)
      refine Ev.step (fun k => check_finish.l0.eq_2 ..) ?_
      rw [nxor (by omega) (by omega)]
      exact Ev.neg (by omega) (Ev.now _)
    | succ d ih =>
      intro j acc q hj ha hq
      have hb : 2 ^ j ≤ 4294967296 := npow_le32 (by omega)
      have e1 : (q : Int) / 2 = ((q / 2 : Nat) : Int) := by omega
      have e2 : Go.bits .and .i64 (q : Int) 1 = ((q % 2 : Nat) : Int) := by rw [and_one]; omega
      have e3 : wrap64 ((acc : Int) * 2) = (acc : Int) * 2 ^ 1 := by rw [w64 (by omega) (by omega)]; omega
      have e4 : Go.bits .or .i64 ((acc : Int) * 2 ^ 1) ((q % 2 : Nat) : Int) = ((2 * acc + q % 2 : Nat) : Int) := by
        rw [or_add 1 (by omega) (by omega) (by omega) (by omega)]; omega
      refine Ev.step (fun k => check_finish.l0.eq_2 ..) ?_
      rw [e1, e2, e3, e4, wnat (by omega)]
      refine Ev.pos (by omega) (ih (j + 1) _ _ (by omega) ?_ (by omega))
      rw [Nat.pow_succ]; omega
  unfold check_finish.f finC
  cases refl
  · rw [nxor (by omega) (by omega)]
    exact Ev.neg (by decide) (Ev.now _)
  · exact Ev.pos rfl (key w 0 0 r (by omega) (by decide) (by omega))
theorem bit_nat {b : Int} (h : b = 48 ∨ b = 49) : (b - 48) % 256 = (((b - 48).toNat : Nat) : Int) := by omega
theorem ev_check_Bits_l1 {w p i x : Nat} (C : Crc w p i x) (refl : Bool) (s : ByteArray) (hs : s.size ≤ 65536) : ∀ (l pre : List Int) (r j : Nat), bytesOf s = pre ++ l → j = pre.length → AllB l → r < 2 ^ w →
    Ev (fun k => check_Bits.l1 k s (r : Int) (s.size : Int) (j : Int) (w : Int) p i x refl) (((finC w x refl (runC w p r l) : Nat) : Int), 0) := by
  have hlen := len_bytes s
  intro l
  induction l with
  | nil =>
    intro pre r j he hj hb hr
    rw [List.append_nil] at he
    rw [he] at hlen
    refine Ev.step (fun k => check_Bits.l1.eq_2 ..) ?_
    rw [runC]
    exact Ev.neg (by omega) (Ev.bind (ev_check_finish C refl hr) (Ev.now _))
  | cons b l ih =>
    intro pre r j he hj hb hr
    obtain ⟨hb1, hb⟩ := AllB.cons_iff.mp hb
    have hl : s.size = j + (l.length + 1) := by rw [← hlen, he, hj, List.length_append, List.length_cons]
    have hbt : bt s (j : Int) = b := by rw [bt_get s j (by omega)]; simp [he, hj]
    refine Ev.step (fun k => check_Bits.l1.eq_2 ..) ?_
    rw [hbt, wnat (by omega), bit_nat hb1, check_shift C refl hr, runC]
    exact Ev.pos (by omega) (Ev.pos (by omega) (Ev.pos (by omega) (Ev.sbind (ih (pre ++ [b]) _ (j + 1) (by rw [he]; simp) (by simp [hj]) hb (stepC_lt C r _)))))
theorem ev_check_Bits_l0 (w p i x : Int) (refl : Bool) (s : ByteArray) (hs : s.size ≤ 140737488355328) (res : Int × Int) : ∀ (l pre : List Int) (j : Nat), bytesOf s = pre ++ l → j = pre.length → (l.all isB = true → Ev (fun k => (bits_Valid.f k s).bind fun t => (if t = true then (check_Bits.j2 k s w p i x refl) else (some (0, 6)))) res) → (l.all isB = false → res = (0, 4)) →
    Ev (fun k => check_Bits.l0 k s (s.size : Int) (j : Int) w p i x refl) res := by
  have hlen := len_bytes s
  intro l
  induction l with
  | nil =>
    intro pre j he hj h0 h1
    rw [List.append_nil] at he
    rw [he] at hlen
    refine Ev.step (fun k => check_Bits.l0.eq_2 ..) ?_
    exact Ev.neg (by omega) (h0 rfl)
  | cons b l ih =>
    intro pre j he hj h0 h1
    have hl : s.size = j + (l.length + 1) := by rw [← hlen, he, hj, List.length_append, List.length_cons]
    have hbt : bt s (j : Int) = b := by rw [bt_get s j (by omega)]; simp [he, hj]
    rw [List.all_cons] at h0 h1
    have hnext : isB b = true → Ev (fun k => check_Bits.l0 k s (s.size : Int) ((j + 1 : Nat) : Int) w p i x refl) res := by
      intro hb
      rw [hb, Bool.true_and] at h0 h1
      exact ih (pre ++ [b]) (j + 1) (by rw [he]; simp) (by simp [hj]) h0 h1
    refine Ev.step (fun k => check_Bits.l0.eq_2 ..) ?_
    rw [hbt, wnat (by omega)]
    refine Ev.pos (by omega) (Ev.pos (by omega) (Ev.pos (by omega) (Ev.ite (fun h48 => hnext (isB_iff.mpr (.inl h48))) (fun h48 => Ev.ite (fun h49 => hnext (isB_iff.mpr (.inr h49))) (fun h49 => ?_)))))
    have e2 : isB b = false := by simp [isB, h48, h49]
    rw [h1 (by rw [e2, Bool.false_and])]
    exact Ev.now _
theorem ev_check_Bits (w p i x : Int) (refl : Bool) (s : ByteArray) (hs : s.size ≤ 140737488355328) : Ev (fun k => check_Bits.f k w p i x refl s) (bitsC w p i x refl s) := by
  unfold check_Bits.f bitsC
  refine Ev.bind (ev_check_Right w p i x refl) (Ev.ite (fun hc => ?_) (fun hc => ?_))
  case refine_2 => rw [if_neg hc]; exact Ev.now _
  rw [if_pos hc]
  obtain ⟨W, P, I, X, rfl, rfl, rfl, rfl, C⟩ := rightC_ok hc
  refine Ev.step (fun k => check_Bits.j0.eq_2 ..) ?_
  refine ev_check_Bits_l0 _ _ _ _ refl s hs _ (bytesOf s) [] 0 rfl rfl (fun hb => ?_) (fun hb => by rw [hb]; rfl)
  rw [if_pos hb]
  refine Ev.bind (ev_bits_Valid s) ?_
  unfold vB
  rw [hb, Bool.and_true]
  by_cases hl : s.size ≤ 65536
  · rw [if_pos hl, decide_eq_true hl]
    refine Ev.pos rfl ?_
    refine Ev.step (fun k => check_Bits.j2.eq_2 ..) ?_
    exact ev_check_Bits_l1 C refl s hl (bytesOf s) [] I 0 rfl rfl (all_isB.mp hb) C.hi
  · rw [if_neg hl, decide_eq_false hl]
    exact Ev.neg (by decide) (Ev.now _)
theorem and1_u8 (x : Int) (h0 : 0 ≤ x) (h1 : x < 256) : Go.bits .and .u8 x 1 = x % 2 := by
  have g : ∀ y : Int, 0 ≤ y → y < 256 → (BitVec.ofInt 8 y).toNat = y.toNat := fun y a b => by rw [BitVec.toNat_ofInt]; show ((y % ((256 : Nat) : Int)).toNat) = y.toNat; omega
  have h : (BitVec.ofInt 8 x &&& BitVec.ofInt 8 1).toNat = (x % 2).toNat := by
    rw [BitVec.toNat_and, g x h0 h1, g 1 (by omega) (by omega)]
    show _ &&& 1 = _
    rw [Nat.and_one_is_mod]
    omega
  show IntKind.u8.wrap ((BitVec.ofInt 8 x &&& BitVec.ofInt 8 1).toNat : Int) = _
  rw [h]
  show (((x % 2).toNat : Int)) % 256 = _
  omega
theorem shr_u8 (x y : Int) (n : Nat) (hy : y = (n : Int)) (hn : n ≤ 8) : shr .u8 x y = x / 2 ^ n := by
  subst hy
  unfold shr
  have : min ((n : Int).toNat) IntKind.u8.bits = n := by
    show min ((n : Int).toNat) 8 = n
    rw [Int.toNat_natCast]; omega
  rw [this]
theorem div_bd {b : Int} (h0 : 0 ≤ b) (h1 : b < 256) (n : Nat) : 0 ≤ b / 2 ^ n ∧ b / 2 ^ n < 256 := by
  have hp := pow2_pos n
  refine ⟨Int.ediv_nonneg h0 (by omega), ?_⟩
  exact Int.lt_of_le_of_lt (Int.ediv_le_self _ h0) h1
theorem fromInt_drop (b : Int) (msb : Bool) (k : Nat) (h : k < 8) : (fromIntL b 8 msb).drop k = (48 + b / 2 ^ (if msb = true then 7 - k else k) % 2) :: (fromIntL b 8 msb).drop (k + 1) := by
  have hl : k < (fromIntL b 8 msb).length := by rw [fromIntL_len]; exact h
  rw [List.drop_eq_getElem_cons hl, fromIntL_get]
theorem ev_check_Bytes_l1 {w p i x : Nat} (C : Crc w p i x) (refl : Bool) (s : ByteArray) (hs : s.size ≤ 8192) (j : Nat) (hj : j < s.size) (res : Int × Int) (b : Int) (hb : bt s (j : Int) = b) (h0 : 0 ≤ b) (h1 : b < 256) : ∀ (d k' r : Nat), k' + d = 8 → r < 2 ^ w →
    Ev (fun k => check_Bytes.l0 k s ((runC w p r ((fromIntL b 8 (!refl)).drop k') : Nat) : Int) (s.size : Int) ((j + 1 : Nat) : Int) (w : Int) p i x refl) res → Ev (fun k => check_Bytes.l1 k s (r : Int) (j : Int) (s.size : Int) (j : Int) (k' : Int) (w : Int) p i x refl) res := by
  intro d
  induction d with
  | zero =>
    intro k' r hk hr h
    obtain rfl : k' = 8 := by omega
    rw [List.drop_of_length_le (by rw [fromIntL_len]; omega), runC] at h
    refine Ev.step (fun k => check_Bytes.l1.eq_2 ..) ?_
    rw [wnat (i := j) (by omega)]
    exact Ev.neg (by omega) h
  | succ d ih =>
    intro k' r hk hr h
    rw [fromInt_drop b (!refl) k' (by omega), runC] at h
    have ebit : ∀ (n : Nat), n ≤ 7 → wrap64 (Go.bits .and .u8 (shr .u8 b (n : Int)) 1) = (((b / 2 ^ n % 2).toNat : Nat) : Int) := by
      intro n hn
      have hd := div_bd h0 h1 n
      rw [shr_u8 _ _ n rfl (by omega), and1_u8 _ hd.1 hd.2]
      generalize b / 2 ^ n = z at hd
      rw [w64 (by omega) (by omega)]; omega
    have e7 : wrap64 (7 - (k' : Int)) = ((7 - k' : Nat) : Int) := by rw [w64 (by omega) (by omega)]; omega
    refine Ev.step (fun k => check_Bytes.l1.eq_2 ..) ?_
    rw [hb, wnat (i := k') (by omega), e7, ebit k' (by omega), ebit (7 - k') (by omega), check_shift C refl hr, check_shift C refl hr]
    have h48 : ∀ z : Int, (48 + z - 48).toNat = z.toNat := fun z => by congr 1; omega
    rw [h48] at h
    cases refl
    · exact Ev.pos (by omega) (Ev.neg (by decide) (Ev.pos (by omega) (Ev.pos (by omega) (Ev.pos (by omega) (Ev.sbind (ih (k' + 1) _ (by omega) (stepC_lt C r _) h))))))
    · exact Ev.pos (by omega) (Ev.pos rfl (Ev.pos (by omega) (Ev.pos (by omega) (Ev.pos (by omega) (Ev.sbind (ih (k' + 1) _ (by omega) (stepC_lt C r _) h))))))
theorem ev_check_Bytes_l0 {w p i x : Nat} (C : Crc w p i x) (refl : Bool) (s : ByteArray) (hs : s.size ≤ 8192) : ∀ (l pre : List Int) (r j : Nat), bytesOf s = pre ++ l → j = pre.length → r < 2 ^ w →
    Ev (fun k => check_Bytes.l0 k s (r : Int) (s.size : Int) (j : Int) (w : Int) p i x refl) (((finC w x refl (runC w p r (fromBytesL l (!refl))) : Nat) : Int), 0) := by
  have hlen := len_bytes s
  intro l
  induction l with
  | nil =>
    intro pre r j he hj hr
    rw [List.append_nil] at he
    rw [he] at hlen
    refine Ev.step (fun k => check_Bytes.l0.eq_2 ..) ?_
    rw [fromBytesL, runC]
    exact Ev.neg (by omega) (Ev.bind (ev_check_finish C refl hr) (Ev.now _))
  | cons b l ih =>
    intro pre r j he hj hr
    have hl : s.size = j + (l.length + 1) := by rw [← hlen, he, hj, List.length_append, List.length_cons]
    have hbt : bt s (j : Int) = b := by rw [bt_get s j (by omega)]; simp [he, hj]
    have g1 := bt_lo s (j : Int)
    have g2 := bt_hi s (j : Int)
    rw [hbt] at g1 g2
    rw [fromBytesL, runC_append]
    have hn := ih (pre ++ [b]) (runC w p r (fromIntL b 8 (!refl))) (j + 1) (by rw [he]; simp) (by simp [hj]) (runC_lt C _ _ hr)
    have hi := ev_check_Bytes_l1 C refl s hs j (by omega) _ b hbt g1 (by omega) 8 0 r rfl hr (by rw [List.drop_zero]; exact hn)
    refine Ev.step (fun k => check_Bytes.l0.eq_2 ..) ?_
    refine Ev.pos (by omega) ?_
    refine Ev.step (fun k => check_Bytes.j3.eq_2 ..) ?_
    exact hi
theorem ev_check_Bytes (w p i x : Int) (refl : Bool) (s : ByteArray) : Ev (fun k => check_Bytes.f k w p i x refl s) (bytesC w p i x refl s) := by
  unfold check_Bytes.f bytesC
  refine Ev.bind (ev_check_Right w p i x refl) (Ev.ite (fun hc => ?_) (fun hc => ?_))
  case refine_2 => rw [if_neg hc]; exact Ev.now _
  rw [if_pos hc]
  obtain ⟨W, P, I, X, rfl, rfl, rfl, rfl, C⟩ := rightC_ok hc
  refine Ev.step (fun k => check_Bytes.j0.eq_2 ..) ?_
  refine Ev.ite (fun hl => ?_) (fun hl => ?_)
  · rw [if_pos (by omega)]; exact Ev.now _
  · rw [if_neg (by omega)]
    refine Ev.step (fun k => check_Bytes.j1.eq_2 ..) ?_
    exact ev_check_Bytes_l0 C refl s (by omega) (bytesOf s) [] I 0 rfl rfl C.hi
theorem ev_awake : Ev (fun k => signalbenchlaw04_awake.f k) true := by
  refine Ev.of (fun k => signalbenchlaw04_awake.mono k) (k := 80) ?_
  decide +kernel
def zerosS (n : Nat) : ByteArray := strOfNums (List.replicate n 48)
theorem zeros_size (n : Nat) : (zerosS n).size = n := by rw [zerosS, size_str, List.length_replicate]
theorem zeros_bits (n : Nat) : AllB (List.replicate n 48) := fun x hx => .inl (List.mem_replicate.mp hx).2
theorem zeros_bytes (n : Nat) : bytesOf (zerosS n) = List.replicate n 48 := bytes_str (zeros_bits n).byts
theorem zeros_app (n m : Nat) : zerosS n ++ zerosS m = zerosS (n + m) := by rw [zerosS, zerosS, str_append, List.replicate_append_replicate]; rfl
theorem ev_zeros (n : Nat) (hn : n ≤ 70000) : Ev (fun k => signalbenchlaw04_zeros.f k (n : Int)) (zerosS n) := by
  have key : ∀ (d j : Nat), j + d = n → Ev (fun k => signalbenchlaw04_zeros.l0 k (n : Int) (zerosS j) (j : Int)) (zerosS n) := by
    intro d
    induction d with
    | zero =>
      intro j h
      obtain rfl : j = n := by omega
      refine Ev.step (fun k => signalbenchlaw04_zeros.l0.eq_2 ..) ?_
      exact Ev.neg (by omega) (Ev.now _)
    | succ d ih =>
      intro j h
      have hs := zeros_size j
      have e : zerosS j ++ (⟨#[48]⟩ : ByteArray) = zerosS (j + 1) := zeros_app j 1
      refine Ev.step (fun k => signalbenchlaw04_zeros.l0.eq_2 ..) ?_
      rw [e, wnat (by omega)]
      exact Ev.pos (by omega) (Ev.pos (by omega) (ih (j + 1) (by omega)))
  exact key n 0 (by omega)
theorem run_zeros : ∀ n, runC 8 7 0 (List.replicate n 48) = 0
  | 0 => rfl
  | n + 1 => by
    rw [List.replicate_succ, runC, show stepC 8 7 0 ((48 : Int) - 48).toNat = 0 by decide]
    exact run_zeros n
theorem crc_zeros (n : Nat) : crcL 8 7 0 0 false (List.replicate n 48) = 0 := by
  unfold crcL
  show ((finC 8 0 false (runC 8 7 0 (List.replicate n 48)) : Nat) : Int) = 0
  rw [run_zeros]
  decide
theorem right8 : rightC 8 7 0 0 = true := by decide
theorem ev_last (m : Nat) (hm : m ≤ 3) : ∀ (d j : Nat), j + d = 256 → Ev (fun k => signalbenchlaw04_CheckLimits.l0 k (m : Int) (zerosS 256) (zerosS (256 * j)) (j : Int)) true := by
  intro d
  induction d with
  | zero =>
    intro j h
    obtain rfl : j = 256 := by omega
    have hs1 := zeros_size 65536
    have hs2 := zeros_size m
    have hs := zeros_size (65536 + m)
    have hb := zeros_bytes (65536 + m)
    have hall : (bytesOf (zerosS (65536 + m))).all isB = true := by rw [hb]; exact all_isB.mpr (zeros_bits _)
    have h1 := ev_check_Bits 8 7 0 0 false (zerosS (65536 + m)) (by omega)
    have h2 := ev_check_Bits 0 0 0 0 false (zerosS (65536 + m)) (by omega)
    have e50 : bytesOf (zerosS (65536 + m) ++ (⟨#[50]⟩ : ByteArray)) = List.replicate (65536 + m) 48 ++ [50] := by rw [bytes_append, hb]; rfl
    have hs3 : (zerosS (65536 + m) ++ (⟨#[50]⟩ : ByteArray)).size = 65536 + m + 1 := by rw [ByteArray.size_append, hs]; rfl
    have h3 := ev_check_Bits 8 7 0 0 false (zerosS (65536 + m) ++ (⟨#[50]⟩ : ByteArray)) (by omega)
    have hno : (bytesOf (zerosS (65536 + m) ++ (⟨#[50]⟩ : ByteArray))).all isB = false := by rw [e50, List.all_append, show [(50 : Int)].all isB = false by decide, Bool.and_false]
    rw [bitsC, if_pos right8, if_pos hall, hs] at h1
    rw [bitsC, if_neg (by decide)] at h2
    rw [bitsC, if_pos right8, if_neg (by rw [hno]; decide)] at h3
    have ew : wrap64 (8192 + (m : Int)) = ((8192 + m : Nat) : Int) := by rw [w64 (by omega) (by omega)]; rfl
    have ecut : (zerosS (65536 + m)).extract 0 (8192 + m) = zerosS (8192 + m) := by
      apply bytes_inj
      rw [bytes_extract, List.drop_zero, hb, zeros_bytes, List.take_replicate]
      congr 1
      omega
    have h4 := ev_check_Bytes 8 7 0 0 false (zerosS (8192 + m))
    rw [bytesC, if_pos right8, zeros_size] at h4
    refine Ev.step (fun k => signalbenchlaw04_CheckLimits.l0.eq_2 ..) ?_
    refine Ev.neg (by omega) (Ev.bind (ev_zeros m (by omega)) (Ev.pos ?_ ?_))
    · show (zerosS 65536).size + (zerosS m).size ≤ _
      omega
    rw [show zerosS (256 * 256) ++ zerosS m = zerosS (65536 + m) from zeros_app 65536 m, ew, Int.toNat_natCast, ecut]
    refine Ev.bind h1 (Ev.bind h2 (Ev.pos (by omega) (Ev.bind h3 (Ev.pos (by omega) (Ev.pos (by omega) (Ev.bind h4 ?_))))))
    by_cases hm0 : m = 0
    · subst hm0
      rw [if_pos (by omega), if_neg (c := 8192 + 0 > 8192) (by omega), hb, crc_zeros]
      exact Ev.neg (by decide) (Ev.pos rfl (Ev.pos rfl (Ev.pos rfl (Ev.pos rfl (Ev.pos rfl (Ev.bind ev_awake (Ev.now true)))))))
    · rw [if_neg (by omega), if_pos (c := 8192 + m > 8192) (by omega)]
      exact Ev.pos (by omega) (Ev.pos rfl (Ev.pos rfl (Ev.pos rfl (Ev.pos rfl (Ev.pos rfl (Ev.pos rfl (Ev.bind ev_awake (Ev.now true))))))))
  | succ d ih =>
    intro j h
    have hs1 := zeros_size (256 * j)
    have hs2 := zeros_size 256
    have e : zerosS (256 * j) ++ zerosS 256 = zerosS (256 * (j + 1)) := by rw [zeros_app]; rfl
    refine Ev.step (fun k => signalbenchlaw04_CheckLimits.l0.eq_2 ..) ?_
    rw [e, wnat (by omega)]
    exact Ev.pos (by omega) (Ev.pos (by omega) (ih (j + 1) (by omega)))
theorem main : signalbenchlaw04_CheckLimits.Pure := by
  intro m _
  refine Ev.rounds (g := fun k => signalbenchlaw04_CheckLimits.f k m) ?_
  have hj : Ev (fun k => signalbenchlaw04_CheckLimits.j0 k m true) true := by
    refine Ev.step (fun k => signalbenchlaw04_CheckLimits.j0.eq_2 ..) ?_
    exact Ev.pos rfl (Ev.bind ev_awake (Ev.now true))
  unfold signalbenchlaw04_CheckLimits.f
  refine Ev.ite (fun _ => hj) (fun h1 => ?_)
  by_cases h2 : m > 3
  · rw [decide_eq_true h2]; exact hj
  rw [decide_eq_false h2]
  obtain ⟨n, rfl⟩ := Int.eq_ofNat_of_zero_le (show 0 ≤ m by omega)
  refine Ev.step (fun k => signalbenchlaw04_CheckLimits.j0.eq_2 ..) ?_
  refine Ev.neg (by decide) ?_
  refine Ev.step (fun k => signalbenchlaw04_CheckLimits.j1.eq_2 ..) ?_
  refine Ev.bind (ev_zeros 256 (by omega)) ?_
  exact ev_last n (by omega) 256 0 rfl
end CheckLimits_
theorem CheckLimits : signalbenchlaw04_CheckLimits.Pure := CheckLimits_.main
end Go.Proofs.YteeejopgaegaoaaDoor.Pure
