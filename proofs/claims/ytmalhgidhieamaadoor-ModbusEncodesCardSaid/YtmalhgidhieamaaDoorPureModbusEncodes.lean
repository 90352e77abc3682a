/- The law ModbusEncodes holds as a statement on numbers and lists: the sender makes of any items what the reference makes, or tells the same error. No condition beyond those of the statement. -/
import Derived.Test.YtmalhgidhieamaaDoorPModbusEncodesx14
import Derived.Test.YtmalhgidhieamaaDoorSpecCrc
namespace Go.Proofs.YtmalhgidhieamaaDoor.Pure
open Go.RowKit Go.Proofs.YtmalhgidhieamaaDoor.PModbusEncodes Go.Proofs.YtmalhgidhieamaaDoorW.PrintWords Go.Proofs.YtmalhgidhieamaaDoorW.PrintLast Go.Proofs.YtmalhgidhieamaaDoor.Aid
set_option linter.unusedVariables false
set_option linter.unusedSimpArgs false
namespace ModbusEncodes_
theorem rdI_mid (pre : List S48) (x : S48) (post : List S48) (i : Nat) (h : i = pre.length) : rd_T48 (pre ++ x :: post) (i : Int) = x := by
  subst h; simp [rd_T48]
theorem rdE_mid (pre : List S32) (x : S32) (post : List S32) (i : Nat) (h : i = pre.length) : rd_T32 (pre ++ x :: post) (i : Int) = x := by
  subst h; simp [rd_T32]
theorem ev_check_Right (w p i x : Int) (refl : Bool) : Ev (fun k => check_Right.f k w p i x refl) (rightC w p i x) := by
  have hyes : 1 ≤ w ∧ w ≤ 32 → False → Ev (fun k => check_Right.j0 k true w p i x refl) (rightC w p i x) := fun _ h => h.elim
  have hj : ¬ (1 ≤ w ∧ w ≤ 32) → Ev (fun k => check_Right.j0 k true w p i x refl) (rightC w p i x) := by
    intro h
    have e : rightC w p i x = false := by unfold rightC; rw [decide_eq_false (by omega)]
    rw [e]
    refine Ev.step (fun k => check_Right.j0.eq_2 ..) ?_
    exact Ev.pos rfl (Ev.now _)
  clear hyes
  unfold check_Right.f
  refine Ev.ite (fun h1 => hj (by omega)) (fun h1 => ?_)
  by_cases h2 : w > 32
  · rw [decide_eq_true h2]; exact hj (by omega)
  rw [decide_eq_false h2]
  obtain ⟨n, rfl⟩ := Int.eq_ofNat_of_zero_le (show 0 ≤ w by omega)
  have hle := pow2_le32 (show n ≤ 32 by omega)
  have hp := pow2_pos n
  refine Ev.step (fun k => check_Right.j0.eq_2 ..) ?_
  refine Ev.neg (by decide) (Ev.pos (by omega) (Ev.now' fun _ => ?_))
  rw [shl_one (by omega), w64 (x := 2 ^ n - 1) (by omega) (by omega)]
  unfold rightC
  rw [Int.toNat_natCast]
  repeat' split
  all_goals first
    | (rw [decide_eq_false (by omega)])
    | (congr 1; rw [Int.tmod_eq_emod_of_nonneg (by omega), Bool.eq_iff_iff, beq_iff_eq, decide_eq_true_iff]; omega)
theorem check_shift {w p i x : Nat} (C : Crc w p i x) (refl : Bool) {r b : Nat} (hr : r < 2 ^ w) : check_shift.f (w : Int) p i x refl r b = some ((stepC w p r b : Nat) : Int) := by
  have hw := C.w1
  have hw2 := C.w2
  have hle := pow2_le32 hw2
  have hln := npow_le32 hw2
  have hpp := pow2_pos w
  have hP := C.hp
  have ht := top_lt hw hr
  have e1 : wrap64 ((w : Int) - 1) = ((w - 1 : Nat) : Int) := by rw [w64 (by omega) (by omega)]; omega
  have e2 : Go.bits .and .i64 (shr .i64 (r : Int) ((w - 1 : Nat) : Int)) 1 = ((r / 2 ^ (w - 1) : Nat) : Int) := by
    rw [nshr _ (by omega), and_one]
    generalize r / 2 ^ (w - 1) = z at ht
    omega
  have e3 : wrap64 ((r : Int) * 2) = ((2 * r : Nat) : Int) := by rw [w64 (by omega) (by omega)]; omega
  have hm : 2 * r % 2 ^ w < 2 ^ w := Nat.mod_lt _ (npow_pos w)
  unfold check_shift.f stepC
  rw [e1, if_pos (by omega), if_pos (by omega), e2, e3, shl_one (by omega), w64 (x := 2 ^ w - 1) (by omega) (by omega), nmask w (by omega) (by omega), nxor (by omega) (by omega)]
  by_cases h : r / 2 ^ (w - 1) = b
  · rw [if_pos h, if_pos (by rw [h])]
  · rw [if_neg h, if_neg (fun e => h (by exact_mod_cast e))]
theorem ev_check_finish {w p i x : Nat} (C : Crc w p i x) (refl : Bool) {r : Nat} (hr : r < 2 ^ w) : Ev (fun k => check_finish.f k (w : Int) p i x refl r) ((finC w x refl r : Nat) : Int) := by
  have hw2 := C.w2
  have hln := npow_le32 hw2
  have hX := C.hx
  have key : ∀ (d j acc q : Nat), j + d = w → acc < 2 ^ j → q < 4294967296 → Ev (fun k => check_finish.l0 k (q : Int) (acc : Int) (w : Int) (j : Int) (w : Int) p i x refl) ((revN d acc q ^^^ x : Nat) : Int) := by
    intro d
    induction d with
    | zero =>
      intro j acc q hj ha hq
      have hb : 2 ^ j ≤ 4294967296 := npow_le32 (by omega)
      refine Ev.step (fun k => check_finish.l0.eq_2 ..) ?_
      rw [nxor (by omega) (by omega)]
      exact Ev.neg (by omega) (Ev.now _)
    | succ d ih =>
      intro j acc q hj ha hq
      have hb : 2 ^ j ≤ 4294967296 := npow_le32 (by omega)
      have e1 : (q : Int) / 2 = ((q / 2 : Nat) : Int) := by omega
      have e2 : Go.bits .and .i64 (q : Int) 1 = ((q % 2 : Nat) : Int) := by rw [and_one]; omega
      have e3 : wrap64 ((acc : Int) * 2) = (acc : Int) * 2 ^ 1 := by rw [w64 (by omega) (by omega)]; omega
      have e4 : Go.bits .or .i64 ((acc : Int) * 2 ^ 1) ((q % 2 : Nat) : Int) = ((2 * acc + q % 2 : Nat) : Int) := by
        rw [or_add 1 (by omega) (by omega) (by omega) (by omega)]; omega
      refine Ev.step (fun k => check_finish.l0.eq_2 ..) ?_
      rw [e1, e2, e3, e4, wnat (by omega)]
      refine Ev.pos (by omega) (ih (j + 1) _ _ (by omega) ?_ (by omega))
      rw [Nat.pow_succ]; omega
  unfold check_finish.f finC
  cases refl
  · rw [nxor (by omega) (by omega)]
    exact Ev.neg (by decide) (Ev.now _)
  · exact Ev.pos rfl (key w 0 0 r (by omega) (by decide) (by omega))
theorem and1_u8 (x : Int) (h0 : 0 ≤ x) (h1 : x < 256) : Go.bits .and .u8 x 1 = x % 2 := by
  have g : ∀ y : Int, 0 ≤ y → y < 256 → (BitVec.ofInt 8 y).toNat = y.toNat := fun y a b => by rw [BitVec.toNat_ofInt]; show ((y % ((256 : Nat) : Int)).toNat) = y.toNat; omega
  have h : (BitVec.ofInt 8 x &&& BitVec.ofInt 8 1).toNat = (x % 2).toNat := by
    rw [BitVec.toNat_and, g x h0 h1, g 1 (by omega) (by omega)]
    show _ &&& 1 = _
    rw [Nat.and_one_is_mod]
    omega
  show IntKind.u8.wrap ((BitVec.ofInt 8 x &&& BitVec.ofInt 8 1).toNat : Int) = _
  rw [h]
  show (((x % 2).toNat : Int)) % 256 = _
  omega
theorem shr_u8 (x y : Int) (n : Nat) (hy : y = (n : Int)) (hn : n ≤ 8) : shr .u8 x y = x / 2 ^ n := by
  subst hy
  unfold shr
  have : min ((n : Int).toNat) IntKind.u8.bits = n := by
    show min ((n : Int).toNat) 8 = n
    rw [Int.toNat_natCast]; omega
  rw [this]
theorem div_bd {b : Int} (h0 : 0 ≤ b) (h1 : b < 256) (n : Nat) : 0 ≤ b / 2 ^ n ∧ b / 2 ^ n < 256 := by
  have hp := pow2_pos n
  refine ⟨Int.ediv_nonneg h0 (by omega), ?_⟩
  exact Int.lt_of_le_of_lt (Int.ediv_le_self _ h0) h1
theorem fromInt_drop (b : Int) (msb : Bool) (k : Nat) (h : k < 8) : (fromIntL b 8 msb).drop k = (48 + b / 2 ^ (if msb = true then 7 - k else k) % 2) :: (fromIntL b 8 msb).drop (k + 1) := by
  have hl : k < (fromIntL b 8 msb).length := by rw [fromIntL_len]; exact h
  rw [List.drop_eq_getElem_cons hl, fromIntL_get]
theorem ev_check_Bytes_l1 {w p i x : Nat} (C : Crc w p i x) (refl : Bool) (s : ByteArray) (hs : s.size ≤ 8192) (j : Nat) (hj : j < s.size) (res : Int × Int) (b : Int) (hb : bt s (j : Int) = b) (h0 : 0 ≤ b) (h1 : b < 256) : ∀ (d k' r : Nat), k' + d = 8 → r < 2 ^ w →
    Ev (fun k => check_Bytes.l0 k s ((runC w p r ((fromIntL b 8 (!refl)).drop k') : Nat) : Int) (s.size : Int) ((j + 1 : Nat) : Int) (w : Int) p i x refl) res → Ev (fun k => check_Bytes.l1 k s (r : Int) (j : Int) (s.size : Int) (j : Int) (k' : Int) (w : Int) p i x refl) res := by
  intro d
  induction d with
  | zero =>
    intro k' r hk hr h
    obtain rfl : k' = 8 := by omega
    rw [List.drop_of_length_le (by rw [fromIntL_len]; omega), runC] at h
    refine Ev.step (fun k => check_Bytes.l1.eq_2 ..) ?_
    rw [wnat (i := j) (by omega)]
    exact Ev.neg (by omega) h
  | succ d ih =>
    intro k' r hk hr h
    rw [fromInt_drop b (!refl) k' (by omega), runC] at h
    have ebit : ∀ (n : Nat), n ≤ 7 → wrap64 (Go.bits .and .u8 (shr .u8 b (n : Int)) 1) = (((b / 2 ^ n % 2).toNat : Nat) : Int) := by
      intro n hn
      have hd := div_bd h0 h1 n
      rw [shr_u8 _ _ n rfl (by omega), and1_u8 _ hd.1 hd.2]
      generalize b / 2 ^ n = z at hd
      rw [w64 (by omega) (by omega)]; omega
    have e7 : wrap64 (7 - (k' : Int)) = ((7 - k' : Nat) : Int) := by rw [w64 (by omega) (by omega)]; omega
    refine Ev.step (fun k => check_Bytes.l1.eq_2 ..) ?_
    rw [hb, wnat (i := k') (by omega), e7, ebit k' (by omega), ebit (7 - k') (by omega), check_shift C refl hr, check_shift C refl hr]
    have h48 : ∀ z : Int, (48 + z - 48).toNat = z.toNat := fun z => by congr 1; omega
    rw [h48] at h
    cases refl
    · exact Ev.pos (by omega) (Ev.neg (by decide) (Ev.pos (by omega) (Ev.pos (by omega) (Ev.pos (by omega) (Ev.sbind (ih (k' + 1) _ (by omega) (stepC_lt C r _) h))))))
    · exact Ev.pos (by omega) (Ev.pos rfl (Ev.pos (by omega) (Ev.pos (by omega) (Ev.pos (by omega) (Ev.sbind (ih (k' + 1) _ (by omega) (stepC_lt C r _) h))))))
theorem ev_check_Bytes_l0 {w p i x : Nat} (C : Crc w p i x) (refl : Bool) (s : ByteArray) (hs : s.size ≤ 8192) : ∀ (l pre : List Int) (r j : Nat), bytesOf s = pre ++ l → j = pre.length → r < 2 ^ w →
    Ev (fun k => check_Bytes.l0 k s (r : Int) (s.size : Int) (j : Int) (w : Int) p i x refl) (((finC w x refl (runC w p r (fromBytesL l (!refl))) : Nat) : Int), 0) := by
  have hlen := len_bytes s
  intro l
  induction l with
  | nil =>
    intro pre r j he hj hr
    rw [List.append_nil] at he
    rw [he] at hlen
    refine Ev.step (fun k => check_Bytes.l0.eq_2 ..) ?_
    rw [fromBytesL, runC]
    exact Ev.neg (by omega) (Ev.bind (ev_check_finish C refl hr) (Ev.now _))
  | cons b l ih =>
    intro pre r j he hj hr
    have hl : s.size = j + (l.length + 1) := by rw [← hlen, he, hj, List.length_append, List.length_cons]
    have hbt : bt s (j : Int) = b := by rw [bt_get s j (by omega)]; simp [he, hj]
    have g1 := bt_lo s (j : Int)
    have g2 := bt_hi s (j : Int)
    rw [hbt] at g1 g2
    rw [fromBytesL, runC_append]
    have hn := ih (pre ++ [b]) (runC w p r (fromIntL b 8 (!refl))) (j + 1) (by rw [he]; simp) (by simp [hj]) (runC_lt C _ _ hr)
    have hi := ev_check_Bytes_l1 C refl s hs j (by omega) _ b hbt g1 (by omega) 8 0 r rfl hr (by rw [List.drop_zero]; exact hn)
    refine Ev.step (fun k => check_Bytes.l0.eq_2 ..) ?_
    refine Ev.pos (by omega) ?_
    refine Ev.step (fun k => check_Bytes.j3.eq_2 ..) ?_
    exact hi
theorem ev_check_Bytes (w p i x : Int) (refl : Bool) (s : ByteArray) : Ev (fun k => check_Bytes.f k w p i x refl s) (bytesC w p i x refl s) := by
  unfold check_Bytes.f bytesC
  refine Ev.bind (ev_check_Right w p i x refl) (Ev.ite (fun hc => ?_) (fun hc => ?_))
  case refine_2 => rw [if_neg hc]; exact Ev.now _
  rw [if_pos hc]
  obtain ⟨W, P, I, X, rfl, rfl, rfl, rfl, C⟩ := rightC_ok hc
  refine Ev.step (fun k => check_Bytes.j0.eq_2 ..) ?_
  refine Ev.ite (fun hl => ?_) (fun hl => ?_)
  · rw [if_pos (by omega)]; exact Ev.now _
  · rw [if_neg (by omega)]
    refine Ev.step (fun k => check_Bytes.j1.eq_2 ..) ?_
    exact ev_check_Bytes_l0 C refl s (by omega) (bytesOf s) [] I 0 rfl rfl C.hi
theorem stepC_xor {w p : Nat} (hw : 1 ≤ w) (a b : Nat) (ha : a < 2 ^ w) (hb : b < 2 ^ w) (x y : Nat) (hx : x < 2) (hy : y < 2) : stepC w p (a ^^^ b) ((x + y) % 2) = stepC w p a x ^^^ stepC w p b y := by
  have hta := top_lt hw ha
  have htb := top_lt hw hb
  have ht : (a ^^^ b) / 2 ^ (w - 1) = (a / 2 ^ (w - 1) + b / 2 ^ (w - 1)) % 2 := by
    have h1 := Nat.testBit_xor a b (w - 1)
    have h2 := top_lt hw (Nat.xor_lt_two_pow ha hb)
    simp only [Nat.testBit_eq_decide_div_mod_eq] at h1
    generalize a / 2 ^ (w - 1) = u at *
    generalize b / 2 ^ (w - 1) = v at *
    generalize (a ^^^ b) / 2 ^ (w - 1) = z at *
    have cu : u = 0 ∨ u = 1 := by omega
    have cv : v = 0 ∨ v = 1 := by omega
    have cz : z = 0 ∨ z = 1 := by omega
    rcases cu with rfl | rfl <;> rcases cv with rfl | rfl <;> rcases cz with rfl | rfl <;> simp at h1 ⊢
  have hd : 2 * (a ^^^ b) % 2 ^ w = (2 * a % 2 ^ w) ^^^ (2 * b % 2 ^ w) := by
    rw [← Nat.xor_mod_two_pow]
    congr 1
    have := Nat.shiftLeft_xor_distrib (a := a) (b := b) (i := 1)
    simp only [Nat.shiftLeft_eq, Nat.pow_one] at this
    rw [Nat.mul_comm 2, Nat.mul_comm 2, Nat.mul_comm 2]
    exact this
  unfold stepC
  rw [ht, hd]
  generalize 2 * a % 2 ^ w = A
  generalize 2 * b % 2 ^ w = B
  generalize a / 2 ^ (w - 1) = u at *
  generalize b / 2 ^ (w - 1) = v at *
  have cu : u = 0 ∨ u = 1 := by omega
  have cv : v = 0 ∨ v = 1 := by omega
  have cx : x = 0 ∨ x = 1 := by omega
  have cy : y = 0 ∨ y = 1 := by omega
  have e1 : A ^^^ B ^^^ p = A ^^^ (B ^^^ p) := Nat.xor_assoc _ _ _
  have e2 : A ^^^ B ^^^ p = (A ^^^ p) ^^^ B := by rw [Nat.xor_assoc, Nat.xor_assoc, Nat.xor_comm B p]
  have e3 : A ^^^ B = (A ^^^ p) ^^^ (B ^^^ p) := by rw [Nat.xor_assoc, ← Nat.xor_assoc p B p, Nat.xor_comm p B, Nat.xor_assoc B p p, Nat.xor_self, Nat.xor_zero]
  rcases cu with rfl | rfl <;> rcases cv with rfl | rfl <;> rcases cx with rfl | rfl <;> rcases cy with rfl | rfl <;> simp [← e1, ← e2, ← e3]
/-- The bits of two sequences, the exclusive or of each pair. -/
def mixL : List Int → List Int → List Int
  | x :: l, y :: m => (48 + ((x - 48) + (y - 48)) % 2) :: mixL l m
  | _, _ => []
theorem mixL_bits : ∀ (l m : List Int), AllB (mixL l m)
  | [], _ => AllB.nil
  | _ :: _, [] => AllB.nil
  | x :: l, y :: m => AllB.cons_iff.mpr ⟨by omega, mixL_bits l m⟩
theorem mixL_len : ∀ (l m : List Int), l.length = m.length → (mixL l m).length = l.length
  | [], _, _ => rfl
  | _ :: _, [], h => by simp at h
  | x :: l, y :: m, h => by simp [mixL, mixL_len l m (by simpa using h)]
theorem runC_mix {w p i x : Nat} (C : Crc w p i x) : ∀ (l m : List Int) (a b : Nat), l.length = m.length → AllB l → AllB m → a < 2 ^ w → b < 2 ^ w → runC w p (a ^^^ b) (mixL l m) = runC w p a l ^^^ runC w p b m
  | [], [], _, _, _, _, _, _, _ => rfl
  | [], _ :: _, _, _, h, _, _, _, _ => by simp at h
  | _ :: _, [], _, _, h, _, _, _, _ => by simp at h
  | s :: l, t :: m, a, b, h, hl, hm, ha, hb => by
    obtain ⟨h1, hl⟩ := AllB.cons_iff.mp hl
    obtain ⟨h2, hm⟩ := AllB.cons_iff.mp hm
    have e : (48 + ((s - 48) + (t - 48)) % 2 - 48).toNat = ((s - 48).toNat + (t - 48).toNat) % 2 := by omega
    rw [mixL, runC, runC, runC, e, stepC_xor C.w1 a b ha hb _ _ (by omega) (by omega)]
    exact runC_mix C l m _ _ (by simpa using h) hl hm (stepC_lt C _ _) (stepC_lt C _ _)
theorem revN_xor : ∀ (n a b c d : Nat), revN n (a ^^^ b) (c ^^^ d) = revN n a c ^^^ revN n b d
  | 0, _, _, _, _ => rfl
  | n + 1, a, b, c, d => by
    have e1 : 2 * (a ^^^ b) + (c ^^^ d) % 2 = (2 * a + c % 2) ^^^ (2 * b + d % 2) := by
      apply Nat.eq_of_testBit_eq
      intro i
      rw [Nat.testBit_xor]
      cases i with
      | zero =>
        have h := Nat.testBit_xor c d 0
        simp only [Nat.testBit_zero] at h ⊢
        rw [show (2 * (a ^^^ b) + (c ^^^ d) % 2) % 2 = (c ^^^ d) % 2 by omega, show (2 * a + c % 2) % 2 = c % 2 by omega, show (2 * b + d % 2) % 2 = d % 2 by omega]
        exact h
      | succ i =>
        rw [Nat.testBit_succ, Nat.testBit_succ, Nat.testBit_succ, show (2 * (a ^^^ b) + (c ^^^ d) % 2) / 2 = a ^^^ b by omega, show (2 * a + c % 2) / 2 = a by omega, show (2 * b + d % 2) / 2 = b by omega, Nat.testBit_xor]
    have e2 : (c ^^^ d) / 2 = (c / 2) ^^^ (d / 2) := by
      apply Nat.eq_of_testBit_eq
      intro i
      simp only [Nat.testBit_xor, ← Nat.testBit_succ]
    rw [revN, e1, e2, revN_xor n]
    rfl
theorem finC_xor3 (w x : Nat) (refl : Bool) (a b c : Nat) : finC w x refl a ^^^ finC w x refl b ^^^ finC w x refl c = finC w x refl (a ^^^ b ^^^ c) := by
  have h3 : ∀ u v t : Nat, (u ^^^ x) ^^^ (v ^^^ x) ^^^ (t ^^^ x) = (u ^^^ v ^^^ t) ^^^ x := by
    intro u v t
    have : (u ^^^ x) ^^^ (v ^^^ x) = u ^^^ v := by rw [Nat.xor_assoc, ← Nat.xor_assoc x v x, Nat.xor_comm x v, Nat.xor_assoc v x x, Nat.xor_self, Nat.xor_zero]
    rw [this, ← Nat.xor_assoc]
  unfold finC
  rw [h3]
  cases refl
  · rfl
  · simp only [if_true]
    have e := revN_xor w 0 0 (a ^^^ b) c
    have e' := revN_xor w 0 0 a b
    rw [Nat.xor_zero] at e e'
    rw [e, e']
theorem revN_top : ∀ (n acc r : Nat), revN (n + 1) acc r = 2 * revN n acc r + r / 2 ^ n % 2
  | 0, acc, r => by simp [revN]
  | n + 1, acc, r => by rw [revN, revN_top n, revN, Nat.div_div_eq_div_mul, ← Nat.pow_succ']
theorem revN_mod : ∀ (n acc r : Nat), revN n acc (r % 2 ^ n) = revN n acc r
  | 0, _, _ => rfl
  | n + 1, acc, r => by
    have h2 : 2 ^ (n + 1) = 2 * 2 ^ n := by rw [Nat.pow_succ]; omega
    have e1 : r % 2 ^ (n + 1) % 2 = r % 2 := by rw [h2, Nat.mod_mul_right_mod]
    have e2 : r % 2 ^ (n + 1) / 2 = r / 2 % 2 ^ n := by rw [h2, Nat.mod_mul_right_div_self]
    rw [revN, revN, e1, e2, revN_mod n]
/-- The register of the reference: from the lowest bit on. -/
def rbit (r b : Nat) : Nat := if r % 2 = b then r / 2 else (r / 2) ^^^ 40961
theorem rev_step {r b : Nat} (hr : r < 2 ^ 16) : revN 16 0 (stepC 16 32773 r b) = rbit (revN 16 0 r) b := by
  have t : revN 16 0 r = 2 * revN 15 0 r + r / 2 ^ 15 % 2 := revN_top 15 0 r
  have hd : r / 2 ^ 15 % 2 = r / 2 ^ 15 := by omega
  rw [hd] at t
  have e : revN 16 0 (2 * r % 2 ^ 16) = revN 15 0 r := by
    rw [revN, show 2 * 0 + 2 * r % 2 ^ 16 % 2 = 0 by omega, show 2 * r % 2 ^ 16 / 2 = r % 2 ^ 15 by omega, revN_mod]
  have hlt : r / 2 ^ 15 < 2 := by omega
  have e1 : revN 16 0 r % 2 = r / 2 ^ 15 := by omega
  have e2 : revN 16 0 r / 2 = revN 15 0 r := by omega
  unfold stepC rbit
  rw [e1, e2]
  show revN 16 0 (if r / 2 ^ 15 = b then _ else _) = _
  split
  · exact e
  · have := revN_xor 16 0 0 (2 * r % 2 ^ 16) 32773
    rw [show (0 : Nat) ^^^ 0 = 0 from rfl, e] at this
    rw [this]
    congr 1
theorem half_xor (a b : Nat) : (a ^^^ b) / 2 = (a / 2) ^^^ (b / 2) := by
  apply Nat.eq_of_testBit_eq
  intro i
  simp only [Nat.testBit_xor, ← Nat.testBit_succ]
theorem low_xor (a b : Nat) : (a ^^^ b) % 2 = (a % 2 + b % 2) % 2 := by
  have h1 := Nat.testBit_xor a b 0
  simp only [Nat.testBit_zero] at h1
  have ha : a % 2 = 0 ∨ a % 2 = 1 := by omega
  have hb : b % 2 = 0 ∨ b % 2 = 1 := by omega
  have hc : (a ^^^ b) % 2 = 0 ∨ (a ^^^ b) % 2 = 1 := by omega
  rcases ha with e | e <;> rcases hb with f | f <;> rcases hc with g | g <;> simp [e, f, g] at h1 ⊢
theorem rbit_xor (r u : Nat) : (if (r ^^^ u) % 2 = 1 then ((r ^^^ u) / 2) ^^^ 40961 else (r ^^^ u) / 2) = rbit r (u % 2) ^^^ (u / 2) := by
  have hl := low_xor r u
  have hh := half_xor r u
  unfold rbit
  rw [hh]
  have ha : r % 2 = 0 ∨ r % 2 = 1 := by omega
  have hb : u % 2 = 0 ∨ u % 2 = 1 := by omega
  have ac : ∀ x y z : Nat, x ^^^ y ^^^ z = x ^^^ z ^^^ y := fun x y z => by rw [Nat.xor_assoc, Nat.xor_comm y z, ← Nat.xor_assoc]
  rcases ha with e | e <;> rcases hb with f | f <;> simp [hl, e, f, ac]
/-- The checksum of bytes. -/
def crcM (l : List Int) : Nat := revN 16 0 (runC 16 32773 65535 (fromBytesL l false))
theorem C16 : Crc 16 32773 65535 0 := ⟨by decide, by decide, by decide, by decide, by decide, by decide⟩
theorem crcM_lt (l : List Int) : crcM l < 65536 := by
  have h := runC_lt C16 (fromBytesL l false) 65535 (by decide)
  have := revN_lt 16 0 0 (runC 16 32773 65535 (fromBytesL l false)) (by decide)
  simpa [crcM] using this
theorem rev_lt (r : Nat) : revN 16 0 r < 65536 := by simpa using revN_lt 16 0 0 r (by decide)
/-- The two bytes of a checksum. -/
def sumL (l : List Int) : List Int := [(crcM l : Int) % 256, (crcM l : Int) / 256 % 256]
theorem named16 : check_Named.f (⟨#[99, 114, 99, 49, 54, 109, 111, 100, 98, 117, 115]⟩ : ByteArray) = some (16, 32773, 65535, 0, true, true) := by decide +kernel
theorem ev_sum (s : ByteArray) (hs : s.size ≤ 8192) : Ev (fun k => modbus_sum.f k s) (strOfNums (sumL (bytesOf s))) := by
  unfold modbus_sum.f
  rw [named16]
  refine Ev.sbind (Ev.bind (ev_check_Bytes 16 32773 65535 0 true s) ?_)
  have e : bytesC 16 32773 65535 0 true s = ((crcM (bytesOf s) : Int), 0) := by
    unfold bytesC
    rw [if_pos (by decide), if_neg (by omega)]
    simp [crcL, finC, crcM]
  rw [e]
  exact Ev.now _
theorem ev_ref_Crc_l1 (s : ByteArray) (hs : s.size ≤ 140737488355328) (j : Nat) (hj : j < s.size) (res : Int) (b : Int) (h0 : 0 ≤ b) (h1 : b < 256) : ∀ (d k' r : Nat), k' + d = 8 → r < 2 ^ 16 →
    Ev (fun k => signalbenchref30_Crc.l0 k s ((revN 16 0 (runC 16 32773 r ((fromIntL b 8 false).drop k')) : Nat) : Int) ((j + 1 : Nat) : Int)) res → Ev (fun k => signalbenchref30_Crc.l1 k s ((revN 16 0 r ^^^ (b.toNat / 2 ^ k') : Nat) : Int) (j : Int) (k' : Int)) res := by
  intro d
  induction d with
  | zero =>
    intro k' r hk hr h
    obtain rfl : k' = 8 := by omega
    rw [List.drop_of_length_le (by rw [fromIntL_len]; omega), runC] at h
    refine Ev.step (fun k => signalbenchref30_Crc.l1.eq_2 ..) ?_
    rw [show b.toNat / 2 ^ 8 = 0 by omega, Nat.xor_zero, wnat (i := j) (by omega)]
    exact Ev.neg (by omega) h
  | succ d ih =>
    intro k' r hk hr h
    rw [fromInt_drop b false k' (by omega), runC] at h
    have hu : b.toNat / 2 ^ k' < 256 := Nat.lt_of_le_of_lt (Nat.div_le_self _ _) (by omega)
    have eb : (48 + b / 2 ^ (if false = true then 7 - k' else k') % 2 - 48).toNat = b.toNat / 2 ^ k' % 2 := by
      obtain ⟨m, rfl⟩ := Int.eq_ofNat_of_zero_le h0
      have hz : ((m / 2 ^ k' : Nat) : Int) = (m : Int) / 2 ^ k' := by rw [Int.natCast_ediv, Int.natCast_pow]; rfl
      rw [if_neg (by decide), ← hz, Int.toNat_natCast]
      generalize m / 2 ^ k' = z
      omega
    rw [eb] at h
    have hn := ih (k' + 1) _ (by omega) (stepC_lt C16 r (b.toNat / 2 ^ k' % 2)) h
    rw [rev_step hr, ← half_pow2 b.toNat k', ← rbit_xor] at hn
    have hR := rev_lt r
    have hx : revN 16 0 r ^^^ b.toNat / 2 ^ k' < 65536 := Nat.xor_lt_two_pow (n := 16) hR (by omega)
    generalize revN 16 0 r ^^^ b.toNat / 2 ^ k' = y at hn hx
    refine Ev.step (fun k => signalbenchref30_Crc.l1.eq_2 ..) ?_
    rw [and_one, wnat (i := k') (by omega), show (y : Int) / 2 = ((y / 2 : Nat) : Int) by omega, show (40961 : Int) = ((40961 : Nat) : Int) from rfl, nxor (by omega) (by decide)]
    refine Ev.pos (by omega) (Ev.ite (fun hy => ?_) (fun hy => ?_))
    · rw [if_pos (by omega)] at hn; exact hn
    · rw [if_neg (by omega)] at hn; exact hn
theorem ev_ref_Crc (s : ByteArray) (hs : s.size ≤ 140737488355328) : Ev (fun k => signalbenchref30_Crc.f k s) (crcM (bytesOf s) : Int) := by
  have hlen := len_bytes s
  have key : ∀ (l pre : List Int) (r j : Nat), bytesOf s = pre ++ l → j = pre.length → r < 2 ^ 16 →
      Ev (fun k => signalbenchref30_Crc.l0 k s ((revN 16 0 r : Nat) : Int) (j : Int)) ((revN 16 0 (runC 16 32773 r (fromBytesL l false)) : Nat) : Int) := by
    intro l
    induction l with
    | nil =>
      intro pre r j he hj hr
      rw [List.append_nil] at he
      rw [he] at hlen
      refine Ev.step (fun k => signalbenchref30_Crc.l0.eq_2 ..) ?_
      rw [fromBytesL, runC]
      exact Ev.neg (by omega) (Ev.now _)
    | cons b l ih =>
      intro pre r j he hj hr
      have hl : s.size = j + (l.length + 1) := by rw [← hlen, he, hj, List.length_append, List.length_cons]
      have hbt : bt s (j : Int) = b := by rw [bt_get s j (by omega)]; simp [he, hj]
      have g1 := bt_lo s (j : Int)
      have g2 := bt_hi s (j : Int)
      rw [hbt] at g1 g2
      rw [fromBytesL, runC_append]
      have hn := ih (pre ++ [b]) (runC 16 32773 r (fromIntL b 8 false)) (j + 1) (by rw [he]; simp) (by simp [hj]) (runC_lt C16 _ _ hr)
      have hi := ev_ref_Crc_l1 s hs j (by omega) _ b g1 (by omega) 8 0 r rfl hr (by rw [List.drop_zero]; exact hn)
      rw [Nat.pow_zero, Nat.div_one] at hi
      have hR := rev_lt r
      have ex : Go.bits .xor .i64 ((revN 16 0 r : Nat) : Int) b = ((revN 16 0 r ^^^ b.toNat : Nat) : Int) := by
        have := nxor (a := revN 16 0 r) (b := b.toNat) (by omega) (by omega)
        rwa [show ((b.toNat : Nat) : Int) = b by omega] at this
      refine Ev.step (fun k => signalbenchref30_Crc.l0.eq_2 ..) ?_
      refine Ev.pos (by omega) ?_
      refine Ev.step (fun k => signalbenchref30_Crc.j1.eq_2 ..) ?_
      rw [hbt, w64 (by omega) (by omega), ex]
      exact Ev.pos (by omega) (Ev.pos (by omega) hi)
  have := key (bytesOf s) [] 65535 0 rfl rfl (by decide)
  unfold signalbenchref30_Crc.f
  exact this
/-- What is sent for an item. -/
def sendL (x : S48) : List Int := if x.f4 = 8 then [x.f1 % 256, x.f2 % 256] else [x.f1 % 256, x.f2 % 256] ++ bytesOf x.f3 ++ (if x.f4 = 3 then [((crcM ([x.f1 % 256, x.f2 % 256] ++ bytesOf x.f3) ^^^ 1 : Nat) : Int) % 256, (crcM ([x.f1 % 256, x.f2 % 256] ++ bytesOf x.f3) : Int) / 256 % 256] else sumL ([x.f1 % 256, x.f2 % 256] ++ bytesOf x.f3))
theorem sumL_byts (l : List Int) : Byts (sumL l) := Byts.cons (by omega) (Byts.cons (by omega) Byts.nil)
theorem headL_byts (x : S48) : Byts [x.f1 % 256, x.f2 % 256] := Byts.cons (by omega) (Byts.cons (by omega) Byts.nil)
theorem sendL_byts (x : S48) : Byts (sendL x) := by
  unfold sendL
  have h := headL_byts x
  split
  · exact h
  · refine (h.append (byts_of _)).append ?_
    split
    · exact Byts.cons (by omega) (Byts.cons (by omega) Byts.nil)
    · exact sumL_byts _
theorem sendL_len (x : S48) : 2 ≤ (sendL x).length ∧ (sendL x).length ≤ x.f3.size + 4 := by
  have hl := len_bytes x.f3
  unfold sendL sumL
  split
  · simp
  · split <;> (simp only [List.length_append, List.length_cons, List.length_nil]; omega)
/-- The first error of an item. -/
def itM (c : Int) (x : S48) : Int := if x.f0 < 0 ∨ x.f0 > 1048576 then 1 else if x.f3.size > 4096 then 6 else if x.f1 < 0 ∨ x.f1 > 255 ∨ x.f2 < 0 ∨ x.f2 > 255 ∨ c + 1 + x.f0 > 1048576 then 2 else if x.f4 = 0 ∨ x.f4 = 8 ∨ x.f4 = 3 then 0 else 1
theorem itM_ok {c : Int} {x : S48} (h : itM c x = 0) : 0 ≤ x.f0 ∧ x.f0 ≤ 1048576 ∧ x.f3.size ≤ 4096 ∧ 0 ≤ x.f1 ∧ x.f1 ≤ 255 ∧ 0 ≤ x.f2 ∧ x.f2 ≤ 255 ∧ c + 1 + x.f0 ≤ 1048576 ∧ (x.f4 = 0 ∨ x.f4 = 8 ∨ x.f4 = 3) := by
  unfold itM at h
  split at h
  · omega
  · split at h
    · omega
    · split at h
      · omega
      · split at h
        · rename_i h1 h2 h3 h4; exact ⟨by omega, by omega, by omega, by omega, by omega, by omega, by omega, by omega, h4⟩
        · omega
def firstM (c : Int) : List S48 → Int
  | [] => 0
  | x :: l => if itM c x = 0 then firstM c l else itM c x
def cellM (c : Int) (x : S48) (j : Nat) (b : Int) : S48 := if j = 0 then ⟨c + 1 + x.f0, b, 0, (⟨#[]⟩ : ByteArray), 0⟩ else ⟨0, b, 0, (⟨#[]⟩ : ByteArray), 0⟩
def cellsM (c : Int) (x : S48) : Nat → List Int → List S48
  | _, [] => []
  | j, b :: l => cellM c x j b :: cellsM c x (j + 1) l
theorem cellsM_len (c : Int) (x : S48) : ∀ (l : List Int) (j : Nat), (cellsM c x j l).length = l.length
  | [], _ => rfl
  | _ :: l, j => by simp [cellsM, cellsM_len c x l]
def encM (c : Int) : List S48 → List S48 → List S48 × Int
  | out, [] => (out, 0)
  | out, x :: l => if out.length + (sendL x).length > 262144 then ([], 6) else encM c (out ++ cellsM c x 0 (sendL x)) l
def chkM (c : Int) : Int := if c < 0 ∨ c > 1048576 then 2 else 0
def encodeM (c : Int) (l : List S48) : List S48 × Int := if chkM c = 0 then (if l.length > 1024 then ([], 6) else if firstM c l = 0 then encM c [] l else ([], firstM c l)) else ([], chkM c)
theorem encM_len (c : Int) : ∀ (l out : List S48), out.length ≤ 262144 → (encM c out l).1.length ≤ 262144
  | [], _, h => h
  | x :: l, out, h => by
    unfold encM
    split
    · simp
    · refine encM_len c l _ ?_
      rw [List.length_append, cellsM_len]; omega
theorem encodeM_len (c : Int) (l : List S48) : (encodeM c l).1.length ≤ 262144 := by
  unfold encodeM
  split
  · split
    · simp
    · split
      · exact encM_len c l [] (by simp)
      · simp
  · simp
theorem ev_mod_Check (c : Int) : Ev (fun k => modbus_Check.f c) (chkM c) := by
  refine Ev.now' fun _ => ?_
  unfold modbus_Check.f chkM
  repeat' split
  all_goals first | rfl | omega
theorem ev_checkItem (c : Int) (hc : chkM c = 0) (x : S48) : Ev (fun k => modbus_checkItem.f k c x.f0 x.f1 x.f2 x.f3 x.f4) (itM c x) := by
  have hc2 : 0 ≤ c ∧ c ≤ 1048576 := by unfold chkM at hc; split at hc <;> omega
  have hyes : itM c x = 1 → Ev (fun k => modbus_checkItem.j0 k true c x.f0 x.f1 x.f2 x.f3 x.f4) (itM c x) := by
    intro h
    rw [h]
    refine Ev.step (fun k => modbus_checkItem.j0.eq_2 ..) ?_
    exact Ev.pos rfl (Ev.now _)
  unfold modbus_checkItem.f
  refine Ev.ite (fun h0 => hyes (by unfold itM; rw [if_pos (.inl h0)])) (fun h0 => ?_)
  by_cases h1 : x.f0 > 1048576
  · rw [decide_eq_true h1]; exact hyes (by unfold itM; rw [if_pos (.inr h1)])
  rw [decide_eq_false h1]
  have hor : ¬ (x.f0 < 0 ∨ x.f0 > 1048576) := by omega
  clear hyes
  refine Ev.step (fun k => modbus_checkItem.j0.eq_2 ..) ?_
  refine Ev.neg (by decide) ?_
  by_cases h2 : x.f3.size > 4096
  · rw [show itM c x = 6 by unfold itM; rw [if_neg hor, if_pos h2]]
    exact Ev.pos (by omega) (Ev.now _)
  have h2e : (x.f1 < 0 ∨ x.f1 > 255 ∨ x.f2 < 0 ∨ x.f2 > 255 ∨ c + 1 + x.f0 > 1048576) → Ev (fun k => modbus_checkItem.j1 k true x.f0 x.f1 x.f2 x.f3 x.f4) (itM c x) := by
    intro h
    rw [show itM c x = 2 by unfold itM; rw [if_neg hor, if_neg h2, if_pos h]]
    refine Ev.step (fun k => modbus_checkItem.j1.eq_2 ..) ?_
    exact Ev.pos rfl (Ev.now _)
  rw [w64 (x := c + 1) (by omega) (by omega), w64 (x := c + 1 + x.f0) (by omega) (by omega)]
  refine Ev.neg (by omega) (Ev.ite (fun h => h2e (by omega)) (fun h3 => Ev.ite (fun h => h2e (by omega)) (fun h4 => Ev.ite (fun h => h2e (by omega)) (fun h5 => Ev.ite (fun h => h2e (by omega)) (fun h6 => ?_)))))
  by_cases h7 : c + 1 + x.f0 > 1048576
  · rw [decide_eq_true h7]; exact h2e (by omega)
  rw [decide_eq_false h7]
  have hor2 : ¬ (x.f1 < 0 ∨ x.f1 > 255 ∨ x.f2 < 0 ∨ x.f2 > 255 ∨ c + 1 + x.f0 > 1048576) := by omega
  clear h2e
  refine Ev.step (fun k => modbus_checkItem.j1.eq_2 ..) ?_
  refine Ev.neg (by decide) (Ev.now' fun _ => ?_)
  unfold itM
  rw [if_neg hor, if_neg h2, if_neg hor2]
  repeat' split
  all_goals first | rfl | omega
theorem xor1_u8 (x : Nat) : Go.bits .xor .u8 ((x : Int) % 256) 1 = ((x ^^^ 1 : Nat) : Int) % 256 := by
  have e : (x : Int) % 256 = ((x % 256 : Nat) : Int) := by omega
  rw [e]
  have h : (BitVec.ofInt 8 ((x % 256 : Nat) : Int) ^^^ BitVec.ofInt 8 1).toNat = (x ^^^ 1) % 2 ^ 8 := by
    rw [BitVec.toNat_xor, BitVec.toNat_ofInt, BitVec.toNat_ofInt, Nat.xor_mod_two_pow]
    congr 1
    show (((x % 256 : Nat) : Int) % ((256 : Nat) : Int)).toNat = x % 2 ^ 8
    omega
  show IntKind.u8.wrap ((BitVec.ofInt 8 ((x % 256 : Nat) : Int) ^^^ BitVec.ofInt 8 1).toNat : Int) = _
  rw [h]
  show (((x ^^^ 1) % 2 ^ 8 : Nat) : Int) % 256 = _
  omega
theorem ev_send (x : S48) (hs : x.f3.size ≤ 4096) : Ev (fun k => modbus_send.f k x.f0 x.f1 x.f2 x.f3 x.f4) (strOfNums (sendL x)) := by
  have hh := headL_byts x
  have e2 : strOfNums [x.f1 % 256, x.f2 % 256] ++ x.f3 = strOfNums ([x.f1 % 256, x.f2 % 256] ++ bytesOf x.f3) := by
    rw [← str_append, str_bytes]
  have eb : bytesOf (strOfNums ([x.f1 % 256, x.f2 % 256] ++ bytesOf x.f3)) = [x.f1 % 256, x.f2 % 256] ++ bytesOf x.f3 := bytes_str (hh.append (byts_of _))
  have hl := len_bytes x.f3
  have hz : (strOfNums ([x.f1 % 256, x.f2 % 256] ++ bytesOf x.f3)).size = x.f3.size + 2 := by rw [size_str]; simp only [List.length_append, List.length_cons, List.length_nil]; omega
  have hz2 : (strOfNums [x.f1 % 256, x.f2 % 256]).size = 2 := by rw [size_str]; rfl
  have hsum := ev_sum (strOfNums ([x.f1 % 256, x.f2 % 256] ++ bytesOf x.f3)) (by omega)
  rw [eb] at hsum
  have h2 : ∀ y z : Int, (strOfNums [y, z]).size = 2 := fun y z => by rw [size_str]; rfl
  unfold modbus_send.f sendL
  refine Ev.sbind (Ev.ite (fun h => ?_) (fun h => ?_))
  · rw [if_pos h]; exact Ev.now _
  rw [if_neg h, e2]
  refine Ev.pos (by omega) (Ev.bind hsum (Ev.ite (fun h3 => ?_) (fun h3 => ?_)))
  · rw [if_pos h3]
    have hsz : (strOfNums (sumL ([x.f1 % 256, x.f2 % 256] ++ bytesOf x.f3))).size = 2 := h2 _ _
    have b0 : bt (strOfNums (sumL ([x.f1 % 256, x.f2 % 256] ++ bytesOf x.f3))) 0 = (crcM ([x.f1 % 256, x.f2 % 256] ++ bytesOf x.f3) : Int) % 256 := bt_str (sumL_byts _) 0 (by simp [sumL])
    have b1 : bt (strOfNums (sumL ([x.f1 % 256, x.f2 % 256] ++ bytesOf x.f3))) 1 = (crcM ([x.f1 % 256, x.f2 % 256] ++ bytesOf x.f3) : Int) / 256 % 256 := bt_str (sumL_byts _) 1 (by simp [sumL])
    rw [b0, b1, xor1_u8, hsz]
    refine Ev.pos (by omega) (Ev.pos (by omega) (Ev.sbind (Ev.pos (by rw [h2]; omega) ?_)))
    rw [str_append]
    exact Ev.now _
  · rw [if_neg h3]
    refine Ev.pos (by unfold sumL; rw [h2]; omega) ?_
    rw [str_append]
    exact Ev.now _
theorem cell_str (l : List Int) (hb : Byts l) (pre : List Int) (b : Int) (q : List Int) (j : Nat) (he : l = pre ++ b :: q) (hj : j = pre.length) : wrap64 (bt (strOfNums l) (j : Int)) = b := by
  have h := hb b (by rw [he]; simp)
  rw [bt_str hb j (by rw [he, List.length_append, List.length_cons]; omega), w64]
  · simp [he, hj]
  · have : l[j]'(by rw [he, List.length_append, List.length_cons]; omega) = b := by simp [he, hj]
    omega
  · have : l[j]'(by rw [he, List.length_append, List.length_cons]; omega) = b := by simp [he, hj]
    omega
theorem ev_mod_Encode (c : Int) (l : List S48) : Ev (fun k => modbus_Encode.f k c l) (encodeM c l) := by
  unfold modbus_Encode.f encodeM
  refine Ev.bind (ev_mod_Check c) (Ev.ite (fun hc => ?_) (fun hc => ?_))
  case refine_2 => rw [if_neg hc]; exact Ev.now _
  rw [if_pos hc]
  have hc2 : 0 ≤ c ∧ c ≤ 1048576 := by unfold chkM at hc; split at hc <;> omega
  refine Ev.step (fun k => modbus_Encode.j0.eq_2 ..) ?_
  refine Ev.ite (fun hl => ?_) (fun hl => ?_)
  · rw [if_pos (by omega)]; exact Ev.now _
  rw [if_neg (by omega)]
  refine Ev.step (fun k => modbus_Encode.j1.eq_2 ..) ?_
  have two : ∀ (x : S48) (out : List S48) (i : Nat) (res : List S48 × Int), itM c x = 0 → i < l.length → out.length + (sendL x).length ≤ 262144 → ∀ (q pre : List Int) (acc : List S48) (j : Nat), sendL x = pre ++ q → j = pre.length → acc.length = out.length + j →
      Ev (fun k => modbus_Encode.l1 k (acc ++ cellsM c x j q) l (l.length : Int) ((i + 1 : Nat) : Int) c) res →
      Ev (fun k => modbus_Encode.l2 k acc (strOfNums (sendL x)) l (l.length : Int) (i : Int) ((strOfNums (sendL x)).size : Int) (j : Int) c x.f0 x.f1 x.f2 x.f3 x.f4) res := by
    intro x out i res hx hi ho q
    have hb := sendL_byts x
    have hz := size_str (sendL x)
    obtain ⟨g0, g1, _⟩ := itM_ok hx
    induction q with
    | nil =>
      intro pre acc j he hj ha h
      have hj2 : j = (sendL x).length := by rw [he, List.append_nil, hj]
      rw [cellsM, List.append_nil] at h
      clear he
      refine Ev.step (fun k => modbus_Encode.l2.eq_2 ..) ?_
      rw [wnat (i := i) (by omega)]
      exact Ev.neg (by omega) h
    | cons b q ih =>
      intro pre acc j he hj ha h
      have hlen : (sendL x).length = j + (q.length + 1) := by rw [he, hj, List.length_append, List.length_cons]
      have hbt := cell_str _ hb pre b q j he hj
      have hn := ih (pre ++ [b]) (acc ++ [cellM c x j b]) (j + 1) (by rw [he]; simp) (by simp [hj]) (by simp; omega) (by rw [List.append_assoc]; exact h)
      clear ih he
      refine Ev.step (fun k => modbus_Encode.l2.eq_2 ..) ?_
      rw [hbt, wnat (i := j) (by omega), w64 (x := c + 1) (by omega) (by omega), w64 (x := c + 1 + x.f0) (by omega) (by omega)]
      refine Ev.pos (by omega) (Ev.pos (by omega) (Ev.pos (by omega) (Ev.ite (fun h0 => Ev.pos (by omega) ?_) (fun h0 => Ev.pos (by omega) ?_))))
      · have : cellM c x j b = ⟨c + 1 + x.f0, b, 0, (⟨#[]⟩ : ByteArray), 0⟩ := by unfold cellM; rw [if_pos (by omega)]
        rw [this] at hn; exact hn
      · have : cellM c x j b = ⟨0, b, 0, (⟨#[]⟩ : ByteArray), 0⟩ := by unfold cellM; rw [if_neg (by omega)]
        rw [this] at hn; exact hn
  have one : ∀ (q pre out : List S48) (i : Nat), l = pre ++ q → i = pre.length → out.length ≤ 262144 → firstM c q = 0 → Ev (fun k => modbus_Encode.l1 k out l (l.length : Int) (i : Int) c) (encM c out q) := by
    intro q
    induction q with
    | nil =>
      intro pre out i he hi ho hf
      rw [List.append_nil] at he
      have hi' : i = l.length := by rw [hi, he]
      clear he two
      refine Ev.step (fun k => modbus_Encode.l1.eq_2 ..) ?_
      exact Ev.neg (by omega) (Ev.now _)
    | cons x q ih =>
      intro pre out i he hi ho hf
      have hlen : l.length = i + (q.length + 1) := by rw [he, hi, List.length_append, List.length_cons]
      have hx : rd_T48 l (i : Int) = x := by rw [he]; exact rdI_mid pre x q i hi
      rw [firstM] at hf
      have hx0 : itM c x = 0 := by split at hf; assumption; omega
      rw [if_pos hx0] at hf
      obtain ⟨g0, g1, g2, _⟩ := itM_ok hx0
      have hz := size_str (sendL x)
      have hs := sendL_len x
      refine Ev.step (fun k => modbus_Encode.l1.eq_2 ..) ?_
      refine Ev.pos (by omega) ?_
      refine Ev.step (fun k => modbus_Encode.j4.eq_2 ..) ?_
      rw [hx, encM]
      refine Ev.pos (by omega) (Ev.pos (by omega) (Ev.bind (ev_send x g2) ?_))
      rw [w64 (by omega) (by omega)]
      refine Ev.ite (fun h => ?_) (fun h => ?_)
      · rw [if_pos (by omega)]; exact Ev.now _
      rw [if_neg (by omega)]
      refine Ev.step (fun k => modbus_Encode.j5.eq_2 ..) ?_
      refine two x out i _ hx0 (by omega) (by omega) (sendL x) [] out 0 rfl rfl rfl ?_
      exact ih (pre ++ [x]) _ (i + 1) (by rw [he]; simp) (by simp [hi]) (by rw [List.length_append, cellsM_len]; omega) hf
  have zero : ∀ (q pre : List S48) (i : Nat), l = pre ++ q → i = pre.length → (firstM c q = 0 → Ev (fun k => modbus_Encode.l1 k [] l (l.length : Int) ((0 : Nat) : Int) c) (encM c [] l)) → Ev (fun k => modbus_Encode.l0 k l l (l.length : Int) (i : Int) c) (if firstM c q = 0 then encM c [] l else ([], firstM c q)) := by
    intro q
    induction q with
    | nil =>
      intro pre i he hi h
      rw [List.append_nil] at he
      have hi' : i = l.length := by rw [hi, he]
      clear he two one
      rw [if_pos (show firstM c [] = 0 from rfl)]
      refine Ev.step (fun k => modbus_Encode.l0.eq_2 ..) ?_
      exact Ev.neg (by omega) (h rfl)
    | cons x q ih =>
      intro pre i he hi h
      have hlen : l.length = i + (q.length + 1) := by rw [he, hi, List.length_append, List.length_cons]
      have hx : rd_T48 l (i : Int) = x := by rw [he]; exact rdI_mid pre x q i hi
      have ih2 := ih (pre ++ [x]) (i + 1) (by rw [he]; simp) (by simp [hi])
      clear ih he two one
      refine Ev.step (fun k => modbus_Encode.l0.eq_2 ..) ?_
      rw [hx, wnat (by omega)]
      refine Ev.pos (by omega) (Ev.pos (by omega) (Ev.pos (by omega) (Ev.bind (ev_checkItem c hc x) (Ev.ite (fun h0 => ?_) (fun h0 => ?_)))))
      · rw [firstM, if_pos h0] at h ⊢
        exact ih2 h
      · rw [firstM, if_neg h0, if_neg h0]
        exact Ev.now _
  exact zero l [] 0 rfl rfl (fun h => one l [] [] 0 rfl rfl (by simp) h)
theorem ev_ref_Check (c : Int) : Ev (fun k => signalbenchref30_Check.f c) (chkM c) := by
  refine Ev.now' fun _ => ?_
  unfold signalbenchref30_Check.f chkM
  repeat' split
  all_goals first | rfl | omega
theorem ev_refItem (c : Int) (hc : chkM c = 0) (x : S48) : Ev (fun k => signalbenchref30_item.f k c x.f0 x.f1 x.f2 x.f3 x.f4) (itM c x) := by
  have hc2 : 0 ≤ c ∧ c ≤ 1048576 := by unfold chkM at hc; split at hc <;> omega
  have hyes : itM c x = 1 → Ev (fun k => signalbenchref30_item.j0 k true c x.f0 x.f1 x.f2 x.f3 x.f4) (itM c x) := by
    intro h
    rw [h]
    refine Ev.step (fun k => signalbenchref30_item.j0.eq_2 ..) ?_
    exact Ev.pos rfl (Ev.now _)
  unfold signalbenchref30_item.f
  refine Ev.ite (fun h0 => hyes (by unfold itM; rw [if_pos (.inl h0)])) (fun h0 => ?_)
  by_cases h1 : x.f0 > 1048576
  · rw [decide_eq_true h1]; exact hyes (by unfold itM; rw [if_pos (.inr h1)])
  rw [decide_eq_false h1]
  have hor : ¬ (x.f0 < 0 ∨ x.f0 > 1048576) := by omega
  clear hyes
  refine Ev.step (fun k => signalbenchref30_item.j0.eq_2 ..) ?_
  refine Ev.neg (by decide) ?_
  by_cases h2 : x.f3.size > 4096
  · rw [show itM c x = 6 by unfold itM; rw [if_neg hor, if_pos h2]]
    exact Ev.pos (by omega) (Ev.now _)
  have h2e : (x.f1 < 0 ∨ x.f1 > 255 ∨ x.f2 < 0 ∨ x.f2 > 255 ∨ c + 1 + x.f0 > 1048576) → Ev (fun k => signalbenchref30_item.j1 k true x.f0 x.f1 x.f2 x.f3 x.f4) (itM c x) := by
    intro h
    rw [show itM c x = 2 by unfold itM; rw [if_neg hor, if_neg h2, if_pos h]]
    refine Ev.step (fun k => signalbenchref30_item.j1.eq_2 ..) ?_
    exact Ev.pos rfl (Ev.now _)
  rw [w64 (x := c + 1) (by omega) (by omega), w64 (x := c + 1 + x.f0) (by omega) (by omega)]
  refine Ev.neg (by omega) (Ev.ite (fun h => h2e (by omega)) (fun h3 => Ev.ite (fun h => h2e (by omega)) (fun h4 => Ev.ite (fun h => h2e (by omega)) (fun h5 => Ev.ite (fun h => h2e (by omega)) (fun h6 => ?_)))))
  by_cases h7 : c + 1 + x.f0 > 1048576
  · rw [decide_eq_true h7]; exact h2e (by omega)
  rw [decide_eq_false h7]
  have hor2 : ¬ (x.f1 < 0 ∨ x.f1 > 255 ∨ x.f2 < 0 ∨ x.f2 > 255 ∨ c + 1 + x.f0 > 1048576) := by omega
  clear h2e
  refine Ev.step (fun k => signalbenchref30_item.j1.eq_2 ..) ?_
  refine Ev.neg (by decide) (Ev.now' fun _ => ?_)
  unfold itM
  rw [if_neg hor, if_neg h2, if_neg hor2]
  repeat' split
  all_goals first | rfl | omega
theorem nxor1 {a : Nat} (h : a < 65536) : Go.bits .xor .i64 (a : Int) 1 = ((a ^^^ 1 : Nat) : Int) := nxor (a := a) (b := 1) (by omega) (by decide)
theorem xor1_div (a : Nat) : (a ^^^ 1) / 2 = a / 2 := by rw [half_xor]; simp
theorem ev_refBytes (x : S48) (hs : x.f3.size ≤ 4096) : Ev (fun k => signalbenchref30_bytes.f k x.f0 x.f1 x.f2 x.f3 x.f4) (strOfNums (sendL x)) := by
  have hh := headL_byts x
  have e2 : strOfNums [x.f1 % 256, x.f2 % 256] ++ x.f3 = strOfNums ([x.f1 % 256, x.f2 % 256] ++ bytesOf x.f3) := by
    rw [← str_append, str_bytes]
  have eb : bytesOf (strOfNums ([x.f1 % 256, x.f2 % 256] ++ bytesOf x.f3)) = [x.f1 % 256, x.f2 % 256] ++ bytesOf x.f3 := bytes_str (hh.append (byts_of _))
  have hl := len_bytes x.f3
  have hz : (strOfNums ([x.f1 % 256, x.f2 % 256] ++ bytesOf x.f3)).size = x.f3.size + 2 := by rw [size_str]; simp only [List.length_append, List.length_cons, List.length_nil]; omega
  have hz2 : (strOfNums [x.f1 % 256, x.f2 % 256]).size = 2 := by rw [size_str]; rfl
  have hsum := ev_ref_Crc (strOfNums ([x.f1 % 256, x.f2 % 256] ++ bytesOf x.f3)) (by omega)
  rw [eb] at hsum
  have h2 : ∀ y z : Int, (strOfNums [y, z]).size = 2 := fun y z => by rw [size_str]; rfl
  have hcl := crcM_lt ([x.f1 % 256, x.f2 % 256] ++ bytesOf x.f3)
  unfold signalbenchref30_bytes.f sendL
  refine Ev.sbind (Ev.ite (fun h => ?_) (fun h => ?_))
  · rw [if_pos h]; exact Ev.now _
  rw [if_neg h, e2]
  refine Ev.pos (by omega) (Ev.bind hsum ?_)
  unfold sumL
  generalize crcM ([x.f1 % 256, x.f2 % 256] ++ bytesOf x.f3) = n at hcl ⊢
  have hd : ((n ^^^ 1 : Nat) : Int) / 256 % 256 = (n : Int) / 256 % 256 := by
    have := xor1_div n
    omega
  rw [nxor1 hcl, hd]
  refine Ev.ite (fun h3 => ?_) (fun h3 => ?_)
  · rw [if_pos h3]
    refine Ev.sbind (Ev.pos (by rw [h2]; omega) ?_)
    rw [str_append]
    exact Ev.now _
  · rw [if_neg h3]
    refine Ev.sbind (Ev.pos (by rw [h2]; omega) ?_)
    rw [str_append]
    exact Ev.now _
theorem ev_ref_Encode (c : Int) (l : List S48) : Ev (fun k => signalbenchref30_Encode.f k c l) (encodeM c l) := by
  unfold signalbenchref30_Encode.f encodeM
  refine Ev.bind (ev_ref_Check c) (Ev.ite (fun hc => ?_) (fun hc => ?_))
  case refine_2 => rw [if_neg hc]; exact Ev.now _
  rw [if_pos hc]
  have hc2 : 0 ≤ c ∧ c ≤ 1048576 := by unfold chkM at hc; split at hc <;> omega
  refine Ev.step (fun k => signalbenchref30_Encode.j0.eq_2 ..) ?_
  refine Ev.ite (fun hl => ?_) (fun hl => ?_)
  · rw [if_pos (by omega)]; exact Ev.now _
  rw [if_neg (by omega)]
  refine Ev.step (fun k => signalbenchref30_Encode.j1.eq_2 ..) ?_
  have two : ∀ (x : S48) (out : List S48) (i : Nat) (res : List S48 × Int), itM c x = 0 → i < l.length → rd_T48 l (i : Int) = x → out.length + (sendL x).length ≤ 262144 → ∀ (q pre : List Int) (acc : List S48) (j : Nat), sendL x = pre ++ q → j = pre.length → acc.length = out.length + j →
      Ev (fun k => signalbenchref30_Encode.l1 k l (acc ++ cellsM c x j q) ((i + 1 : Nat) : Int) c) res →
      Ev (fun k => signalbenchref30_Encode.l2 k l acc (i : Int) (strOfNums (sendL x)) (j : Int) c) res := by
    intro x out i res hx hi hxx ho q
    have hb := sendL_byts x
    have hz := size_str (sendL x)
    obtain ⟨g0, g1, _⟩ := itM_ok hx
    induction q with
    | nil =>
      intro pre acc j he hj ha h
      have hj2 : j = (sendL x).length := by rw [he, List.append_nil, hj]
      rw [cellsM, List.append_nil] at h
      clear he
      refine Ev.step (fun k => signalbenchref30_Encode.l2.eq_2 ..) ?_
      rw [wnat (i := i) (by omega)]
      exact Ev.neg (by omega) h
    | cons b q ih =>
      intro pre acc j he hj ha h
      have hlen : (sendL x).length = j + (q.length + 1) := by rw [he, hj, List.length_append, List.length_cons]
      have hbt := cell_str _ hb pre b q j he hj
      have hn := ih (pre ++ [b]) (acc ++ [cellM c x j b]) (j + 1) (by rw [he]; simp) (by simp [hj]) (by simp; omega) (by rw [List.append_assoc]; exact h)
      clear ih he
      refine Ev.step (fun k => signalbenchref30_Encode.l2.eq_2 ..) ?_
      rw [hbt, hxx, wnat (i := j) (by omega), w64 (x := c + 1) (by omega) (by omega), w64 (x := c + 1 + x.f0) (by omega) (by omega)]
      refine Ev.pos (by omega) (Ev.pos (by omega) (Ev.ite (fun h0 => Ev.pos (by omega) (Ev.pos (by omega) (Ev.pos (by omega) ?_))) (fun h0 => Ev.pos (by omega) ?_)))
      · have : cellM c x j b = ⟨c + 1 + x.f0, b, 0, (⟨#[]⟩ : ByteArray), 0⟩ := by unfold cellM; rw [if_pos (by omega)]
        rw [this] at hn; exact hn
      · have : cellM c x j b = ⟨0, b, 0, (⟨#[]⟩ : ByteArray), 0⟩ := by unfold cellM; rw [if_neg (by omega)]
        rw [this] at hn; exact hn
  have one : ∀ (q pre out : List S48) (i : Nat), l = pre ++ q → i = pre.length → out.length ≤ 262144 → firstM c q = 0 → Ev (fun k => signalbenchref30_Encode.l1 k l out (i : Int) c) (encM c out q) := by
    intro q
    induction q with
    | nil =>
      intro pre out i he hi ho hf
      rw [List.append_nil] at he
      have hi' : i = l.length := by rw [hi, he]
      clear he two
      refine Ev.step (fun k => signalbenchref30_Encode.l1.eq_2 ..) ?_
      exact Ev.neg (by omega) (Ev.now _)
    | cons x q ih =>
      intro pre out i he hi ho hf
      have hlen : l.length = i + (q.length + 1) := by rw [he, hi, List.length_append, List.length_cons]
      have hx : rd_T48 l (i : Int) = x := by rw [he]; exact rdI_mid pre x q i hi
      rw [firstM] at hf
      have hx0 : itM c x = 0 := by split at hf; assumption; omega
      rw [if_pos hx0] at hf
      obtain ⟨g0, g1, g2, _⟩ := itM_ok hx0
      have hz := size_str (sendL x)
      have hs := sendL_len x
      refine Ev.step (fun k => signalbenchref30_Encode.l1.eq_2 ..) ?_
      refine Ev.pos (by omega) ?_
      refine Ev.step (fun k => signalbenchref30_Encode.j4.eq_2 ..) ?_
      rw [hx, encM]
      refine Ev.pos (by omega) (Ev.pos (by omega) (Ev.bind (ev_refBytes x g2) ?_))
      rw [w64 (by omega) (by omega)]
      refine Ev.ite (fun h => ?_) (fun h => ?_)
      · rw [if_pos (by omega)]; exact Ev.now _
      rw [if_neg (by omega)]
      refine Ev.step (fun k => signalbenchref30_Encode.j5.eq_2 ..) ?_
      refine two x out i _ hx0 (by omega) hx (by omega) (sendL x) [] out 0 rfl rfl rfl ?_
      exact ih (pre ++ [x]) _ (i + 1) (by rw [he]; simp) (by simp [hi]) (by rw [List.length_append, cellsM_len]; omega) hf
  have zero : ∀ (q pre : List S48) (i : Nat), l = pre ++ q → i = pre.length → (firstM c q = 0 → Ev (fun k => signalbenchref30_Encode.l1 k l [] ((0 : Nat) : Int) c) (encM c [] l)) → Ev (fun k => signalbenchref30_Encode.l0 k l [] (i : Int) c) (if firstM c q = 0 then encM c [] l else ([], firstM c q)) := by
    intro q
    induction q with
    | nil =>
      intro pre i he hi h
      rw [List.append_nil] at he
      have hi' : i = l.length := by rw [hi, he]
      clear he two one
      rw [if_pos (show firstM c [] = 0 from rfl)]
      refine Ev.step (fun k => signalbenchref30_Encode.l0.eq_2 ..) ?_
      exact Ev.neg (by omega) (h rfl)
    | cons x q ih =>
      intro pre i he hi h
      have hlen : l.length = i + (q.length + 1) := by rw [he, hi, List.length_append, List.length_cons]
      have hx : rd_T48 l (i : Int) = x := by rw [he]; exact rdI_mid pre x q i hi
      have ih2 := ih (pre ++ [x]) (i + 1) (by rw [he]; simp) (by simp [hi])
      clear ih he two one
      refine Ev.step (fun k => signalbenchref30_Encode.l0.eq_2 ..) ?_
      rw [hx, wnat (by omega)]
      refine Ev.pos (by omega) (Ev.pos (by omega) (Ev.bind (ev_refItem c hc x) (Ev.ite (fun h0 => ?_) (fun h0 => ?_))))
      · rw [firstM, if_pos h0] at h ⊢
        exact ih2 h
      · rw [firstM, if_neg h0, if_neg h0]
        exact Ev.now _
  exact zero l [] 0 rfl rfl (fun h => one l [] [] 0 rfl rfl (by simp) h)
/-- The law's measure of items: how many bytes they hold. -/
def sizesI : List S48 → Nat
  | [] => 0
  | x :: l => x.f3.size + sizesI l
def fewI (l : List S48) : Bool := decide (l.length ≤ 1100) && decide (sizesI l ≤ 20000)
theorem ev_few (l : List S48) (hs : ∀ x ∈ l, x.f3.size ≤ 140737488351232) : Ev (fun k => signalbenchlaw30_few.f k l) (fewI l) := by
  unfold signalbenchlaw30_few.f fewI
  refine Ev.ite (fun h => ?_) (fun h => ?_)
  · rw [decide_eq_false (by omega), Bool.false_and]; exact Ev.now _
  rw [decide_eq_true (show l.length ≤ 1100 by omega), Bool.true_and]
  refine Ev.step (fun k => signalbenchlaw30_few.j0.eq_2 ..) ?_
  have key : ∀ (m pre : List S48) (n i : Nat), l = pre ++ m → i = pre.length → n ≤ 20000 → Ev (fun k => signalbenchlaw30_few.l0 k l (n : Int) (i : Int)) (decide (n + sizesI m ≤ 20000)) := by
    intro m
    induction m with
    | nil =>
      intro pre n i he hi hn
      rw [List.append_nil] at he
      refine Ev.step (fun k => signalbenchlaw30_few.l0.eq_2 ..) ?_
      rw [sizesI, decide_eq_true (by omega)]
      exact Ev.neg (by rw [he]; omega) (Ev.now _)
    | cons x m ih =>
      intro pre n i he hi hn
      have hlen : l.length = i + (m.length + 1) := by rw [he, hi, List.length_append, List.length_cons]
      have hx : rd_T48 l (i : Int) = x := by rw [he]; exact rdI_mid pre x m i hi
      have hxs := hs x (by rw [he]; simp)
      have ih2 := ih (pre ++ [x]) (n + x.f3.size) (i + 1) (by rw [he]; simp) (by simp [hi])
      clear ih he
      refine Ev.step (fun k => signalbenchlaw30_few.l0.eq_2 ..) ?_
      rw [hx, wnat (by omega), w64 (x := (n : Int) + (x.f3.size : Int)) (by omega) (by omega), sizesI]
      refine Ev.pos (by omega) (Ev.pos (by omega) (Ev.ite (fun hb => ?_) (fun hb => ?_)))
      · rw [decide_eq_false (by omega)]; exact Ev.now _
      · have := ih2 (by omega)
        rw [Nat.add_assoc] at this
        exact this
  have := key l [] 0 0 rfl rfl (by omega)
  rwa [Nat.zero_add] at this
theorem ev_sameItems (l : List S48) (hl : l.length < 2199023255552) : Ev (fun k => signalbenchlaw30_sameItems.f k l l) true := by
  unfold signalbenchlaw30_sameItems.f
  refine Ev.pos rfl ?_
  refine Ev.step (fun k => signalbenchlaw30_sameItems.j0.eq_2 ..) ?_
  have key : ∀ (d i : Nat), i + d = l.length → Ev (fun k => signalbenchlaw30_sameItems.l0 k l l (i : Int)) true := by
    intro d
    induction d with
    | zero =>
      intro i h
      refine Ev.step (fun k => signalbenchlaw30_sameItems.l0.eq_2 ..) ?_
      exact Ev.neg (by omega) (Ev.now _)
    | succ d ih =>
      intro i h
      refine Ev.step (fun k => signalbenchlaw30_sameItems.l0.eq_2 ..) ?_
      rw [wnat (by omega)]
      exact Ev.pos (by omega) (Ev.pos (by omega) (Ev.pos (by omega) (Ev.neg (by simp) (ih (i + 1) (by omega)))))
  exact key l.length 0 (by omega)
theorem ev_lives : Ev (fun k => signalbenchlaw30_lives.f k) true := by
  refine Ev.of (fun k => signalbenchlaw30_lives.mono k) (k := 80) ?_
  decide +kernel
theorem main : signalbenchlaw30_ModbusEncodes.Pure := by
  intro c l _ _ _ hl
  refine Ev.rounds (g := fun k => signalbenchlaw30_ModbusEncodes.f k c l) ?_
  unfold signalbenchlaw30_ModbusEncodes.f
  have hlen := encodeM_len c l
  refine Ev.bind ev_lives (Ev.pos rfl (Ev.bind (ev_few l (fun x hx => (hl x hx).2.2.2.1)) (Ev.ite (fun hf => ?_) (fun hf => Ev.now _))))
  exact Ev.bind (ev_mod_Encode c l) (Ev.bind (ev_ref_Encode c l) (Ev.pos rfl (Ev.bind (ev_sameItems _ (by omega)) (Ev.now true))))
end ModbusEncodes_
theorem ModbusEncodes : signalbenchlaw30_ModbusEncodes.Pure := ModbusEncodes_.main
end Go.Proofs.YtmalhgidhieamaaDoor.Pure
