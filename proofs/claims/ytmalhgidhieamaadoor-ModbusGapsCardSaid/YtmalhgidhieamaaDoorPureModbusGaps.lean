/- The law ModbusGaps holds as a statement on numbers and lists: bytes are divided exactly where an idle time is greater than the gap. No condition beyond those of the statement. -/
import Derived.Test.YtmalhgidhieamaaDoorPModbusGapsx12
import Derived.Test.YtmalhgidhieamaaDoorSpecCrc
namespace Go.Proofs.YtmalhgidhieamaaDoor.Pure
open Go.RowKit Go.Proofs.YtmalhgidhieamaaDoor.PModbusGaps Go.Proofs.YtmalhgidhieamaaDoorW.PrintWords Go.Proofs.YtmalhgidhieamaaDoorW.PrintLast Go.Proofs.YtmalhgidhieamaaDoor.Aid
set_option linter.unusedVariables false
set_option linter.unusedSimpArgs false
namespace ModbusGaps_
theorem rdI_mid (pre : List S48) (x : S48) (post : List S48) (i : Nat) (h : i = pre.length) : rd_T48 (pre ++ x :: post) (i : Int) = x := by
  subst h; simp [rd_T48]
theorem rdE_mid (pre : List S32) (x : S32) (post : List S32) (i : Nat) (h : i = pre.length) : rd_T32 (pre ++ x :: post) (i : Int) = x := by
  subst h; simp [rd_T32]
theorem ev_check_Right (w p i x : Int) (refl : Bool) : Ev (fun k => check_Right.f k w p i x refl) (rightC w p i x) := by
  have hyes : 1 ≤ w ∧ w ≤ 32 → False → Ev (fun k => check_Right.j0 k true w p i x refl) (rightC w p i x) := fun _ h => h.elim
  have hj : ¬ (1 ≤ w ∧ w ≤ 32) → Ev (fun k => check_Right.j0 k true w p i x refl) (rightC w p i x) := by
    intro h
    have e : rightC w p i x = false := by unfold rightC; rw [decide_eq_false (by omega)]
    rw [e]
    refine Ev.step (fun k => check_Right.j0.eq_2 ..) ?_
    exact Ev.pos rfl (Ev.now _)
  clear hyes
  unfold check_Right.f
  refine Ev.ite (fun h1 => hj (by omega)) (fun h1 => ?_)
  by_cases h2 : w > 32
  · rw [decide_eq_true h2]; exact hj (by omega)
  rw [decide_eq_false h2]
  obtain ⟨n, rfl⟩ := Int.eq_ofNat_of_zero_le (show 0 ≤ w by omega)
  have hle := pow2_le32 (show n ≤ 32 by omega)
  have hp := pow2_pos n
  refine Ev.step (fun k => check_Right.j0.eq_2 ..) ?_
  refine Ev.neg (by decide) (Ev.pos (by omega) (Ev.now' fun _ => ?_))
  rw [shl_one (by omega), w64 (x := 2 ^ n - 1) (by omega) (by omega)]
  unfold rightC
  rw [Int.toNat_natCast]
  repeat' split
  all_goals first
    | (rw [decide_eq_false (by omega)])
    | (congr 1; rw [Int.tmod_eq_emod_of_nonneg (by omega), Bool.eq_iff_iff, beq_iff_eq, decide_eq_true_iff]; omega)
theorem check_shift {w p i x : Nat} (C : Crc w p i x) (refl : Bool) {r b : Nat} (hr : r < 2 ^ w) : check_shift.f (w : Int) p i x refl r b = some ((stepC w p r b : Nat) : Int) := by
  have hw := C.w1
  have hw2 := C.w2
  have hle := pow2_le32 hw2
  have hln := npow_le32 hw2
  have hpp := pow2_pos w
  have hP := C.hp
  have ht := top_lt hw hr
  have e1 : wrap64 ((w : Int) - 1) = ((w - 1 : Nat) : Int) := by rw [w64 (by omega) (by omega)]; omega
  have e2 : Go.bits .and .i64 (shr .i64 (r : Int) ((w - 1 : Nat) : Int)) 1 = ((r / 2 ^ (w - 1) : Nat) : Int) := by
    rw [nshr _ (by omega), and_one]
    generalize r / 2 ^ (w - 1) = z at ht
    omega
  have e3 : wrap64 ((r : Int) * 2) = ((2 * r : Nat) : Int) := by rw [w64 (by omega) (by omega)]; omega
  have hm : 2 * r % 2 ^ w < 2 ^ w := Nat.mod_lt _ (npow_pos w)
  unfold check_shift.f stepC
  rw [e1, if_pos (by omega), if_pos (by omega), e2, e3, shl_one (by omega), w64 (x := 2 ^ w - 1) (by omega) (by omega), nmask w (by omega) (by omega), nxor (by omega) (by omega)]
  by_cases h : r / 2 ^ (w - 1) = b
  · rw [if_pos h, if_pos (by rw [h])]
  · rw [if_neg h, if_neg (fun e => h (by exact_mod_cast e))]
theorem ev_check_finish {w p i x : Nat} (C : Crc w p i x) (refl : Bool) {r : Nat} (hr : r < 2 ^ w) : Ev (fun k => check_finish.f k (w : Int) p i x refl r) ((finC w x refl r : Nat) : Int) := by
  have hw2 := C.w2
  have hln := npow_le32 hw2
  have hX := C.hx
  have key : ∀ (d j acc q : Nat), j + d = w → acc < 2 ^ j → q < 4294967296 → Ev (fun k => check_finish.l0 k (q : Int) (acc : Int) (w : Int) (j : Int) (w : Int) p i x refl) ((revN d acc q ^^^ x : Nat) : Int) := by
    intro d
    induction d with
    | zero =>
      intro j acc q hj ha hq
      have hb : 2 ^ j ≤ 4294967296 := npow_le32 (by omega)
      refine Ev.step (fun k => check_finish.l0.eq_2 ..) ?_
      rw [nxor (by omega) (by omega)]
      exact Ev.neg (by omega) (Ev.now _)
    | succ d ih =>
      intro j acc q hj ha hq
      have hb : 2 ^ j ≤ 4294967296 := npow_le32 (by omega)
      have e1 : (q : Int) / 2 = ((q / 2 : Nat) : Int) := by omega
      have e2 : Go.bits .and .i64 (q : Int) 1 = ((q % 2 : Nat) : Int) := by rw [and_one]; omega
      have e3 : wrap64 ((acc : Int) * 2) = (acc : Int) * 2 ^ 1 := by rw [w64 (by omega) (by omega)]; omega
      have e4 : Go.bits .or .i64 ((acc : Int) * 2 ^ 1) ((q % 2 : Nat) : Int) = ((2 * acc + q % 2 : Nat) : Int) := by
        rw [or_add 1 (by omega) (by omega) (by omega) (by omega)]; omega
      refine Ev.step (fun k => check_finish.l0.eq_2 ..) ?_
      rw [e1, e2, e3, e4, wnat (by omega)]
      refine Ev.pos (by omega) (ih (j + 1) _ _ (by omega) ?_ (by omega))
      rw [Nat.pow_succ]; omega
  unfold check_finish.f finC
  cases refl
  · rw [nxor (by omega) (by omega)]
    exact Ev.neg (by decide) (Ev.now _)
  · exact Ev.pos rfl (key w 0 0 r (by omega) (by decide) (by omega))
theorem and1_u8 (x : Int) (h0 : 0 ≤ x) (h1 : x < 256) : Go.bits .and .u8 x 1 = x % 2 := by
  have g : ∀ y : Int, 0 ≤ y → y < 256 → (BitVec.ofInt 8 y).toNat = y.toNat := fun y a b => by rw [BitVec.toNat_ofInt]; show ((y % ((256 : Nat) : Int)).toNat) = y.toNat; omega
  have h : (BitVec.ofInt 8 x &&& BitVec.ofInt 8 1).toNat = (x % 2).toNat := by
    rw [BitVec.toNat_and, g x h0 h1, g 1 (by omega) (by omega)]
    show _ &&& 1 = _
    rw [Nat.and_one_is_mod]
    omega
  show IntKind.u8.wrap ((BitVec.ofInt 8 x &&& BitVec.ofInt 8 1).toNat : Int) = _
  rw [h]
  show (((x % 2).toNat : Int)) % 256 = _
  omega
theorem shr_u8 (x y : Int) (n : Nat) (hy : y = (n : Int)) (hn : n ≤ 8) : shr .u8 x y = x / 2 ^ n := by
  subst hy
  unfold shr
  have : min ((n : Int).toNat) IntKind.u8.bits = n := by
    show min ((n : Int).toNat) 8 = n
    rw [Int.toNat_natCast]; omega
  rw [this]
theorem div_bd {b : Int} (h0 : 0 ≤ b) (h1 : b < 256) (n : Nat) : 0 ≤ b / 2 ^ n ∧ b / 2 ^ n < 256 := by
  have hp := pow2_pos n
  refine ⟨Int.ediv_nonneg h0 (by omega), ?_⟩
  exact Int.lt_of_le_of_lt (Int.ediv_le_self _ h0) h1
theorem fromInt_drop (b : Int) (msb : Bool) (k : Nat) (h : k < 8) : (fromIntL b 8 msb).drop k = (48 + b / 2 ^ (if msb = true then 7 - k else k) % 2) :: (fromIntL b 8 msb).drop (k + 1) := by
  have hl : k < (fromIntL b 8 msb).length := by rw [fromIntL_len]; exact h
  rw [List.drop_eq_getElem_cons hl, fromIntL_get]
theorem ev_check_Bytes_l1 {w p i x : Nat} (C : Crc w p i x) (refl : Bool) (s : ByteArray) (hs : s.size ≤ 8192) (j : Nat) (hj : j < s.size) (res : Int × Int) (b : Int) (hb : bt s (j : Int) = b) (h0 : 0 ≤ b) (h1 : b < 256) : ∀ (d k' r : Nat), k' + d = 8 → r < 2 ^ w →
    Ev (fun k => check_Bytes.l0 k s ((runC w p r ((fromIntL b 8 (!refl)).drop k') : Nat) : Int) (s.size : Int) ((j + 1 : Nat) : Int) (w : Int) p i x refl) res → Ev (fun k => check_Bytes.l1 k s (r : Int) (j : Int) (s.size : Int) (j : Int) (k' : Int) (w : Int) p i x refl) res := by
  intro d
  induction d with
  | zero =>
    intro k' r hk hr h
    obtain rfl : k' = 8 := by omega
    rw [List.drop_of_length_le (by rw [fromIntL_len]; omega), runC] at h
    refine Ev.step (fun k => check_Bytes.l1.eq_2 ..) ?_
    rw [wnat (i := j) (by omega)]
    exact Ev.neg (by omega) h
  | succ d ih =>
    intro k' r hk hr h
    rw [fromInt_drop b (!refl) k' (by omega), runC] at h
    have ebit : ∀ (n : Nat), n ≤ 7 → wrap64 (Go.bits .and .u8 (shr .u8 b (n : Int)) 1) = (((b / 2 ^ n % 2).toNat : Nat) : Int) := by
      intro n hn
      have hd := div_bd h0 h1 n
      rw [shr_u8 _ _ n rfl (by omega), and1_u8 _ hd.1 hd.2]
      generalize b / 2 ^ n = z at hd
      rw [w64 (by omega) (by omega)]; omega
    have e7 : wrap64 (7 - (k' : Int)) = ((7 - k' : Nat) : Int) := by rw [w64 (by omega) (by omega)]; omega
    refine Ev.step (fun k => check_Bytes.l1.eq_2 ..) ?_
    rw [hb, wnat (i := k') (by omega), e7, ebit k' (by omega), ebit (7 - k') (by omega), check_shift C refl hr, check_shift C refl hr]
    have h48 : ∀ z : Int, (48 + z - 48).toNat = z.toNat := fun z => by congr 1; omega
    rw [h48] at h
    cases refl
    · exact Ev.pos (by omega) (Ev.neg (by decide) (Ev.pos (by omega) (Ev.pos (by omega) (Ev.pos (by omega) (Ev.sbind (ih (k' + 1) _ (by omega) (stepC_lt C r _) h))))))
    · exact Ev.pos (by omega) (Ev.pos rfl (Ev.pos (by omega) (Ev.pos (by omega) (Ev.pos (by omega) (Ev.sbind (ih (k' + 1) _ (by omega) (stepC_lt C r _) h))))))
theorem ev_check_Bytes_l0 {w p i x : Nat} (C : Crc w p i x) (refl : Bool) (s : ByteArray) (hs : s.size ≤ 8192) : ∀ (l pre : List Int) (r j : Nat), bytesOf s = pre ++ l → j = pre.length → r < 2 ^ w →
    Ev (fun k => check_Bytes.l0 k s (r : Int) (s.size : Int) (j : Int) (w : Int) p i x refl) (((finC w x refl (runC w p r (fromBytesL l (!refl))) : Nat) : Int), 0) := by
  have hlen := len_bytes s
  intro l
  induction l with
  | nil =>
    intro pre r j he hj hr
    rw [List.append_nil] at he
    rw [he] at hlen
    refine Ev.step (fun k => check_Bytes.l0.eq_2 ..) ?_
    rw [fromBytesL, runC]
    exact Ev.neg (by omega) (Ev.bind (ev_check_finish C refl hr) (Ev.now _))
  | cons b l ih =>
    intro pre r j he hj hr
    have hl : s.size = j + (l.length + 1) := by rw [← hlen, he, hj, List.length_append, List.length_cons]
    have hbt : bt s (j : Int) = b := by rw [bt_get s j (by omega)]; simp [he, hj]
    have g1 := bt_lo s (j : Int)
    have g2 := bt_hi s (j : Int)
    rw [hbt] at g1 g2
    rw [fromBytesL, runC_append]
    have hn := ih (pre ++ [b]) (runC w p r (fromIntL b 8 (!refl))) (j + 1) (by rw [he]; simp) (by simp [hj]) (runC_lt C _ _ hr)
    have hi := ev_check_Bytes_l1 C refl s hs j (by omega) _ b hbt g1 (by omega) 8 0 r rfl hr (by rw [List.drop_zero]; exact hn)
    refine Ev.step (fun k => check_Bytes.l0.eq_2 ..) ?_
    refine Ev.pos (by omega) ?_
    refine Ev.step (fun k => check_Bytes.j3.eq_2 ..) ?_
    exact hi
theorem ev_check_Bytes (w p i x : Int) (refl : Bool) (s : ByteArray) : Ev (fun k => check_Bytes.f k w p i x refl s) (bytesC w p i x refl s) := by
  unfold check_Bytes.f bytesC
  refine Ev.bind (ev_check_Right w p i x refl) (Ev.ite (fun hc => ?_) (fun hc => ?_))
  case refine_2 => rw [if_neg hc]; exact Ev.now _
  rw [if_pos hc]
  obtain ⟨W, P, I, X, rfl, rfl, rfl, rfl, C⟩ := rightC_ok hc
  refine Ev.step (fun k => check_Bytes.j0.eq_2 ..) ?_
  refine Ev.ite (fun hl => ?_) (fun hl => ?_)
  · rw [if_pos (by omega)]; exact Ev.now _
  · rw [if_neg (by omega)]
    refine Ev.step (fun k => check_Bytes.j1.eq_2 ..) ?_
    exact ev_check_Bytes_l0 C refl s (by omega) (bytesOf s) [] I 0 rfl rfl C.hi
theorem stepC_xor {w p : Nat} (hw : 1 ≤ w) (a b : Nat) (ha : a < 2 ^ w) (hb : b < 2 ^ w) (x y : Nat) (hx : x < 2) (hy : y < 2) : stepC w p (a ^^^ b) ((x + y) % 2) = stepC w p a x ^^^ stepC w p b y := by
  have hta := top_lt hw ha
  have htb := top_lt hw hb
  have ht : (a ^^^ b) / 2 ^ (w - 1) = (a / 2 ^ (w - 1) + b / 2 ^ (w - 1)) % 2 := by
    have h1 := Nat.testBit_xor a b (w - 1)
    have h2 := top_lt hw (Nat.xor_lt_two_pow ha hb)
    simp only [Nat.testBit_eq_decide_div_mod_eq] at h1
    generalize a / 2 ^ (w - 1) = u at *
    generalize b / 2 ^ (w - 1) = v at *
    generalize (a ^^^ b) / 2 ^ (w - 1) = z at *
    have cu : u = 0 ∨ u = 1 := by omega
    have cv : v = 0 ∨ v = 1 := by omega
    have cz : z = 0 ∨ z = 1 := by omega
    rcases cu with rfl | rfl <;> rcases cv with rfl | rfl <;> rcases cz with rfl | rfl <;> simp at h1 ⊢
  have hd : 2 * (a ^^^ b) % 2 ^ w = (2 * a % 2 ^ w) ^^^ (2 * b % 2 ^ w) := by
    rw [← Nat.xor_mod_two_pow]
    congr 1
    have := Nat.shiftLeft_xor_distrib (a := a) (b := b) (i := 1)
    simp only [Nat.shiftLeft_eq, Nat.pow_one] at this
    rw [Nat.mul_comm 2, Nat.mul_comm 2, Nat.mul_comm 2]
    exact this
  unfold stepC
  rw [ht, hd]
  generalize 2 * a % 2 ^ w = A
  generalize 2 * b % 2 ^ w = B
  generalize a / 2 ^ (w - 1) = u at *
  generalize b / 2 ^ (w - 1) = v at *
  have cu : u = 0 ∨ u = 1 := by omega
  have cv : v = 0 ∨ v = 1 := by omega
  have cx : x = 0 ∨ x = 1 := by omega
  have cy : y = 0 ∨ y = 1 := by omega
  have e1 : A ^^^ B ^^^ p = A ^^^ (B ^^^ p) := Nat.xor_assoc _ _ _
  have e2 : A ^^^ B ^^^ p = (A ^^^ p) ^^^ B := by rw [Nat.xor_assoc, Nat.xor_assoc, Nat.xor_comm B p]
  have e3 : A ^^^ B = (A ^^^ p) ^^^ (B ^^^ p) := by rw [Nat.xor_assoc, ← Nat.xor_assoc p B p, Nat.xor_comm p B, Nat.xor_assoc B p p, Nat.xor_self, Nat.xor_zero]
  rcases cu with rfl | rfl <;> rcases cv with rfl | rfl <;> rcases cx with rfl | rfl <;> rcases cy with rfl | rfl <;> simp [← e1, ← e2, ← e3]
/-- The bits of two sequences, the exclusive or of each pair. -/
def mixL : List Int → List Int → List Int
  | x :: l, y :: m => (48 + ((x - 48) + (y - 48)) % 2) :: mixL l m
  | _, _ => []
theorem mixL_bits : ∀ (l m : List Int), AllB (mixL l m)
  | [], _ => AllB.nil
  | _ :: _, [] => AllB.nil
  | x :: l, y :: m => AllB.cons_iff.mpr ⟨by omega, mixL_bits l m⟩
theorem mixL_len : ∀ (l m : List Int), l.length = m.length → (mixL l m).length = l.length
  | [], _, _ => rfl
  | _ :: _, [], h => by simp at h
  | x :: l, y :: m, h => by simp [mixL, mixL_len l m (by simpa using h)]
theorem runC_mix {w p i x : Nat} (C : Crc w p i x) : ∀ (l m : List Int) (a b : Nat), l.length = m.length → AllB l → AllB m → a < 2 ^ w → b < 2 ^ w → runC w p (a ^^^ b) (mixL l m) = runC w p a l ^^^ runC w p b m
  | [], [], _, _, _, _, _, _, _ => rfl
  | [], _ :: _, _, _, h, _, _, _, _ => by simp at h
  | _ :: _, [], _, _, h, _, _, _, _ => by simp at h
  | s :: l, t :: m, a, b, h, hl, hm, ha, hb => by
    obtain ⟨h1, hl⟩ := AllB.cons_iff.mp hl
    obtain ⟨h2, hm⟩ := AllB.cons_iff.mp hm
    have e : (48 + ((s - 48) + (t - 48)) % 2 - 48).toNat = ((s - 48).toNat + (t - 48).toNat) % 2 := by omega
    rw [mixL, runC, runC, runC, e, stepC_xor C.w1 a b ha hb _ _ (by omega) (by omega)]
    exact runC_mix C l m _ _ (by simpa using h) hl hm (stepC_lt C _ _) (stepC_lt C _ _)
theorem revN_xor : ∀ (n a b c d : Nat), revN n (a ^^^ b) (c ^^^ d) = revN n a c ^^^ revN n b d
  | 0, _, _, _, _ => rfl
  | n + 1, a, b, c, d => by
    have e1 : 2 * (a ^^^ b) + (c ^^^ d) % 2 = (2 * a + c % 2) ^^^ (2 * b + d % 2) := by
      apply Nat.eq_of_testBit_eq
      intro i
      rw [Nat.testBit_xor]
      cases i with
      | zero =>
        have h := Nat.testBit_xor c d 0
        simp only [Nat.testBit_zero] at h ⊢
        rw [show (2 * (a ^^^ b) + (c ^^^ d) % 2) % 2 = (c ^^^ d) % 2 by omega, show (2 * a + c % 2) % 2 = c % 2 by omega, show (2 * b + d % 2) % 2 = d % 2 by omega]
        exact h
      | succ i =>
        rw [Nat.testBit_succ, Nat.testBit_succ, Nat.testBit_succ, show (2 * (a ^^^ b) + (c ^^^ d) % 2) / 2 = a ^^^ b by omega, show (2 * a + c % 2) / 2 = a by omega, show (2 * b + d % 2) / 2 = b by omega, Nat.testBit_xor]
    have e2 : (c ^^^ d) / 2 = (c / 2) ^^^ (d / 2) := by
      apply Nat.eq_of_testBit_eq
      intro i
      simp only [Nat.testBit_xor, ← Nat.testBit_succ]
    rw [revN, e1, e2, revN_xor n]
    rfl
theorem finC_xor3 (w x : Nat) (refl : Bool) (a b c : Nat) : finC w x refl a ^^^ finC w x refl b ^^^ finC w x refl c = finC w x refl (a ^^^ b ^^^ c) := by
  have h3 : ∀ u v t : Nat, (u ^^^ x) ^^^ (v ^^^ x) ^^^ (t ^^^ x) = (u ^^^ v ^^^ t) ^^^ x := by
    intro u v t
    have : (u ^^^ x) ^^^ (v ^^^ x) = u ^^^ v := by rw [Nat.xor_assoc, ← Nat.xor_assoc x v x, Nat.xor_comm x v, Nat.xor_assoc v x x, Nat.xor_self, Nat.xor_zero]
    rw [this, ← Nat.xor_assoc]
  unfold finC
  rw [h3]
  cases refl
  · rfl
  · simp only [if_true]
    have e := revN_xor w 0 0 (a ^^^ b) c
    have e' := revN_xor w 0 0 a b
    rw [Nat.xor_zero] at e e'
    rw [e, e']
theorem stepC_zero (w p : Nat) : stepC w p 0 0 = 0 := by
  unfold stepC
  rw [Nat.zero_div, if_pos rfl, Nat.mul_zero, Nat.zero_mod]
theorem runC_zeros (w p : Nat) : ∀ (l : List Int), (∀ x ∈ l, x = 48) → runC w p 0 l = 0
  | [], _ => rfl
  | x :: l, h => by
    have hx := h x (List.mem_cons_self ..)
    subst hx
    rw [runC, show ((48 : Int) - 48).toNat = 0 from rfl, stepC_zero]
    exact runC_zeros w p l (fun y hy => h y (List.mem_cons_of_mem _ hy))
theorem split_top {w r : Nat} (hw : 1 ≤ w) : r = r / 2 ^ (w - 1) * 2 ^ (w - 1) + r % 2 ^ (w - 1) := by
  have := Nat.div_add_mod r (2 ^ (w - 1))
  rw [Nat.mul_comm] at this
  exact this.symm
theorem dbl_mod {w r : Nat} (hw : 1 ≤ w) : 2 * r % 2 ^ w = 2 * (r % 2 ^ (w - 1)) := by
  have e : 2 ^ w = 2 * 2 ^ (w - 1) := by rw [← Nat.pow_succ']; congr 1; omega
  rw [e, Nat.mul_mod_mul_left]
theorem xor_odd {a p : Nat} (ha : a % 2 = 0) (hp : p % 2 = 1) : (a ^^^ p) % 2 = 1 := by
  have h := Nat.testBit_xor a p 0
  simp only [Nat.testBit_zero, ha, hp] at h
  simpa using h
/-- What a step makes is even only where the top bit was the bit. -/
theorem stepC_even {w p i x : Nat} (C : Crc w p i x) {r b v : Nat} (h : stepC w p r b = 2 * v) : r = b * 2 ^ (w - 1) + v := by
  have hw := C.w1
  have hd := dbl_mod (r := r) hw
  unfold stepC at h
  split at h
  · rename_i ht
    rw [hd] at h
    have hs := split_top (r := r) hw
    rw [ht] at hs
    omega
  · rename_i ht
    have := xor_odd (a := 2 * r % 2 ^ w) (by rw [hd]; omega) C.odd
    omega
theorem stepC_keep {w p i x : Nat} (C : Crc w p i x) {r : Nat} (h : stepC w p r 0 = 0) : r = 0 := by
  have := stepC_even C (v := 0) (by rw [h])
  omega
theorem runC_keep {w p i x : Nat} (C : Crc w p i x) : ∀ (l : List Int) (r : Nat), (∀ x ∈ l, x = 48) → runC w p r l = 0 → r = 0
  | [], _, _, h => h
  | y :: l, r, hz, h => by
    have hy := hz y (List.mem_cons_self ..)
    subst hy
    rw [runC] at h
    exact stepC_keep C (runC_keep C l _ (fun z hm => hz z (List.mem_cons_of_mem _ hm)) h)
/-- The number whose highest bits are those of a sequence. -/
def topN : Nat → List Int → Nat
  | _, [] => 0
  | 0, _ :: _ => 0
  | n + 1, x :: l => (x - 48).toNat * 2 ^ n + topN n l
theorem topN_half : ∀ (l : List Int) (n : Nat), l.length ≤ n → topN (n + 1) l = 2 * topN n l
  | [], n, _ => by cases n <;> rfl
  | x :: l, n, h => by
    obtain ⟨m, rfl⟩ : ∃ m, n = m + 1 := ⟨n - 1, by simp at h; omega⟩
    rw [topN, topN_half l m (by simpa using h), topN, Nat.pow_succ]
    rw [Nat.mul_add, ← Nat.mul_assoc 2, Nat.mul_comm 2 ((x - 48).toNat), Nat.mul_assoc, Nat.mul_comm 2 (2 ^ m)]
theorem runC_back {w p i x : Nat} (C : Crc w p i x) : ∀ (l : List Int) (r : Nat), l.length ≤ w → runC w p r l = 0 → r = topN w l
  | [], r, _, h => by rw [runC] at h; rw [h]; cases w <;> rfl
  | y :: l, r, hl, h => by
    obtain ⟨n, rfl⟩ : ∃ n, w = n + 1 := ⟨w - 1, by have := C.w1; omega⟩
    have hl2 : l.length ≤ n := by simpa using hl
    rw [runC] at h
    have e := runC_back C l _ (by omega) h
    rw [topN_half l n hl2] at e
    have := stepC_even C e
    rw [this, topN]
    rfl
theorem topN_zero : ∀ (l : List Int) (n : Nat), l.length ≤ n → AllB l → topN n l = 0 → ∀ x ∈ l, x = 48
  | [], _, _, _, _ => fun _ h => nomatch h
  | y :: l, n, hl, hb, h => by
    obtain ⟨m, rfl⟩ : ∃ m, n = m + 1 := ⟨n - 1, by simp at hl; omega⟩
    obtain ⟨h1, hb⟩ := AllB.cons_iff.mp hb
    rw [topN] at h
    have hp := npow_pos m
    intro z hz
    have h0 : (y - 48).toNat * 2 ^ m = 0 := by omega
    have hy : y = 48 := by
      rcases h1 with rfl | rfl
      · rfl
      · rw [show ((49 : Int) - 48).toNat = 1 from rfl] at h0; omega
    rcases List.mem_cons.mp hz with rfl | hz
    · exact hy
    · exact topN_zero l m (by simpa using hl) hb (by omega) z hz
theorem revN_zero : ∀ (n a r : Nat), revN n a r = 0 → a = 0 ∧ r % 2 ^ n = 0
  | 0, _, r, h => ⟨h, by rw [Nat.pow_zero, Nat.mod_one]⟩
  | n + 1, a, r, h => by
    rw [revN] at h
    obtain ⟨h1, h2⟩ := revN_zero n _ _ h
    refine ⟨by omega, ?_⟩
    have e : r % 2 ^ (n + 1) = 2 * (r / 2 % 2 ^ n) + r % 2 := by
      rw [Nat.pow_succ, Nat.mul_comm (2 ^ n) 2, Nat.mod_mul]; omega
    rw [e, h2]
    omega
theorem finC_inj {w p i x : Nat} (C : Crc w p i x) (refl : Bool) {a b : Nat} (ha : a < 2 ^ w) (hb : b < 2 ^ w) (h : finC w x refl a = finC w x refl b) : a ^^^ b = 0 := by
  unfold finC at h
  have e : (if refl = true then revN w 0 a else a) = if refl = true then revN w 0 b else b := by
    have h2 := congrArg (· ^^^ x) h
    simpa [Nat.xor_assoc] using h2
  cases refl
  · have : a = b := by simpa using e
    rw [this, Nat.xor_self]
  · have e2 : revN w 0 a = revN w 0 b := by simpa using e
    have e3 := revN_xor w 0 0 a b
    rw [Nat.xor_self, e2, Nat.xor_self] at e3
    have := (revN_zero w 0 _ e3).2
    rwa [Nat.mod_eq_of_lt (Nat.xor_lt_two_pow ha hb)] at this
/-- Which bits of a sequence are inverted. -/
def maskL (w : Nat) (q : Int) : Nat → List Int → List Int
  | _, [] => []
  | j, _ :: l => (48 + if j < w then q / 2 ^ j % 2 else 0) :: maskL w q (j + 1) l
theorem maskL_bits (w : Nat) (q : Int) : ∀ (l : List Int) (j : Nat), AllB (maskL w q j l)
  | [], _ => AllB.nil
  | _ :: l, j => AllB.cons_iff.mpr ⟨by split <;> omega, maskL_bits w q l (j + 1)⟩
theorem maskL_len (w : Nat) (q : Int) : ∀ (l : List Int) (j : Nat), (maskL w q j l).length = l.length
  | [], _ => rfl
  | _ :: l, j => by simp [maskL, maskL_len w q l (j + 1)]
theorem maskL_far (w : Nat) (q : Int) : ∀ (l : List Int) (j : Nat), w ≤ j → ∀ x ∈ maskL w q j l, x = 48
  | [], _, _ => fun _ h => nomatch h
  | _ :: l, j, h => by
    intro x hx
    rw [maskL] at hx
    rcases List.mem_cons.mp hx with rfl | hx
    · rw [if_neg (by omega)]; rfl
    · exact maskL_far w q l (j + 1) (by omega) x hx
theorem maskL_drop (w : Nat) (q : Int) : ∀ (n : Nat) (l : List Int) (j : Nat), (maskL w q j l).drop n = maskL w q (j + n) (l.drop n)
  | 0, _, _ => rfl
  | _ + 1, [], _ => rfl
  | n + 1, _ :: l, j => by
    rw [maskL, List.drop_succ_cons, List.drop_succ_cons, maskL_drop w q n l (j + 1)]
    congr 1
    omega
theorem mixL_append : ∀ (a b c d : List Int), a.length = b.length → mixL (a ++ c) (b ++ d) = mixL a b ++ mixL c d
  | [], [], _, _, _ => rfl
  | [], _ :: _, _, _, h => by simp at h
  | _ :: _, [], _, _, h => by simp at h
  | x :: a, y :: b, c, d, h => by simp [mixL, mixL_append a b c d (by simpa using h)]
theorem mixL_self : ∀ (l : List Int), ∀ x ∈ mixL l l, x = 48
  | [] => fun _ h => nomatch h
  | y :: l => by
    intro x hx
    rw [mixL] at hx
    rcases List.mem_cons.mp hx with rfl | hx
    · omega
    · exact mixL_self l x hx
theorem mixL_back : ∀ (l m : List Int), l.length = m.length → AllB l → AllB m → mixL l (mixL l m) = m
  | [], [], _, _, _ => rfl
  | [], _ :: _, h, _, _ => by simp at h
  | _ :: _, [], h, _, _ => by simp at h
  | x :: l, y :: m, h, hl, hm => by
    obtain ⟨h1, hl⟩ := AllB.cons_iff.mp hl
    obtain ⟨h2, hm⟩ := AllB.cons_iff.mp hm
    rw [mixL, mixL, mixL_back l m (by simpa using h) hl hm]
    congr 1
    omega
/-- Is any bit inverted. -/
def anyL (l : List Int) : Bool := l.any (fun x => x == 49)
theorem anyL_no {l : List Int} (hb : AllB l) : anyL l = false ↔ ∀ x ∈ l, x = 48 := by
  unfold anyL
  rw [List.any_eq_false]
  constructor
  · intro h x hx
    have := h x hx
    rcases hb x hx with h | h
    · exact h
    · simp [h] at this
  · intro h x hx
    rw [h x hx]; decide
theorem det {w p i x : Nat} (C : Crc w p i x) (pre suf : List Int) (q : Int) : runC w p 0 (mixL pre pre ++ maskL w q 0 suf) = 0 ↔ anyL (maskL w q 0 suf) = false := by
  rw [runC_append, runC_zeros w p _ (mixL_self pre), anyL_no (maskL_bits w q suf 0)]
  constructor
  · intro h
    have hs : maskL w q 0 suf = (maskL w q 0 suf).take w ++ (maskL w q 0 suf).drop w := (List.take_append_drop _ _).symm
    have hfar : ∀ x ∈ (maskL w q 0 suf).drop w, x = 48 := by rw [maskL_drop]; exact maskL_far w q _ _ (by omega)
    rw [hs, runC_append] at h
    have h1 := runC_keep C _ _ hfar h
    have hlen : ((maskL w q 0 suf).take w).length ≤ w := List.length_take_le _ _
    have h2 := runC_back C _ _ hlen h1
    have h3 := topN_zero _ _ hlen ((maskL_bits w q suf 0).take w) h2.symm
    rw [hs]
    intro y hy
    rcases List.mem_append.mp hy with hy | hy
    · exact h3 y hy
    · exact hfar y hy
  · exact fun h => runC_zeros w p _ h
def validE (a b c d e : Int) (s : ByteArray) (f : Int) : Bool :=
  decide (1 ≤ a ∧ a ≤ 8 ∧ 0 ≤ b ∧ b ≤ c ∧ c ≤ 1099511627776 ∧ -9007199254740992 ≤ d ∧ d ≤ 9007199254740992 ∧ -9007199254740992 ≤ e ∧ e ≤ 9007199254740992 ∧ s.size ≤ 4096 ∧ 0 ≤ f ∧ f ≤ 12)
theorem ev_event_Valid (a b c d e : Int) (s : ByteArray) (f : Int) : Ev (fun k => event_Valid.f k a b c d e s f) (validE a b c d e s f) := by
  refine ⟨2, fun k hk => ?_⟩
  obtain ⟨m, rfl⟩ : ∃ m, k = m + 2 := ⟨k - 2, by omega⟩
  simp only [event_Valid.f, event_Valid.j0, event_Valid.j1, validE, decide_eq_true_eq, ↓reduceIte]
  repeat' split
  all_goals first
    | (rw [decide_eq_false (by omega)])
    | (congr 1; rw [decide_eq_decide]; omega)
theorem rdE_get (l : List S32) (i : Nat) (h : i < l.length) : rd_T32 l (i : Int) = l[i] := by
  simp [rd_T32, h]
theorem rdI_get (l : List S48) (i : Nat) (h : i < l.length) : rd_T48 l (i : Int) = l[i] := by
  simp [rd_T48, h]
theorem revN_top : ∀ (n acc r : Nat), revN (n + 1) acc r = 2 * revN n acc r + r / 2 ^ n % 2
  | 0, acc, r => by simp [revN]
  | n + 1, acc, r => by rw [revN, revN_top n, revN, Nat.div_div_eq_div_mul, ← Nat.pow_succ']
theorem revN_mod : ∀ (n acc r : Nat), revN n acc (r % 2 ^ n) = revN n acc r
  | 0, _, _ => rfl
  | n + 1, acc, r => by
    have h2 : 2 ^ (n + 1) = 2 * 2 ^ n := by rw [Nat.pow_succ]; omega
    have e1 : r % 2 ^ (n + 1) % 2 = r % 2 := by rw [h2, Nat.mod_mul_right_mod]
    have e2 : r % 2 ^ (n + 1) / 2 = r / 2 % 2 ^ n := by rw [h2, Nat.mod_mul_right_div_self]
    rw [revN, revN, e1, e2, revN_mod n]
/-- The register of the reference: from the lowest bit on. -/
def rbit (r b : Nat) : Nat := if r % 2 = b then r / 2 else (r / 2) ^^^ 40961
theorem rev_step {r b : Nat} (hr : r < 2 ^ 16) : revN 16 0 (stepC 16 32773 r b) = rbit (revN 16 0 r) b := by
  have t : revN 16 0 r = 2 * revN 15 0 r + r / 2 ^ 15 % 2 := revN_top 15 0 r
  have hd : r / 2 ^ 15 % 2 = r / 2 ^ 15 := by omega
  rw [hd] at t
  have e : revN 16 0 (2 * r % 2 ^ 16) = revN 15 0 r := by
    rw [revN, show 2 * 0 + 2 * r % 2 ^ 16 % 2 = 0 by omega, show 2 * r % 2 ^ 16 / 2 = r % 2 ^ 15 by omega, revN_mod]
  have hlt : r / 2 ^ 15 < 2 := by omega
  have e1 : revN 16 0 r % 2 = r / 2 ^ 15 := by omega
  have e2 : revN 16 0 r / 2 = revN 15 0 r := by omega
  unfold stepC rbit
  rw [e1, e2]
  show revN 16 0 (if r / 2 ^ 15 = b then _ else _) = _
  split
  · exact e
  · have := revN_xor 16 0 0 (2 * r % 2 ^ 16) 32773
    rw [show (0 : Nat) ^^^ 0 = 0 from rfl, e] at this
    rw [this]
    congr 1
theorem half_xor (a b : Nat) : (a ^^^ b) / 2 = (a / 2) ^^^ (b / 2) := by
  apply Nat.eq_of_testBit_eq
  intro i
  simp only [Nat.testBit_xor, ← Nat.testBit_succ]
theorem low_xor (a b : Nat) : (a ^^^ b) % 2 = (a % 2 + b % 2) % 2 := by
  have h1 := Nat.testBit_xor a b 0
  simp only [Nat.testBit_zero] at h1
  have ha : a % 2 = 0 ∨ a % 2 = 1 := by omega
  have hb : b % 2 = 0 ∨ b % 2 = 1 := by omega
  have hc : (a ^^^ b) % 2 = 0 ∨ (a ^^^ b) % 2 = 1 := by omega
  rcases ha with e | e <;> rcases hb with f | f <;> rcases hc with g | g <;> simp [e, f, g] at h1 ⊢
theorem rbit_xor (r u : Nat) : (if (r ^^^ u) % 2 = 1 then ((r ^^^ u) / 2) ^^^ 40961 else (r ^^^ u) / 2) = rbit r (u % 2) ^^^ (u / 2) := by
  have hl := low_xor r u
  have hh := half_xor r u
  unfold rbit
  rw [hh]
  have ha : r % 2 = 0 ∨ r % 2 = 1 := by omega
  have hb : u % 2 = 0 ∨ u % 2 = 1 := by omega
  have ac : ∀ x y z : Nat, x ^^^ y ^^^ z = x ^^^ z ^^^ y := fun x y z => by rw [Nat.xor_assoc, Nat.xor_comm y z, ← Nat.xor_assoc]
  rcases ha with e | e <;> rcases hb with f | f <;> simp [hl, e, f, ac]
/-- The checksum of bytes. -/
def crcM (l : List Int) : Nat := revN 16 0 (runC 16 32773 65535 (fromBytesL l false))
theorem C16 : Crc 16 32773 65535 0 := ⟨by decide, by decide, by decide, by decide, by decide, by decide⟩
theorem crcM_lt (l : List Int) : crcM l < 65536 := by
  have h := runC_lt C16 (fromBytesL l false) 65535 (by decide)
  have := revN_lt 16 0 0 (runC 16 32773 65535 (fromBytesL l false)) (by decide)
  simpa [crcM] using this
theorem rev_lt (r : Nat) : revN 16 0 r < 65536 := by simpa using revN_lt 16 0 0 r (by decide)
/-- The two bytes of a checksum. -/
def sumL (l : List Int) : List Int := [(crcM l : Int) % 256, (crcM l : Int) / 256 % 256]
theorem named16 : check_Named.f (⟨#[99, 114, 99, 49, 54, 109, 111, 100, 98, 117, 115]⟩ : ByteArray) = some (16, 32773, 65535, 0, true, true) := by decide +kernel
theorem ev_sum (s : ByteArray) (hs : s.size ≤ 8192) : Ev (fun k => modbus_sum.f k s) (strOfNums (sumL (bytesOf s))) := by
  unfold modbus_sum.f
  rw [named16]
  refine Ev.sbind (Ev.bind (ev_check_Bytes 16 32773 65535 0 true s) ?_)
  have e : bytesC 16 32773 65535 0 true s = ((crcM (bytesOf s) : Int), 0) := by
    unfold bytesC
    rw [if_pos (by decide), if_neg (by omega)]
    simp [crcL, finC, crcM]
  rw [e]
  exact Ev.now _
theorem revN_zero' {r : Nat} (hr : r < 2 ^ 16) (h : revN 16 0 r = 0) : r = 0 := by
  have := (revN_zero 16 0 r h).2
  rw [Nat.mod_eq_of_lt hr] at this
  exact this
/-- A register that holds a number is empty behind the number's bits. -/
theorem run_fin (u : Nat) (hu : u < 65536) (bits : Nat → Int) (hb : ∀ k, k < 16 → (bits k - 48).toNat = u / 2 ^ k % 2) : ∀ (d k : Nat) (r : Nat) (l : List Int), k + d = 16 → r < 2 ^ 16 → revN 16 0 r = u / 2 ^ k → l.length = d → (∀ i (h : i < l.length), l[i] = bits (k + i)) → runC 16 32773 r l = 0 := by
  intro d
  induction d with
  | zero =>
    intro k r l hk hr h hl _
    have : l = [] := List.length_eq_zero_iff.mp hl
    subst this
    rw [runC]
    obtain rfl : k = 16 := by omega
    exact revN_zero' hr (by rw [h]; omega)
  | succ d ih =>
    intro k r l hk hr h hl hg
    cases l with
    | nil => simp at hl
    | cons b l =>
      have hb0 : b = bits k := by have := hg 0 (by simp); simpa using this
      rw [runC, hb0, hb k (by omega)]
      refine ih (k + 1) _ l (by omega) (stepC_lt C16 r _) ?_ (by simpa using hl) ?_
      · rw [rev_step hr, h, rbit, if_pos rfl, half_pow2]
      · intro i hi
        have := hg (i + 1) (by simp; omega)
        rw [List.getElem_cons_succ] at this
        rw [this]; congr 1; omega
/-- Bytes that end with their checksum. -/
def goodM (l : List Int) : Prop := runC 16 32773 65535 (fromBytesL l false) = 0
theorem good_sum (l : List Int) : goodM (l ++ sumL l) := by
  unfold goodM
  rw [fromBytesL_append, runC_append]
  have hr := runC_lt C16 (fromBytesL l false) 65535 (by decide)
  have hlt := crcM_lt l
  have hc : revN 16 0 (runC 16 32773 65535 (fromBytesL l false)) = crcM l := rfl
  generalize runC 16 32773 65535 (fromBytesL l false) = r at *
  unfold sumL
  generalize crcM l = u at *
  have e : fromBytesL [(u : Int) % 256, (u : Int) / 256 % 256] false = fromIntL ((u : Int) % 256) 8 false ++ fromIntL ((u : Int) / 256 % 256) 8 false := by
    simp [fromBytesL]
  rw [e]
  refine run_fin u hlt (fun k => 48 + ((u / 2 ^ k % 2 : Nat) : Int)) (fun k _ => by omega) 16 0 r _ rfl hr (by rw [hc]; simp) (by simp [fromIntL_len]) ?_
  intro i hi
  have h8 : ∀ (b : Int), (fromIntL b 8 false).length = 8 := fun b => fromIntL_len b 8 false
  rw [Nat.zero_add]
  have hz : ∀ (m k : Nat), ((m : Int) / 2 ^ k % 2) = ((m / 2 ^ k % 2 : Nat) : Int) := fun m k => by
    rw [Int.natCast_emod, Int.natCast_ediv, Int.natCast_pow]; rfl
  by_cases h : i < 8
  · rw [List.getElem_append_left (by rw [h8]; exact h), fromIntL_get, if_neg (by decide)]
    rw [show (u : Int) % 256 = ((u % 256 : Nat) : Int) by omega, hz]
    congr 2
    have : (u % 2 ^ 8) / 2 ^ i % 2 = u / 2 ^ i % 2 := by
      have h1 := Nat.testBit_mod_two_pow u 8 i
      simp only [Nat.testBit_eq_decide_div_mod_eq, h, decide_true, Bool.true_and, decide_eq_decide] at h1
      omega
    exact this
  · have hi2 : i < 16 := by simpa [h8] using hi
    rw [List.getElem_append_right (by rw [h8]; omega), fromIntL_get, if_neg (by decide), h8]
    rw [show (u : Int) / 256 % 256 = ((u / 256 : Nat) : Int) by omega, hz, show 256 = 2 ^ 8 from rfl, Nat.div_div_eq_div_mul, ← Nat.pow_add, show 8 + (i - 8) = i by omega]
theorem all48 : ∀ (l m : List Int), l.length = m.length → AllB l → AllB m → (∀ x ∈ mixL l m, x = 48) → l = m
  | [], [], _, _, _, _ => rfl
  | [], _ :: _, h, _, _, _ => by simp at h
  | _ :: _, [], h, _, _, _ => by simp at h
  | a :: l, b :: m, h, hl, hm, hz => by
    obtain ⟨h1, hl⟩ := AllB.cons_iff.mp hl
    obtain ⟨h2, hm⟩ := AllB.cons_iff.mp hm
    have h0 := hz (48 + ((a - 48) + (b - 48)) % 2) (by simp [mixL])
    rw [all48 l m (by simpa using h) hl hm (fun x hx => hz x (by simp [mixL, hx]))]
    congr 1
    omega
/-- Two neighboring bytes cannot change unnoticed. -/
theorem good_change (X Y : List Int) (p q p' q' : Int) (hp : Byts [p, q]) (hp' : Byts [p', q']) (h : goodM (X ++ ([p, q] ++ Y))) (h' : goodM (X ++ ([p', q'] ++ Y))) : p = p' ∧ q = q' := by
  unfold goodM at h h'
  rw [fromBytesL_append, fromBytesL_append] at h h'
  have bX := fromBytesL_bits false X
  have bY := fromBytesL_bits false Y
  have b1 := fromBytesL_bits false [p, q]
  have b2 := fromBytesL_bits false [p', q']
  have l1 : (fromBytesL [p, q] false).length = 16 := by rw [fromBytesL_len]; rfl
  have l2 : (fromBytesL [p', q'] false).length = 16 := by rw [fromBytesL_len]; rfl
  have hx := runC_mix C16 _ _ 65535 65535 (by simp only [List.length_append, l1, l2]) (AllB.append_iff.mpr ⟨bX, AllB.append_iff.mpr ⟨b1, bY⟩⟩) (AllB.append_iff.mpr ⟨bX, AllB.append_iff.mpr ⟨b2, bY⟩⟩) (by decide) (by decide)
  rw [h, h', Nat.xor_self, mixL_append _ _ _ _ rfl, mixL_append _ _ _ _ (by rw [l1, l2]), runC_append, runC_zeros _ _ _ (mixL_self _), runC_append] at hx
  have h0 := runC_keep C16 _ _ (mixL_self _) hx
  have hm := mixL_bits (fromBytesL [p, q] false) (fromBytesL [p', q'] false)
  have hl := mixL_len (fromBytesL [p, q] false) (fromBytesL [p', q'] false) (by rw [l1, l2])
  have ht := runC_back C16 _ 0 (by rw [hl, l1]; exact Nat.le_refl 16) h0
  have hz := topN_zero _ 16 (by rw [hl, l1]; exact Nat.le_refl 16) hm ht.symm
  have e := all48 _ _ (by rw [l1, l2]) b1 b2 hz
  have e1 := bytesL_fromBytesL [p, q] hp false
  have e2 := bytesL_fromBytesL [p', q'] hp' false
  rw [e] at e1
  simp only [List.length_cons, List.length_nil] at e1 e2
  rw [e1] at e2
  simpa using e2
/-- What is sent for an item. -/
def sendL (x : S48) : List Int := if x.f4 = 8 then [x.f1 % 256, x.f2 % 256] else [x.f1 % 256, x.f2 % 256] ++ bytesOf x.f3 ++ (if x.f4 = 3 then [((crcM ([x.f1 % 256, x.f2 % 256] ++ bytesOf x.f3) ^^^ 1 : Nat) : Int) % 256, (crcM ([x.f1 % 256, x.f2 % 256] ++ bytesOf x.f3) : Int) / 256 % 256] else sumL ([x.f1 % 256, x.f2 % 256] ++ bytesOf x.f3))
theorem sumL_byts (l : List Int) : Byts (sumL l) := Byts.cons (by omega) (Byts.cons (by omega) Byts.nil)
theorem headL_byts (x : S48) : Byts [x.f1 % 256, x.f2 % 256] := Byts.cons (by omega) (Byts.cons (by omega) Byts.nil)
theorem sendL_byts (x : S48) : Byts (sendL x) := by
  unfold sendL
  have h := headL_byts x
  split
  · exact h
  · refine (h.append (byts_of _)).append ?_
    split
    · exact Byts.cons (by omega) (Byts.cons (by omega) Byts.nil)
    · exact sumL_byts _
theorem sendL_len (x : S48) : 2 ≤ (sendL x).length ∧ (sendL x).length ≤ x.f3.size + 4 := by
  have hl := len_bytes x.f3
  unfold sendL sumL
  split
  · simp
  · split <;> (simp only [List.length_append, List.length_cons, List.length_nil]; omega)
/-- The first error of an item. -/
def itM (c : Int) (x : S48) : Int := if x.f0 < 0 ∨ x.f0 > 1048576 then 1 else if x.f3.size > 4096 then 6 else if x.f1 < 0 ∨ x.f1 > 255 ∨ x.f2 < 0 ∨ x.f2 > 255 ∨ c + 1 + x.f0 > 1048576 then 2 else if x.f4 = 0 ∨ x.f4 = 8 ∨ x.f4 = 3 then 0 else 1
theorem itM_ok {c : Int} {x : S48} (h : itM c x = 0) : 0 ≤ x.f0 ∧ x.f0 ≤ 1048576 ∧ x.f3.size ≤ 4096 ∧ 0 ≤ x.f1 ∧ x.f1 ≤ 255 ∧ 0 ≤ x.f2 ∧ x.f2 ≤ 255 ∧ c + 1 + x.f0 ≤ 1048576 ∧ (x.f4 = 0 ∨ x.f4 = 8 ∨ x.f4 = 3) := by
  unfold itM at h
  split at h
  · omega
  · split at h
    · omega
    · split at h
      · omega
      · split at h
        · rename_i h1 h2 h3 h4; exact ⟨by omega, by omega, by omega, by omega, by omega, by omega, by omega, by omega, h4⟩
        · omega
def firstM (c : Int) : List S48 → Int
  | [] => 0
  | x :: l => if itM c x = 0 then firstM c l else itM c x
def cellM (c : Int) (x : S48) (j : Nat) (b : Int) : S48 := if j = 0 then ⟨c + 1 + x.f0, b, 0, (⟨#[]⟩ : ByteArray), 0⟩ else ⟨0, b, 0, (⟨#[]⟩ : ByteArray), 0⟩
def cellsM (c : Int) (x : S48) : Nat → List Int → List S48
  | _, [] => []
  | j, b :: l => cellM c x j b :: cellsM c x (j + 1) l
theorem cellsM_len (c : Int) (x : S48) : ∀ (l : List Int) (j : Nat), (cellsM c x j l).length = l.length
  | [], _ => rfl
  | _ :: l, j => by simp [cellsM, cellsM_len c x l]
def encM (c : Int) : List S48 → List S48 → List S48 × Int
  | out, [] => (out, 0)
  | out, x :: l => if out.length + (sendL x).length > 262144 then ([], 6) else encM c (out ++ cellsM c x 0 (sendL x)) l
def chkM (c : Int) : Int := if c < 0 ∨ c > 1048576 then 2 else 0
def encodeM (c : Int) (l : List S48) : List S48 × Int := if chkM c = 0 then (if l.length > 1024 then ([], 6) else if firstM c l = 0 then encM c [] l else ([], firstM c l)) else ([], chkM c)
theorem encM_len (c : Int) : ∀ (l out : List S48), out.length ≤ 262144 → (encM c out l).1.length ≤ 262144
  | [], _, h => h
  | x :: l, out, h => by
    unfold encM
    split
    · simp
    · refine encM_len c l _ ?_
      rw [List.length_append, cellsM_len]; omega
theorem encodeM_len (c : Int) (l : List S48) : (encodeM c l).1.length ≤ 262144 := by
  unfold encodeM
  split
  · split
    · simp
    · split
      · exact encM_len c l [] (by simp)
      · simp
  · simp
theorem ev_mod_Check (c : Int) : Ev (fun k => modbus_Check.f c) (chkM c) := by
  refine Ev.now' fun _ => ?_
  unfold modbus_Check.f chkM
  repeat' split
  all_goals first | rfl | omega
theorem ev_checkItem (c : Int) (hc : chkM c = 0) (x : S48) : Ev (fun k => modbus_checkItem.f k c x.f0 x.f1 x.f2 x.f3 x.f4) (itM c x) := by
  have hc2 : 0 ≤ c ∧ c ≤ 1048576 := by unfold chkM at hc; split at hc <;> omega
  have hyes : itM c x = 1 → Ev (fun k => modbus_checkItem.j0 k true c x.f0 x.f1 x.f2 x.f3 x.f4) (itM c x) := by
    intro h
    rw [h]
    refine Ev.step (fun k => modbus_checkItem.j0.eq_2 ..) ?_
    exact Ev.pos rfl (Ev.now _)
  unfold modbus_checkItem.f
  refine Ev.ite (fun h0 => hyes (by unfold itM; rw [if_pos (.inl h0)])) (fun h0 => ?_)
  by_cases h1 : x.f0 > 1048576
  · rw [decide_eq_true h1]; exact hyes (by unfold itM; rw [if_pos (.inr h1)])
  rw [decide_eq_false h1]
  have hor : ¬ (x.f0 < 0 ∨ x.f0 > 1048576) := by omega
  clear hyes
  refine Ev.step (fun k => modbus_checkItem.j0.eq_2 ..) ?_
  refine Ev.neg (by decide) ?_
  by_cases h2 : x.f3.size > 4096
  · rw [show itM c x = 6 by unfold itM; rw [if_neg hor, if_pos h2]]
    exact Ev.pos (by omega) (Ev.now _)
  have h2e : (x.f1 < 0 ∨ x.f1 > 255 ∨ x.f2 < 0 ∨ x.f2 > 255 ∨ c + 1 + x.f0 > 1048576) → Ev (fun k => modbus_checkItem.j1 k true x.f0 x.f1 x.f2 x.f3 x.f4) (itM c x) := by
    intro h
    rw [show itM c x = 2 by unfold itM; rw [if_neg hor, if_neg h2, if_pos h]]
    refine Ev.step (fun k => modbus_checkItem.j1.eq_2 ..) ?_
    exact Ev.pos rfl (Ev.now _)
  rw [w64 (x := c + 1) (by omega) (by omega), w64 (x := c + 1 + x.f0) (by omega) (by omega)]
  refine Ev.neg (by omega) (Ev.ite (fun h => h2e (by omega)) (fun h3 => Ev.ite (fun h => h2e (by omega)) (fun h4 => Ev.ite (fun h => h2e (by omega)) (fun h5 => Ev.ite (fun h => h2e (by omega)) (fun h6 => ?_)))))
  by_cases h7 : c + 1 + x.f0 > 1048576
  · rw [decide_eq_true h7]; exact h2e (by omega)
  rw [decide_eq_false h7]
  have hor2 : ¬ (x.f1 < 0 ∨ x.f1 > 255 ∨ x.f2 < 0 ∨ x.f2 > 255 ∨ c + 1 + x.f0 > 1048576) := by omega
  clear h2e
  refine Ev.step (fun k => modbus_checkItem.j1.eq_2 ..) ?_
  refine Ev.neg (by decide) (Ev.now' fun _ => ?_)
  unfold itM
  rw [if_neg hor, if_neg h2, if_neg hor2]
  repeat' split
  all_goals first | rfl | omega
theorem xor1_u8 (x : Nat) : Go.bits .xor .u8 ((x : Int) % 256) 1 = ((x ^^^ 1 : Nat) : Int) % 256 := by
  have e : (x : Int) % 256 = ((x % 256 : Nat) : Int) := by omega
  rw [e]
  have h : (BitVec.ofInt 8 ((x % 256 : Nat) : Int) ^^^ BitVec.ofInt 8 1).toNat = (x ^^^ 1) % 2 ^ 8 := by
    rw [BitVec.toNat_xor, BitVec.toNat_ofInt, BitVec.toNat_ofInt, Nat.xor_mod_two_pow]
    congr 1
    show (((x % 256 : Nat) : Int) % ((256 : Nat) : Int)).toNat = x % 2 ^ 8
    omega
  show IntKind.u8.wrap ((BitVec.ofInt 8 ((x % 256 : Nat) : Int) ^^^ BitVec.ofInt 8 1).toNat : Int) = _
  rw [h]
  show (((x ^^^ 1) % 2 ^ 8 : Nat) : Int) % 256 = _
  omega
theorem ev_send (x : S48) (hs : x.f3.size ≤ 4096) : Ev (fun k => modbus_send.f k x.f0 x.f1 x.f2 x.f3 x.f4) (strOfNums (sendL x)) := by
  have hh := headL_byts x
  have e2 : strOfNums [x.f1 % 256, x.f2 % 256] ++ x.f3 = strOfNums ([x.f1 % 256, x.f2 % 256] ++ bytesOf x.f3) := by
    rw [← str_append, str_bytes]
  have eb : bytesOf (strOfNums ([x.f1 % 256, x.f2 % 256] ++ bytesOf x.f3)) = [x.f1 % 256, x.f2 % 256] ++ bytesOf x.f3 := bytes_str (hh.append (byts_of _))
  have hl := len_bytes x.f3
  have hz : (strOfNums ([x.f1 % 256, x.f2 % 256] ++ bytesOf x.f3)).size = x.f3.size + 2 := by rw [size_str]; simp only [List.length_append, List.length_cons, List.length_nil]; omega
  have hz2 : (strOfNums [x.f1 % 256, x.f2 % 256]).size = 2 := by rw [size_str]; rfl
  have hsum := ev_sum (strOfNums ([x.f1 % 256, x.f2 % 256] ++ bytesOf x.f3)) (by omega)
  rw [eb] at hsum
  have h2 : ∀ y z : Int, (strOfNums [y, z]).size = 2 := fun y z => by rw [size_str]; rfl
  unfold modbus_send.f sendL
  refine Ev.sbind (Ev.ite (fun h => ?_) (fun h => ?_))
  · rw [if_pos h]; exact Ev.now _
  rw [if_neg h, e2]
  refine Ev.pos (by omega) (Ev.bind hsum (Ev.ite (fun h3 => ?_) (fun h3 => ?_)))
  · rw [if_pos h3]
    have hsz : (strOfNums (sumL ([x.f1 % 256, x.f2 % 256] ++ bytesOf x.f3))).size = 2 := h2 _ _
    have b0 : bt (strOfNums (sumL ([x.f1 % 256, x.f2 % 256] ++ bytesOf x.f3))) 0 = (crcM ([x.f1 % 256, x.f2 % 256] ++ bytesOf x.f3) : Int) % 256 := bt_str (sumL_byts _) 0 (by simp [sumL])
    have b1 : bt (strOfNums (sumL ([x.f1 % 256, x.f2 % 256] ++ bytesOf x.f3))) 1 = (crcM ([x.f1 % 256, x.f2 % 256] ++ bytesOf x.f3) : Int) / 256 % 256 := bt_str (sumL_byts _) 1 (by simp [sumL])
    rw [b0, b1, xor1_u8, hsz]
    refine Ev.pos (by omega) (Ev.pos (by omega) (Ev.sbind (Ev.pos (by rw [h2]; omega) ?_)))
    rw [str_append]
    exact Ev.now _
  · rw [if_neg h3]
    refine Ev.pos (by unfold sumL; rw [h2]; omega) ?_
    rw [str_append]
    exact Ev.now _
theorem cell_str (l : List Int) (hb : Byts l) (pre : List Int) (b : Int) (q : List Int) (j : Nat) (he : l = pre ++ b :: q) (hj : j = pre.length) : wrap64 (bt (strOfNums l) (j : Int)) = b := by
  have h := hb b (by rw [he]; simp)
  rw [bt_str hb j (by rw [he, List.length_append, List.length_cons]; omega), w64]
  · simp [he, hj]
  · have : l[j]'(by rw [he, List.length_append, List.length_cons]; omega) = b := by simp [he, hj]
    omega
  · have : l[j]'(by rw [he, List.length_append, List.length_cons]; omega) = b := by simp [he, hj]
    omega
theorem ev_mod_Encode (c : Int) (l : List S48) : Ev (fun k => modbus_Encode.f k c l) (encodeM c l) := by
  unfold modbus_Encode.f encodeM
  refine Ev.bind (ev_mod_Check c) (Ev.ite (fun hc => ?_) (fun hc => ?_))
  case refine_2 => rw [if_neg hc]; exact Ev.now _
  rw [if_pos hc]
  have hc2 : 0 ≤ c ∧ c ≤ 1048576 := by unfold chkM at hc; split at hc <;> omega
  refine Ev.step (fun k => modbus_Encode.j0.eq_2 ..) ?_
  refine Ev.ite (fun hl => ?_) (fun hl => ?_)
  · rw [if_pos (by omega)]; exact Ev.now _
  rw [if_neg (by omega)]
  refine Ev.step (fun k => modbus_Encode.j1.eq_2 ..) ?_
  have two : ∀ (x : S48) (out : List S48) (i : Nat) (res : List S48 × Int), itM c x = 0 → i < l.length → out.length + (sendL x).length ≤ 262144 → ∀ (q pre : List Int) (acc : List S48) (j : Nat), sendL x = pre ++ q → j = pre.length → acc.length = out.length + j →
      Ev (fun k => modbus_Encode.l1 k (acc ++ cellsM c x j q) l (l.length : Int) ((i + 1 : Nat) : Int) c) res →
      Ev (fun k => modbus_Encode.l2 k acc (strOfNums (sendL x)) l (l.length : Int) (i : Int) ((strOfNums (sendL x)).size : Int) (j : Int) c x.f0 x.f1 x.f2 x.f3 x.f4) res := by
    intro x out i res hx hi ho q
    have hb := sendL_byts x
    have hz := size_str (sendL x)
    obtain ⟨g0, g1, _⟩ := itM_ok hx
    induction q with
    | nil =>
      intro pre acc j he hj ha h
      have hj2 : j = (sendL x).length := by rw [he, List.append_nil, hj]
      rw [cellsM, List.append_nil] at h
      clear he
      refine Ev.step (fun k => modbus_Encode.l2.eq_2 ..) ?_
      rw [wnat (i := i) (by omega)]
      exact Ev.neg (by omega) h
    | cons b q ih =>
      intro pre acc j he hj ha h
      have hlen : (sendL x).length = j + (q.length + 1) := by rw [he, hj, List.length_append, List.length_cons]
      have hbt := cell_str _ hb pre b q j he hj
      have hn := ih (pre ++ [b]) (acc ++ [cellM c x j b]) (j + 1) (by rw [he]; simp) (by simp [hj]) (by simp; omega) (by rw [List.append_assoc]; exact h)
      clear ih he
      refine Ev.step (fun k => modbus_Encode.l2.eq_2 ..) ?_
      rw [hbt, wnat (i := j) (by omega), w64 (x := c + 1) (by omega) (by omega), w64 (x := c + 1 + x.f0) (by omega) (by omega)]
      refine Ev.pos (by omega) (Ev.pos (by omega) (Ev.pos (by omega) (Ev.ite (fun h0 => Ev.pos (by omega) ?_) (fun h0 => Ev.pos (by omega) ?_))))
      · have : cellM c x j b = ⟨c + 1 + x.f0, b, 0, (⟨#[]⟩ : ByteArray), 0⟩ := by unfold cellM; rw [if_pos (by omega)]
        rw [this] at hn; exact hn
      · have : cellM c x j b = ⟨0, b, 0, (⟨#[]⟩ : ByteArray), 0⟩ := by unfold cellM; rw [if_neg (by omega)]
        rw [this] at hn; exact hn
  have one : ∀ (q pre out : List S48) (i : Nat), l = pre ++ q → i = pre.length → out.length ≤ 262144 → firstM c q = 0 → Ev (fun k => modbus_Encode.l1 k out l (l.length : Int) (i : Int) c) (encM c out q) := by
    intro q
    induction q with
    | nil =>
      intro pre out i he hi ho hf
      rw [List.append_nil] at he
      have hi' : i = l.length := by rw [hi, he]
      clear he two
      refine Ev.step (fun k => modbus_Encode.l1.eq_2 ..) ?_
      exact Ev.neg (by omega) (Ev.now _)
    | cons x q ih =>
      intro pre out i he hi ho hf
      have hlen : l.length = i + (q.length + 1) := by rw [he, hi, List.length_append, List.length_cons]
      have hx : rd_T48 l (i : Int) = x := by rw [he]; exact rdI_mid pre x q i hi
      rw [firstM] at hf
      have hx0 : itM c x = 0 := by split at hf; assumption; omega
      rw [if_pos hx0] at hf
      obtain ⟨g0, g1, g2, _⟩ := itM_ok hx0
      have hz := size_str (sendL x)
      have hs := sendL_len x
      refine Ev.step (fun k => modbus_Encode.l1.eq_2 ..) ?_
      refine Ev.pos (by omega) ?_
      refine Ev.step (fun k => modbus_Encode.j4.eq_2 ..) ?_
      rw [hx, encM]
      refine Ev.pos (by omega) (Ev.pos (by omega) (Ev.bind (ev_send x g2) ?_))
      rw [w64 (by omega) (by omega)]
      refine Ev.ite (fun h => ?_) (fun h => ?_)
      · rw [if_pos (by omega)]; exact Ev.now _
      rw [if_neg (by omega)]
      refine Ev.step (fun k => modbus_Encode.j5.eq_2 ..) ?_
      refine two x out i _ hx0 (by omega) (by omega) (sendL x) [] out 0 rfl rfl rfl ?_
      exact ih (pre ++ [x]) _ (i + 1) (by rw [he]; simp) (by simp [hi]) (by rw [List.length_append, cellsM_len]; omega) hf
  have zero : ∀ (q pre : List S48) (i : Nat), l = pre ++ q → i = pre.length → (firstM c q = 0 → Ev (fun k => modbus_Encode.l1 k [] l (l.length : Int) ((0 : Nat) : Int) c) (encM c [] l)) → Ev (fun k => modbus_Encode.l0 k l l (l.length : Int) (i : Int) c) (if firstM c q = 0 then encM c [] l else ([], firstM c q)) := by
    intro q
    induction q with
    | nil =>
      intro pre i he hi h
      rw [List.append_nil] at he
      have hi' : i = l.length := by rw [hi, he]
      clear he two one
      rw [if_pos (show firstM c [] = 0 from rfl)]
      refine Ev.step (fun k => modbus_Encode.l0.eq_2 ..) ?_
      exact Ev.neg (by omega) (h rfl)
    | cons x q ih =>
      intro pre i he hi h
      have hlen : l.length = i + (q.length + 1) := by rw [he, hi, List.length_append, List.length_cons]
      have hx : rd_T48 l (i : Int) = x := by rw [he]; exact rdI_mid pre x q i hi
      have ih2 := ih (pre ++ [x]) (i + 1) (by rw [he]; simp) (by simp [hi])
      clear ih he two one
      refine Ev.step (fun k => modbus_Encode.l0.eq_2 ..) ?_
      rw [hx, wnat (by omega)]
      refine Ev.pos (by omega) (Ev.pos (by omega) (Ev.pos (by omega) (Ev.bind (ev_checkItem c hc x) (Ev.ite (fun h0 => ?_) (fun h0 => ?_)))))
      · rw [firstM, if_pos h0] at h ⊢
        exact ih2 h
      · rw [firstM, if_neg h0, if_neg h0]
        exact Ev.now _
  exact zero l [] 0 rfl rfl (fun h => one l [] [] 0 rfl rfl (by simp) h)
/-- The event of a complete frame of at most 4100 bytes. -/
def frameM (from_ to_ : Int) (d : List Int) : S32 :=
  if d.length < 4 then ⟨5, from_, to_, 0, 0, strOfNums d, 8⟩
  else ⟨5, from_, to_, bt (strOfNums d) 0, bt (strOfNums d) 1, (strOfNums d).extract 2 (d.length - 2), if sumL (d.take (d.length - 2)) = d.drop (d.length - 2) then 0 else 3⟩
theorem str_extract {l : List Int} (hb : Byts l) (a b : Nat) : (strOfNums l).extract a b = strOfNums ((l.take b).drop a) := by
  rw [← str_bytes ((strOfNums l).extract a b), bytes_extract, bytes_str hb]
theorem byts_take {l : List Int} (h : Byts l) (n : Nat) : Byts (l.take n) := fun x hx => h x (List.mem_of_mem_take hx)
theorem byts_drop {l : List Int} (h : Byts l) (n : Nat) : Byts (l.drop n) := fun x hx => h x (List.mem_of_mem_drop hx)
theorem ev_complete (from_ to_ : Int) (d : List Int) (hb : Byts d) (hd : d.length ≤ 4100) : Ev (fun k => modbus_frame_complete.f k from_ to_ (d.length : Int) (strOfNums d)) ((frameM from_ to_ d).f0, (frameM from_ to_ d).f1, (frameM from_ to_ d).f2, (frameM from_ to_ d).f3, (frameM from_ to_ d).f4, (frameM from_ to_ d).f5, (frameM from_ to_ d).f6) := by
  have hz := size_str d
  unfold modbus_frame_complete.f
  refine Ev.ite (fun h => ?_) (fun h => ?_)
  · have hF : frameM from_ to_ d = ⟨5, from_, to_, 0, 0, strOfNums d, 8⟩ := by unfold frameM; rw [if_pos (show d.length < 4 by omega)]
    rw [hF]
    exact Ev.now _
  have hs := ev_sum ((strOfNums d).extract 0 (d.length - 2)) (by rw [str_extract hb, size_str, List.drop_zero, List.length_take]; omega)
  have e0 : bytesOf ((strOfNums d).extract 0 (d.length - 2)) = d.take (d.length - 2) := by rw [bytes_extract, bytes_str hb, List.drop_zero]
  rw [e0] at hs
  have e2 : (strOfNums d).extract (d.length - 2) (strOfNums d).size = strOfNums (d.drop (d.length - 2)) := by
    rw [str_extract hb, hz, List.take_length]
  have hiff : (strOfNums (sumL (d.take (d.length - 2)))).toList = ((strOfNums d).extract (d.length - 2) (strOfNums d).size).toList ↔ sumL (d.take (d.length - 2)) = d.drop (d.length - 2) := by
    rw [toList_iff, e2]
    constructor
    · intro h
      have := congrArg bytesOf h
      rwa [bytes_str (sumL_byts _), bytes_str (byts_drop hb _)] at this
    · intro h; rw [h]
  have w0 := bt_lo (strOfNums d) 0
  have w1 := bt_hi (strOfNums d) 0
  have w2 := bt_lo (strOfNums d) 1
  have w3 := bt_hi (strOfNums d) 1
  have ew : wrap64 ((d.length : Int) - 2) = ((d.length - 2 : Nat) : Int) := by rw [w64 (by omega) (by omega)]; omega
  rw [ew, Int.toNat_natCast, w64 (x := bt (strOfNums d) 0) (by omega) (by omega), w64 (x := bt (strOfNums d) 1) (by omega) (by omega)]
  have hF : frameM from_ to_ d = ⟨5, from_, to_, bt (strOfNums d) 0, bt (strOfNums d) 1, (strOfNums d).extract 2 (d.length - 2), if sumL (d.take (d.length - 2)) = d.drop (d.length - 2) then 0 else 3⟩ := by unfold frameM; rw [if_neg (show ¬ d.length < 4 by omega)]
  rw [hF]
  dsimp only
  refine Ev.pos (by omega) (Ev.pos (by omega) (Ev.neg (by omega) (Ev.pos (by omega) (Ev.pos (by omega) (Ev.pos (by omega) (Ev.bind hs (Ev.ite (fun hq => ?_) (fun hq => ?_))))))))
  · rw [if_pos (hiff.mp hq)]; exact Ev.now _
  · rw [if_neg (fun h => hq (hiff.mpr h))]; exact Ev.now _
theorem ev_finish (a0 a1 a4 a6 from_ to_ : Int) (d : List Int) (hb : Byts d) (hd : d.length ≤ 4100) (h0 : d ≠ []) : Ev (fun k => modbus_finish.f k a0 a1 from_ (d.length : Int) a4 to_ a6 (strOfNums d)) [frameM from_ to_ d] := by
  have : 0 < d.length := List.length_pos_iff.mpr h0
  unfold modbus_finish.f
  refine Ev.neg (by omega) (Ev.bind (ev_complete from_ to_ d hb hd) (Ev.now _))
/-- The bytes between idle times: what is decoded of bytes behind a byte that was there. -/
def decM (c : Int) : List S32 → Int → Int → List Int → List S32
  | [], from_, to_, d => [frameM from_ to_ d]
  | e :: l, from_, to_, d => if e.f1 - to_ > c then frameM from_ to_ d :: decM c l e.f1 e.f2 [e.f3] else decM c l from_ e.f2 (d ++ [e.f3])
theorem decM_len (c : Int) : ∀ (l : List S32) (a b : Int) (d : List Int), (decM c l a b d).length ≤ l.length + 1
  | [], _, _, _ => by simp [decM]
  | e :: l, a, b, d => by
    unfold decM
    split
    · have := decM_len c l e.f1 e.f2 [e.f3]; simp; omega
    · have := decM_len c l a e.f2 (d ++ [e.f3]); simp; omega
/-- An event that is a byte. -/
structure ByteE (e : S32) : Prop where
  k : e.f0 = 3
  f0 : 0 ≤ e.f1
  f1 : e.f1 ≤ e.f2
  f2 : e.f2 ≤ 1099511627776
  v0 : 0 ≤ e.f3
  v1 : e.f3 ≤ 255
  a : e.f4 = 0
  s : e.f5 = ⟨#[]⟩
  f : e.f6 = 0
theorem ByteE.valid {e : S32} (h : ByteE e) : validE e.f0 e.f1 e.f2 e.f3 e.f4 e.f5 e.f6 = true := by
  have h1 := h.k; have h2 := h.f0; have h3 := h.f1; have h4 := h.f2; have h5 := h.v0; have h6 := h.v1; have h7 := h.a; have h8 := h.f
  have h9 : e.f5.size = 0 := by rw [h.s]; rfl
  unfold validE
  rw [decide_eq_true_eq]
  omega
theorem andNot255 {v : Int} (h0 : 0 ≤ v) (h1 : v ≤ 255) : Go.bits .andNot .i64 v 255 = 0 := by
  have key : ∀ n : Fin 256, Go.bits .andNot .i64 ((n.val : Nat) : Int) 255 = 0 := by decide +kernel
  obtain ⟨n, rfl⟩ := Int.eq_ofNat_of_zero_le h0
  exact key ⟨n, by omega⟩
theorem ev_step_start (c : Int) (hc : chkM c = 0) (at_ from_ aux : Int) (e : S32) (he : ByteE e) (ha : at_ ≤ e.f1) : Ev (fun k => modbus_Step.f k c 0 at_ from_ 0 0 aux 0 ⟨#[]⟩ e.f0 e.f1 e.f2 e.f3 e.f4 e.f5 e.f6) (0, e.f1, e.f1, 1, 0, e.f2, 0, strOfNums [e.f3], []) := by
  have h1 := he.k; have h2 := he.f0; have h3 := he.f1; have h4 := he.f2; have h5 := he.v0; have h6 := he.v1
  have hv := ev_event_Valid e.f0 e.f1 e.f2 e.f3 e.f4 e.f5 e.f6
  rw [he.valid] at hv
  have en : ((Go.bits .andNot .i64 e.f3 255) != 0) = false := by rw [andNot255 h5 h6]; rfl
  unfold modbus_Step.f
  refine Ev.bind (ev_mod_Check c) (Ev.pos hc (Ev.bind hv (Ev.pos rfl (Ev.pos h1 (Ev.neg (by omega) ?_)))))
  rw [en]
  refine Ev.step (fun k => modbus_Step.j0.eq_2 ..) ?_
  refine Ev.neg (by decide) ?_
  refine Ev.step (fun k => modbus_Step.j1.eq_2 ..) ?_
  refine Ev.pos he.f (Ev.neg (by omega) ?_)
  refine Ev.step (fun k => modbus_Step.j2.eq_2 ..) ?_
  refine Ev.neg (by decide) ?_
  refine Ev.step (fun k => modbus_Step.j3.eq_2 ..) ?_
  rw [show e.f3 % 256 = e.f3 by omega]
  have e0 : (⟨#[]⟩ : ByteArray) ++ strOfNums [e.f3] = strOfNums [e.f3] := by rw [show (⟨#[]⟩ : ByteArray) = strOfNums [] from rfl, str_append]; rfl
  have z1 : (strOfNums [e.f3]).size = 1 := size_str _
  refine Ev.pos rfl (Ev.pos (by decide) (Ev.sbind (Ev.pos (by rw [z1]; decide) ?_)))
  rw [e0, show wrap64 (0 + 1) = 1 from w64 (x := 0 + 1) (by omega) (by omega)]
  exact Ev.now _
theorem ev_step_in (c : Int) (hc : chkM c = 0) (at_ from_ aux : Int) (d : List Int) (hb : Byts d) (hd : d.length < 4000) (h0 : d ≠ []) (e : S32) (he : ByteE e) (ha : at_ ≤ e.f1) (hx0 : 0 ≤ aux) (hx1 : aux ≤ 1099511627776) :
    Ev (fun k => modbus_Step.f k c 0 at_ from_ (d.length : Int) 0 aux 0 (strOfNums d) e.f0 e.f1 e.f2 e.f3 e.f4 e.f5 e.f6) (if e.f1 - aux > c then (0, e.f1, e.f1, 1, 0, e.f2, 0, strOfNums [e.f3], [frameM from_ aux d]) else (0, e.f1, from_, ((d ++ [e.f3]).length : Int), 0, e.f2, 0, strOfNums (d ++ [e.f3]), [])) := by
  have h1 := he.k; have h2 := he.f0; have h3 := he.f1; have h4 := he.f2; have h5 := he.v0; have h6 := he.v1
  have hv := ev_event_Valid e.f0 e.f1 e.f2 e.f3 e.f4 e.f5 e.f6
  rw [he.valid] at hv
  have en : ((Go.bits .andNot .i64 e.f3 255) != 0) = false := by rw [andNot255 h5 h6]; rfl
  have hp : 0 < d.length := List.length_pos_iff.mpr h0
  have z1 : (strOfNums [e.f3]).size = 1 := size_str _
  have zd := size_str d
  unfold modbus_Step.f
  refine Ev.bind (ev_mod_Check c) (Ev.pos hc (Ev.bind hv (Ev.pos rfl (Ev.pos h1 (Ev.neg (by omega) ?_)))))
  rw [en]
  refine Ev.step (fun k => modbus_Step.j0.eq_2 ..) ?_
  refine Ev.neg (by decide) ?_
  refine Ev.step (fun k => modbus_Step.j1.eq_2 ..) ?_
  refine Ev.pos he.f (Ev.pos (by omega) ?_)
  rw [w64 (x := e.f1 - aux) (by omega) (by omega)]
  refine Ev.step (fun k => modbus_Step.j2.eq_2 ..) ?_
  by_cases hg : e.f1 - aux > c
  · rw [decide_eq_true hg, if_pos hg]
    refine Ev.pos rfl (Ev.bind (ev_finish 0 at_ 0 0 from_ aux d hb (by omega) h0) ?_)
    refine Ev.step (fun k => modbus_Step.j3.eq_2 ..) ?_
    rw [show e.f3 % 256 = e.f3 by omega]
    have e0 : (⟨#[]⟩ : ByteArray) ++ strOfNums [e.f3] = strOfNums [e.f3] := by rw [show (⟨#[]⟩ : ByteArray) = strOfNums [] from rfl, str_append]; rfl
    refine Ev.pos rfl (Ev.pos (by decide) (Ev.sbind (Ev.pos (by rw [z1]; decide) ?_)))
    rw [e0, show wrap64 (0 + 1) = 1 from w64 (x := 0 + 1) (by omega) (by omega)]
    exact Ev.now _
  · rw [decide_eq_false hg, if_neg hg]
    refine Ev.neg (by decide) ?_
    refine Ev.step (fun k => modbus_Step.j3.eq_2 ..) ?_
    rw [show e.f3 % 256 = e.f3 by omega, wnat (by omega), List.length_append, List.length_singleton]
    refine Ev.neg (by omega) (Ev.pos (by omega) (Ev.sbind (Ev.pos (by omega) ?_)))
    rw [str_append]
    exact Ev.now _
theorem ev_Decode_l0 (c : Int) (hc : chkM c = 0) (l : List S32) (hl : l.length < 4000) (hB : ∀ e ∈ l, ByteE e) : ∀ (q pre : List S32) (out : List S32) (at_ from_ aux : Int) (d : List Int) (i : Nat), l = pre ++ q → i = pre.length → d ≠ [] → d.length ≤ i → out.length ≤ i → Byts d → (∀ e ∈ q, at_ ≤ e.f1) → q.Pairwise (fun e e' => e.f1 ≤ e'.f1) → 0 ≤ aux → aux ≤ 1099511627776 →
    Ev (fun k => modbus_Decode.l0 k out l (l.length : Int) (i : Int) c 0 at_ from_ (d.length : Int) 0 aux 0 (strOfNums d)) (out ++ decM c q from_ aux d) := by
  intro q
  induction q with
  | nil =>
    intro pre out at_ from_ aux d i he hi h0 hd ho hb ha hp hx0 hx1
    rw [List.append_nil] at he
    have hi' : i = l.length := by rw [hi, he]
    clear he
    have hE : Ev (fun k => modbus_End.f k c 0 at_ from_ (d.length : Int) 0 aux 0 (strOfNums d)) [frameM from_ aux d] := by
      unfold modbus_End.f
      exact Ev.bind (ev_mod_Check c) (Ev.pos hc (Ev.bind (ev_finish 0 at_ 0 0 from_ aux d hb (by omega) h0) (Ev.now _)))
    refine Ev.step (fun k => modbus_Decode.l0.eq_2 ..) ?_
    rw [decM]
    exact Ev.neg (by omega) (Ev.bind hE (Ev.pos (by rw [List.length_singleton]; omega) (Ev.now _)))
  | cons e q ih =>
    intro pre out at_ from_ aux d i he hi h0 hd ho hb ha hp hx0 hx1
    have hlen : l.length = i + (q.length + 1) := by rw [he, hi, List.length_append, List.length_cons]
    have hx : rd_T32 l (i : Int) = e := by rw [he]; exact rdE_mid pre e q i hi
    have hBe := hB e (by rw [he]; simp)
    have h1 := ha e (by simp)
    obtain ⟨hp1, hp2⟩ := List.pairwise_cons.mp hp
    have g1 := hBe.f0; have g2 := hBe.f1; have g3 := hBe.f2; have g4 := hBe.v0; have g5 := hBe.v1
    have ih2 := fun out' from' d' hd0 hd1 ho' hb' => ih (pre ++ [e]) out' e.f1 from' e.f2 d' (i + 1) (by rw [he]; simp) (by simp [hi]) hd0 hd1 ho' hb' hp1 hp2 (by omega) g3
    clear ih he
    have hbe : Byts [e.f3] := Byts.cons (by omega) Byts.nil
    refine Ev.step (fun k => modbus_Decode.l0.eq_2 ..) ?_
    rw [hx, wnat (by omega), decM]
    refine Ev.pos (by omega) (Ev.pos (by omega) (Ev.pos (by omega) (Ev.bind (ev_step_in c hc at_ from_ aux d hb (by omega) h0 e hBe h1 hx0 hx1) ?_)))
    by_cases hg : e.f1 - aux > c
    · rw [if_pos hg, if_pos hg]
      refine Ev.pos (by rw [List.length_singleton]; omega) ?_
      have := ih2 (out ++ [frameM from_ aux d]) e.f1 [e.f3] (by simp) (by simp) (by simp; omega) hbe
      rw [List.append_assoc] at this
      exact this
    · rw [if_neg hg, if_neg hg]
      refine Ev.pos (by rw [List.length_nil]; omega) ?_
      rw [List.append_nil]
      exact ih2 out from_ (d ++ [e.f3]) (by simp) (by simp; omega) (by omega) (hb.append hbe)
/-- What is decoded of bytes. -/
theorem ev_Decode (c : Int) (hc : chkM c = 0) (e : S32) (q : List S32) (hl : q.length + 1 < 4000) (hB : ∀ x ∈ e :: q, ByteE x) (hp : (e :: q).Pairwise (fun e e' => e.f1 ≤ e'.f1)) : Ev (fun k => modbus_Decode.f k c (e :: q)) (decM c q e.f1 e.f2 [e.f3]) := by
  have hBe := hB e (by simp)
  obtain ⟨hp1, hp2⟩ := List.pairwise_cons.mp hp
  have g1 := hBe.f0; have g2 := hBe.f1; have g3 := hBe.f2; have g4 := hBe.v0; have g5 := hBe.v1
  have hbe : Byts [e.f3] := Byts.cons (by omega) Byts.nil
  unfold modbus_Decode.f modbus_Start.f
  refine Ev.sbind ?_
  have h := ev_Decode_l0 c hc (e :: q) (by simpa using hl) hB q [e] [] e.f1 e.f1 e.f2 [e.f3] 1 rfl rfl (by simp) (by simp) (by simp) hbe hp1 hp2 (by omega) g3
  have hx : rd_T32 (e :: q) 0 = e := rdE_mid [] e q 0 rfl
  refine Ev.step (fun k => modbus_Decode.l0.eq_2 ..) ?_
  rw [hx, show wrap64 (0 + 1) = ((1 : Nat) : Int) from w64 (x := 0 + 1) (by omega) (by omega)]
  refine Ev.pos (by simp) (Ev.pos (by decide) (Ev.pos (by simp) (Ev.bind (ev_step_start c hc 0 0 0 e hBe g1) ?_)))
  refine Ev.pos (by simp) ?_
  exact h
theorem ev_lives : Ev (fun k => signalbenchlaw30_lives.f k) true := by
  refine Ev.of (fun k => signalbenchlaw30_lives.mono k) (k := 80) ?_
  decide +kernel
/-- The idle time ahead of a byte. -/
def gapG (idle : List Int) (i : Nat) : Int := if i < idle.length ∧ 0 ≤ rd idle (i : Int) ∧ rd idle (i : Int) ≤ 2097152 then rd idle (i : Int) else 0
theorem gapG_bd (idle : List Int) (i : Nat) : 0 ≤ gapG idle i ∧ gapG idle i ≤ 2097152 := by unfold gapG; split <;> omega
def evG (a b : Int) : S32 := ⟨3, a, a + 1, b, 0, (⟨#[]⟩ : ByteArray), 0⟩
def evsG (idle : List Int) : Nat → Int → List Int → List S32
  | _, _, [] => []
  | i, a, b :: l => evG (a + gapG idle i) b :: evsG idle (i + 1) (a + gapG idle i + 1) l
def fromsG (c : Int) (idle : List Int) : Nat → Int → List Int → List Int
  | _, _, [] => []
  | i, a, b :: l => (if i = 0 ∨ gapG idle i > c then [a + gapG idle i] else []) ++ fromsG c idle (i + 1) (a + gapG idle i + 1) l
def endG (idle : List Int) : Nat → Int → List Int → Int
  | _, a, [] => a
  | i, a, _ :: l => endG idle (i + 1) (a + gapG idle i + 1) l
theorem evsG_len (idle : List Int) : ∀ (l : List Int) (i : Nat) (a : Int), (evsG idle i a l).length = l.length
  | [], _, _ => rfl
  | _ :: l, i, a => by simp [evsG, evsG_len idle l]
theorem evsG_byte (idle : List Int) : ∀ (l : List Int) (i : Nat) (a : Int), Byts l → 0 ≤ a → a + 2097153 * l.length ≤ 1099511627776 → ∀ e ∈ evsG idle i a l, ByteE e ∧ a ≤ e.f1
  | [], _, _, _, _, _ => fun _ h => nomatch h
  | b :: l, i, a, hb, h0, h1 => by
    intro e he
    have hg := gapG_bd idle i
    have hv := hb b (by simp)
    rw [List.length_cons] at h1
    rw [evsG] at he
    rcases List.mem_cons.mp he with rfl | he
    · exact ⟨⟨rfl, by show 0 ≤ a + gapG idle i; omega, by show a + gapG idle i ≤ a + gapG idle i + 1; omega, by show a + gapG idle i + 1 ≤ 1099511627776; omega, hv.1, by show b ≤ 255; omega, rfl, rfl, rfl⟩, by show a ≤ a + gapG idle i; omega⟩
    · have := evsG_byte idle l (i + 1) (a + gapG idle i + 1) (fun x hx => hb x (by simp [hx])) (by omega) (by omega) e he
      exact ⟨this.1, by omega⟩
theorem evsG_pair (idle : List Int) : ∀ (l : List Int) (i : Nat) (a : Int), Byts l → 0 ≤ a → a + 2097153 * l.length ≤ 1099511627776 → (evsG idle i a l).Pairwise (fun e e' => e.f1 ≤ e'.f1)
  | [], _, _, _, _, _ => List.Pairwise.nil
  | b :: l, i, a, hb, h0, h1 => by
    have hg := gapG_bd idle i
    rw [List.length_cons] at h1
    have hb2 : Byts l := fun x hx => hb x (by simp [hx])
    refine List.Pairwise.cons (fun e he => ?_) (evsG_pair idle l (i + 1) _ hb2 (by omega) (by omega))
    have := (evsG_byte idle l (i + 1) (a + gapG idle i + 1) hb2 (by omega) (by omega) e he).2
    show a + gapG idle i ≤ e.f1
    omega
theorem frameM_f1 (a b : Int) (d : List Int) : (frameM a b d).f1 = a := by unfold frameM; split <;> rfl
theorem frameM_f2 (a b : Int) (d : List Int) : (frameM a b d).f2 = b := by unfold frameM; split <;> rfl
theorem decM_froms (c : Int) (idle : List Int) : ∀ (l : List Int) (i : Nat) (a from_ : Int) (d : List Int), 0 < i → (decM c (evsG idle i a l) from_ a d).map (fun e => e.f1) = from_ :: fromsG c idle i a l
  | [], i, a, from_, d, _ => by simp [evsG, decM, fromsG, frameM_f1]
  | b :: l, i, a, from_, d, hi => by
    have e1 : (evG (a + gapG idle i) b).f1 - a = gapG idle i := by show a + gapG idle i - a = _; omega
    rw [evsG, decM, e1, fromsG]
    by_cases hg : gapG idle i > c
    · rw [if_pos hg, if_pos (.inr hg), List.map_cons, frameM_f1]
      have := decM_froms c idle l (i + 1) (a + gapG idle i + 1) (a + gapG idle i) [b] (by omega)
      exact congrArg (from_ :: ·) this
    · rw [if_neg hg, if_neg (by omega), List.nil_append]
      exact decM_froms c idle l (i + 1) (a + gapG idle i + 1) from_ (d ++ [b]) (by omega)
theorem decM_end (c : Int) (idle : List Int) : ∀ (l : List Int) (i : Nat) (a from_ : Int) (d : List Int), ∃ (pre : List S32) (x : S32), decM c (evsG idle i a l) from_ a d = pre ++ [x] ∧ x.f2 = endG idle i a l
  | [], i, a, from_, d => ⟨[], frameM from_ a d, rfl, frameM_f2 _ _ _⟩
  | b :: l, i, a, from_, d => by
    rw [evsG, decM, endG]
    split
    · obtain ⟨pre, x, h1, h2⟩ := decM_end c idle l (i + 1) (a + gapG idle i + 1) (a + gapG idle i) [b]
      exact ⟨frameM from_ a d :: pre, x, by
        show frameM from_ a d :: decM c (evsG idle (i + 1) (a + gapG idle i + 1) l) (a + gapG idle i) (a + gapG idle i + 1) [b] = _
        rw [h1]; rfl, h2⟩
    · exact decM_end c idle l (i + 1) (a + gapG idle i + 1) from_ (d ++ [b])
theorem rdE_at (l : List S32) (i : Nat) (h : i < l.length) : rd_T32 l (i : Int) = l[i] := by
  simp [rd_T32, h]
theorem rd_at (l : List Int) (i : Nat) (h : i < l.length) : rd l (i : Int) = l[i] := by
  simp [rd, h]
theorem main : signalbenchlaw30_ModbusGaps.Pure := by
  intro c s idle _ _ _ _ _
  refine Ev.rounds (g := fun k => signalbenchlaw30_ModbusGaps.f k c s idle) ?_
  unfold signalbenchlaw30_ModbusGaps.f
  refine Ev.bind ev_lives (Ev.pos rfl ?_)
  have hyes : Ev (fun k => signalbenchlaw30_ModbusGaps.j1 k s idle true c) true := by
    refine Ev.step (fun k => signalbenchlaw30_ModbusGaps.j1.eq_2 ..) ?_
    exact Ev.pos rfl (Ev.now _)
  refine Ev.step (fun k => signalbenchlaw30_ModbusGaps.j0.eq_2 ..) ?_
  refine Ev.ite (fun _ => hyes) (fun h1 => Ev.ite (fun _ => hyes) (fun h2 => Ev.ite (fun _ => hyes) (fun h3 => Ev.bind (ev_mod_Check c) (Ev.ite (fun hc => Ev.ite (fun _ => hyes) (fun h4 => ?_)) (fun _ => hyes)))))
  by_cases h5 : c > 1048576
  · rw [decide_eq_true h5]; exact hyes
  rw [decide_eq_false h5]
  clear hyes
  refine Ev.step (fun k => signalbenchlaw30_ModbusGaps.j1.eq_2 ..) ?_
  refine Ev.neg (by decide) ?_
  refine Ev.step (fun k => signalbenchlaw30_ModbusGaps.j2.eq_2 ..) ?_
  have hlen := len_bytes s
  have hb := byts_of s
  -- the loop that makes the events
  have make : ∀ (q pre : List Int) (ins : List S32) (froms : List Int) (a : Int) (i : Nat) (res : Bool), bytesOf s = pre ++ q → i = pre.length → ins.length ≤ i → froms.length ≤ i → 0 ≤ a → a ≤ 2097153 * i →
      Ev (fun k => signalbenchlaw30_ModbusGaps.l0 k s idle (ins ++ evsG idle i a q) (froms ++ fromsG c idle i a q) (endG idle i a q) (s.size : Int) c) res →
      Ev (fun k => signalbenchlaw30_ModbusGaps.l0 k s idle ins froms a (i : Int) c) res := by
    intro q
    induction q with
    | nil =>
      intro pre ins froms a i res he hi hn1 hn2 h0 h1 h
      rw [List.append_nil] at he
      rw [he] at hlen
      rw [evsG, fromsG, endG, List.append_nil, List.append_nil, show (s.size : Int) = (i : Int) by omega] at h
      exact h
    | cons b q ih =>
      intro pre ins froms a i res he hi hn1 hn2 h0 h1 h
      have hl : s.size = i + (q.length + 1) := by rw [← hlen, he, hi, List.length_append, List.length_cons]
      have hbt : bt s (i : Int) = b := by rw [bt_get s i (by omega)]; simp [he, hi]
      have hbb := hb b (by rw [he]; simp)
      have hg := gapG_bd idle i
      rw [evsG, fromsG, endG] at h
      have hn := ih (pre ++ [b]) (ins ++ [evG (a + gapG idle i) b]) (froms ++ (if i = 0 ∨ gapG idle i > c then [a + gapG idle i] else [])) (a + gapG idle i + 1) (i + 1) res (by rw [he]; simp) (by simp [hi]) (by simp; omega) (by rw [List.length_append]; split <;> simp <;> omega) (by omega) (by omega) (by rw [List.append_assoc, List.append_assoc]; exact h)
      clear ih h
      have hA : i < idle.length → gapG idle i = rd idle (i : Int) → Ev (fun k => signalbenchlaw30_ModbusGaps.j4 k s idle ins froms a (i : Int) 0 true c) res := by
        intro hil hge
        rw [hge] at hg hn
        refine Ev.step (fun k => signalbenchlaw30_ModbusGaps.j4.eq_2 ..) ?_
        rw [hbt, w64 (x := a + rd idle (i : Int)) (by omega) (by omega), w64 (x := a + rd idle (i : Int) + 1) (by omega) (by omega), w64 (x := b) (by omega) (by omega), wnat (i := i) (by omega)]
        refine Ev.pos rfl (Ev.pos (by omega) (Ev.pos (by omega) (Ev.ite (fun hi0 => ?_) (fun hi0 => Ev.ite (fun hgc => ?_) (fun hgc => ?_)))))
        · rw [if_pos (.inl (by omega))] at hn
          exact Ev.pos (by omega) (Ev.pos (by omega) (Ev.pos (by omega) hn))
        · rw [if_pos (.inr hgc)] at hn
          exact Ev.pos (by omega) (Ev.pos (by omega) (Ev.pos (by omega) hn))
        · rw [if_neg (by omega), List.append_nil] at hn
          exact Ev.pos (by omega) (Ev.pos (by omega) hn)
      have hB : gapG idle i = 0 → Ev (fun k => signalbenchlaw30_ModbusGaps.j4 k s idle ins froms a (i : Int) 0 false c) res := by
        intro hge
        rw [hge] at hg hn
        refine Ev.step (fun k => signalbenchlaw30_ModbusGaps.j4.eq_2 ..) ?_
        rw [hbt, w64 (x := a + 0) (by omega) (by omega), w64 (x := a + 0 + 1) (by omega) (by omega), w64 (x := b) (by omega) (by omega), wnat (i := i) (by omega)]
        refine Ev.neg (by decide) (Ev.ite (fun hi0 => ?_) (fun hi0 => Ev.neg (by omega) ?_))
        · rw [if_pos (.inl (by omega))] at hn
          exact Ev.pos (by omega) (Ev.pos (by omega) (Ev.pos (by omega) (Ev.pos (by omega) hn)))
        · rw [if_neg (by omega), List.append_nil] at hn
          exact Ev.pos (by omega) (Ev.pos (by omega) (Ev.pos (by omega) hn))
      refine Ev.step (fun k => signalbenchlaw30_ModbusGaps.l0.eq_2 ..) ?_
      refine Ev.pos (by omega) (Ev.ite (fun hil => Ev.pos (by omega) (Ev.ite (fun hr0 => ?_) (fun hr0 => ?_))) (fun hil => ?_))
      · by_cases hr1 : rd idle (i : Int) ≤ 2097152
        · rw [decide_eq_true hr1]; exact hA (by omega) (by unfold gapG; rw [if_pos ⟨by omega, by omega, hr1⟩])
        · rw [decide_eq_false hr1]; exact hB (by unfold gapG; rw [if_neg (fun h => hr1 h.2.2)])
      · exact hB (by unfold gapG; rw [if_neg (fun h => hr0 h.2.1)])
      · exact hB (by unfold gapG; rw [if_neg (fun h => hil (by omega))])
  refine make (bytesOf s) [] [] [] 0 0 true rfl rfl (by simp) (by simp) (by omega) (by omega) ?_
  clear make
  rw [List.nil_append, List.nil_append]
  -- what is decoded
  have hres : ∃ (m : List S32) (pre : List S32) (x : S32), m.map (fun e => e.f1) = fromsG c idle 0 0 (bytesOf s) ∧ m = pre ++ [x] ∧ x.f2 = endG idle 0 0 (bytesOf s) ∧ m.length ≤ 1000 ∧ Ev (fun k => modbus_Decode.f k c (evsG idle 0 0 (bytesOf s))) m := by
    cases hq : bytesOf s with
    | nil => rw [hq, List.length_nil] at hlen; omega
    | cons b q =>
      rw [hq] at hb hlen
      rw [List.length_cons] at hlen
      have hg := gapG_bd idle 0
      have h1 := decM_froms c idle q 1 (0 + gapG idle 0 + 1) (0 + gapG idle 0) [b] (by omega)
      obtain ⟨pre, x, h2, h3⟩ := decM_end c idle q 1 (0 + gapG idle 0 + 1) (0 + gapG idle 0) [b]
      have hd := ev_Decode c hc (evG (0 + gapG idle 0) b) (evsG idle 1 (0 + gapG idle 0 + 1) q) (by rw [evsG_len]; omega) (fun e he => (evsG_byte idle (b :: q) 0 0 hb (by omega) (by rw [List.length_cons]; omega) e he).1) (evsG_pair idle (b :: q) 0 0 hb (by omega) (by rw [List.length_cons]; omega))
      have hl := decM_len c (evsG idle 1 (0 + gapG idle 0 + 1) q) (0 + gapG idle 0) (0 + gapG idle 0 + 1) [b]
      rw [evsG_len] at hl
      refine ⟨decM c (evsG idle 1 (0 + gapG idle 0 + 1) q) (0 + gapG idle 0) (0 + gapG idle 0 + 1) [b], pre, x, ?_, h2, h3, by omega, hd⟩
      rw [h1, fromsG, if_pos (.inl rfl)]
      rfl
  obtain ⟨m, pre, x, hm1, hm2, hm3, hml, hD⟩ := hres
  have hml2 : m.length = (fromsG c idle 0 0 (bytesOf s)).length := by rw [← hm1, List.length_map]
  have hml3 : m.length = pre.length + 1 := by rw [hm2]; simp
  generalize evsG idle 0 0 (bytesOf s) = ins at *
  generalize fromsG c idle 0 0 (bytesOf s) = froms at *
  generalize endG idle 0 0 (bytesOf s) = a at *
  refine Ev.step (fun k => signalbenchlaw30_ModbusGaps.l0.eq_2 ..) ?_
  refine Ev.neg (by omega) (Ev.bind hD (Ev.pos (by omega) ?_))
  refine Ev.step (fun k => signalbenchlaw30_ModbusGaps.j5.eq_2 ..) ?_
  have loop : ∀ (d i : Nat), i + d = m.length → Ev (fun k => signalbenchlaw30_ModbusGaps.l1 k froms a m (i : Int)) true := by
    intro d
    induction d with
    | zero =>
      intro i h
      have hlast : rd_T32 m ((pre.length : Nat) : Int) = x := by
        rw [rdE_at m pre.length (by omega)]
        simp [hm2]
      refine Ev.step (fun k => signalbenchlaw30_ModbusGaps.l1.eq_2 ..) ?_
      rw [w64 (x := (m.length : Int) - 1) (by omega) (by omega), show (m.length : Int) - 1 = ((pre.length : Nat) : Int) by omega, hlast, hm3]
      refine Ev.neg (by omega) (Ev.pos (by omega) (Ev.pos (by omega) ?_))
      rw [show ((a == a) : Bool) = true by simp]
      exact Ev.now _
    | succ d ih =>
      intro i h
      have hi : i < m.length := by omega
      have hf : m[i].f1 = froms[i]'(by omega) := by
        have h1 : (m.map (fun e => e.f1))[i]'(by rw [List.length_map]; exact hi) = m[i].f1 := List.getElem_map _
        rw [← h1]
        simp only [hm1]
      refine Ev.step (fun k => signalbenchlaw30_ModbusGaps.l1.eq_2 ..) ?_
      rw [rdE_at m i hi, rd_at froms i (by omega), hf, wnat (by omega)]
      exact Ev.pos (by omega) (Ev.pos (by omega) (Ev.pos (by omega) (Ev.pos rfl (ih (i + 1) (by omega)))))
  exact loop m.length 0 (by omega)
end ModbusGaps_
theorem ModbusGaps : signalbenchlaw30_ModbusGaps.Pure := ModbusGaps_.main
end Go.Proofs.YtmalhgidhieamaaDoor.Pure
