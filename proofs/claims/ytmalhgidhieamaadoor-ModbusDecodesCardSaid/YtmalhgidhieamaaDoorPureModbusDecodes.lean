/- The law ModbusDecodes holds as a statement on numbers and lists: the events, step by step and together, are those of the reference. No condition beyond those of the statement. -/
import Derived.Test.YtmalhgidhieamaaDoorPModbusDecodesx16
import Derived.Test.YtmalhgidhieamaaDoorSpecCrc
namespace Go.Proofs.YtmalhgidhieamaaDoor.Pure
open Go.RowKit Go.Proofs.YtmalhgidhieamaaDoor.PModbusDecodes Go.Proofs.YtmalhgidhieamaaDoorW.PrintWords Go.Proofs.YtmalhgidhieamaaDoorW.PrintLast Go.Proofs.YtmalhgidhieamaaDoor.Aid
set_option linter.unusedVariables false
set_option linter.unusedSimpArgs false
namespace ModbusDecodes_
theorem rdI_mid (pre : List S48) (x : S48) (post : List S48) (i : Nat) (h : i = pre.length) : rd_T48 (pre ++ x :: post) (i : Int) = x := by
  subst h; simp [rd_T48]
theorem rdE_mid (pre : List S32) (x : S32) (post : List S32) (i : Nat) (h : i = pre.length) : rd_T32 (pre ++ x :: post) (i : Int) = x := by
  subst h; simp [rd_T32]
theorem ev_check_Right (w p i x : Int) (refl : Bool) : Ev (fun k => check_Right.f k w p i x refl) (rightC w p i x) := by
  have hyes : 1 ≤ w ∧ w ≤ 32 → False → Ev (fun k => check_Right.j0 k true w p i x refl) (rightC w p i x) := fun _ h => h.elim
  have hj : ¬ (1 ≤ w ∧ w ≤ 32) → Ev (fun k => check_Right.j0 k true w p i x refl) (rightC w p i x) := by
    intro h
    have e : rightC w p i x = false := by unfold rightC; rw [decide_eq_false (by omega)]
    rw [e]
    refine Ev.step (fun k => check_Right.j0.eq_2 ..) ?_
    exact Ev.pos rfl (Ev.now _)
  clear hyes
  unfold check_Right.f
  refine Ev.ite (fun h1 => hj (by omega)) (fun h1 => ?_)
  by_cases h2 : w > 32
  · rw [decide_eq_true h2]; exact hj (by omega)
  rw [decide_eq_false h2]
  obtain ⟨n, rfl⟩ := Int.eq_ofNat_of_zero_le (show 0 ≤ w by omega)
  have hle := pow2_le32 (show n ≤ 32 by omega)
  have hp := pow2_pos n
  refine Ev.step (fun k => check_Right.j0.eq_2 ..) ?_
  refine Ev.neg (by decide) (Ev.pos (by omega) (Ev.now' fun _ => ?_))
  rw [shl_one (by omega), w64 (x := 2 ^ n - 1) (by omega) (by omega)]
  unfold rightC
  rw [Int.toNat_natCast]
  repeat' split
  all_goals first
    | (rw [decide_eq_false (by omega)])
    | (congr 1; rw [Int.tmod_eq_emod_of_nonneg (by omega), Bool.eq_iff_iff, beq_iff_eq, decide_eq_true_iff]; omega)
theorem check_shift {w p i x : Nat} (C : Crc w p i x) (refl : Bool) {r b : Nat} (hr : r < 2 ^ w) : check_shift.f (w : Int) p i x refl r b = some ((stepC w p r b : Nat) : Int) := by
  have hw := C.w1
  have hw2 := C.w2
  have hle := pow2_le32 hw2
  have hln := npow_le32 hw2
  have hpp := pow2_pos w
  have hP := C.hp
  have ht := top_lt hw hr
  have e1 : wrap64 ((w : Int) - 1) = ((w - 1 : Nat) : Int) := by rw [w64 (by omega) (by omega)]; omega
  have e2 : Go.bits .and .i64 (shr .i64 (r : Int) ((w - 1 : Nat) : Int)) 1 = ((r / 2 ^ (w - 1) : Nat) : Int) := by
    rw [nshr _ (by omega), and_one]
    generalize r / 2 ^ (w - 1) = z at ht
    omega
  have e3 : wrap64 ((r : Int) * 2) = ((2 * r : Nat) : Int) := by rw [w64 (by omega) (by omega)]; omega
  have hm : 2 * r % 2 ^ w < 2 ^ w := Nat.mod_lt _ (npow_pos w)
  unfold check_shift.f stepC
  rw [e1, if_pos (by omega), if_pos (by omega), e2, e3, shl_one (by omega), w64 (x := 2 ^ w - 1) (by omega) (by omega), nmask w (by omega) (by omega), nxor (by omega) (by omega)]
  by_cases h : r / 2 ^ (w - 1) = b
  · rw [if_pos h, if_pos (by rw [h])]
  · rw [if_neg h, if_neg (fun e => h (by exact_mod_cast e))]
theorem ev_check_finish {w p i x : Nat} (C : Crc w p i x) (refl : Bool) {r : Nat} (hr : r < 2 ^ w) : Ev (fun k => check_finish.f k (w : Int) p i x refl r) ((finC w x refl r : Nat) : Int) := by
  have hw2 := C.w2
  have hln := npow_le32 hw2
  have hX := C.hx
  have key : ∀ (d j acc q : Nat), j + d = w → acc < 2 ^ j → q < 4294967296 → Ev (fun k => check_finish.l0 k (q : Int) (acc : Int) (w : Int) (j : Int) (w : Int) p i x refl) ((revN d acc q ^^^ x : Nat) : Int) := by
    intro d
    induction d with
    | zero =>
      intro j acc q hj ha hq
      have hb : 2 ^ j ≤ 4294967296 := npow_le32 (by omega)
      refine Ev.step (fun k => check_finish.l0.eq_2 ..) ?_
      rw [nxor (by omega) (by omega)]
      exact Ev.neg (by omega) (Ev.now _)
    | succ d ih =>
      intro j acc q hj ha hq
      have hb : 2 ^ j ≤ 4294967296 := npow_le32 (by omega)
      have e1 : (q : Int) / 2 = ((q / 2 : Nat) : Int) := by omega
      have e2 : Go.bits .and .i64 (q : Int) 1 = ((q % 2 : Nat) : Int) := by rw [and_one]; omega
      have e3 : wrap64 ((acc : Int) * 2) = (acc : Int) * 2 ^ 1 := by rw [w64 (by omega) (by omega)]; omega
      have e4 : Go.bits .or .i64 ((acc : Int) * 2 ^ 1) ((q % 2 : Nat) : Int) = ((2 * acc + q % 2 : Nat) : Int) := by
        rw [or_add 1 (by omega) (by omega) (by omega) (by omega)]; omega
      refine Ev.step (fun k => check_finish.l0.eq_2 ..) ?_
      rw [e1, e2, e3, e4, wnat (by omega)]
      refine Ev.pos (by omega) (ih (j + 1) _ _ (by omega) ?_ (by omega))
      rw [Nat.pow_succ]; omega
  unfold check_finish.f finC
  cases refl
  · rw [nxor (by omega) (by omega)]
    exact Ev.neg (by decide) (Ev.now _)
  · exact Ev.pos rfl (key w 0 0 r (by omega) (by decide) (by omega))
theorem and1_u8 (x : Int) (h0 : 0 ≤ x) (h1 : x < 256) : Go.bits .and .u8 x 1 = x % 2 := by
  have g : ∀ y : Int, 0 ≤ y → y < 256 → (BitVec.ofInt 8 y).toNat = y.toNat := fun y a b => by rw [BitVec.toNat_ofInt]; show ((y % ((256 : Nat) : Int)).toNat) = y.toNat; omega
  have h : (BitVec.ofInt 8 x &&& BitVec.ofInt 8 1).toNat = (x % 2).toNat := by
    rw [BitVec.toNat_and, g x h0 h1, g 1 (by omega) (by omega)]
    show _ &&& 1 = _
    rw [Nat.and_one_is_mod]
    omega
  show IntKind.u8.wrap ((BitVec.ofInt 8 x &&& BitVec.ofInt 8 1).toNat : Int) = _
  rw [h]
  show (((x % 2).toNat : Int)) % 256 = _
  omega
theorem shr_u8 (x y : Int) (n : Nat) (hy : y = (n : Int)) (hn : n ≤ 8) : shr .u8 x y = x / 2 ^ n := by
  subst hy
  unfold shr
  have : min ((n : Int).toNat) IntKind.u8.bits = n := by
    show min ((n : Int).toNat) 8 = n
    rw [Int.toNat_natCast]; omega
  rw [this]
theorem div_bd {b : Int} (h0 : 0 ≤ b) (h1 : b < 256) (n : Nat) : 0 ≤ b / 2 ^ n ∧ b / 2 ^ n < 256 := by
  have hp := pow2_pos n
  refine ⟨Int.ediv_nonneg h0 (by omega), ?_⟩
  exact Int.lt_of_le_of_lt (Int.ediv_le_self _ h0) h1
theorem fromInt_drop (b : Int) (msb : Bool) (k : Nat) (h : k < 8) : (fromIntL b 8 msb).drop k = (48 + b / 2 ^ (if msb = true then 7 - k else k) % 2) :: (fromIntL b 8 msb).drop (k + 1) := by
  have hl : k < (fromIntL b 8 msb).length := by rw [fromIntL_len]; exact h
  rw [List.drop_eq_getElem_cons hl, fromIntL_get]
theorem ev_check_Bytes_l1 {w p i x : Nat} (C : Crc w p i x) (refl : Bool) (s : ByteArray) (hs : s.size ≤ 8192) (j : Nat) (hj : j < s.size) (res : Int × Int) (b : Int) (hb : bt s (j : Int) = b) (h0 : 0 ≤ b) (h1 : b < 256) : ∀ (d k' r : Nat), k' + d = 8 → r < 2 ^ w →
    Ev (fun k => check_Bytes.l0 k s ((runC w p r ((fromIntL b 8 (!refl)).drop k') : Nat) : Int) (s.size : Int) ((j + 1 : Nat) : Int) (w : Int) p i x refl) res → Ev (fun k => check_Bytes.l1 k s (r : Int) (j : Int) (s.size : Int) (j : Int) (k' : Int) (w : Int) p i x refl) res := by
  intro d
  induction d with
  | zero =>
    intro k' r hk hr h
    obtain rfl : k' = 8 := by omega
    rw [List.drop_of_length_le (by rw [fromIntL_len]; omega), runC] at h
    refine Ev.step (fun k => check_Bytes.l1.eq_2 ..) ?_
    rw [wnat (i := j) (by omega)]
    exact Ev.neg (by omega) h
  | succ d ih =>
    intro k' r hk hr h
    rw [fromInt_drop b (!refl) k' (by omega), runC] at h
    have ebit : ∀ (n : Nat), n ≤ 7 → wrap64 (Go.bits .and .u8 (shr .u8 b (n : Int)) 1) = (((b / 2 ^ n % 2).toNat : Nat) : Int) := by
      intro n hn
      have hd := div_bd h0 h1 n
      rw [shr_u8 _ _ n rfl (by omega), and1_u8 _ hd.1 hd.2]
      generalize b / 2 ^ n = z at hd
      rw [w64 (by omega) (by omega)]; omega
    have e7 : wrap64 (7 - (k' : Int)) = ((7 - k' : Nat) : Int) := by rw [w64 (by omega) (by omega)]; omega
    refine Ev.step (fun k => check_Bytes.l1.eq_2 ..) ?_
    rw [hb, wnat (i := k') (by omega), e7, ebit k' (by omega), ebit (7 - k') (by omega), check_shift C refl hr, check_shift C refl hr]
    have h48 : ∀ z : Int, (48 + z - 48).toNat = z.toNat := fun z => by congr 1; omega
    rw [h48] at h
    cases refl
    · exact Ev.pos (by omega) (Ev.neg (by decide) (Ev.pos (by omega) (Ev.pos (by omega) (Ev.pos (by omega) (Ev.sbind (ih (k' + 1) _ (by omega) (stepC_lt C r _) h))))))
    · exact Ev.pos (by omega) (Ev.pos rfl (Ev.pos (by omega) (Ev.pos (by omega) (Ev.pos (by omega) (Ev.sbind (ih (k' + 1) _ (by omega) (stepC_lt C r _) h))))))
theorem ev_check_Bytes_l0 {w p i x : Nat} (C : Crc w p i x) (refl : Bool) (s : ByteArray) (hs : s.size ≤ 8192) : ∀ (l pre : List Int) (r j : Nat), bytesOf s = pre ++ l → j = pre.length → r < 2 ^ w →
    Ev (fun k => check_Bytes.l0 k s (r : Int) (s.size : Int) (j : Int) (w : Int) p i x refl) (((finC w x refl (runC w p r (fromBytesL l (!refl))) : Nat) : Int), 0) := by
  have hlen := len_bytes s
  intro l
  induction l with
  | nil =>
    intro pre r j he hj hr
    rw [List.append_nil] at he
    rw [he] at hlen
    refine Ev.step (fun k => check_Bytes.l0.eq_2 ..) ?_
    rw [fromBytesL, runC]
    exact Ev.neg (by omega) (Ev.bind (ev_check_finish C refl hr) (Ev.now _))
  | cons b l ih =>
    intro pre r j he hj hr
    have hl : s.size = j + (l.length + 1) := by rw [← hlen, he, hj, List.length_append, List.length_cons]
    have hbt : bt s (j : Int) = b := by rw [bt_get s j (by omega)]; simp [he, hj]
    have g1 := bt_lo s (j : Int)
    have g2 := bt_hi s (j : Int)
    rw [hbt] at g1 g2
    rw [fromBytesL, runC_append]
    have hn := ih (pre ++ [b]) (runC w p r (fromIntL b 8 (!refl))) (j + 1) (by rw [he]; simp) (by simp [hj]) (runC_lt C _ _ hr)
    have hi := ev_check_Bytes_l1 C refl s hs j (by omega) _ b hbt g1 (by omega) 8 0 r rfl hr (by rw [List.drop_zero]; exact hn)
    refine Ev.step (fun k => check_Bytes.l0.eq_2 ..) ?_
    refine Ev.pos (by omega) ?_
    refine Ev.step (fun k => check_Bytes.j3.eq_2 ..) ?_
    exact hi
theorem ev_check_Bytes (w p i x : Int) (refl : Bool) (s : ByteArray) : Ev (fun k => check_Bytes.f k w p i x refl s) (bytesC w p i x refl s) := by
  unfold check_Bytes.f bytesC
  refine Ev.bind (ev_check_Right w p i x refl) (Ev.ite (fun hc => ?_) (fun hc => ?_))
  case refine_2 => rw [if_neg hc]; exact Ev.now _
  rw [if_pos hc]
  obtain ⟨W, P, I, X, rfl, rfl, rfl, rfl, C⟩ := rightC_ok hc
  refine Ev.step (fun k => check_Bytes.j0.eq_2 ..) ?_
  refine Ev.ite (fun hl => ?_) (fun hl => ?_)
  · rw [if_pos (by omega)]; exact Ev.now _
  · rw [if_neg (by omega)]
    refine Ev.step (fun k => check_Bytes.j1.eq_2 ..) ?_
    exact ev_check_Bytes_l0 C refl s (by omega) (bytesOf s) [] I 0 rfl rfl C.hi
theorem stepC_xor {w p : Nat} (hw : 1 ≤ w) (a b : Nat) (ha : a < 2 ^ w) (hb : b < 2 ^ w) (x y : Nat) (hx : x < 2) (hy : y < 2) : stepC w p (a ^^^ b) ((x + y) % 2) = stepC w p a x ^^^ stepC w p b y := by
  have hta := top_lt hw ha
  have htb := top_lt hw hb
  have ht : (a ^^^ b) / 2 ^ (w - 1) = (a / 2 ^ (w - 1) + b / 2 ^ (w - 1)) % 2 := by
    have h1 := Nat.testBit_xor a b (w - 1)
    have h2 := top_lt hw (Nat.xor_lt_two_pow ha hb)
    simp only [Nat.testBit_eq_decide_div_mod_eq] at h1
    generalize a / 2 ^ (w - 1) = u at *
    generalize b / 2 ^ (w - 1) = v at *
    generalize (a ^^^ b) / 2 ^ (w - 1) = z at *
    have cu : u = 0 ∨ u = 1 := by omega
    have cv : v = 0 ∨ v = 1 := by omega
    have cz : z = 0 ∨ z = 1 := by omega
    rcases cu with rfl | rfl <;> rcases cv with rfl | rfl <;> rcases cz with rfl | rfl <;> simp at h1 ⊢
  have hd : 2 * (a ^^^ b) % 2 ^ w = (2 * a % 2 ^ w) ^^^ (2 * b % 2 ^ w) := by
    rw [← Nat.xor_mod_two_pow]
    congr 1
    have := Nat.shiftLeft_xor_distrib (a := a) (b := b) (i := 1)
    simp only [Nat.shiftLeft_eq, Nat.pow_one] at this
    rw [Nat.mul_comm 2, Nat.mul_comm 2, Nat.mul_comm 2]
    exact this
  unfold stepC
  rw [ht, hd]
  generalize 2 * a % 2 ^ w = A
  generalize 2 * b % 2 ^ w = B
  generalize a / 2 ^ (w - 1) = u at *
  generalize b / 2 ^ (w - 1) = v at *
  have cu : u = 0 ∨ u = 1 := by omega
  have cv : v = 0 ∨ v = 1 := by omega
  have cx : x = 0 ∨ x = 1 := by omega
  have cy : y = 0 ∨ y = 1 := by omega
  have e1 : A ^^^ B ^^^ p = A ^^^ (B ^^^ p) := Nat.xor_assoc _ _ _
  have e2 : A ^^^ B ^^^ p = (A ^^^ p) ^^^ B := by rw [Nat.xor_assoc, Nat.xor_assoc, Nat.xor_comm B p]
  have e3 : A ^^^ B = (A ^^^ p) ^^^ (B ^^^ p) := by rw [Nat.xor_assoc, ← Nat.xor_assoc p B p, Nat.xor_comm p B, Nat.xor_assoc B p p, Nat.xor_self, Nat.xor_zero]
  rcases cu with rfl | rfl <;> rcases cv with rfl | rfl <;> rcases cx with rfl | rfl <;> rcases cy with rfl | rfl <;> simp [← e1, ← e2, ← e3]
/-- The bits of two sequences, the exclusive or of each pair. -/
def mixL : List Int → List Int → List Int
  | x :: l, y :: m => (48 + ((x - 48) + (y - 48)) % 2) :: mixL l m
  | _, _ => []
theorem mixL_bits : ∀ (l m : List Int), AllB (mixL l m)
  | [], _ => AllB.nil
  | _ :: _, [] => AllB.nil
  | x :: l, y :: m => AllB.cons_iff.mpr ⟨by omega, mixL_bits l m⟩
theorem mixL_len : ∀ (l m : List Int), l.length = m.length → (mixL l m).length = l.length
  | [], _, _ => rfl
  | _ :: _, [], h => by simp at h
  | x :: l, y :: m, h => by simp [mixL, mixL_len l m (by simpa using h)]
theorem runC_mix {w p i x : Nat} (C : Crc w p i x) : ∀ (l m : List Int) (a b : Nat), l.length = m.length → AllB l → AllB m → a < 2 ^ w → b < 2 ^ w → runC w p (a ^^^ b) (mixL l m) = runC w p a l ^^^ runC w p b m
  | [], [], _, _, _, _, _, _, _ => rfl
  | [], _ :: _, _, _, h, _, _, _, _ => by simp at h
  | _ :: _, [], _, _, h, _, _, _, _ => by simp at h
  | s :: l, t :: m, a, b, h, hl, hm, ha, hb => by
    obtain ⟨h1, hl⟩ := AllB.cons_iff.mp hl
    obtain ⟨h2, hm⟩ := AllB.cons_iff.mp hm
    have e : (48 + ((s - 48) + (t - 48)) % 2 - 48).toNat = ((s - 48).toNat + (t - 48).toNat) % 2 := by omega
    rw [mixL, runC, runC, runC, e, stepC_xor C.w1 a b ha hb _ _ (by omega) (by omega)]
    exact runC_mix C l m _ _ (by simpa using h) hl hm (stepC_lt C _ _) (stepC_lt C _ _)
theorem revN_xor : ∀ (n a b c d : Nat), revN n (a ^^^ b) (c ^^^ d) = revN n a c ^^^ revN n b d
  | 0, _, _, _, _ => rfl
  | n + 1, a, b, c, d => by
    have e1 : 2 * (a ^^^ b) + (c ^^^ d) % 2 = (2 * a + c % 2) ^^^ (2 * b + d % 2) := by
      apply Nat.eq_of_testBit_eq
      intro i
      rw [Nat.testBit_xor]
      cases i with
      | zero =>
        have h := Nat.testBit_xor c d 0
        simp only [Nat.testBit_zero] at h ⊢
        rw [show (2 * (a ^^^ b) + (c ^^^ d) % 2) % 2 = (c ^^^ d) % 2 by omega, show (2 * a + c % 2) % 2 = c % 2 by omega, show (2 * b + d % 2) % 2 = d % 2 by omega]
        exact h
      | succ i =>
        rw [Nat.testBit_succ, Nat.testBit_succ, Nat.testBit_succ, show (2 * (a ^^^ b) + (c ^^^ d) % 2) / 2 = a ^^^ b by omega, show (2 * a + c % 2) / 2 = a by omega, show (2 * b + d % 2) / 2 = b by omega, Nat.testBit_xor]
    have e2 : (c ^^^ d) / 2 = (c / 2) ^^^ (d / 2) := by
      apply Nat.eq_of_testBit_eq
      intro i
      simp only [Nat.testBit_xor, ← Nat.testBit_succ]
    rw [revN, e1, e2, revN_xor n]
    rfl
theorem finC_xor3 (w x : Nat) (refl : Bool) (a b c : Nat) : finC w x refl a ^^^ finC w x refl b ^^^ finC w x refl c = finC w x refl (a ^^^ b ^^^ c) := by
  have h3 : ∀ u v t : Nat, (u ^^^ x) ^^^ (v ^^^ x) ^^^ (t ^^^ x) = (u ^^^ v ^^^ t) ^^^ x := by
    intro u v t
    have : (u ^^^ x) ^^^ (v ^^^ x) = u ^^^ v := by rw [Nat.xor_assoc, ← Nat.xor_assoc x v x, Nat.xor_comm x v, Nat.xor_assoc v x x, Nat.xor_self, Nat.xor_zero]
    rw [this, ← Nat.xor_assoc]
  unfold finC
  rw [h3]
  cases refl
  · rfl
  · simp only [if_true]
    have e := revN_xor w 0 0 (a ^^^ b) c
    have e' := revN_xor w 0 0 a b
    rw [Nat.xor_zero] at e e'
    rw [e, e']
def validE (a b c d e : Int) (s : ByteArray) (f : Int) : Bool :=
  decide (1 ≤ a ∧ a ≤ 8 ∧ 0 ≤ b ∧ b ≤ c ∧ c ≤ 1099511627776 ∧ -9007199254740992 ≤ d ∧ d ≤ 9007199254740992 ∧ -9007199254740992 ≤ e ∧ e ≤ 9007199254740992 ∧ s.size ≤ 4096 ∧ 0 ≤ f ∧ f ≤ 12)
theorem ev_event_Valid (a b c d e : Int) (s : ByteArray) (f : Int) : Ev (fun k => event_Valid.f k a b c d e s f) (validE a b c d e s f) := by
  refine ⟨2, fun k hk => ?_⟩
  obtain ⟨m, rfl⟩ : ∃ m, k = m + 2 := ⟨k - 2, by omega⟩
  simp only [event_Valid.f, event_Valid.j0, event_Valid.j1, validE, decide_eq_true_eq, ↓reduceIte]
  repeat' split
  all_goals first
    | (rw [decide_eq_false (by omega)])
    | (congr 1; rw [decide_eq_decide]; omega)
theorem rdE_get (l : List S32) (i : Nat) (h : i < l.length) : rd_T32 l (i : Int) = l[i] := by
  simp [rd_T32, h]
theorem rdI_get (l : List S48) (i : Nat) (h : i < l.length) : rd_T48 l (i : Int) = l[i] := by
  simp [rd_T48, h]
theorem revN_top : ∀ (n acc r : Nat), revN (n + 1) acc r = 2 * revN n acc r + r / 2 ^ n % 2
  | 0, acc, r => by simp [revN]
  | n + 1, acc, r => by rw [revN, revN_top n, revN, Nat.div_div_eq_div_mul, ← Nat.pow_succ']
theorem revN_mod : ∀ (n acc r : Nat), revN n acc (r % 2 ^ n) = revN n acc r
  | 0, _, _ => rfl
  | n + 1, acc, r => by
    have h2 : 2 ^ (n + 1) = 2 * 2 ^ n := by rw [Nat.pow_succ]; omega
    have e1 : r % 2 ^ (n + 1) % 2 = r % 2 := by rw [h2, Nat.mod_mul_right_mod]
    have e2 : r % 2 ^ (n + 1) / 2 = r / 2 % 2 ^ n := by rw [h2, Nat.mod_mul_right_div_self]
    rw [revN, revN, e1, e2, revN_mod n]
/-- The register of the reference: from the lowest bit on. -/
def rbit (r b : Nat) : Nat := if r % 2 = b then r / 2 else (r / 2) ^^^ 40961
theorem rev_step {r b : Nat} (hr : r < 2 ^ 16) : revN 16 0 (stepC 16 32773 r b) = rbit (revN 16 0 r) b := by
  have t : revN 16 0 r = 2 * revN 15 0 r + r / 2 ^ 15 % 2 := revN_top 15 0 r
  have hd : r / 2 ^ 15 % 2 = r / 2 ^ 15 := by omega
  rw [hd] at t
  have e : revN 16 0 (2 * r % 2 ^ 16) = revN 15 0 r := by
    rw [revN, show 2 * 0 + 2 * r % 2 ^ 16 % 2 = 0 by omega, show 2 * r % 2 ^ 16 / 2 = r % 2 ^ 15 by omega, revN_mod]
  have hlt : r / 2 ^ 15 < 2 := by omega
  have e1 : revN 16 0 r % 2 = r / 2 ^ 15 := by omega
  have e2 : revN 16 0 r / 2 = revN 15 0 r := by omega
  unfold stepC rbit
  rw [e1, e2]
  show revN 16 0 (if r / 2 ^ 15 = b then _ else _) = _
  split
  · exact e
  · have := revN_xor 16 0 0 (2 * r % 2 ^ 16) 32773
    rw [show (0 : Nat) ^^^ 0 = 0 from rfl, e] at this
    rw [this]
    congr 1
theorem half_xor (a b : Nat) : (a ^^^ b) / 2 = (a / 2) ^^^ (b / 2) := by
  apply Nat.eq_of_testBit_eq
  intro i
  simp only [Nat.testBit_xor, ← Nat.testBit_succ]
theorem low_xor (a b : Nat) : (a ^^^ b) % 2 = (a % 2 + b % 2) % 2 := by
  have h1 := Nat.testBit_xor a b 0
  simp only [Nat.testBit_zero] at h1
  have ha : a % 2 = 0 ∨ a % 2 = 1 := by omega
  have hb : b % 2 = 0 ∨ b % 2 = 1 := by omega
  have hc : (a ^^^ b) % 2 = 0 ∨ (a ^^^ b) % 2 = 1 := by omega
  rcases ha with e | e <;> rcases hb with f | f <;> rcases hc with g | g <;> simp [e, f, g] at h1 ⊢
theorem rbit_xor (r u : Nat) : (if (r ^^^ u) % 2 = 1 then ((r ^^^ u) / 2) ^^^ 40961 else (r ^^^ u) / 2) = rbit r (u % 2) ^^^ (u / 2) := by
  have hl := low_xor r u
  have hh := half_xor r u
  unfold rbit
  rw [hh]
  have ha : r % 2 = 0 ∨ r % 2 = 1 := by omega
  have hb : u % 2 = 0 ∨ u % 2 = 1 := by omega
  have ac : ∀ x y z : Nat, x ^^^ y ^^^ z = x ^^^ z ^^^ y := fun x y z => by rw [Nat.xor_assoc, Nat.xor_comm y z, ← Nat.xor_assoc]
  rcases ha with e | e <;> rcases hb with f | f <;> simp [hl, e, f, ac]
/-- The checksum of bytes. -/
def crcM (l : List Int) : Nat := revN 16 0 (runC 16 32773 65535 (fromBytesL l false))
theorem C16 : Crc 16 32773 65535 0 := ⟨by decide, by decide, by decide, by decide, by decide, by decide⟩
theorem crcM_lt (l : List Int) : crcM l < 65536 := by
  have h := runC_lt C16 (fromBytesL l false) 65535 (by decide)
  have := revN_lt 16 0 0 (runC 16 32773 65535 (fromBytesL l false)) (by decide)
  simpa [crcM] using this
theorem rev_lt (r : Nat) : revN 16 0 r < 65536 := by simpa using revN_lt 16 0 0 r (by decide)
/-- The two bytes of a checksum. -/
def sumL (l : List Int) : List Int := [(crcM l : Int) % 256, (crcM l : Int) / 256 % 256]
theorem named16 : check_Named.f (⟨#[99, 114, 99, 49, 54, 109, 111, 100, 98, 117, 115]⟩ : ByteArray) = some (16, 32773, 65535, 0, true, true) := by decide +kernel
theorem ev_sum (s : ByteArray) (hs : s.size ≤ 8192) : Ev (fun k => modbus_sum.f k s) (strOfNums (sumL (bytesOf s))) := by
  unfold modbus_sum.f
  rw [named16]
  refine Ev.sbind (Ev.bind (ev_check_Bytes 16 32773 65535 0 true s) ?_)
  have e : bytesC 16 32773 65535 0 true s = ((crcM (bytesOf s) : Int), 0) := by
    unfold bytesC
    rw [if_pos (by decide), if_neg (by omega)]
    simp [crcL, finC, crcM]
  rw [e]
  exact Ev.now _
theorem ev_ref_Crc_l1 (s : ByteArray) (hs : s.size ≤ 140737488355328) (j : Nat) (hj : j < s.size) (res : Int) (b : Int) (h0 : 0 ≤ b) (h1 : b < 256) : ∀ (d k' r : Nat), k' + d = 8 → r < 2 ^ 16 →
    Ev (fun k => signalbenchref30_Crc.l0 k s ((revN 16 0 (runC 16 32773 r ((fromIntL b 8 false).drop k')) : Nat) : Int) ((j + 1 : Nat) : Int)) res → Ev (fun k => signalbenchref30_Crc.l1 k s ((revN 16 0 r ^^^ (b.toNat / 2 ^ k') : Nat) : Int) (j : Int) (k' : Int)) res := by
  intro d
  induction d with
  | zero =>
    intro k' r hk hr h
    obtain rfl : k' = 8 := by omega
    rw [List.drop_of_length_le (by rw [fromIntL_len]; omega), runC] at h
    refine Ev.step (fun k => signalbenchref30_Crc.l1.eq_2 ..) ?_
    rw [show b.toNat / 2 ^ 8 = 0 by omega, Nat.xor_zero, wnat (i := j) (by omega)]
    exact Ev.neg (by omega) h
  | succ d ih =>
    intro k' r hk hr h
    rw [fromInt_drop b false k' (by omega), runC] at h
    have hu : b.toNat / 2 ^ k' < 256 := Nat.lt_of_le_of_lt (Nat.div_le_self _ _) (by omega)
    have eb : (48 + b / 2 ^ (if false = true then 7 - k' else k') % 2 - 48).toNat = b.toNat / 2 ^ k' % 2 := by
      obtain ⟨m, rfl⟩ := Int.eq_ofNat_of_zero_le h0
      have hz : ((m / 2 ^ k' : Nat) : Int) = (m : Int) / 2 ^ k' := by rw [Int.natCast_ediv, Int.natCast_pow]; rfl
      rw [if_neg (by decide), ← hz, Int.toNat_natCast]
      generalize m / 2 ^ k' = z
      omega
    rw [eb] at h
    have hn := ih (k' + 1) _ (by omega) (stepC_lt C16 r (b.toNat / 2 ^ k' % 2)) h
    rw [rev_step hr, ← half_pow2 b.toNat k', ← rbit_xor] at hn
    have hR := rev_lt r
    have hx : revN 16 0 r ^^^ b.toNat / 2 ^ k' < 65536 := Nat.xor_lt_two_pow (n := 16) hR (by omega)
    generalize revN 16 0 r ^^^ b.toNat / 2 ^ k' = y at hn hx
    refine Ev.step (fun k => signalbenchref30_Crc.l1.eq_2 ..) ?_
    rw [and_one, wnat (i := k') (by omega), show (y : Int) / 2 = ((y / 2 : Nat) : Int) by omega, show (40961 : Int) = ((40961 : Nat) : Int) from rfl, nxor (by omega) (by decide)]
    refine Ev.pos (by omega) (Ev.ite (fun hy => ?_) (fun hy => ?_))
    · rw [if_pos (by omega)] at hn; exact hn
    · rw [if_neg (by omega)] at hn; exact hn
theorem ev_ref_Crc (s : ByteArray) (hs : s.size ≤ 140737488355328) : Ev (fun k => signalbenchref30_Crc.f k s) (crcM (bytesOf s) : Int) := by
  have hlen := len_bytes s
  have key : ∀ (l pre : List Int) (r j : Nat), bytesOf s = pre ++ l → j = pre.length → r < 2 ^ 16 →
      Ev (fun k => signalbenchref30_Crc.l0 k s ((revN 16 0 r : Nat) : Int) (j : Int)) ((revN 16 0 (runC 16 32773 r (fromBytesL l false)) : Nat) : Int) := by
    intro l
    induction l with
    | nil =>
      intro pre r j he hj hr
      rw [List.append_nil] at he
      rw [he] at hlen
      refine Ev.step (fun k => signalbenchref30_Crc.l0.eq_2 ..) ?_
      rw [fromBytesL, runC]
      exact Ev.neg (by omega) (Ev.now _)
    | cons b l ih =>
      intro pre r j he hj hr
      have hl : s.size = j + (l.length + 1) := by rw [← hlen, he, hj, List.length_append, List.length_cons]
      have hbt : bt s (j : Int) = b := by rw [bt_get s j (by omega)]; simp [he, hj]
      have g1 := bt_lo s (j : Int)
      have g2 := bt_hi s (j : Int)
      rw [hbt] at g1 g2
      rw [fromBytesL, runC_append]
      have hn := ih (pre ++ [b]) (runC 16 32773 r (fromIntL b 8 false)) (j + 1) (by rw [he]; simp) (by simp [hj]) (runC_lt C16 _ _ hr)
      have hi := ev_ref_Crc_l1 s hs j (by omega) _ b g1 (by omega) 8 0 r rfl hr (by rw [List.drop_zero]; exact hn)
      rw [Nat.pow_zero, Nat.div_one] at hi
      have hR := rev_lt r
      have ex : Go.bits .xor .i64 ((revN 16 0 r : Nat) : Int) b = ((revN 16 0 r ^^^ b.toNat : Nat) : Int) := by
        have := nxor (a := revN 16 0 r) (b := b.toNat) (by omega) (by omega)
        rwa [show ((b.toNat : Nat) : Int) = b by omega] at this
      refine Ev.step (fun k => signalbenchref30_Crc.l0.eq_2 ..) ?_
      refine Ev.pos (by omega) ?_
      refine Ev.step (fun k => signalbenchref30_Crc.j1.eq_2 ..) ?_
      rw [hbt, w64 (by omega) (by omega), ex]
      exact Ev.pos (by omega) (Ev.pos (by omega) hi)
  have := key (bytesOf s) [] 65535 0 rfl rfl (by decide)
  unfold signalbenchref30_Crc.f
  exact this
/-- What is sent for an item. -/
def sendL (x : S48) : List Int := if x.f4 = 8 then [x.f1 % 256, x.f2 % 256] else [x.f1 % 256, x.f2 % 256] ++ bytesOf x.f3 ++ (if x.f4 = 3 then [((crcM ([x.f1 % 256, x.f2 % 256] ++ bytesOf x.f3) ^^^ 1 : Nat) : Int) % 256, (crcM ([x.f1 % 256, x.f2 % 256] ++ bytesOf x.f3) : Int) / 256 % 256] else sumL ([x.f1 % 256, x.f2 % 256] ++ bytesOf x.f3))
theorem sumL_byts (l : List Int) : Byts (sumL l) := Byts.cons (by omega) (Byts.cons (by omega) Byts.nil)
theorem headL_byts (x : S48) : Byts [x.f1 % 256, x.f2 % 256] := Byts.cons (by omega) (Byts.cons (by omega) Byts.nil)
theorem sendL_byts (x : S48) : Byts (sendL x) := by
  unfold sendL
  have h := headL_byts x
  split
  · exact h
  · refine (h.append (byts_of _)).append ?_
    split
    · exact Byts.cons (by omega) (Byts.cons (by omega) Byts.nil)
    · exact sumL_byts _
theorem sendL_len (x : S48) : 2 ≤ (sendL x).length ∧ (sendL x).length ≤ x.f3.size + 4 := by
  have hl := len_bytes x.f3
  unfold sendL sumL
  split
  · simp
  · split <;> (simp only [List.length_append, List.length_cons, List.length_nil]; omega)
/-- The first error of an item. -/
def itM (c : Int) (x : S48) : Int := if x.f0 < 0 ∨ x.f0 > 1048576 then 1 else if x.f3.size > 4096 then 6 else if x.f1 < 0 ∨ x.f1 > 255 ∨ x.f2 < 0 ∨ x.f2 > 255 ∨ c + 1 + x.f0 > 1048576 then 2 else if x.f4 = 0 ∨ x.f4 = 8 ∨ x.f4 = 3 then 0 else 1
theorem itM_ok {c : Int} {x : S48} (h : itM c x = 0) : 0 ≤ x.f0 ∧ x.f0 ≤ 1048576 ∧ x.f3.size ≤ 4096 ∧ 0 ≤ x.f1 ∧ x.f1 ≤ 255 ∧ 0 ≤ x.f2 ∧ x.f2 ≤ 255 ∧ c + 1 + x.f0 ≤ 1048576 ∧ (x.f4 = 0 ∨ x.f4 = 8 ∨ x.f4 = 3) := by
  unfold itM at h
  split at h
  · omega
  · split at h
    · omega
    · split at h
      · omega
      · split at h
        · rename_i h1 h2 h3 h4; exact ⟨by omega, by omega, by omega, by omega, by omega, by omega, by omega, by omega, h4⟩
        · omega
def firstM (c : Int) : List S48 → Int
  | [] => 0
  | x :: l => if itM c x = 0 then firstM c l else itM c x
def cellM (c : Int) (x : S48) (j : Nat) (b : Int) : S48 := if j = 0 then ⟨c + 1 + x.f0, b, 0, (⟨#[]⟩ : ByteArray), 0⟩ else ⟨0, b, 0, (⟨#[]⟩ : ByteArray), 0⟩
def cellsM (c : Int) (x : S48) : Nat → List Int → List S48
  | _, [] => []
  | j, b :: l => cellM c x j b :: cellsM c x (j + 1) l
theorem cellsM_len (c : Int) (x : S48) : ∀ (l : List Int) (j : Nat), (cellsM c x j l).length = l.length
  | [], _ => rfl
  | _ :: l, j => by simp [cellsM, cellsM_len c x l]
def encM (c : Int) : List S48 → List S48 → List S48 × Int
  | out, [] => (out, 0)
  | out, x :: l => if out.length + (sendL x).length > 262144 then ([], 6) else encM c (out ++ cellsM c x 0 (sendL x)) l
def chkM (c : Int) : Int := if c < 0 ∨ c > 1048576 then 2 else 0
def encodeM (c : Int) (l : List S48) : List S48 × Int := if chkM c = 0 then (if l.length > 1024 then ([], 6) else if firstM c l = 0 then encM c [] l else ([], firstM c l)) else ([], chkM c)
theorem encM_len (c : Int) : ∀ (l out : List S48), out.length ≤ 262144 → (encM c out l).1.length ≤ 262144
  | [], _, h => h
  | x :: l, out, h => by
    unfold encM
    split
    · simp
    · refine encM_len c l _ ?_
      rw [List.length_append, cellsM_len]; omega
theorem encodeM_len (c : Int) (l : List S48) : (encodeM c l).1.length ≤ 262144 := by
  unfold encodeM
  split
  · split
    · simp
    · split
      · exact encM_len c l [] (by simp)
      · simp
  · simp
theorem ev_mod_Check (c : Int) : Ev (fun k => modbus_Check.f c) (chkM c) := by
  refine Ev.now' fun _ => ?_
  unfold modbus_Check.f chkM
  repeat' split
  all_goals first | rfl | omega
theorem ev_checkItem (c : Int) (hc : chkM c = 0) (x : S48) : Ev (fun k => modbus_checkItem.f k c x.f0 x.f1 x.f2 x.f3 x.f4) (itM c x) := by
  have hc2 : 0 ≤ c ∧ c ≤ 1048576 := by unfold chkM at hc; split at hc <;> omega
  have hyes : itM c x = 1 → Ev (fun k => modbus_checkItem.j0 k true c x.f0 x.f1 x.f2 x.f3 x.f4) (itM c x) := by
    intro h
    rw [h]
    refine Ev.step (fun k => modbus_checkItem.j0.eq_2 ..) ?_
    exact Ev.pos rfl (Ev.now _)
  unfold modbus_checkItem.f
  refine Ev.ite (fun h0 => hyes (by unfold itM; rw [if_pos (.inl h0)])) (fun h0 => ?_)
  by_cases h1 : x.f0 > 1048576
  · rw [decide_eq_true h1]; exact hyes (by unfold itM; rw [if_pos (.inr h1)])
  rw [decide_eq_false h1]
  have hor : ¬ (x.f0 < 0 ∨ x.f0 > 1048576) := by omega
  clear hyes
  refine Ev.step (fun k => modbus_checkItem.j0.eq_2 ..) ?_
  refine Ev.neg (by decide) ?_
  by_cases h2 : x.f3.size > 4096
  · rw [show itM c x = 6 by unfold itM; rw [if_neg hor, if_pos h2]]
    exact Ev.pos (by omega) (Ev.now _)
  have h2e : (x.f1 < 0 ∨ x.f1 > 255 ∨ x.f2 < 0 ∨ x.f2 > 255 ∨ c + 1 + x.f0 > 1048576) → Ev (fun k => modbus_checkItem.j1 k true x.f0 x.f1 x.f2 x.f3 x.f4) (itM c x) := by
    intro h
    rw [show itM c x = 2 by unfold itM; rw [if_neg hor, if_neg h2, if_pos h]]
    refine Ev.step (fun k => modbus_checkItem.j1.eq_2 ..) ?_
    exact Ev.pos rfl (Ev.now _)
  rw [w64 (x := c + 1) (by omega) (by omega), w64 (x := c + 1 + x.f0) (by omega) (by omega)]
  refine Ev.neg (by omega) (Ev.ite (fun h => h2e (by omega)) (fun h3 => Ev.ite (fun h => h2e (by omega)) (fun h4 => Ev.ite (fun h => h2e (by omega)) (fun h5 => Ev.ite (fun h => h2e (by omega)) (fun h6 => ?_)))))
  by_cases h7 : c + 1 + x.f0 > 1048576
  · rw [decide_eq_true h7]; exact h2e (by omega)
  rw [decide_eq_false h7]
  have hor2 : ¬ (x.f1 < 0 ∨ x.f1 > 255 ∨ x.f2 < 0 ∨ x.f2 > 255 ∨ c + 1 + x.f0 > 1048576) := by omega
  clear h2e
  refine Ev.step (fun k => modbus_checkItem.j1.eq_2 ..) ?_
  refine Ev.neg (by decide) (Ev.now' fun _ => ?_)
  unfold itM
  rw [if_neg hor, if_neg h2, if_neg hor2]
  repeat' split
  all_goals first | rfl | omega
theorem xor1_u8 (x : Nat) : Go.bits .xor .u8 ((x : Int) % 256) 1 = ((x ^^^ 1 : Nat) : Int) % 256 := by
  have e : (x : Int) % 256 = ((x % 256 : Nat) : Int) := by omega
  rw [e]
  have h : (BitVec.ofInt 8 ((x % 256 : Nat) : Int) ^^^ BitVec.ofInt 8 1).toNat = (x ^^^ 1) % 2 ^ 8 := by
    rw [BitVec.toNat_xor, BitVec.toNat_ofInt, BitVec.toNat_ofInt, Nat.xor_mod_two_pow]
    congr 1
    show (((x % 256 : Nat) : Int) % ((256 : Nat) : Int)).toNat = x % 2 ^ 8
    omega
  show IntKind.u8.wrap ((BitVec.ofInt 8 ((x % 256 : Nat) : Int) ^^^ BitVec.ofInt 8 1).toNat : Int) = _
  rw [h]
  show (((x ^^^ 1) % 2 ^ 8 : Nat) : Int) % 256 = _
  omega
theorem ev_send (x : S48) (hs : x.f3.size ≤ 4096) : Ev (fun k => modbus_send.f k x.f0 x.f1 x.f2 x.f3 x.f4) (strOfNums (sendL x)) := by
  have hh := headL_byts x
  have e2 : strOfNums [x.f1 % 256, x.f2 % 256] ++ x.f3 = strOfNums ([x.f1 % 256, x.f2 % 256] ++ bytesOf x.f3) := by
    rw [← str_append, str_bytes]
  have eb : bytesOf (strOfNums ([x.f1 % 256, x.f2 % 256] ++ bytesOf x.f3)) = [x.f1 % 256, x.f2 % 256] ++ bytesOf x.f3 := bytes_str (hh.append (byts_of _))
  have hl := len_bytes x.f3
  have hz : (strOfNums ([x.f1 % 256, x.f2 % 256] ++ bytesOf x.f3)).size = x.f3.size + 2 := by rw [size_str]; simp only [List.length_append, List.length_cons, List.length_nil]; omega
  have hz2 : (strOfNums [x.f1 % 256, x.f2 % 256]).size = 2 := by rw [size_str]; rfl
  have hsum := ev_sum (strOfNums ([x.f1 % 256, x.f2 % 256] ++ bytesOf x.f3)) (by omega)
  rw [eb] at hsum
  have h2 : ∀ y z : Int, (strOfNums [y, z]).size = 2 := fun y z => by rw [size_str]; rfl
  unfold modbus_send.f sendL
  refine Ev.sbind (Ev.ite (fun h => ?_) (fun h => ?_))
  · rw [if_pos h]; exact Ev.now _
  rw [if_neg h, e2]
  refine Ev.pos (by omega) (Ev.bind hsum (Ev.ite (fun h3 => ?_) (fun h3 => ?_)))
  · rw [if_pos h3]
    have hsz : (strOfNums (sumL ([x.f1 % 256, x.f2 % 256] ++ bytesOf x.f3))).size = 2 := h2 _ _
    have b0 : bt (strOfNums (sumL ([x.f1 % 256, x.f2 % 256] ++ bytesOf x.f3))) 0 = (crcM ([x.f1 % 256, x.f2 % 256] ++ bytesOf x.f3) : Int) % 256 := bt_str (sumL_byts _) 0 (by simp [sumL])
    have b1 : bt (strOfNums (sumL ([x.f1 % 256, x.f2 % 256] ++ bytesOf x.f3))) 1 = (crcM ([x.f1 % 256, x.f2 % 256] ++ bytesOf x.f3) : Int) / 256 % 256 := bt_str (sumL_byts _) 1 (by simp [sumL])
    rw [b0, b1, xor1_u8, hsz]
    refine Ev.pos (by omega) (Ev.pos (by omega) (Ev.sbind (Ev.pos (by rw [h2]; omega) ?_)))
    rw [str_append]
    exact Ev.now _
  · rw [if_neg h3]
    refine Ev.pos (by unfold sumL; rw [h2]; omega) ?_
    rw [str_append]
    exact Ev.now _
theorem cell_str (l : List Int) (hb : Byts l) (pre : List Int) (b : Int) (q : List Int) (j : Nat) (he : l = pre ++ b :: q) (hj : j = pre.length) : wrap64 (bt (strOfNums l) (j : Int)) = b := by
  have h := hb b (by rw [he]; simp)
  rw [bt_str hb j (by rw [he, List.length_append, List.length_cons]; omega), w64]
  · simp [he, hj]
  · have : l[j]'(by rw [he, List.length_append, List.length_cons]; omega) = b := by simp [he, hj]
    omega
  · have : l[j]'(by rw [he, List.length_append, List.length_cons]; omega) = b := by simp [he, hj]
    omega
theorem ev_mod_Encode (c : Int) (l : List S48) : Ev (fun k => modbus_Encode.f k c l) (encodeM c l) := by
  unfold modbus_Encode.f encodeM
  refine Ev.bind (ev_mod_Check c) (Ev.ite (fun hc => ?_) (fun hc => ?_))
  case refine_2 => rw [if_neg hc]; exact Ev.now _
  rw [if_pos hc]
  have hc2 : 0 ≤ c ∧ c ≤ 1048576 := by unfold chkM at hc; split at hc <;> omega
  refine Ev.step (fun k => modbus_Encode.j0.eq_2 ..) ?_
  refine Ev.ite (fun hl => ?_) (fun hl => ?_)
  · rw [if_pos (by omega)]; exact Ev.now _
  rw [if_neg (by omega)]
  refine Ev.step (fun k => modbus_Encode.j1.eq_2 ..) ?_
  have two : ∀ (x : S48) (out : List S48) (i : Nat) (res : List S48 × Int), itM c x = 0 → i < l.length → out.length + (sendL x).length ≤ 262144 → ∀ (q pre : List Int) (acc : List S48) (j : Nat), sendL x = pre ++ q → j = pre.length → acc.length = out.length + j →
      Ev (fun k => modbus_Encode.l1 k (acc ++ cellsM c x j q) l (l.length : Int) ((i + 1 : Nat) : Int) c) res →
      Ev (fun k => modbus_Encode.l2 k acc (strOfNums (sendL x)) l (l.length : Int) (i : Int) ((strOfNums (sendL x)).size : Int) (j : Int) c x.f0 x.f1 x.f2 x.f3 x.f4) res := by
    intro x out i res hx hi ho q
    have hb := sendL_byts x
    have hz := size_str (sendL x)
    obtain ⟨g0, g1, _⟩ := itM_ok hx
    induction q with
    | nil =>
      intro pre acc j he hj ha h
      have hj2 : j = (sendL x).length := by rw [he, List.append_nil, hj]
      rw [cellsM, List.append_nil] at h
      clear he
      refine Ev.step (fun k => modbus_Encode.l2.eq_2 ..) ?_
      rw [wnat (i := i) (by omega)]
      exact Ev.neg (by omega) h
    | cons b q ih =>
      intro pre acc j he hj ha h
      have hlen : (sendL x).length = j + (q.length + 1) := by rw [he, hj, List.length_append, List.length_cons]
      have hbt := cell_str _ hb pre b q j he hj
      have hn := ih (pre ++ [b]) (acc ++ [cellM c x j b]) (j + 1) (by rw [he]; simp) (by simp [hj]) (by simp; omega) (by rw [List.append_assoc]; exact h)
      clear ih he
      refine Ev.step (fun k => modbus_Encode.l2.eq_2 ..) ?_
      rw [hbt, wnat (i := j) (by omega), w64 (x := c + 1) (by omega) (by omega), w64 (x := c + 1 + x.f0) (by omega) (by omega)]
      refine Ev.pos (by omega) (Ev.pos (by omega) (Ev.pos (by omega) (Ev.ite (fun h0 => Ev.pos (by omega) ?_) (fun h0 => Ev.pos (by omega) ?_))))
      · have : cellM c x j b = ⟨c + 1 + x.f0, b, 0, (⟨#[]⟩ : ByteArray), 0⟩ := by unfold cellM; rw [if_pos (by omega)]
        rw [this] at hn; exact hn
      · have : cellM c x j b = ⟨0, b, 0, (⟨#[]⟩ : ByteArray), 0⟩ := by unfold cellM; rw [if_neg (by omega)]
        rw [this] at hn; exact hn
  have one : ∀ (q pre out : List S48) (i : Nat), l = pre ++ q → i = pre.length → out.length ≤ 262144 → firstM c q = 0 → Ev (fun k => modbus_Encode.l1 k out l (l.length : Int) (i : Int) c) (encM c out q) := by
    intro q
    induction q with
    | nil =>
      intro pre out i he hi ho hf
      rw [List.append_nil] at he
      have hi' : i = l.length := by rw [hi, he]
      clear he two
      refine Ev.step (fun k => modbus_Encode.l1.eq_2 ..) ?_
      exact Ev.neg (by omega) (Ev.now _)
    | cons x q ih =>
      intro pre out i he hi ho hf
      have hlen : l.length = i + (q.length + 1) := by rw [he, hi, List.length_append, List.length_cons]
      have hx : rd_T48 l (i : Int) = x := by rw [he]; exact rdI_mid pre x q i hi
      rw [firstM] at hf
      have hx0 : itM c x = 0 := by split at hf; assumption; omega
      rw [if_pos hx0] at hf
      obtain ⟨g0, g1, g2, _⟩ := itM_ok hx0
      have hz := size_str (sendL x)
      have hs := sendL_len x
      refine Ev.step (fun k => modbus_Encode.l1.eq_2 ..) ?_
      refine Ev.pos (by omega) ?_
      refine Ev.step (fun k => modbus_Encode.j4.eq_2 ..) ?_
      rw [hx, encM]
      refine Ev.pos (by omega) (Ev.pos (by omega) (Ev.bind (ev_send x g2) ?_))
      rw [w64 (by omega) (by omega)]
      refine Ev.ite (fun h => ?_) (fun h => ?_)
      · rw [if_pos (by omega)]; exact Ev.now _
      rw [if_neg (by omega)]
      refine Ev.step (fun k => modbus_Encode.j5.eq_2 ..) ?_
      refine two x out i _ hx0 (by omega) (by omega) (sendL x) [] out 0 rfl rfl rfl ?_
      exact ih (pre ++ [x]) _ (i + 1) (by rw [he]; simp) (by simp [hi]) (by rw [List.length_append, cellsM_len]; omega) hf
  have zero : ∀ (q pre : List S48) (i : Nat), l = pre ++ q → i = pre.length → (firstM c q = 0 → Ev (fun k => modbus_Encode.l1 k [] l (l.length : Int) ((0 : Nat) : Int) c) (encM c [] l)) → Ev (fun k => modbus_Encode.l0 k l l (l.length : Int) (i : Int) c) (if firstM c q = 0 then encM c [] l else ([], firstM c q)) := by
    intro q
    induction q with
    | nil =>
      intro pre i he hi h
      rw [List.append_nil] at he
      have hi' : i = l.length := by rw [hi, he]
      clear he two one
      rw [if_pos (show firstM c [] = 0 from rfl)]
      refine Ev.step (fun k => modbus_Encode.l0.eq_2 ..) ?_
      exact Ev.neg (by omega) (h rfl)
    | cons x q ih =>
      intro pre i he hi h
      have hlen : l.length = i + (q.length + 1) := by rw [he, hi, List.length_append, List.length_cons]
      have hx : rd_T48 l (i : Int) = x := by rw [he]; exact rdI_mid pre x q i hi
      have ih2 := ih (pre ++ [x]) (i + 1) (by rw [he]; simp) (by simp [hi])
      clear ih he two one
      refine Ev.step (fun k => modbus_Encode.l0.eq_2 ..) ?_
      rw [hx, wnat (by omega)]
      refine Ev.pos (by omega) (Ev.pos (by omega) (Ev.pos (by omega) (Ev.bind (ev_checkItem c hc x) (Ev.ite (fun h0 => ?_) (fun h0 => ?_)))))
      · rw [firstM, if_pos h0] at h ⊢
        exact ih2 h
      · rw [firstM, if_neg h0, if_neg h0]
        exact Ev.now _
  exact zero l [] 0 rfl rfl (fun h => one l [] [] 0 rfl rfl (by simp) h)
/-- The event of a complete frame of at most 4100 bytes. -/
def frameM (from_ to_ : Int) (d : List Int) : S32 :=
  if d.length < 4 then ⟨5, from_, to_, 0, 0, strOfNums d, 8⟩
  else ⟨5, from_, to_, bt (strOfNums d) 0, bt (strOfNums d) 1, (strOfNums d).extract 2 (d.length - 2), if sumL (d.take (d.length - 2)) = d.drop (d.length - 2) then 0 else 3⟩
theorem str_extract {l : List Int} (hb : Byts l) (a b : Nat) : (strOfNums l).extract a b = strOfNums ((l.take b).drop a) := by
  rw [← str_bytes ((strOfNums l).extract a b), bytes_extract, bytes_str hb]
theorem byts_take {l : List Int} (h : Byts l) (n : Nat) : Byts (l.take n) := fun x hx => h x (List.mem_of_mem_take hx)
theorem byts_drop {l : List Int} (h : Byts l) (n : Nat) : Byts (l.drop n) := fun x hx => h x (List.mem_of_mem_drop hx)
theorem ev_complete (from_ to_ : Int) (d : List Int) (hb : Byts d) (hd : d.length ≤ 4100) : Ev (fun k => modbus_frame_complete.f k from_ to_ (d.length : Int) (strOfNums d)) ((frameM from_ to_ d).f0, (frameM from_ to_ d).f1, (frameM from_ to_ d).f2, (frameM from_ to_ d).f3, (frameM from_ to_ d).f4, (frameM from_ to_ d).f5, (frameM from_ to_ d).f6) := by
  have hz := size_str d
  unfold modbus_frame_complete.f
  refine Ev.ite (fun h => ?_) (fun h => ?_)
  · have hF : frameM from_ to_ d = ⟨5, from_, to_, 0, 0, strOfNums d, 8⟩ := by unfold frameM; rw [if_pos (show d.length < 4 by omega)]
    rw [hF]
    exact Ev.now _
  have hs := ev_sum ((strOfNums d).extract 0 (d.length - 2)) (by rw [str_extract hb, size_str, List.drop_zero, List.length_take]; omega)
  have e0 : bytesOf ((strOfNums d).extract 0 (d.length - 2)) = d.take (d.length - 2) := by rw [bytes_extract, bytes_str hb, List.drop_zero]
  rw [e0] at hs
  have e2 : (strOfNums d).extract (d.length - 2) (strOfNums d).size = strOfNums (d.drop (d.length - 2)) := by
    rw [str_extract hb, hz, List.take_length]
  have hiff : (strOfNums (sumL (d.take (d.length - 2)))).toList = ((strOfNums d).extract (d.length - 2) (strOfNums d).size).toList ↔ sumL (d.take (d.length - 2)) = d.drop (d.length - 2) := by
    rw [toList_iff, e2]
    constructor
    · intro h
      have := congrArg bytesOf h
      rwa [bytes_str (sumL_byts _), bytes_str (byts_drop hb _)] at this
    · intro h; rw [h]
  have w0 := bt_lo (strOfNums d) 0
  have w1 := bt_hi (strOfNums d) 0
  have w2 := bt_lo (strOfNums d) 1
  have w3 := bt_hi (strOfNums d) 1
  have ew : wrap64 ((d.length : Int) - 2) = ((d.length - 2 : Nat) : Int) := by rw [w64 (by omega) (by omega)]; omega
  rw [ew, Int.toNat_natCast, w64 (x := bt (strOfNums d) 0) (by omega) (by omega), w64 (x := bt (strOfNums d) 1) (by omega) (by omega)]
  have hF : frameM from_ to_ d = ⟨5, from_, to_, bt (strOfNums d) 0, bt (strOfNums d) 1, (strOfNums d).extract 2 (d.length - 2), if sumL (d.take (d.length - 2)) = d.drop (d.length - 2) then 0 else 3⟩ := by unfold frameM; rw [if_neg (show ¬ d.length < 4 by omega)]
  rw [hF]
  dsimp only
  refine Ev.pos (by omega) (Ev.pos (by omega) (Ev.neg (by omega) (Ev.pos (by omega) (Ev.pos (by omega) (Ev.pos (by omega) (Ev.bind hs (Ev.ite (fun hq => ?_) (fun hq => ?_))))))))
  · rw [if_pos (hiff.mp hq)]; exact Ev.now _
  · rw [if_neg (fun h => hq (hiff.mpr h))]; exact Ev.now _
theorem ev_finish (a0 a1 a4 a6 from_ to_ : Int) (d : List Int) (hb : Byts d) (hd : d.length ≤ 4100) (h0 : d ≠ []) : Ev (fun k => modbus_finish.f k a0 a1 from_ (d.length : Int) a4 to_ a6 (strOfNums d)) [frameM from_ to_ d] := by
  have : 0 < d.length := List.length_pos_iff.mpr h0
  unfold modbus_finish.f
  refine Ev.neg (by omega) (Ev.bind (ev_complete from_ to_ d hb hd) (Ev.now _))
/-- The bytes between idle times: what is decoded of bytes behind a byte that was there. -/
def decM (c : Int) : List S32 → Int → Int → List Int → List S32
  | [], from_, to_, d => [frameM from_ to_ d]
  | e :: l, from_, to_, d => if e.f1 - to_ > c then frameM from_ to_ d :: decM c l e.f1 e.f2 [e.f3] else decM c l from_ e.f2 (d ++ [e.f3])
theorem decM_len (c : Int) : ∀ (l : List S32) (a b : Int) (d : List Int), (decM c l a b d).length ≤ l.length + 1
  | [], _, _, _ => by simp [decM]
  | e :: l, a, b, d => by
    unfold decM
    split
    · have := decM_len c l e.f1 e.f2 [e.f3]; simp; omega
    · have := decM_len c l a e.f2 (d ++ [e.f3]); simp; omega
/-- An event that is a byte. -/
structure ByteE (e : S32) : Prop where
  k : e.f0 = 3
  f0 : 0 ≤ e.f1
  f1 : e.f1 ≤ e.f2
  f2 : e.f2 ≤ 1099511627776
  v0 : 0 ≤ e.f3
  v1 : e.f3 ≤ 255
  a : e.f4 = 0
  s : e.f5 = ⟨#[]⟩
  f : e.f6 = 0
theorem ByteE.valid {e : S32} (h : ByteE e) : validE e.f0 e.f1 e.f2 e.f3 e.f4 e.f5 e.f6 = true := by
  have h1 := h.k; have h2 := h.f0; have h3 := h.f1; have h4 := h.f2; have h5 := h.v0; have h6 := h.v1; have h7 := h.a; have h8 := h.f
  have h9 : e.f5.size = 0 := by rw [h.s]; rfl
  unfold validE
  rw [decide_eq_true_eq]
  omega
theorem andNot255 {v : Int} (h0 : 0 ≤ v) (h1 : v ≤ 255) : Go.bits .andNot .i64 v 255 = 0 := by
  have key : ∀ n : Fin 256, Go.bits .andNot .i64 ((n.val : Nat) : Int) 255 = 0 := by decide +kernel
  obtain ⟨n, rfl⟩ := Int.eq_ofNat_of_zero_le h0
  exact key ⟨n, by omega⟩
theorem ev_step_start (c : Int) (hc : chkM c = 0) (at_ from_ aux : Int) (e : S32) (he : ByteE e) (ha : at_ ≤ e.f1) : Ev (fun k => modbus_Step.f k c 0 at_ from_ 0 0 aux 0 ⟨#[]⟩ e.f0 e.f1 e.f2 e.f3 e.f4 e.f5 e.f6) (0, e.f1, e.f1, 1, 0, e.f2, 0, strOfNums [e.f3], []) := by
  have h1 := he.k; have h2 := he.f0; have h3 := he.f1; have h4 := he.f2; have h5 := he.v0; have h6 := he.v1
  have hv := ev_event_Valid e.f0 e.f1 e.f2 e.f3 e.f4 e.f5 e.f6
  rw [he.valid] at hv
  have en : ((Go.bits .andNot .i64 e.f3 255) != 0) = false := by rw [andNot255 h5 h6]; rfl
  unfold modbus_Step.f
  refine Ev.bind (ev_mod_Check c) (Ev.pos hc (Ev.bind hv (Ev.pos rfl (Ev.pos h1 (Ev.neg (by omega) ?_)))))
  rw [en]
  refine Ev.step (fun k => modbus_Step.j0.eq_2 ..) ?_
  refine Ev.neg (by decide) ?_
  refine Ev.step (fun k => modbus_Step.j1.eq_2 ..) ?_
  refine Ev.pos he.f (Ev.neg (by omega) ?_)
  refine Ev.step (fun k => modbus_Step.j2.eq_2 ..) ?_
  refine Ev.neg (by decide) ?_
  refine Ev.step (fun k => modbus_Step.j3.eq_2 ..) ?_
  rw [show e.f3 % 256 = e.f3 by omega]
  have e0 : (⟨#[]⟩ : ByteArray) ++ strOfNums [e.f3] = strOfNums [e.f3] := by rw [show (⟨#[]⟩ : ByteArray) = strOfNums [] from rfl, str_append]; rfl
  have z1 : (strOfNums [e.f3]).size = 1 := size_str _
  refine Ev.pos rfl (Ev.pos (by decide) (Ev.sbind (Ev.pos (by rw [z1]; decide) ?_)))
  rw [e0, show wrap64 (0 + 1) = 1 from w64 (x := 0 + 1) (by omega) (by omega)]
  exact Ev.now _
theorem ev_step_in (c : Int) (hc : chkM c = 0) (at_ from_ aux : Int) (d : List Int) (hb : Byts d) (hd : d.length < 4000) (h0 : d ≠ []) (e : S32) (he : ByteE e) (ha : at_ ≤ e.f1) (hx0 : 0 ≤ aux) (hx1 : aux ≤ 1099511627776) :
    Ev (fun k => modbus_Step.f k c 0 at_ from_ (d.length : Int) 0 aux 0 (strOfNums d) e.f0 e.f1 e.f2 e.f3 e.f4 e.f5 e.f6) (if e.f1 - aux > c then (0, e.f1, e.f1, 1, 0, e.f2, 0, strOfNums [e.f3], [frameM from_ aux d]) else (0, e.f1, from_, ((d ++ [e.f3]).length : Int), 0, e.f2, 0, strOfNums (d ++ [e.f3]), [])) := by
  have h1 := he.k; have h2 := he.f0; have h3 := he.f1; have h4 := he.f2; have h5 := he.v0; have h6 := he.v1
  have hv := ev_event_Valid e.f0 e.f1 e.f2 e.f3 e.f4 e.f5 e.f6
  rw [he.valid] at hv
  have en : ((Go.bits .andNot .i64 e.f3 255) != 0) = false := by rw [andNot255 h5 h6]; rfl
  have hp : 0 < d.length := List.length_pos_iff.mpr h0
  have z1 : (strOfNums [e.f3]).size = 1 := size_str _
  have zd := size_str d
  unfold modbus_Step.f
  refine Ev.bind (ev_mod_Check c) (Ev.pos hc (Ev.bind hv (Ev.pos rfl (Ev.pos h1 (Ev.neg (by omega) ?_)))))
  rw [en]
  refine Ev.step (fun k => modbus_Step.j0.eq_2 ..) ?_
  refine Ev.neg (by decide) ?_
  refine Ev.step (fun k => modbus_Step.j1.eq_2 ..) ?_
  refine Ev.pos he.f (Ev.pos (by omega) ?_)
  rw [w64 (x := e.f1 - aux) (by omega) (by omega)]
  refine Ev.step (fun k => modbus_Step.j2.eq_2 ..) ?_
  by_cases hg : e.f1 - aux > c
  · rw [decide_eq_true hg, if_pos hg]
    refine Ev.pos rfl (Ev.bind (ev_finish 0 at_ 0 0 from_ aux d hb (by omega) h0) ?_)
    refine Ev.step (fun k => modbus_Step.j3.eq_2 ..) ?_
    rw [show e.f3 % 256 = e.f3 by omega]
    have e0 : (⟨#[]⟩ : ByteArray) ++ strOfNums [e.f3] = strOfNums [e.f3] := by rw [show (⟨#[]⟩ : ByteArray) = strOfNums [] from rfl, str_append]; rfl
    refine Ev.pos rfl (Ev.pos (by decide) (Ev.sbind (Ev.pos (by rw [z1]; decide) ?_)))
    rw [e0, show wrap64 (0 + 1) = 1 from w64 (x := 0 + 1) (by omega) (by omega)]
    exact Ev.now _
  · rw [decide_eq_false hg, if_neg hg]
    refine Ev.neg (by decide) ?_
    refine Ev.step (fun k => modbus_Step.j3.eq_2 ..) ?_
    rw [show e.f3 % 256 = e.f3 by omega, wnat (by omega), List.length_append, List.length_singleton]
    refine Ev.neg (by omega) (Ev.pos (by omega) (Ev.sbind (Ev.pos (by omega) ?_)))
    rw [str_append]
    exact Ev.now _
theorem ev_Decode_l0 (c : Int) (hc : chkM c = 0) (l : List S32) (hl : l.length < 4000) (hB : ∀ e ∈ l, ByteE e) : ∀ (q pre : List S32) (out : List S32) (at_ from_ aux : Int) (d : List Int) (i : Nat), l = pre ++ q → i = pre.length → d ≠ [] → d.length ≤ i → out.length ≤ i → Byts d → (∀ e ∈ q, at_ ≤ e.f1) → q.Pairwise (fun e e' => e.f1 ≤ e'.f1) → 0 ≤ aux → aux ≤ 1099511627776 →
    Ev (fun k => modbus_Decode.l0 k out l (l.length : Int) (i : Int) c 0 at_ from_ (d.length : Int) 0 aux 0 (strOfNums d)) (out ++ decM c q from_ aux d) := by
  intro q
  induction q with
  | nil =>
    intro pre out at_ from_ aux d i he hi h0 hd ho hb ha hp hx0 hx1
    rw [List.append_nil] at he
    have hi' : i = l.length := by rw [hi, he]
    clear he
    have hE : Ev (fun k => modbus_End.f k c 0 at_ from_ (d.length : Int) 0 aux 0 (strOfNums d)) [frameM from_ aux d] := by
      unfold modbus_End.f
      exact Ev.bind (ev_mod_Check c) (Ev.pos hc (Ev.bind (ev_finish 0 at_ 0 0 from_ aux d hb (by omega) h0) (Ev.now _)))
    refine Ev.step (fun k => modbus_Decode.l0.eq_2 ..) ?_
    rw [decM]
    exact Ev.neg (by omega) (Ev.bind hE (Ev.pos (by rw [List.length_singleton]; omega) (Ev.now _)))
  | cons e q ih =>
    intro pre out at_ from_ aux d i he hi h0 hd ho hb ha hp hx0 hx1
    have hlen : l.length = i + (q.length + 1) := by rw [he, hi, List.length_append, List.length_cons]
    have hx : rd_T32 l (i : Int) = e := by rw [he]; exact rdE_mid pre e q i hi
    have hBe := hB e (by rw [he]; simp)
    have h1 := ha e (by simp)
    obtain ⟨hp1, hp2⟩ := List.pairwise_cons.mp hp
    have g1 := hBe.f0; have g2 := hBe.f1; have g3 := hBe.f2; have g4 := hBe.v0; have g5 := hBe.v1
    have ih2 := fun out' from' d' hd0 hd1 ho' hb' => ih (pre ++ [e]) out' e.f1 from' e.f2 d' (i + 1) (by rw [he]; simp) (by simp [hi]) hd0 hd1 ho' hb' hp1 hp2 (by omega) g3
    clear ih he
    have hbe : Byts [e.f3] := Byts.cons (by omega) Byts.nil
    refine Ev.step (fun k => modbus_Decode.l0.eq_2 ..) ?_
    rw [hx, wnat (by omega), decM]
    refine Ev.pos (by omega) (Ev.pos (by omega) (Ev.pos (by omega) (Ev.bind (ev_step_in c hc at_ from_ aux d hb (by omega) h0 e hBe h1 hx0 hx1) ?_)))
    by_cases hg : e.f1 - aux > c
    · rw [if_pos hg, if_pos hg]
      refine Ev.pos (by rw [List.length_singleton]; omega) ?_
      have := ih2 (out ++ [frameM from_ aux d]) e.f1 [e.f3] (by simp) (by simp) (by simp; omega) hbe
      rw [List.append_assoc] at this
      exact this
    · rw [if_neg hg, if_neg hg]
      refine Ev.pos (by rw [List.length_nil]; omega) ?_
      rw [List.append_nil]
      exact ih2 out from_ (d ++ [e.f3]) (by simp) (by simp; omega) (by omega) (hb.append hbe)
/-- What is decoded of bytes. -/
theorem ev_Decode (c : Int) (hc : chkM c = 0) (e : S32) (q : List S32) (hl : q.length + 1 < 4000) (hB : ∀ x ∈ e :: q, ByteE x) (hp : (e :: q).Pairwise (fun e e' => e.f1 ≤ e'.f1)) : Ev (fun k => modbus_Decode.f k c (e :: q)) (decM c q e.f1 e.f2 [e.f3]) := by
  have hBe := hB e (by simp)
  obtain ⟨hp1, hp2⟩ := List.pairwise_cons.mp hp
  have g1 := hBe.f0; have g2 := hBe.f1; have g3 := hBe.f2; have g4 := hBe.v0; have g5 := hBe.v1
  have hbe : Byts [e.f3] := Byts.cons (by omega) Byts.nil
  unfold modbus_Decode.f modbus_Start.f
  refine Ev.sbind ?_
  have h := ev_Decode_l0 c hc (e :: q) (by simpa using hl) hB q [e] [] e.f1 e.f1 e.f2 [e.f3] 1 rfl rfl (by simp) (by simp) (by simp) hbe hp1 hp2 (by omega) g3
  have hx : rd_T32 (e :: q) 0 = e := rdE_mid [] e q 0 rfl
  refine Ev.step (fun k => modbus_Decode.l0.eq_2 ..) ?_
  rw [hx, show wrap64 (0 + 1) = ((1 : Nat) : Int) from w64 (x := 0 + 1) (by omega) (by omega)]
  refine Ev.pos (by simp) (Ev.pos (by decide) (Ev.pos (by simp) (Ev.bind (ev_step_start c hc 0 0 0 e hBe g1) ?_)))
  refine Ev.pos (by simp) ?_
  exact h
theorem ev_ref30_Check (c : Int) : Ev (fun _ => signalbenchref30_Check.f c) (chkM c) := by
  refine Ev.now' fun _ => ?_
  unfold signalbenchref30_Check.f chkM
  repeat' split
  all_goals first | rfl | omega
/-- What stands outside the lowest eight bits. -/
theorem andNot_big {v : Int} (h0 : -9007199254740992 ≤ v) (h1 : v ≤ 9007199254740992) (h : Go.bits .andNot .i64 v 255 = 0) : 0 ≤ v ∧ v ≤ 255 := by
  have e : Go.bits .andNot .i64 v 255 = wrap64 ((BitVec.ofInt 64 v &&& ~~~(BitVec.ofInt 64 255)).toNat : Int) := i64_wrap _
  rw [e] at h
  generalize hX : BitVec.ofInt 64 v = X at h
  have hlt := (X &&& ~~~(BitVec.ofInt 64 255)).isLt
  have hz : (X &&& ~~~(BitVec.ofInt 64 255)).toNat = 0 := by unfold wrap64 at h; omega
  have hx : X.toNat < 2 ^ 8 := by
    refine Nat.lt_pow_two_of_testBit _ fun i hi => ?_
    have h2 : (X &&& ~~~(BitVec.ofInt 64 255)).toNat.testBit i = false := by rw [hz]; simp
    by_cases h64 : i < 64
    · rw [BitVec.testBit_toNat, BitVec.getLsbD_and, BitVec.getLsbD_not] at h2
      have h255 : (BitVec.ofInt 64 255).getLsbD i = false := by
        rw [show BitVec.ofInt 64 255 = BitVec.ofNat 64 255 from rfl, BitVec.getLsbD_ofNat]
        have : Nat.testBit 255 i = false := Nat.testBit_lt_two_pow (Nat.lt_of_lt_of_le (by decide : 255 < 2 ^ 8) (Nat.pow_le_pow_right (by decide) hi))
        rw [this]; simp
      rw [h255] at h2
      have h3 : X.getLsbD i = false := by simpa [h64] using h2
      rw [BitVec.testBit_toNat]
      exact h3
    · exact Nat.testBit_lt_two_pow (Nat.lt_of_lt_of_le X.isLt (Nat.pow_le_pow_right (by decide) (by omega)))
  rw [← hX, BitVec.toNat_ofInt] at hx
  omega
def accM (a : Int) (e : S32) : Bool := decide (e.f0 = 3) && (validE e.f0 e.f1 e.f2 e.f3 e.f4 e.f5 e.f6 && (decide (a ≤ e.f1) && decide (0 ≤ e.f3 ∧ e.f3 ≤ 255)))
theorem accM_ok {a : Int} {e : S32} (h : accM a e = true) : e.f0 = 3 ∧ validE e.f0 e.f1 e.f2 e.f3 e.f4 e.f5 e.f6 = true ∧ a ≤ e.f1 ∧ 0 ≤ e.f3 ∧ e.f3 ≤ 255 := by
  simpa [accM] using h
theorem accM_times {a : Int} {e : S32} (h : accM a e = true) : 0 ≤ e.f1 ∧ e.f1 ≤ e.f2 ∧ e.f2 ≤ 1099511627776 := by
  have := (accM_ok h).2.1
  unfold validE at this
  rw [decide_eq_true_eq] at this
  omega
theorem refM_valid (x : S32) : signalbenchref07_Valid.f x.f0 x.f1 x.f2 x.f3 x.f4 x.f5 x.f6 = some (validE x.f0 x.f1 x.f2 x.f3 x.f4 x.f5 x.f6) := by
  unfold signalbenchref07_Valid.f validE
  repeat' split
  all_goals first
    | (rw [decide_eq_false (by omega)])
    | (congr 1; rw [decide_eq_decide]; omega)
theorem refM_acc (a0 a1 a2 a3 a4 a5 a : Int) (s : ByteArray) (e : S32) : signalbenchref30_accepted.f a0 a1 a2 a3 a4 a5 a s e.f0 e.f1 e.f2 e.f3 e.f4 e.f5 e.f6 = some (accM a e) := by
  unfold signalbenchref30_accepted.f accM
  rw [refM_valid, Option.bind_some]
  cases validE e.f0 e.f1 e.f2 e.f3 e.f4 e.f5 e.f6
  · simp
  · rw [if_pos rfl]
    by_cases h0 : e.f0 = 3
    · rw [if_pos h0, decide_eq_true h0]
      by_cases h3 : e.f3 ≥ 0
      · rw [if_pos h3]
        by_cases h4 : e.f3 ≤ 255
        · rw [if_pos h4, decide_eq_true (show 0 ≤ e.f3 ∧ e.f3 ≤ 255 from ⟨h3, h4⟩)]; simp
        · rw [if_neg h4, decide_eq_false (show ¬ (0 ≤ e.f3 ∧ e.f3 ≤ 255) from fun h => h4 h.2)]; simp
      · rw [if_neg h3, decide_eq_false (show ¬ (0 ≤ e.f3 ∧ e.f3 ≤ 255) from fun h => h3 h.1)]; simp
    · rw [if_neg h0, decide_eq_false h0]; rfl
/-- The event of a frame of any length. -/
def frX (f x : Int) (d : List Int) : S32 :=
  if d.length ≤ 4100 then frameM f x d else ⟨5, f, x, bt (strOfNums (d.take 4100)) 0, bt (strOfNums (d.take 4100)) 1, (strOfNums (d.take 4100)).extract 2 4098, 8⟩
theorem ev_completeX (f x : Int) (d : List Int) (hb : Byts d) (hd : d.length ≤ 1000000) : Ev (fun k => modbus_frame_complete.f k f x (d.length : Int) (strOfNums (d.take 4100))) ((frX f x d).f0, (frX f x d).f1, (frX f x d).f2, (frX f x d).f3, (frX f x d).f4, (frX f x d).f5, (frX f x d).f6) := by
  unfold frX
  by_cases h : d.length ≤ 4100
  · rw [if_pos h, List.take_of_length_le h]
    exact ev_complete f x d hb h
  · rw [if_neg h]
    have hz : (strOfNums (d.take 4100)).size = 4100 := by rw [size_str, List.length_take]; omega
    have w0 := bt_lo (strOfNums (d.take 4100)) 0
    have w1 := bt_hi (strOfNums (d.take 4100)) 0
    have w2 := bt_lo (strOfNums (d.take 4100)) 1
    have w3 := bt_hi (strOfNums (d.take 4100)) 1
    unfold modbus_frame_complete.f
    rw [hz, w64 (x := bt (strOfNums (d.take 4100)) 0) (by omega) (by omega), w64 (x := bt (strOfNums (d.take 4100)) 1) (by omega) (by omega)]
    exact Ev.neg (by omega) (Ev.pos (by omega) (Ev.pos (by omega) (Ev.pos (by omega) (Ev.pos (by omega) (Ev.pos (by omega) (Ev.now _))))))
theorem ev_finishX (a0 a1 a4 a6 f x : Int) (d : List Int) (hb : Byts d) (hd : d.length ≤ 1000000) (h0 : d ≠ []) : Ev (fun k => modbus_finish.f k a0 a1 f (d.length : Int) a4 x a6 (strOfNums (d.take 4100))) [frX f x d] := by
  have : 0 < d.length := List.length_pos_iff.mpr h0
  unfold modbus_finish.f
  exact Ev.neg (by omega) (Ev.bind (ev_completeX f x d hb hd) (Ev.now _))
/-- One step: the bytes, the frame's beginning, the end of its last byte, the times of the last event, the events. -/
def stM (c : Int) (d : List Int) (f x a p : Int) (e : S32) : List Int × Int × Int × Int × Int × List S32 :=
  if chkM c = 0 ∧ accM a e = true then
    (if e.f6 = 0 then
      (if d = [] then ([e.f3], e.f1, e.f2, e.f1, e.f2, [])
       else if e.f1 - x > c then ([e.f3], e.f1, e.f2, e.f1, e.f2, [frX f x d]) else (d ++ [e.f3], f, e.f2, e.f1, e.f2, []))
     else ([], 0, 0, e.f1, e.f2, if d = [] then [] else [⟨5, f, e.f1, 0, 0, (⟨#[]⟩ : ByteArray), 7⟩]))
  else (d, f, x, a, p, [])
structure IM (d : List Int) (f x a : Int) (n : Nat) : Prop where
  b : Byts d
  z : d = [] → f = 0 ∧ x = 0
  fa : f ≤ a
  a0 : 0 ≤ a
  x0 : 0 ≤ x
  x1 : x ≤ 1099511627776
  n : d.length ≤ n
theorem stM_ok (c : Int) (d : List Int) (f x a p : Int) (e : S32) (n : Nat) (h : IM d f x a n) : IM (stM c d f x a p e).1 (stM c d f x a p e).2.1 (stM c d f x a p e).2.2.1 (stM c d f x a p e).2.2.2.1 (n + 1) := by
  unfold stM
  by_cases hc : chkM c = 0 ∧ accM a e = true
  · rw [if_pos hc]
    obtain ⟨_, _, k1, k2, k3⟩ := accM_ok hc.2
    obtain ⟨t1, t2, t3⟩ := accM_times hc.2
    have hbe : Byts [e.f3] := Byts.cons (by omega) Byts.nil
    have hfa := h.fa
    have hn := h.n
    by_cases h6 : e.f6 = 0
    · rw [if_pos h6]
      by_cases hd : d = []
      · rw [if_pos hd]
        exact ⟨hbe, fun h => by simp at h, Int.le_refl _, t1, by dsimp only; omega, t3, by simp⟩
      · rw [if_neg hd]
        by_cases hg : e.f1 - x > c
        · rw [if_pos hg]
          exact ⟨hbe, fun h => by simp at h, Int.le_refl _, t1, by dsimp only; omega, t3, by simp⟩
        · rw [if_neg hg]
          exact ⟨h.b.append hbe, fun h => by simp at h, by dsimp only; omega, t1, by dsimp only; omega, t3, by simp; omega⟩
    · rw [if_neg h6]
      exact ⟨Byts.nil, fun _ => ⟨rfl, rfl⟩, t1, t1, by simp, by simp, by simp⟩
  · rw [if_neg hc]
    exact ⟨h.b, h.z, h.fa, h.a0, h.x0, h.x1, Nat.le_succ_of_le h.n⟩
theorem stM_len (c : Int) (d : List Int) (f x a p : Int) (e : S32) : (stM c d f x a p e).2.2.2.2.2.length ≤ 1 := by
  unfold stM
  repeat' split
  all_goals simp
theorem take_snoc1 (d : List Int) (v : Int) (n : Nat) (h : d.length < n) : (d ++ [v]).take n = d ++ [v] := List.take_of_length_le (by simp; omega)
theorem ev_stM (c : Int) (d : List Int) (f x a p : Int) (e : S32) (n : Nat) (hI : IM d f x a n) (hn : n ≤ 1000000) :
    Ev (fun k => modbus_Step.f k c 0 a f (d.length : Int) 0 x 0 (strOfNums (d.take 4100)) e.f0 e.f1 e.f2 e.f3 e.f4 e.f5 e.f6)
      (0, (stM c d f x a p e).2.2.2.1, (stM c d f x a p e).2.1, ((stM c d f x a p e).1.length : Int), 0, (stM c d f x a p e).2.2.1, 0, strOfNums ((stM c d f x a p e).1.take 4100), (stM c d f x a p e).2.2.2.2.2) := by
  have hno : ¬ (chkM c = 0 ∧ accM a e = true) → Ev (fun k => modbus_Step.j0 k true c 0 a f (d.length : Int) 0 x 0 (strOfNums (d.take 4100)) e.f0 e.f1 e.f2 e.f3 e.f4 e.f5 e.f6) (0, (stM c d f x a p e).2.2.2.1, (stM c d f x a p e).2.1, ((stM c d f x a p e).1.length : Int), 0, (stM c d f x a p e).2.2.1, 0, strOfNums ((stM c d f x a p e).1.take 4100), (stM c d f x a p e).2.2.2.2.2) := by
    intro h
    unfold stM
    rw [if_neg h]
    refine Ev.step (fun k => modbus_Step.j0.eq_2 ..) ?_
    exact Ev.pos rfl (Ev.now _)
  have hv := ev_event_Valid e.f0 e.f1 e.f2 e.f3 e.f4 e.f5 e.f6
  unfold modbus_Step.f
  refine Ev.bind (ev_mod_Check c) (Ev.ite (fun hc => ?_) (fun hc => hno (fun h => hc h.1)))
  refine Ev.bind hv (Ev.ite (fun hval => ?_) (fun hval => hno (fun h => hval (accM_ok h.2).2.1)))
  refine Ev.ite (fun h3 => ?_) (fun h3 => hno (fun h => h3 (accM_ok h.2).1))
  refine Ev.ite (fun h1 => hno (fun h => by have := (accM_ok h.2).2.2.1; omega)) (fun h1 => ?_)
  have hvr : -9007199254740992 ≤ e.f3 ∧ e.f3 ≤ 9007199254740992 ∧ 0 ≤ e.f1 ∧ e.f1 ≤ e.f2 ∧ e.f2 ≤ 1099511627776 := by
    have := hval
    unfold validE at this
    rw [decide_eq_true_eq] at this
    omega
  by_cases hnot : Go.bits .andNot .i64 e.f3 255 = 0
  case neg =>
    rw [show ((Go.bits .andNot .i64 e.f3 255) != 0) = true from bne_iff_ne.mpr hnot]
    exact hno (fun h => hnot (andNot255 (accM_ok h.2).2.2.2.1 (accM_ok h.2).2.2.2.2))
  obtain ⟨v0, v1⟩ := andNot_big hvr.1 hvr.2.1 hnot
  rw [show ((Go.bits .andNot .i64 e.f3 255) != 0) = false by rw [hnot]; rfl]
  have hac : accM a e = true := by
    unfold accM
    rw [hval, decide_eq_true h3, decide_eq_true (show a ≤ e.f1 by omega), decide_eq_true (show 0 ≤ e.f3 ∧ e.f3 ≤ 255 from ⟨v0, v1⟩)]
    rfl
  clear hno hv
  have hfa := hI.fa
  have hdn := hI.n
  have hx0 := hI.x0
  have hx1 := hI.x1
  have hst : stM c d f x a p e = (if e.f6 = 0 then
      (if d = [] then ([e.f3], e.f1, e.f2, e.f1, e.f2, [])
       else if e.f1 - x > c then ([e.f3], e.f1, e.f2, e.f1, e.f2, [frX f x d]) else (d ++ [e.f3], f, e.f2, e.f1, e.f2, []))
     else ([], 0, 0, e.f1, e.f2, if d = [] then [] else [⟨5, f, e.f1, 0, 0, (⟨#[]⟩ : ByteArray), 7⟩])) := by unfold stM; rw [if_pos ⟨hc, hac⟩]
  rw [hst]
  have z1 : (strOfNums [e.f3]).size = 1 := size_str _
  have zt : (strOfNums (d.take 4100)).size ≤ 4100 := by rw [size_str, List.length_take]; omega
  have e0 : (⟨#[]⟩ : ByteArray) ++ strOfNums [e.f3] = strOfNums [e.f3] := by rw [show (⟨#[]⟩ : ByteArray) = strOfNums [] from rfl, str_append]; rfl
  have hmod : e.f3 % 256 = e.f3 := by omega
  -- the first byte
  have hfirst : ∀ (a0' a1' a2' a5' : Int) (s : ByteArray) (out : List S32), s = (⟨#[]⟩ : ByteArray) → Ev (fun k => modbus_Step.j3 k out 0 a1' a2' 0 0 a5' 0 s e.f0 e.f1 e.f2 e.f3 e.f4 e.f5 e.f6) (0, e.f1, e.f1, (([e.f3].length : Nat) : Int), 0, e.f2, 0, strOfNums ([e.f3].take 4100), out) := by
    intro a0' a1' a2' a5' s out hs
    subst hs
    refine Ev.step (fun k => modbus_Step.j3.eq_2 ..) ?_
    rw [hmod]
    refine Ev.pos rfl (Ev.pos (by decide) (Ev.sbind (Ev.pos (by rw [z1]; decide) ?_)))
    rw [e0, show wrap64 (0 + 1) = 1 from w64 (x := 0 + 1) (by omega) (by omega)]
    exact Ev.now _
  refine Ev.step (fun k => modbus_Step.j0.eq_2 ..) ?_
  refine Ev.neg (by decide) ?_
  refine Ev.step (fun k => modbus_Step.j1.eq_2 ..) ?_
  refine Ev.ite (fun h6 => ?_) (fun h6 => ?_)
  · rw [if_pos h6]
    by_cases hd : d = []
    · obtain ⟨rfl, rfl⟩ := hI.z hd
      subst hd
      rw [if_pos rfl]
      refine Ev.neg (by simp) ?_
      refine Ev.step (fun k => modbus_Step.j2.eq_2 ..) ?_
      refine Ev.neg (by decide) ?_
      exact hfirst 0 a 0 0 _ [] rfl
    · have hp : 0 < d.length := List.length_pos_iff.mpr hd
      rw [if_neg hd, w64 (x := e.f1 - x) (by omega) (by omega)]
      refine Ev.pos (by omega) ?_
      refine Ev.step (fun k => modbus_Step.j2.eq_2 ..) ?_
      by_cases hg : e.f1 - x > c
      · rw [if_pos hg, decide_eq_true hg]
        exact Ev.pos rfl (Ev.bind (ev_finishX 0 a 0 0 f x d hI.b (by omega) hd) (hfirst 0 0 0 0 _ _ rfl))
      · rw [if_neg hg, decide_eq_false hg]
        refine Ev.neg (by decide) ?_
        refine Ev.step (fun k => modbus_Step.j3.eq_2 ..) ?_
        rw [hmod, wnat (by omega), List.length_append, List.length_singleton]
        refine Ev.neg (by omega) (Ev.ite (fun hs => ?_) (fun hs => ?_))
        · have hl : d.length < 4100 := by rw [size_str, List.length_take] at hs; omega
          refine Ev.sbind (Ev.pos (by omega) ?_)
          rw [str_append, List.take_of_length_le (by omega : d.length ≤ 4100), take_snoc1 d _ _ hl]
          exact Ev.now _
        · have hl : 4100 ≤ d.length := by rw [size_str, List.length_take] at hs; omega
          rw [List.take_append_of_le_length hl]
          exact Ev.now _
  · rw [if_neg h6]
    by_cases hd : d = []
    · subst hd
      rw [if_pos rfl]
      exact Ev.neg (by simp) (Ev.now _)
    · have hp : 0 < d.length := List.length_pos_iff.mpr hd
      rw [if_neg hd]
      have hmx : mx f e.f1 = e.f1 := by unfold mx; split <;> omega
      rw [hmx]
      exact Ev.pos (by omega) (Ev.pos (by decide) (Ev.now _))
theorem take_get0 (d : List Int) (n i : Nat) (h : i < n) : (d.take n)[i]? = d[i]? := List.getElem?_take_of_lt h
theorem btM_some {xs : List Int} (h : Byts xs) {i : Nat} {x : Int} (hi : xs[i]? = some x) : bt (strOfNums xs) (i : Int) = x := by
  obtain ⟨h1, h2⟩ := List.getElem?_eq_some_iff.mp hi
  rw [bt_str h i h1, h2]
theorem ev_refframe (a0 a1 a3 a5 a6 f x : Int) (d : List Int) (hb : Byts d) (hd : d.length ≤ 1000000) (h0 : d ≠ []) : Ev (fun k => signalbenchref30_frame.f k a0 a1 f a3 x a5 a6 (strOfNums (d.take 4101))) ((frX f x d).f0, (frX f x d).f1, (frX f x d).f2, (frX f x d).f3, (frX f x d).f4, (frX f x d).f5, (frX f x d).f6) := by
  unfold frX
  by_cases h : d.length ≤ 4100
  · rw [if_pos h, List.take_of_length_le (by omega : d.length ≤ 4101)]
    have hz := size_str d
    unfold signalbenchref30_frame.f frameM
    rw [hz]
    refine Ev.ite (fun h4 => ?_) (fun h4 => ?_)
    · rw [if_pos (show d.length < 4 by omega)]
      exact Ev.now _
    rw [if_neg (show ¬ d.length < 4 by omega)]
    have w0 := bt_lo (strOfNums d) 0
    have w1 := bt_hi (strOfNums d) 0
    have w2 := bt_lo (strOfNums d) 1
    have w3 := bt_hi (strOfNums d) 1
    have ew : wrap64 ((d.length : Int) - 2) = ((d.length - 2 : Nat) : Int) := by rw [w64 (by omega) (by omega)]; omega
    have ew1 : wrap64 ((d.length : Int) - 1) = ((d.length - 1 : Nat) : Int) := by rw [w64 (by omega) (by omega)]; omega
    rw [ew, ew1, Int.toNat_natCast, w64 (x := bt (strOfNums d) 0) (by omega) (by omega), w64 (x := bt (strOfNums d) 1) (by omega) (by omega)]
    clear ew ew1
    have hs := ev_ref_Crc ((strOfNums d).extract 0 (d.length - 2)) (by rw [str_extract hb, size_str, List.drop_zero, List.length_take]; omega)
    have e0 : bytesOf ((strOfNums d).extract 0 (d.length - 2)) = d.take (d.length - 2) := by rw [bytes_extract, bytes_str hb, List.drop_zero]
    rw [e0] at hs
    have g2 : bt (strOfNums d) ((d.length - 2 : Nat) : Int) = d[d.length - 2]'(by omega) := bt_str hb _ (by omega)
    have g1 : bt (strOfNums d) ((d.length - 1 : Nat) : Int) = d[d.length - 1]'(by omega) := bt_str hb _ (by omega)
    have b2 := hb _ (List.getElem_mem (show d.length - 2 < d.length by omega))
    have b1 := hb _ (List.getElem_mem (show d.length - 1 < d.length by omega))
    have hdr : d.drop (d.length - 2) = [d[d.length - 2]'(by omega), d[d.length - 1]'(by omega)] := by
      rw [List.drop_eq_getElem_cons (by omega)]
      congr 1
      rw [show d.length - 2 + 1 = d.length - 1 by omega, List.drop_eq_getElem_cons (by omega), show d.length - 1 + 1 = d.length by omega, List.drop_length]
    have hcr := crcM_lt (d.take (d.length - 2))
    rw [g2, g1]
    generalize d[d.length - 2]'(by omega) = u at b2 hdr ⊢
    generalize d[d.length - 1]'(by omega) = v at b1 hdr ⊢
    rw [w64 (x := u) (by omega) (by omega), w64 (x := v) (by omega) (by omega), w64 (x := 256 * v) (by omega) (by omega), w64 (x := u + 256 * v) (by omega) (by omega)]
    have hiff : ((crcM (d.take (d.length - 2)) : Nat) : Int) = u + 256 * v ↔ sumL (d.take (d.length - 2)) = d.drop (d.length - 2) := by
      rw [hdr]
      unfold sumL
      generalize crcM (d.take (d.length - 2)) = z at hcr
      constructor
      · intro hq
        rw [show (z : Int) % 256 = u by omega, show (z : Int) / 256 % 256 = v by omega]
      · intro hq
        have q1 := (List.cons.inj hq).1
        have q2 := (List.cons.inj (List.cons.inj hq).2).1
        omega
    refine Ev.pos (by omega) (Ev.pos (by omega) (Ev.neg (by omega) (Ev.pos (by omega) (Ev.pos (by omega) (Ev.pos (by omega) (Ev.bind hs (Ev.pos (by omega) (Ev.pos (by omega) (Ev.pos (by omega) (Ev.ite (fun hq => ?_) (fun hq => ?_)))))))))))
    · rw [if_pos (hiff.mp hq)]; exact Ev.now _
    · rw [if_neg (fun h => hq (hiff.mpr h))]; exact Ev.now _
  · rw [if_neg h]
    have hz : (strOfNums (d.take 4101)).size = 4101 := by rw [size_str, List.length_take]; omega
    have hb1 := byts_take hb 4101
    have hb0 := byts_take hb 4100
    have q0 : bt (strOfNums (d.take 4101)) 0 = bt (strOfNums (d.take 4100)) 0 := by
      have h1 : d[0]? = some (d[0]'(by omega)) := List.getElem?_eq_getElem _
      exact (btM_some hb1 (i := 0) ((take_get0 d 4101 0 (by omega)).trans h1)).trans (btM_some hb0 (i := 0) ((take_get0 d 4100 0 (by omega)).trans h1)).symm
    have q1 : bt (strOfNums (d.take 4101)) 1 = bt (strOfNums (d.take 4100)) 1 := by
      have h1 : d[1]? = some (d[1]'(by omega)) := List.getElem?_eq_getElem _
      exact (btM_some hb1 (i := 1) ((take_get0 d 4101 1 (by omega)).trans h1)).trans (btM_some hb0 (i := 1) ((take_get0 d 4100 1 (by omega)).trans h1)).symm
    have qe : (strOfNums (d.take 4101)).extract 2 4098 = (strOfNums (d.take 4100)).extract 2 4098 := by
      rw [str_extract hb1, str_extract hb0, List.take_take, List.take_take]
      rfl
    have w0 := bt_lo (strOfNums (d.take 4100)) 0
    have w1 := bt_hi (strOfNums (d.take 4100)) 0
    have w2 := bt_lo (strOfNums (d.take 4100)) 1
    have w3 := bt_hi (strOfNums (d.take 4100)) 1
    unfold signalbenchref30_frame.f
    rw [hz, q0, q1, qe, w64 (x := bt (strOfNums (d.take 4100)) 0) (by omega) (by omega), w64 (x := bt (strOfNums (d.take 4100)) 1) (by omega) (by omega)]
    exact Ev.neg (by omega) (Ev.pos (by omega) (Ev.pos (by omega) (Ev.pos (by omega) (Ev.pos (by omega) (Ev.pos (by omega) (Ev.now _))))))
def phM (d : List Int) : Int := if d = [] then 0 else 1
theorem ev_refM (c : Int) (d : List Int) (f x a p : Int) (e : S32) (n : Nat) (hI : IM d f x a n) (hn : n ≤ 1000000) :
    Ev (fun k => signalbenchref30_Step.f k c (phM d) p f 0 x 0 a (strOfNums (d.take 4101)) e.f0 e.f1 e.f2 e.f3 e.f4 e.f5 e.f6)
      (phM (stM c d f x a p e).1, (stM c d f x a p e).2.2.2.2.1, (stM c d f x a p e).2.1, 0, (stM c d f x a p e).2.2.1, 0, (stM c d f x a p e).2.2.2.1, strOfNums ((stM c d f x a p e).1.take 4101), (stM c d f x a p e).2.2.2.2.2) := by
  have hno : Ev (fun k => signalbenchref30_Step.j0 k true c (phM d) p f 0 x 0 a (strOfNums (d.take 4101)) e.f0 e.f1 e.f2 e.f3 e.f4 e.f5 e.f6) (phM d, p, f, 0, x, 0, a, strOfNums (d.take 4101), ([] : List S32)) := by
    refine Ev.step (fun k => signalbenchref30_Step.j0.eq_2 ..) ?_
    exact Ev.pos rfl (Ev.now _)
  unfold signalbenchref30_Step.f
  by_cases hc : chkM c = 0
  case neg =>
    have hs : stM c d f x a p e = (d, f, x, a, p, []) := by unfold stM; rw [if_neg (fun h => hc h.1)]
    rw [hs]
    exact Ev.bind (ev_ref30_Check c) (Ev.neg hc hno)
  by_cases ha : accM a e = true
  case neg =>
    have hs : stM c d f x a p e = (d, f, x, a, p, []) := by unfold stM; rw [if_neg (fun h => ha h.2)]
    rw [hs]
    refine Ev.bind (ev_ref30_Check c) (Ev.pos hc ?_)
    rw [refM_acc, Bool.eq_false_iff.mpr ha]
    exact Ev.sbind hno
  clear hno
  obtain ⟨k0, kv, k1, v0, v1⟩ := accM_ok ha
  obtain ⟨t1, t2, t3⟩ := accM_times ha
  have hfa := hI.fa
  have hdn := hI.n
  have hx0 := hI.x0
  have hx1 := hI.x1
  have hst : stM c d f x a p e = (if e.f6 = 0 then
      (if d = [] then ([e.f3], e.f1, e.f2, e.f1, e.f2, [])
       else if e.f1 - x > c then ([e.f3], e.f1, e.f2, e.f1, e.f2, [frX f x d]) else (d ++ [e.f3], f, e.f2, e.f1, e.f2, []))
     else ([], 0, 0, e.f1, e.f2, if d = [] then [] else [⟨5, f, e.f1, 0, 0, (⟨#[]⟩ : ByteArray), 7⟩])) := by unfold stM; rw [if_pos ⟨hc, ha⟩]
  rw [hst]
  have z1 : (strOfNums [e.f3]).size = 1 := size_str _
  have e0 : (⟨#[]⟩ : ByteArray) ++ strOfNums [e.f3] = strOfNums [e.f3] := by rw [show (⟨#[]⟩ : ByteArray) = strOfNums [] from rfl, str_append]; rfl
  have hmod : e.f3 % 256 = e.f3 := by omega
  have hfirst : ∀ (a1' a2' a4' a6' : Int) (s : ByteArray) (out : List S32), Ev (fun k => signalbenchref30_Step.j3 k out 0 a1' a2' 0 a4' 0 a6' s e.f0 e.f1 e.f2 e.f3 e.f4 e.f5 e.f6) (1, e.f2, e.f1, 0, e.f2, 0, e.f1, strOfNums ([e.f3].take 4101), out) := by
    intro a1' a2' a4' a6' s out
    refine Ev.step (fun k => signalbenchref30_Step.j3.eq_2 ..) ?_
    rw [hmod]
    refine Ev.pos rfl (Ev.pos (by decide) (Ev.sbind (Ev.pos (by rw [z1]; decide) ?_)))
    rw [e0]
    exact Ev.now _
  refine Ev.bind (ev_ref30_Check c) (Ev.pos hc ?_)
  rw [refM_acc, ha]
  refine Ev.sbind ?_
  refine Ev.step (fun k => signalbenchref30_Step.j0.eq_2 ..) ?_
  refine Ev.neg (by decide) ?_
  refine Ev.step (fun k => signalbenchref30_Step.j1.eq_2 ..) ?_
  refine Ev.sbind (Ev.ite (fun h6 => ?_) (fun h6 => ?_))
  · rw [if_pos h6]
    by_cases hd : d = []
    · obtain ⟨rfl, rfl⟩ := hI.z hd
      subst hd
      rw [if_pos rfl]
      refine Ev.neg (by decide) ?_
      refine Ev.step (fun k => signalbenchref30_Step.j2.eq_2 ..) ?_
      refine Ev.neg (by decide) ?_
      exact hfirst p 0 0 a _ []
    · have hp : 0 < d.length := List.length_pos_iff.mpr hd
      have hph : phM d = 1 := if_neg hd
      rw [if_neg hd, w64 (x := e.f1 - x) (by omega) (by omega), hph]
      refine Ev.pos rfl ?_
      refine Ev.step (fun k => signalbenchref30_Step.j2.eq_2 ..) ?_
      by_cases hg : e.f1 - x > c
      · rw [if_pos hg, decide_eq_true hg]
        exact Ev.pos rfl (Ev.bind (ev_refframe 1 p 0 0 a f x d hI.b (by omega) hd) (Ev.pos (by decide) (hfirst 0 0 0 0 _ _)))
      · rw [if_neg hg, decide_eq_false hg]
        refine Ev.neg (by decide) ?_
        have hph2 : phM (d ++ [e.f3]) = 1 := if_neg (by simp)
        rw [hph2]
        refine Ev.step (fun k => signalbenchref30_Step.j3.eq_2 ..) ?_
        rw [hmod]
        have zt : (strOfNums (d.take 4101)).size ≤ 4101 := by rw [size_str, List.length_take]; omega
        refine Ev.neg (by decide) (Ev.ite (fun hs => ?_) (fun hs => ?_))
        · have hl : d.length < 4101 := by rw [size_str, List.length_take] at hs; omega
          refine Ev.sbind (Ev.pos (by omega) ?_)
          rw [str_append, List.take_of_length_le (by omega : d.length ≤ 4101), take_snoc1 d _ _ hl]
          exact Ev.now _
        · have hl : 4101 ≤ d.length := by rw [size_str, List.length_take] at hs; omega
          rw [List.take_append_of_le_length hl]
          exact Ev.now _
  · rw [if_neg h6]
    by_cases hd : d = []
    · subst hd
      rw [if_pos rfl]
      exact Ev.neg (by decide) (Ev.now _)
    · have hph : phM d = 1 := if_neg hd
      rw [if_neg hd, hph]
      exact Ev.pos rfl (Ev.pos (by decide) (Ev.now _))
def enM (c : Int) (d : List Int) (f x : Int) : List S32 := if chkM c = 0 ∧ d ≠ [] then [frX f x d] else []
theorem enM_len (c : Int) (d : List Int) (f x : Int) : (enM c d f x).length ≤ 1 := by unfold enM; split <;> simp
theorem ev_enM (c : Int) (d : List Int) (f x a : Int) (n : Nat) (hI : IM d f x a n) (hn : n ≤ 1000000) : Ev (fun k => modbus_End.f k c 0 a f (d.length : Int) 0 x 0 (strOfNums (d.take 4100))) (enM c d f x) := by
  have hdn := hI.n
  unfold modbus_End.f enM
  refine Ev.bind (ev_mod_Check c) (Ev.ite (fun hc => ?_) (fun hc => ?_))
  · by_cases hd : d = []
    · rw [if_neg (fun h => h.2 hd)]
      subst hd
      refine Ev.bind (a := []) ?_ (Ev.now _)
      unfold modbus_finish.f
      exact Ev.pos rfl (Ev.now _)
    · rw [if_pos ⟨hc, hd⟩]
      exact Ev.bind (ev_finishX 0 a 0 0 f x d hI.b (by omega) hd) (Ev.now _)
  · rw [if_neg (fun h => hc h.1)]; exact Ev.now _
theorem ev_refenM (c : Int) (d : List Int) (f x a p : Int) (n : Nat) (hI : IM d f x a n) (hn : n ≤ 1000000) : Ev (fun k => signalbenchref30_End.f k c (phM d) p f 0 x 0 a (strOfNums (d.take 4101))) (enM c d f x) := by
  have hdn := hI.n
  unfold signalbenchref30_End.f enM
  refine Ev.bind (ev_ref30_Check c) (Ev.ite (fun hc => ?_) (fun hc => ?_))
  · by_cases hd : d = []
    · rw [if_neg (fun h => h.2 hd)]
      subst hd
      exact Ev.pos rfl (Ev.now _)
    · have hph : phM d = 1 := if_neg hd
      rw [if_pos ⟨hc, hd⟩, hph]
      exact Ev.neg (by decide) (Ev.bind (ev_refframe 1 p 0 0 a f x d hI.b (by omega) hd) (Ev.now _))
  · rw [if_neg (fun h => hc h.1)]; exact Ev.now _
def dcM (c : Int) : List Int → Int → Int → Int → Int → List S32 → List S32
  | d, f, x, _, _, [] => enM c d f x
  | d, f, x, a, p, e :: l => (stM c d f x a p e).2.2.2.2.2 ++ dcM c (stM c d f x a p e).1 (stM c d f x a p e).2.1 (stM c d f x a p e).2.2.1 (stM c d f x a p e).2.2.2.1 (stM c d f x a p e).2.2.2.2.1 l
theorem dcM_len (c : Int) : ∀ (l : List S32) (d : List Int) (f x a p : Int), (dcM c d f x a p l).length ≤ l.length + 1
  | [], d, f, x, a, p => by have := enM_len c d f x; rw [dcM]; simpa using this
  | e :: l, d, f, x, a, p => by
    have h1 := stM_len c d f x a p e
    have h2 := dcM_len c l (stM c d f x a p e).1 (stM c d f x a p e).2.1 (stM c d f x a p e).2.2.1 (stM c d f x a p e).2.2.2.1 (stM c d f x a p e).2.2.2.2.1
    rw [dcM, List.length_append, List.length_cons]; omega
theorem IM0 : IM [] 0 0 0 0 := ⟨Byts.nil, fun _ => ⟨rfl, rfl⟩, Int.le_refl _, Int.le_refl _, Int.le_refl _, by decide, Nat.le_refl _⟩
theorem ev_DecodeX (c : Int) (l : List S32) (hl : l.length ≤ 100000) : Ev (fun k => modbus_Decode.f k c l) (dcM c [] 0 0 0 0 l) := by
  have key : ∀ (q pre out : List S32) (d : List Int) (f x a p : Int) (i : Nat), IM d f x a i → l = pre ++ q → i = pre.length → out.length ≤ i → Ev (fun k => modbus_Decode.l0 k out l (l.length : Int) (i : Int) c 0 a f (d.length : Int) 0 x 0 (strOfNums (d.take 4100))) (out ++ dcM c d f x a p q) := by
    intro q
    induction q with
    | nil =>
      intro pre out d f x a p i hI he hi ho
      rw [List.append_nil] at he
      have hi' : i = l.length := by rw [hi, he]
      clear he
      have hab := enM_len c d f x
      rw [dcM]
      refine Ev.step (fun k => modbus_Decode.l0.eq_2 ..) ?_
      exact Ev.neg (by omega) (Ev.bind (ev_enM c d f x a i hI (by omega)) (Ev.pos (by omega) (Ev.now _)))
    | cons e q ih =>
      intro pre out d f x a p i hI he hi ho
      have hlen : l.length = i + (q.length + 1) := by rw [he, hi, List.length_append, List.length_cons]
      have hx : rd_T32 l (i : Int) = e := by rw [he]; exact rdE_mid pre e q i hi
      have hsl := stM_len c d f x a p e
      have ih2 := ih (pre ++ [e]) (out ++ (stM c d f x a p e).2.2.2.2.2) (stM c d f x a p e).1 (stM c d f x a p e).2.1 (stM c d f x a p e).2.2.1 (stM c d f x a p e).2.2.2.1 (stM c d f x a p e).2.2.2.2.1 (i + 1) (stM_ok c d f x a p e i hI) (by rw [he]; simp) (by simp [hi]) (by rw [List.length_append]; omega)
      rw [List.append_assoc] at ih2
      clear ih he
      refine Ev.step (fun k => modbus_Decode.l0.eq_2 ..) ?_
      rw [hx, wnat (by omega), dcM]
      exact Ev.pos (by omega) (Ev.pos (by omega) (Ev.pos (by omega) (Ev.bind (ev_stM c d f x a p e i hI (by omega)) (Ev.pos (by dsimp only; omega) ih2))))
  exact key l [] [] [] 0 0 0 0 0 IM0 rfl rfl (by simp)
theorem ev_refDecodeX (c : Int) (l : List S32) (hl : l.length ≤ 100000) : Ev (fun k => signalbenchref30_Decode.f k c l) (dcM c [] 0 0 0 0 l) := by
  have key : ∀ (q pre out : List S32) (d : List Int) (f x a p : Int) (i : Nat), IM d f x a i → l = pre ++ q → i = pre.length → out.length ≤ i → Ev (fun k => signalbenchref30_Decode.l0 k l out (i : Int) c (phM d) p f 0 x 0 a (strOfNums (d.take 4101))) (out ++ dcM c d f x a p q) := by
    intro q
    induction q with
    | nil =>
      intro pre out d f x a p i hI he hi ho
      rw [List.append_nil] at he
      have hi' : i = l.length := by rw [hi, he]
      clear he
      have hab := enM_len c d f x
      rw [dcM]
      refine Ev.step (fun k => signalbenchref30_Decode.l0.eq_2 ..) ?_
      exact Ev.neg (by omega) (Ev.bind (ev_refenM c d f x a p i hI (by omega)) (Ev.pos (by omega) (Ev.now _)))
    | cons e q ih =>
      intro pre out d f x a p i hI he hi ho
      have hlen : l.length = i + (q.length + 1) := by rw [he, hi, List.length_append, List.length_cons]
      have hx : rd_T32 l (i : Int) = e := by rw [he]; exact rdE_mid pre e q i hi
      have hsl := stM_len c d f x a p e
      have ih2 := ih (pre ++ [e]) (out ++ (stM c d f x a p e).2.2.2.2.2) (stM c d f x a p e).1 (stM c d f x a p e).2.1 (stM c d f x a p e).2.2.1 (stM c d f x a p e).2.2.2.1 (stM c d f x a p e).2.2.2.2.1 (i + 1) (stM_ok c d f x a p e i hI) (by rw [he]; simp) (by simp [hi]) (by rw [List.length_append]; omega)
      rw [List.append_assoc] at ih2
      clear ih he
      refine Ev.step (fun k => signalbenchref30_Decode.l0.eq_2 ..) ?_
      rw [hx, wnat (by omega), dcM]
      exact Ev.pos (by omega) (Ev.pos (by omega) (Ev.bind (ev_refM c d f x a p e i hI (by omega)) (Ev.pos (by dsimp only; omega) ih2)))
  exact key l [] [] [] 0 0 0 0 0 IM0 rfl rfl (by simp)
/-- Two lists of events that are one. -/
theorem ev_same (l : List S32) (hl : l.length < 1000000) : Ev (fun k => signalbenchlaw30_same.f k l l) true := by
  unfold signalbenchlaw30_same.f
  refine Ev.pos rfl ?_
  refine Ev.step (fun k => signalbenchlaw30_same.j0.eq_2 ..) ?_
  have key : ∀ (d i : Nat), i + d = l.length → Ev (fun k => signalbenchlaw30_same.l0 k l l (i : Int)) true := by
    intro d
    induction d with
    | zero =>
      intro i h
      refine Ev.step (fun k => signalbenchlaw30_same.l0.eq_2 ..) ?_
      exact Ev.neg (by omega) (Ev.now _)
    | succ d ih =>
      intro i h
      refine Ev.step (fun k => signalbenchlaw30_same.l0.eq_2 ..) ?_
      rw [wnat (by omega)]
      exact Ev.pos (by omega) (Ev.pos (by omega) (Ev.pos (by omega) (Ev.neg (by simp) (ih (i + 1) (by omega)))))
  exact key l.length 0 (by omega)
theorem ev_lives : Ev (fun k => signalbenchlaw30_lives.f k) true := by
  refine Ev.of (fun k => signalbenchlaw30_lives.mono k) (k := 80) ?_
  decide +kernel
theorem main : signalbenchlaw30_ModbusDecodes.Pure := by
  intro c l _ _ _ _
  refine Ev.rounds (g := fun k => signalbenchlaw30_ModbusDecodes.f k c l) ?_
  unfold signalbenchlaw30_ModbusDecodes.f
  refine Ev.bind ev_lives (Ev.pos rfl ?_)
  refine Ev.step (fun k => signalbenchlaw30_ModbusDecodes.j0.eq_2 ..) ?_
  refine Ev.ite (fun h => Ev.now _) (fun hl => ?_)
  refine Ev.step (fun k => signalbenchlaw30_ModbusDecodes.j1.eq_2 ..) ?_
  refine Ev.sbind (Ev.sbind ?_)
  have hdl := dcM_len c l [] 0 0 0 0
  have key : ∀ (q pre : List S32) (d : List Int) (f x a p : Int) (i : Nat), IM d f x a i → l = pre ++ q → i = pre.length → Ev (fun k => signalbenchlaw30_ModbusDecodes.l0 k l (i : Int) c 0 a f (d.length : Int) 0 x 0 (strOfNums (d.take 4100)) (phM d) p f 0 x 0 a (strOfNums (d.take 4101))) true := by
    intro q
    induction q with
    | nil =>
      intro pre d f x a p i hI he hi
      rw [List.append_nil] at he
      have hi' : i = l.length := by rw [hi, he]
      clear he
      have hab := enM_len c d f x
      refine Ev.step (fun k => signalbenchlaw30_ModbusDecodes.l0.eq_2 ..) ?_
      exact Ev.neg (by omega) (Ev.bind (ev_mod_Check c) (Ev.bind (ev_ref30_Check c) (Ev.pos rfl (Ev.bind (ev_enM c d f x a i hI (by omega)) (Ev.bind (ev_refenM c d f x a p i hI (by omega)) (Ev.bind (ev_same _ (by omega)) (Ev.pos rfl (Ev.bind (ev_DecodeX c l (by omega)) (Ev.bind (ev_refDecodeX c l (by omega)) (Ev.bind (ev_same _ (by omega)) (Ev.now _)))))))))))
    | cons e q ih =>
      intro pre d f x a p i hI he hi
      have hlen2 : l.length = i + (q.length + 1) := by rw [he, hi, List.length_append, List.length_cons]
      have hx : rd_T32 l (i : Int) = e := by rw [he]; exact rdE_mid pre e q i hi
      have hs1 := stM_len c d f x a p e
      have ih2 := ih (pre ++ [e]) (stM c d f x a p e).1 (stM c d f x a p e).2.1 (stM c d f x a p e).2.2.1 (stM c d f x a p e).2.2.2.1 (stM c d f x a p e).2.2.2.2.1 (i + 1) (stM_ok c d f x a p e i hI) (by rw [he]; simp) (by simp [hi])
      clear ih he
      refine Ev.step (fun k => signalbenchlaw30_ModbusDecodes.l0.eq_2 ..) ?_
      rw [hx, wnat (by omega)]
      exact Ev.pos (by omega) (Ev.pos (by omega) (Ev.bind (ev_stM c d f x a p e i hI (by omega)) (Ev.bind (ev_refM c d f x a p e i hI (by omega)) (Ev.bind (ev_same _ (by dsimp only; omega)) (Ev.pos rfl ih2)))))
  exact key l [] [] 0 0 0 0 0 IM0 rfl rfl
end ModbusDecodes_
theorem ModbusDecodes : signalbenchlaw30_ModbusDecodes.Pure := ModbusDecodes_.main
end Go.Proofs.YtmalhgidhieamaaDoor.Pure
