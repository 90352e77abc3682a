/- The law CheckLinear holds as a statement on numbers and lists: the CRC of the exclusive or of three sequences is the exclusive or of their CRCs. No condition beyond those of the statement. -/
import Derived.Test.YteeejopgaegaoaaDoorPCheckLinearx6
import Derived.Test.YteeejopgaegaoaaDoorSpecCrc
namespace Go.Proofs.YteeejopgaegaoaaDoor.Pure
open Go.RowKit Go.Proofs.YteeejopgaegaoaaDoor.PCheckLinear Go.Proofs.YteeejopgaegaoaaDoorW.PrintWords Go.Proofs.YteeejopgaegaoaaDoorW.PrintLast Go.Proofs.YteeejopgaegaoaaDoor.Aid
set_option linter.unusedVariables false
set_option linter.unusedSimpArgs false
namespace CheckLinear_
theorem ev_bits_Valid_l0 (s : ByteArray) (hs : s.size ≤ 65536) : ∀ (d i : Nat), i + d = s.size → Ev (fun k => bits_Valid.l0 k s (s.size : Int) (i : Int)) (((bytesOf s).drop i).all isB) := by
  intro d
  induction d with
  | zero =>
    intro i h
    refine Ev.stop fun k => ?_
    simp only [bits_Valid.l0]
    rw [if_neg (by omega), drop_end s i (by omega)]; rfl
  | succ d ih =>
    intro i h
    have e : wrap64 ((i : Int) + 1) = ((i + 1 : Nat) : Int) := by rw [w64 (by omega) (by omega)]; rfl
    rw [drop_cons s i (by omega), List.all_cons]
    by_cases h48 : bt s i = 48
    · have e2 : isB (bt s i) = true := isB_iff.mpr (.inl h48)
      rw [e2, Bool.true_and]
      refine Ev.step (fun k => ?_) (ih (i + 1) (by omega))
      simp only [bits_Valid.l0]
      rw [if_pos (by omega), if_pos (by omega), if_pos (by omega), if_pos h48, e]
    · by_cases h49 : bt s i = 49
      · have e2 : isB (bt s i) = true := isB_iff.mpr (.inr h49)
        rw [e2, Bool.true_and]
        refine Ev.step (fun k => ?_) (ih (i + 1) (by omega))
        simp only [bits_Valid.l0]
        rw [if_pos (by omega), if_pos (by omega), if_pos (by omega), if_neg h48, if_pos h49, e]
      · have e2 : isB (bt s i) = false := by simp [isB, h48, h49]
        rw [e2, Bool.false_and]
        refine Ev.stop fun k => ?_
        simp only [bits_Valid.l0]
        rw [if_pos (by omega), if_pos (by omega), if_pos (by omega), if_neg h48, if_neg h49]
theorem ev_bits_Valid (s : ByteArray) : Ev (fun k => bits_Valid.f k s) (vB s) := by
  unfold bits_Valid.f vB
  by_cases h : s.size ≤ 65536
  · rw [decide_eq_true h, Bool.true_and]
    refine Ev.congr (fun k => by rw [if_neg (by omega)]) ?_
    exact Ev.step (fun k => by simp only [bits_Valid.j0]; rfl) (ev_bits_Valid_l0 s h s.size 0 (by omega))
  · rw [decide_eq_false h, Bool.false_and]
    refine Ev.now' fun k => ?_
    rw [if_pos (by omega)]
theorem ev_check_Right (w p i x : Int) (refl : Bool) : Ev (fun k => check_Right.f k w p i x refl) (rightC w p i x) := by
  have hyes : 1 ≤ w ∧ w ≤ 32 → False → Ev (fun k => check_Right.j0 k true w p i x refl) (rightC w p i x) := fun _ h => h.elim
  have hj : ¬ (1 ≤ w ∧ w ≤ 32) → Ev (fun k => check_Right.j0 k true w p i x refl) (rightC w p i x) := by
    intro h
    have e : rightC w p i x = false := by unfold rightC; rw [decide_eq_false (by omega)]
    rw [e]
    refine Ev.step (fun k => check_Right.j0.eq_2 ..) ?_
    exact Ev.pos rfl (Ev.now _)
  clear hyes
  unfold check_Right.f
  refine Ev.ite (fun h1 => hj (by omega)) (fun h1 => ?_)
  by_cases h2 : w > 32
  · rw [decide_eq_true h2]; exact hj (by omega)
  rw [decide_eq_false h2]
  obtain ⟨n, rfl⟩ := Int.eq_ofNat_of_zero_le (show 0 ≤ w by omega)
  have hle := pow2_le32 (show n ≤ 32 by omega)
  have hp := pow2_pos n
  refine Ev.step (fun k => check_Right.j0.eq_2 ..) ?_
  refine Ev.neg (by decide) (Ev.pos (by omega) (Ev.now' fun _ => ?_))
  rw [shl_one (by omega), w64 (x := 2 ^ n - 1) (by omega) (by omega)]
  unfold rightC
  rw [Int.toNat_natCast]
  repeat' split
  all_goals first
    | (rw [decide_eq_false (by omega)])
    | (congr 1; rw [Int.tmod_eq_emod_of_nonneg (by omega), Bool.eq_iff_iff, beq_iff_eq, decide_eq_true_iff]; omega)
theorem ref04_Right (w p i x : Int) (refl : Bool) : signalbenchref04_Right.f w p i x refl = some (rightC w p i x) := by
  unfold signalbenchref04_Right.f
  by_cases h : 1 ≤ w ∧ w ≤ 32
  case neg =>
    have e : rightC w p i x = false := by unfold rightC; rw [decide_eq_false (by omega)]
    rw [e]
    by_cases h1 : w < 1
    · rw [if_pos h1]
    · rw [if_neg h1, if_pos (by omega)]
  obtain ⟨n, rfl⟩ := Int.eq_ofNat_of_zero_le (show 0 ≤ w by omega)
  have hle := pow2_le32 (show n ≤ 32 by omega)
  have hp := pow2_pos n
  rw [if_neg (by omega), if_neg (by omega), if_pos (by omega), shl_one (by omega), w64 (x := 2 ^ n - 1) (by omega) (by omega)]
  unfold rightC
  rw [Int.toNat_natCast]
  repeat' split
  all_goals first
    | (rw [decide_eq_false (by omega)])
    | (congr 1; rw [Int.tmod_eq_emod_of_nonneg (by omega), Bool.eq_iff_iff, beq_iff_eq, decide_eq_true_iff]; omega)
theorem check_shift {w p i x : Nat} (C : Crc w p i x) (refl : Bool) {r b : Nat} (hr : r < 2 ^ w) : check_shift.f (w : Int) p i x refl r b = some ((stepC w p r b : Nat) : Int) := by
  have hw := C.w1
  have hw2 := C.w2
  have hle := pow2_le32 hw2
  have hln := npow_le32 hw2
  have hpp := pow2_pos w
  have hP := C.hp
  have ht := top_lt hw hr
  have e1 : wrap64 ((w : Int) - 1) = ((w - 1 : Nat) : Int) := by rw [w64 (by omega) (by omega)]; omega
  have e2 : Go.bits .and .i64 (shr .i64 (r : Int) ((w - 1 : Nat) : Int)) 1 = ((r / 2 ^ (w - 1) : Nat) : Int) := by
    rw [nshr _ (by omega), and_one]
    generalize r / 2 ^ (w - 1) = z at ht
    omega
  have e3 : wrap64 ((r : Int) * 2) = ((2 * r : Nat) : Int) := by rw [w64 (by omega) (by omega)]; omega
  have hm : 2 * r % 2 ^ w < 2 ^ w := Nat.mod_lt _ (npow_pos w)
  unfold check_shift.f stepC
  rw [e1, if_pos (by omega), if_pos (by omega), e2, e3, shl_one (by omega), w64 (x := 2 ^ w - 1) (by omega) (by omega), nmask w (by omega) (by omega), nxor (by omega) (by omega)]
  by_cases h : r / 2 ^ (w - 1) = b
  · rw [if_pos h, if_pos (by rw [h])]
  · rw [if_neg h, if_neg (fun e => h (by exact_mod_cast e))]
theorem ev_check_finish {w p i x : Nat} (C : Crc w p i x) (refl : Bool) {r : Nat} (hr : r < 2 ^ w) : Ev (fun k => check_finish.f k (w : Int) p i x refl r) ((finC w x refl r : Nat) : Int) := by
  have hw2 := C.w2
  have hln := npow_le32 hw2
  have hX := C.hx
  have key : ∀ (d j acc q : Nat), j + d = w → acc < 2 ^ j → q < 4294967296 → Ev (fun k => check_finish.l0 k (q : Int) (acc : Int) (w : Int) (j : Int) (w : Int) p i x refl) ((revN d acc q ^^^ x : Nat) : Int) := by
    intro d
    induction d with
    | zero =>
      intro j acc q hj ha hq
      have hb : 2 ^ j ≤ 4294967296 := npow_le32 (by omega)
      refine Ev.step (fun k => check_finish.l0.eq_2 ..) ?_
      rw [nxor (by omega) (by omega)]
      exact Ev.neg (by omega) (Ev.now _)
    | succ d ih =>
      intro j acc q hj ha hq
      have hb : 2 ^ j ≤ 4294967296 := npow_le32 (by omega)
      have e1 : (q : Int) / 2 = ((q / 2 : Nat) : Int) := by omega
      have e2 : Go.bits .and .i64 (q : Int) 1 = ((q % 2 : Nat) : Int) := by rw [and_one]; omega
      have e3 : wrap64 ((acc : Int) * 2) = (acc : Int) * 2 ^ 1 := by rw [w64 (by omega) (by omega)]; omega
      have e4 : Go.bits .or .i64 ((acc : Int) * 2 ^ 1) ((q % 2 : Nat) : Int) = ((2 * acc + q % 2 : Nat) : Int) := by
        rw [or_add 1 (by omega) (by omega) (by omega) (by omega)]; omega
      refine Ev.step (fun k => check_finish.l0.eq_2 ..) ?_
      rw [e1, e2, e3, e4, wnat (by omega)]
      refine Ev.pos (by omega) (ih (j + 1) _ _ (by omega) ?_ (by omega))
      rw [Nat.pow_succ]; omega
  unfold check_finish.f finC
  cases refl
  · rw [nxor (by omega) (by omega)]
    exact Ev.neg (by decide) (Ev.now _)
  · exact Ev.pos rfl (key w 0 0 r (by omega) (by decide) (by omega))
theorem bit_nat {b : Int} (h : b = 48 ∨ b = 49) : (b - 48) % 256 = (((b - 48).toNat : Nat) : Int) := by omega
theorem ev_check_Bits_l1 {w p i x : Nat} (C : Crc w p i x) (refl : Bool) (s : ByteArray) (hs : s.size ≤ 65536) : ∀ (l pre : List Int) (r j : Nat), bytesOf s = pre ++ l → j = pre.length → AllB l → r < 2 ^ w →
    Ev (fun k => check_Bits.l1 k s (r : Int) (s.size : Int) (j : Int) (w : Int) p i x refl) (((finC w x refl (runC w p r l) : Nat) : Int), 0) := by
  have hlen := len_bytes s
  intro l
  induction l with
  | nil =>
    intro pre r j he hj hb hr
    rw [List.append_nil] at he
    rw [he] at hlen
    refine Ev.step (fun k => check_Bits.l1.eq_2 ..) ?_
    rw [runC]
    exact Ev.neg (by omega) (Ev.bind (ev_check_finish C refl hr) (Ev.now _))
  | cons b l ih =>
    intro pre r j he hj hb hr
    obtain ⟨hb1, hb⟩ := AllB.cons_iff.mp hb
    have hl : s.size = j + (l.length + 1) := by rw [← hlen, he, hj, List.length_append, List.length_cons]
    have hbt : bt s (j : Int) = b := by rw [bt_get s j (by omega)]; simp [he, hj]
    refine Ev.step (fun k => check_Bits.l1.eq_2 ..) ?_
    rw [hbt, wnat (by omega), bit_nat hb1, check_shift C refl hr, runC]
    exact Ev.pos (by omega) (Ev.pos (by omega) (Ev.pos (by omega) (Ev.sbind (ih (pre ++ [b]) _ (j + 1) (by rw [he]; simp) (by simp [hj]) hb (stepC_lt C r _)))))
theorem ev_check_Bits_l0 (w p i x : Int) (refl : Bool) (s : ByteArray) (hs : s.size ≤ 140737488355328) (res : Int × Int) : ∀ (l pre : List Int) (j : Nat), bytesOf s = pre ++ l → j = pre.length → (l.all isB = true → Ev (fun k => (bits_Valid.f k s).bind fun t => (if t = true then (check_Bits.j2 k s w p i x refl) else (some (0, 6)))) res) → (l.all isB = false → res = (0, 4)) →
    Ev (fun k => check_Bits.l0 k s (s.size : Int) (j : Int) w p i x refl) res := by
  have hlen := len_bytes s
  intro l
  induction l with
  | nil =>
    intro pre j he hj h0 h1
    rw [List.append_nil] at he
    rw [he] at hlen
    refine Ev.step (fun k => check_Bits.l0.eq_2 ..) ?_
    exact Ev.neg (by omega) (h0 rfl)
  | cons b l ih =>
    intro pre j he hj h0 h1
    have hl : s.size = j + (l.length + 1) := by rw [← hlen, he, hj, List.length_append, List.length_cons]
    have hbt : bt s (j : Int) = b := by rw [bt_get s j (by omega)]; simp [he, hj]
    rw [List.all_cons] at h0 h1
    have hnext : isB b = true → Ev (fun k => check_Bits.l0 k s (s.size : Int) ((j + 1 : Nat) : Int) w p i x refl) res := by
      intro hb
      rw [hb, Bool.true_and] at h0 h1
      exact ih (pre ++ [b]) (j + 1) (by rw [he]; simp) (by simp [hj]) h0 h1
    refine Ev.step (fun k => check_Bits.l0.eq_2 ..) ?_
    rw [hbt, wnat (by omega)]
    refine Ev.pos (by omega) (Ev.pos (by omega) (Ev.pos (by omega) (Ev.ite (fun h48 => hnext (isB_iff.mpr (.inl h48))) (fun h48 => Ev.ite (fun h49 => hnext (isB_iff.mpr (.inr h49))) (fun h49 => ?_)))))
    have e2 : isB b = false := by simp [isB, h48, h49]
    rw [h1 (by rw [e2, Bool.false_and])]
    exact Ev.now _
theorem ev_check_Bits (w p i x : Int) (refl : Bool) (s : ByteArray) (hs : s.size ≤ 140737488355328) : Ev (fun k => check_Bits.f k w p i x refl s) (bitsC w p i x refl s) := by
  unfold check_Bits.f bitsC
  refine Ev.bind (ev_check_Right w p i x refl) (Ev.ite (fun hc => ?_) (fun hc => ?_))
  case refine_2 => rw [if_neg hc]; exact Ev.now _
  rw [if_pos hc]
  obtain ⟨W, P, I, X, rfl, rfl, rfl, rfl, C⟩ := rightC_ok hc
  refine Ev.step (fun k => check_Bits.j0.eq_2 ..) ?_
  refine ev_check_Bits_l0 _ _ _ _ refl s hs _ (bytesOf s) [] 0 rfl rfl (fun hb => ?_) (fun hb => by rw [hb]; rfl)
  rw [if_pos hb]
  refine Ev.bind (ev_bits_Valid s) ?_
  unfold vB
  rw [hb, Bool.and_true]
  by_cases hl : s.size ≤ 65536
  · rw [if_pos hl, decide_eq_true hl]
    refine Ev.pos rfl ?_
    refine Ev.step (fun k => check_Bits.j2.eq_2 ..) ?_
    exact ev_check_Bits_l1 C refl s hl (bytesOf s) [] I 0 rfl rfl (all_isB.mp hb) C.hi
  · rw [if_neg hl, decide_eq_false hl]
    exact Ev.neg (by decide) (Ev.now _)
theorem ev_sound (s : ByteArray) (hs : s.size ≤ 140737488355328) : Ev (fun k => signalbenchlaw04_sound.f k s) ((bytesOf s).all isB) := by
  have hlen := len_bytes s
  have key : ∀ (l pre : List Int) (j : Nat), bytesOf s = pre ++ l → j = pre.length → Ev (fun k => signalbenchlaw04_sound.l0 k s (j : Int)) (l.all isB) := by
    intro l
    induction l with
    | nil =>
      intro pre j he hj
      rw [List.append_nil] at he
      rw [he] at hlen
      refine Ev.step (fun k => signalbenchlaw04_sound.l0.eq_2 ..) ?_
      exact Ev.neg (by omega) (Ev.now _)
    | cons b l ih =>
      intro pre j he hj
      have hl : s.size = j + (l.length + 1) := by rw [← hlen, he, hj, List.length_append, List.length_cons]
      have hbt : bt s (j : Int) = b := by rw [bt_get s j (by omega)]; simp [he, hj]
      have hn := ih (pre ++ [b]) (j + 1) (by rw [he]; simp) (by simp [hj])
      refine Ev.step (fun k => signalbenchlaw04_sound.l0.eq_2 ..) ?_
      rw [hbt, wnat (by omega), List.all_cons]
      refine Ev.pos (by omega) (Ev.pos (by omega) (Ev.ite (fun h48 => ?_) (fun h48 => Ev.ite (fun h49 => ?_) (fun h49 => ?_))))
      · rw [isB_iff.mpr (.inl h48), Bool.true_and]; exact hn
      · rw [isB_iff.mpr (.inr h49), Bool.true_and]; exact hn
      · rw [show isB b = false by simp [isB, h48, h49], Bool.false_and]; exact Ev.now _
  exact key (bytesOf s) [] 0 rfl rfl
theorem stepC_xor {w p : Nat} (hw : 1 ≤ w) (a b : Nat) (ha : a < 2 ^ w) (hb : b < 2 ^ w) (x y : Nat) (hx : x < 2) (hy : y < 2) : stepC w p (a ^^^ b) ((x + y) % 2) = stepC w p a x ^^^ stepC w p b y := by
  have hta := top_lt hw ha
  have htb := top_lt hw hb
  have ht : (a ^^^ b) / 2 ^ (w - 1) = (a / 2 ^ (w - 1) + b / 2 ^ (w - 1)) % 2 := by
    have h1 := Nat.testBit_xor a b (w - 1)
    have h2 := top_lt hw (Nat.xor_lt_two_pow ha hb)
    simp only [Nat.testBit_eq_decide_div_mod_eq] at h1
    generalize a / 2 ^ (w - 1) = u at *
    generalize b / 2 ^ (w - 1) = v at *
    generalize (a ^^^ b) / 2 ^ (w - 1) = z at *
    have cu : u = 0 ∨ u = 1 := by omega
    have cv : v = 0 ∨ v = 1 := by omega
    have cz : z = 0 ∨ z = 1 := by omega
    rcases cu with rfl | rfl <;> rcases cv with rfl | rfl <;> rcases cz with rfl | rfl <;> simp at h1 ⊢
  have hd : 2 * (a ^^^ b) % 2 ^ w = (2 * a % 2 ^ w) ^^^ (2 * b % 2 ^ w) := by
    rw [← Nat.xor_mod_two_pow]
    congr 1
    have := Nat.shiftLeft_xor_distrib (a := a) (b := b) (i := 1)
    simp only [Nat.shiftLeft_eq, Nat.pow_one] at this
    rw [Nat.mul_comm 2, Nat.mul_comm 2, Nat.mul_comm 2]
    exact this
  unfold stepC
  rw [ht, hd]
  generalize 2 * a % 2 ^ w = A
  generalize 2 * b % 2 ^ w = B
  generalize a / 2 ^ (w - 1) = u at *
  generalize b / 2 ^ (w - 1) = v at *
  have cu : u = 0 ∨ u = 1 := by omega
  have cv : v = 0 ∨ v = 1 := by omega
  have cx : x = 0 ∨ x = 1 := by omega
  have cy : y = 0 ∨ y = 1 := by omega
  have e1 : A ^^^ B ^^^ p = A ^^^ (B ^^^ p) := Nat.xor_assoc _ _ _
  have e2 : A ^^^ B ^^^ p = (A ^^^ p) ^^^ B := by rw [Nat.xor_assoc, Nat.xor_assoc, Nat.xor_comm B p]
  have e3 : A ^^^ B = (A ^^^ p) ^^^ (B ^^^ p) := by rw [Nat.xor_assoc, ← Nat.xor_assoc p B p, Nat.xor_comm p B, Nat.xor_assoc B p p, Nat.xor_self, Nat.xor_zero]
  rcases cu with rfl | rfl <;> rcases cv with rfl | rfl <;> rcases cx with rfl | rfl <;> rcases cy with rfl | rfl <;> simp [← e1, ← e2, ← e3]
/-- The bits of two sequences, the exclusive or of each pair. -/
def mixL : List Int → List Int → List Int
  | x :: l, y :: m => (48 + ((x - 48) + (y - 48)) % 2) :: mixL l m
  | _, _ => []
theorem mixL_bits : ∀ (l m : List Int), AllB (mixL l m)
  | [], _ => AllB.nil
  | _ :: _, [] => AllB.nil
  | x :: l, y :: m => AllB.cons_iff.mpr ⟨by omega, mixL_bits l m⟩
theorem mixL_len : ∀ (l m : List Int), l.length = m.length → (mixL l m).length = l.length
  | [], _, _ => rfl
  | _ :: _, [], h => by simp at h
  | x :: l, y :: m, h => by simp [mixL, mixL_len l m (by simpa using h)]
theorem runC_mix {w p i x : Nat} (C : Crc w p i x) : ∀ (l m : List Int) (a b : Nat), l.length = m.length → AllB l → AllB m → a < 2 ^ w → b < 2 ^ w → runC w p (a ^^^ b) (mixL l m) = runC w p a l ^^^ runC w p b m
  | [], [], _, _, _, _, _, _, _ => rfl
  | [], _ :: _, _, _, h, _, _, _, _ => by simp at h
  | _ :: _, [], _, _, h, _, _, _, _ => by simp at h
  | s :: l, t :: m, a, b, h, hl, hm, ha, hb => by
    obtain ⟨h1, hl⟩ := AllB.cons_iff.mp hl
    obtain ⟨h2, hm⟩ := AllB.cons_iff.mp hm
    have e : (48 + ((s - 48) + (t - 48)) % 2 - 48).toNat = ((s - 48).toNat + (t - 48).toNat) % 2 := by omega
    rw [mixL, runC, runC, runC, e, stepC_xor C.w1 a b ha hb _ _ (by omega) (by omega)]
    exact runC_mix C l m _ _ (by simpa using h) hl hm (stepC_lt C _ _) (stepC_lt C _ _)
theorem revN_xor : ∀ (n a b c d : Nat), revN n (a ^^^ b) (c ^^^ d) = revN n a c ^^^ revN n b d
  | 0, _, _, _, _ => rfl
  | n + 1, a, b, c, d => by
    have e1 : 2 * (a ^^^ b) + (c ^^^ d) % 2 = (2 * a + c % 2) ^^^ (2 * b + d % 2) := by
      apply Nat.eq_of_testBit_eq
      intro i
      rw [Nat.testBit_xor]
      cases i with
      | zero =>
        have h := Nat.testBit_xor c d 0
        simp only [Nat.testBit_zero] at h ⊢
        rw [show (2 * (a ^^^ b) + (c ^^^ d) % 2) % 2 = (c ^^^ d) % 2 by omega, show (2 * a + c % 2) % 2 = c % 2 by omega, show (2 * b + d % 2) % 2 = d % 2 by omega]
        exact h
      | succ i =>
        rw [Nat.testBit_succ, Nat.testBit_succ, Nat.testBit_succ, show (2 * (a ^^^ b) + (c ^^^ d) % 2) / 2 = a ^^^ b by omega, show (2 * a + c % 2) / 2 = a by omega, show (2 * b + d % 2) / 2 = b by omega, Nat.testBit_xor]
    have e2 : (c ^^^ d) / 2 = (c / 2) ^^^ (d / 2) := by
      apply Nat.eq_of_testBit_eq
      intro i
      simp only [Nat.testBit_xor, ← Nat.testBit_succ]
    rw [revN, e1, e2, revN_xor n]
    rfl
theorem finC_xor3 (w x : Nat) (refl : Bool) (a b c : Nat) : finC w x refl a ^^^ finC w x refl b ^^^ finC w x refl c = finC w x refl (a ^^^ b ^^^ c) := by
  have h3 : ∀ u v t : Nat, (u ^^^ x) ^^^ (v ^^^ x) ^^^ (t ^^^ x) = (u ^^^ v ^^^ t) ^^^ x := by
    intro u v t
    have : (u ^^^ x) ^^^ (v ^^^ x) = u ^^^ v := by rw [Nat.xor_assoc, ← Nat.xor_assoc x v x, Nat.xor_comm x v, Nat.xor_assoc v x x, Nat.xor_self, Nat.xor_zero]
    rw [this, ← Nat.xor_assoc]
  unfold finC
  rw [h3]
  cases refl
  · rfl
  · simp only [if_true]
    have e := revN_xor w 0 0 (a ^^^ b) c
    have e' := revN_xor w 0 0 a b
    rw [Nat.xor_zero] at e e'
    rw [e, e']
theorem ev_awake : Ev (fun k => signalbenchlaw04_awake.f k) true := by
  refine Ev.of (fun k => signalbenchlaw04_awake.mono k) (k := 80) ?_
  decide +kernel
theorem mix3 (a b c : Int) (ha : a = 48 ∨ a = 49) (hb : b = 48 ∨ b = 49) (hc : c = 48 ∨ c = 49) : 48 + (((48 + ((a - 48) + (b - 48)) % 2) - 48) + (c - 48)) % 2 = if (((a == 49) != (b == 49)) != (c == 49)) = true then 49 else 48 := by
  rcases ha with rfl | rfl <;> rcases hb with rfl | rfl <;> rcases hc with rfl | rfl <;> decide
theorem ev_mixed (x y z : ByteArray) (hs : x.size ≤ 200) (h1 : x.size = y.size) (h2 : x.size = z.size) (bx : AllB (bytesOf x)) (by_ : AllB (bytesOf y)) (bz : AllB (bytesOf z)) : Ev (fun k => signalbenchlaw04_mixed.f k x y z) (strOfNums (mixL (mixL (bytesOf x) (bytesOf y)) (bytesOf z))) := by
  have lx := len_bytes x
  have ly := len_bytes y
  have lz := len_bytes z
  have key : ∀ (l m n pl pm pn : List Int) (out : List Int) (j : Nat), bytesOf x = pl ++ l → bytesOf y = pm ++ m → bytesOf z = pn ++ n → j = pl.length → j = pm.length → j = pn.length → out.length = j → AllB l → AllB m → AllB n → l.length = m.length → l.length = n.length →
      Ev (fun k => signalbenchlaw04_mixed.l0 k x y z (strOfNums out) (j : Int)) (strOfNums (out ++ mixL (mixL l m) n)) := by
    intro l
    induction l with
    | nil =>
      intro m n pl pm pn out j e1 e2 e3 j1 j2 j3 ho b1 b2 b3 q1 q2
      rw [List.append_nil] at e1
      rw [e1] at lx
      obtain rfl : m = [] := List.eq_nil_of_length_eq_zero (by simpa using q1.symm)
      obtain rfl : n = [] := List.eq_nil_of_length_eq_zero (by simpa using q2.symm)
      refine Ev.step (fun k => signalbenchlaw04_mixed.l0.eq_2 ..) ?_
      rw [show mixL (mixL [] []) [] = [] from rfl, List.append_nil]
      exact Ev.neg (by omega) (Ev.now _)
    | cons a l ih =>
      intro m n pl pm pn out j e1 e2 e3 j1 j2 j3 ho b1 b2 b3 q1 q2
      match m, n, q1, q2 with
      | b :: m, c :: n, q1, q2 =>
      obtain ⟨a1, b1⟩ := AllB.cons_iff.mp b1
      obtain ⟨a2, b2⟩ := AllB.cons_iff.mp b2
      obtain ⟨a3, b3⟩ := AllB.cons_iff.mp b3
      have hl : x.size = j + (l.length + 1) := by rw [← lx, e1, j1, List.length_append, List.length_cons]
      have t1 : bt x (j : Int) = a := by rw [bt_get x j (by omega)]; simp [e1, j1]
      have t2 : bt y (j : Int) = b := by rw [bt_get y j (by omega)]; simp [e2, j2]
      have t3 : bt z (j : Int) = c := by rw [bt_get z j (by omega)]; simp [e3, j3]
      have hsz := size_str out
      have hn := ih m n (pl ++ [a]) (pm ++ [b]) (pn ++ [c]) (out ++ [if (((a == 49) != (b == 49)) != (c == 49)) = true then 49 else 48]) (j + 1) (by rw [e1]; simp) (by rw [e2]; simp) (by rw [e3]; simp) (by simp [j1]) (by simp [j2]) (by simp [j3]) (by simp [ho]) b1 b2 b3 (by simpa using q1) (by simpa using q2)
      rw [List.append_assoc, List.singleton_append, ← str_append] at hn
      refine Ev.step (fun k => signalbenchlaw04_mixed.l0.eq_2 ..) ?_
      rw [t1, t2, t3, wnat (by omega), mixL, mixL, mix3 a b c a1 a2 a3]
      refine Ev.pos (by omega) (Ev.pos (by omega) (Ev.pos (by omega) (Ev.pos (by omega) (Ev.ite (fun h => ?_) (fun h => ?_)))))
      · rw [if_pos h] at hn ⊢; exact Ev.pos (by omega) hn
      · rw [if_neg h] at hn ⊢; exact Ev.pos (by omega) hn
  exact key _ _ _ [] [] [] [] 0 rfl rfl rfl rfl rfl rfl rfl bx by_ bz (by omega) (by omega)
theorem main : signalbenchlaw04_CheckLinear.Pure := by
  intro w p i x refl a b c _ _ _ _ ha hb hc
  refine Ev.rounds (g := fun k => signalbenchlaw04_CheckLinear.f k w p i x refl a b c) ?_
  have hj : Ev (fun k => signalbenchlaw04_CheckLinear.j0 k true w p i x refl a b c) true := by
    refine Ev.step (fun k => signalbenchlaw04_CheckLinear.j0.eq_2 ..) ?_
    exact Ev.pos rfl (Ev.bind ev_awake (Ev.now true))
  unfold signalbenchlaw04_CheckLinear.f
  rw [ref04_Right]
  refine Ev.sbind (Ev.ite (fun hr => Ev.ite (fun _ => hj) (fun h1 => Ev.ite (fun h2 => Ev.ite (fun h3 => ?_) (fun _ => hj)) (fun _ => hj))) (fun _ => hj))
  refine Ev.bind (ev_sound a (by omega)) (Ev.ite (fun sa => Ev.bind (ev_sound b (by omega)) (Ev.ite (fun sb => Ev.bind (ev_sound c (by omega)) ?_) (fun _ => hj))) (fun _ => hj))
  by_cases sc : (bytesOf c).all isB = true
  case neg => rw [show (bytesOf c).all isB = false by simpa using sc]; exact hj
  rw [sc]
  obtain ⟨W, P, I, X, rfl, rfl, rfl, rfl, C⟩ := rightC_ok hr
  have ba := all_isB.mp sa
  have bb := all_isB.mp sb
  have bc := all_isB.mp sc
  have bits : ∀ (s : ByteArray) (l : List Int), bytesOf s = l → AllB l → s.size ≤ 200 → Ev (fun k => check_Bits.f k W P I X refl s) (((finC W X refl (runC W P I l) : Nat) : Int), 0) := by
    intro s l hl hb hs
    have := ev_check_Bits W P I X refl s (by omega)
    rw [bitsC, if_pos hr, hl, if_pos (all_isB.mpr hb), if_pos (by omega), crcL] at this
    simpa using this
  have la := len_bytes a
  have lb := len_bytes b
  have lc := len_bytes c
  have hm1 := mixL_bits (mixL (bytesOf a) (bytesOf b)) (bytesOf c)
  have hm2 : (mixL (mixL (bytesOf a) (bytesOf b)) (bytesOf c)).length = a.size := by rw [mixL_len _ _ (by rw [mixL_len _ _ (by omega)]; omega), mixL_len _ _ (by omega), la]
  have hlt : ∀ l, finC W X refl (runC W P I l) < 9223372036854775808 := fun l => Nat.lt_of_lt_of_le (finC_lt C refl (runC_lt C l I C.hi)) (Nat.le_trans (npow_le32 C.w2) (by decide))
  have e : finC W X refl (runC W P I (mixL (mixL (bytesOf a) (bytesOf b)) (bytesOf c))) = finC W X refl (runC W P I (bytesOf a)) ^^^ finC W X refl (runC W P I (bytesOf b)) ^^^ finC W X refl (runC W P I (bytesOf c)) := by
    rw [finC_xor3]
    congr 1
    have hz : (I ^^^ I) ^^^ I = I := by rw [Nat.xor_self, Nat.zero_xor]
    have h0 : I ^^^ I < 2 ^ W := Nat.xor_lt_two_pow C.hi C.hi
    have s1 := runC_mix C (mixL (bytesOf a) (bytesOf b)) (bytesOf c) (I ^^^ I) I (by rw [mixL_len _ _ (by omega)]; omega) (mixL_bits _ _) bc h0 C.hi
    have s2 := runC_mix C (bytesOf a) (bytesOf b) I I (by omega) ba bb C.hi C.hi
    rw [hz, s2] at s1
    exact s1
  refine Ev.step (fun k => signalbenchlaw04_CheckLinear.j0.eq_2 ..) ?_
  refine Ev.neg (by decide) (Ev.bind (bits a _ rfl ba (by omega)) (Ev.bind (bits b _ rfl bb (by omega)) (Ev.bind (bits c _ rfl bc (by omega)) (Ev.bind (ev_mixed a b c (by omega) (by omega) (by omega) ba bb bc) (Ev.bind (bits _ _ (bytes_str hm1.byts) hm1 (by rw [size_str, hm2]; omega)) (Ev.pos rfl (Ev.pos rfl (Ev.pos rfl (Ev.pos rfl (Ev.pos ?_ (Ev.bind ev_awake (Ev.now true))))))))))))
  rw [nxor (hlt _) (hlt _), nxor (Nat.xor_lt_two_pow (n := 63) (hlt _) (hlt _)) (hlt _), e]
end CheckLinear_
theorem CheckLinear : signalbenchlaw04_CheckLinear.Pure := CheckLinear_.main
end Go.Proofs.YteeejopgaegaoaaDoor.Pure
