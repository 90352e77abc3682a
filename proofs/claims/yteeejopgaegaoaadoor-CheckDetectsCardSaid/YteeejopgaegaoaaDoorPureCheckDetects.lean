/- The law CheckDetects holds as a statement on numbers and lists: bits inverted within Width consecutive ones change the CRC. No condition beyond those of the statement. -/
import Derived.Test.YteeejopgaegaoaaDoorPCheckDetectsx5
import Derived.Test.YteeejopgaegaoaaDoorSpecCrc
namespace Go.Proofs.YteeejopgaegaoaaDoor.Pure
open Go.RowKit Go.Proofs.YteeejopgaegaoaaDoor.PCheckDetects Go.Proofs.YteeejopgaegaoaaDoorW.PrintWords Go.Proofs.YteeejopgaegaoaaDoorW.PrintLast Go.Proofs.YteeejopgaegaoaaDoor.Aid
set_option linter.unusedVariables false
set_option linter.unusedSimpArgs false
namespace CheckDetects_
theorem ev_bits_Valid_l0 (s : ByteArray) (hs : s.size ≤ 65536) : ∀ (d i : Nat), i + d = s.size → Ev (fun k => bits_Valid.l0 k s (s.size : Int) (i : Int)) (((bytesOf s).drop i).all isB) := by
  intro d
  induction d with
  | zero =>
    intro i h
    refine Ev.stop fun k => ?_
    simp only [bits_Valid.l0]
    rw [if_neg (by omega), drop_end s i (by omega)]; rfl
  | succ d ih =>
    intro i h
    have e : wrap64 ((i : Int) + 1) = ((i + 1 : Nat) : Int) := by rw [w64 (by omega) (by omega)]; rfl
    rw [drop_cons s i (by omega), List.all_cons]
    by_cases h48 : bt s i = 48
    · have e2 : isB (bt s i) = true := isB_iff.mpr (.inl h48)
      rw [e2, Bool.true_and]
      refine Ev.step (fun k => ?_) (ih (i + 1) (by omega))
      simp only [bits_Valid.l0]
      rw [if_pos (by omega), if_pos (by omega), if_pos (by omega), if_pos h48, e]
    · by_cases h49 : bt s i = 49
      · have e2 : isB (bt s i) = true := isB_iff.mpr (.inr h49)
        rw [e2, Bool.true_and]
        refine Ev.step (fun k => ?_) (ih (i + 1) (by omega))
        simp only [bits_Valid.l0]
        rw [if_pos (by omega), if_pos (by omega), if_pos (by omega), if_neg h48, if_pos h49, e]
      · have e2 : isB (bt s i) = false := by simp [isB, h48, h49]
        rw [e2, Bool.false_and]
        refine Ev.stop fun k => ?_
        simp only [bits_Valid.l0]
        rw [if_pos (by omega), if_pos (by omega), if_pos (by omega), if_neg h48, if_neg h49]
theorem ev_bits_Valid (s : ByteArray) : Ev (fun k => bits_Valid.f k s) (vB s) := by
  unfold bits_Valid.f vB
  by_cases h : s.size ≤ 65536
  · rw [decide_eq_true h, Bool.true_and]
    refine Ev.congr (fun k => by rw [if_neg (by omega)]) ?_
    exact Ev.step (fun k => by simp only [bits_Valid.j0]; rfl) (ev_bits_Valid_l0 s h s.size 0 (by omega))
  · rw [decide_eq_false h, Bool.false_and]
    refine Ev.now' fun k => ?_
    rw [if_pos (by omega)]
theorem ev_check_Right (w p i x : Int) (refl : Bool) : Ev (fun k => check_Right.f k w p i x refl) (rightC w p i x) := by
  have hyes : 1 ≤ w ∧ w ≤ 32 → False → Ev (fun k => check_Right.j0 k true w p i x refl) (rightC w p i x) := fun _ h => h.elim
  have hj : ¬ (1 ≤ w ∧ w ≤ 32) → Ev (fun k => check_Right.j0 k true w p i x refl) (rightC w p i x) := by
    intro h
    have e : rightC w p i x = false := by unfold rightC; rw [decide_eq_false (by omega)]
    rw [e]
    refine Ev.step (fun k => check_Right.j0.eq_2 ..) ?_
    exact Ev.pos rfl (Ev.now _)
  clear hyes
  unfold check_Right.f
  refine Ev.ite (fun h1 => hj (by omega)) (fun h1 => ?_)
  by_cases h2 : w > 32
  · rw [decide_eq_true h2]; exact hj (by omega)
  rw [decide_eq_false h2]
  obtain ⟨n, rfl⟩ := Int.eq_ofNat_of_zero_le (show 0 ≤ w by omega)
  have hle := pow2_le32 (show n ≤ 32 by omega)
  have hp := pow2_pos n
  refine Ev.step (fun k => check_Right.j0.eq_2 ..) ?_
  refine Ev.neg (by decide) (Ev.pos (by omega) (Ev.now' fun _ => ?_))
  rw [shl_one (by omega), w64 (x := 2 ^ n - 1) (by omega) (by omega)]
  unfold rightC
  rw [Int.toNat_natCast]
  repeat' split
  all_goals first
    | (rw [decide_eq_false (by omega)])
    | (congr 1; rw [Int.tmod_eq_emod_of_nonneg (by omega), Bool.eq_iff_iff, beq_iff_eq, decide_eq_true_iff]; omega)
theorem ref04_Right (w p i x : Int) (refl : Bool) : signalbenchref04_Right.f w p i x refl = some (rightC w p i x) := by
  unfold signalbenchref04_Right.f
  by_cases h : 1 ≤ w ∧ w ≤ 32
  case neg =>
    have e : rightC w p i x = false := by unfold rightC; rw [decide_eq_false (by omega)]
    rw [e]
    by_cases h1 : w < 1
    · rw [if_pos h1]
    · rw [if_neg h1, if_pos (by omega)]
  obtain ⟨n, rfl⟩ := Int.eq_ofNat_of_zero_le (show 0 ≤ w by omega)
  have hle := pow2_le32 (show n ≤ 32 by omega)
  have hp := pow2_pos n
  rw [if_neg (by omega), if_neg (by omega), if_pos (by omega), shl_one (by omega), w64 (x := 2 ^ n - 1) (by omega) (by omega)]
  unfold rightC
  rw [Int.toNat_natCast]
  repeat' split
  all_goals first
    | (rw [decide_eq_false (by omega)])
    | (congr 1; rw [Int.tmod_eq_emod_of_nonneg (by omega), Bool.eq_iff_iff, beq_iff_eq, decide_eq_true_iff]; omega)
theorem check_shift {w p i x : Nat} (C : Crc w p i x) (refl : Bool) {r b : Nat} (hr : r < 2 ^ w) : check_shift.f (w : Int) p i x refl r b = some ((stepC w p r b : Nat) : Int) := by
  have hw := C.w1
  have hw2 := C.w2
  have hle := pow2_le32 hw2
  have hln := npow_le32 hw2
  have hpp := pow2_pos w
  have hP := C.hp
  have ht := top_lt hw hr
  have e1 : wrap64 ((w : Int) - 1) = ((w - 1 : Nat) : Int) := by rw [w64 (by omega) (by omega)]; omega
  have e2 : Go.bits .and .i64 (shr .i64 (r : Int) ((w - 1 : Nat) : Int)) 1 = ((r / 2 ^ (w - 1) : Nat) : Int) := by
    rw [nshr _ (by omega), and_one]
    generalize r / 2 ^ (w - 1) = z at ht
    omega
  have e3 : wrap64 ((r : Int) * 2) = ((2 * r : Nat) : Int) := by rw [w64 (by omega) (by omega)]; omega
  have hm : 2 * r % 2 ^ w < 2 ^ w := Nat.mod_lt _ (npow_pos w)
  unfold check_shift.f stepC
  rw [e1, if_pos (by omega), if_pos (by omega), e2, e3, shl_one (by omega), w64 (x := 2 ^ w - 1) (by omega) (by omega), nmask w (by omega) (by omega), nxor (by omega) (by omega)]
  by_cases h : r / 2 ^ (w - 1) = b
  · rw [if_pos h, if_pos (by rw [h])]
  · rw [if_neg h, if_neg (fun e => h (by exact_mod_cast e))]
theorem ev_check_finish {w p i x : Nat} (C : Crc w p i x) (refl : Bool) {r : Nat} (hr : r < 2 ^ w) : Ev (fun k => check_finish.f k (w : Int) p i x refl r) ((finC w x refl r : Nat) : Int) := by
  have hw2 := C.w2
  have hln := npow_le32 hw2
  have hX := C.hx
  have key : ∀ (d j acc q : Nat), j + d = w → acc < 2 ^ j → q < 4294967296 → Ev (fun k => check_finish.l0 k (q : Int) (acc : Int) (w : Int) (j : Int) (w : Int) p i x refl) ((revN d acc q ^^^ x : Nat) : Int) := by
    intro d
    induction d with
    | zero =>
      intro j acc q hj ha hq
      have hb : 2 ^ j ≤ 4294967296 := npow_le32 (by omega)
      refine Ev.step (fun k => check_finish.l0.eq_2 ..) ?_
      rw [nxor (by omega) (by omega)]
      exact Ev.neg (by omega) (Ev.now _)
    | succ d ih =>
      intro j acc q hj ha hq
      have hb : 2 ^ j ≤ 4294967296 := npow_le32 (by omega)
      have e1 : (q : Int) / 2 = ((q / 2 : Nat) : Int) := by omega
      have e2 : Go.bits .and .i64 (q : Int) 1 = ((q % 2 : Nat) : Int) := by rw [and_one]; omega
      have e3 : wrap64 ((acc : Int) * 2) = (acc : Int) * 2 ^ 1 := by rw [w64 (by omega) (by omega)]; omega
      have e4 : Go.bits .or .i64 ((acc : Int) * 2 ^ 1) ((q % 2 : Nat) : Int) = ((2 * acc + q % 2 : Nat) : Int) := by
        rw [or_add 1 (by omega) (by omega) (by omega) (by omega)]; omega
      refine Ev.step (fun k => check_finish.l0.eq_2 ..) ?_
      rw [e1, e2, e3, e4, wnat (by omega)]
      refine Ev.pos (by omega) (ih (j + 1) _ _ (by omega) ?_ (by omega))
      rw [Nat.pow_succ]; omega
  unfold check_finish.f finC
  cases refl
  · rw [nxor (by omega) (by omega)]
    exact Ev.neg (by decide) (Ev.now _)
  · exact Ev.pos rfl (key w 0 0 r (by omega) (by decide) (by omega))
theorem bit_nat {b : Int} (h : b = 48 ∨ b = 49) : (b - 48) % 256 = (((b - 48).toNat : Nat) : Int) := by omega
theorem ev_check_Bits_l1 {w p i x : Nat} (C : Crc w p i x) (refl : Bool) (s : ByteArray) (hs : s.size ≤ 65536) : ∀ (l pre : List Int) (r j : Nat), bytesOf s = pre ++ l → j = pre.length → AllB l → r < 2 ^ w →
    Ev (fun k => check_Bits.l1 k s (r : Int) (s.size : Int) (j : Int) (w : Int) p i x refl) (((finC w x refl (runC w p r l) : Nat) : Int), 0) := by
  have hlen := len_bytes s
  intro l
  induction l with
  | nil =>
    intro pre r j he hj hb hr
    rw [List.append_nil] at he
    rw [he] at hlen
    refine Ev.step (fun k => check_Bits.l1.eq_2 ..) ?_
    rw [runC]
    exact Ev.neg (by omega) (Ev.bind (ev_check_finish C refl hr) (Ev.now _))
  | cons b l ih =>
    intro pre r j he hj hb hr
    obtain ⟨hb1, hb⟩ := AllB.cons_iff.mp hb
    have hl : s.size = j + (l.length + 1) := by rw [← hlen, he, hj, List.length_append, List.length_cons]
    have hbt : bt s (j : Int) = b := by rw [bt_get s j (by omega)]; simp [he, hj]
    refine Ev.step (fun k => check_Bits.l1.eq_2 ..) ?_
    rw [hbt, wnat (by omega), bit_nat hb1, check_shift C refl hr, runC]
    exact Ev.pos (by omega) (Ev.pos (by omega) (Ev.pos (by omega) (Ev.sbind (ih (pre ++ [b]) _ (j + 1) (by rw [he]; simp) (by simp [hj]) hb (stepC_lt C r _)))))
theorem ev_check_Bits_l0 (w p i x : Int) (refl : Bool) (s : ByteArray) (hs : s.size ≤ 140737488355328) (res : Int × Int) : ∀ (l pre : List Int) (j : Nat), bytesOf s = pre ++ l → j = pre.length → (l.all isB = true → Ev (fun k => (bits_Valid.f k s).bind fun t => (if t = true then (check_Bits.j2 k s w p i x refl) else (some (0, 6)))) res) → (l.all isB = false → res = (0, 4)) →
    Ev (fun k => check_Bits.l0 k s (s.size : Int) (j : Int) w p i x refl) res := by
  have hlen := len_bytes s
  intro l
  induction l with
  | nil =>
    intro pre j he hj h0 h1
    rw [List.append_nil] at he
    rw [he] at hlen
    refine Ev.step (fun k => check_Bits.l0.eq_2 ..) ?_
    exact Ev.neg (by omega) (h0 rfl)
  | cons b l ih =>
    intro pre j he hj h0 h1
    have hl : s.size = j + (l.length + 1) := by rw [← hlen, he, hj, List.length_append, List.length_cons]
    have hbt : bt s (j : Int) = b := by rw [bt_get s j (by omega)]; simp [he, hj]
    rw [List.all_cons] at h0 h1
    have hnext : isB b = true → Ev (fun k => check_Bits.l0 k s (s.size : Int) ((j + 1 : Nat) : Int) w p i x refl) res := by
      intro hb
      rw [hb, Bool.true_and] at h0 h1
      exact ih (pre ++ [b]) (j + 1) (by rw [he]; simp) (by simp [hj]) h0 h1
    refine Ev.step (fun k => check_Bits.l0.eq_2 ..) ?_
    rw [hbt, wnat (by omega)]
    refine Ev.pos (by omega) (Ev.pos (by omega) (Ev.pos (by omega) (Ev.ite (fun h48 => hnext (isB_iff.mpr (.inl h48))) (fun h48 => Ev.ite (fun h49 => hnext (isB_iff.mpr (.inr h49))) (fun h49 => ?_)))))
    have e2 : isB b = false := by simp [isB, h48, h49]
    rw [h1 (by rw [e2, Bool.false_and])]
    exact Ev.now _
theorem ev_check_Bits (w p i x : Int) (refl : Bool) (s : ByteArray) (hs : s.size ≤ 140737488355328) : Ev (fun k => check_Bits.f k w p i x refl s) (bitsC w p i x refl s) := by
  unfold check_Bits.f bitsC
  refine Ev.bind (ev_check_Right w p i x refl) (Ev.ite (fun hc => ?_) (fun hc => ?_))
  case refine_2 => rw [if_neg hc]; exact Ev.now _
  rw [if_pos hc]
  obtain ⟨W, P, I, X, rfl, rfl, rfl, rfl, C⟩ := rightC_ok hc
  refine Ev.step (fun k => check_Bits.j0.eq_2 ..) ?_
  refine ev_check_Bits_l0 _ _ _ _ refl s hs _ (bytesOf s) [] 0 rfl rfl (fun hb => ?_) (fun hb => by rw [hb]; rfl)
  rw [if_pos hb]
  refine Ev.bind (ev_bits_Valid s) ?_
  unfold vB
  rw [hb, Bool.and_true]
  by_cases hl : s.size ≤ 65536
  · rw [if_pos hl, decide_eq_true hl]
    refine Ev.pos rfl ?_
    refine Ev.step (fun k => check_Bits.j2.eq_2 ..) ?_
    exact ev_check_Bits_l1 C refl s hl (bytesOf s) [] I 0 rfl rfl (all_isB.mp hb) C.hi
  · rw [if_neg hl, decide_eq_false hl]
    exact Ev.neg (by decide) (Ev.now _)
theorem ev_sound (s : ByteArray) (hs : s.size ≤ 140737488355328) : Ev (fun k => signalbenchlaw04_sound.f k s) ((bytesOf s).all isB) := by
  have hlen := len_bytes s
  have key : ∀ (l pre : List Int) (j : Nat), bytesOf s = pre ++ l → j = pre.length → Ev (fun k => signalbenchlaw04_sound.l0 k s (j : Int)) (l.all isB) := by
    intro l
    induction l with
    | nil =>
      intro pre j he hj
      rw [List.append_nil] at he
      rw [he] at hlen
      refine Ev.step (fun k => signalbenchlaw04_sound.l0.eq_2 ..) ?_
      exact Ev.neg (by omega) (Ev.now _)
    | cons b l ih =>
      intro pre j he hj
      have hl : s.size = j + (l.length + 1) := by rw [← hlen, he, hj, List.length_append, List.length_cons]
      have hbt : bt s (j : Int) = b := by rw [bt_get s j (by omega)]; simp [he, hj]
      have hn := ih (pre ++ [b]) (j + 1) (by rw [he]; simp) (by simp [hj])
      refine Ev.step (fun k => signalbenchlaw04_sound.l0.eq_2 ..) ?_
      rw [hbt, wnat (by omega), List.all_cons]
      refine Ev.pos (by omega) (Ev.pos (by omega) (Ev.ite (fun h48 => ?_) (fun h48 => Ev.ite (fun h49 => ?_) (fun h49 => ?_))))
      · rw [isB_iff.mpr (.inl h48), Bool.true_and]; exact hn
      · rw [isB_iff.mpr (.inr h49), Bool.true_and]; exact hn
      · rw [show isB b = false by simp [isB, h48, h49], Bool.false_and]; exact Ev.now _
  exact key (bytesOf s) [] 0 rfl rfl
theorem stepC_xor {w p : Nat} (hw : 1 ≤ w) (a b : Nat) (ha : a < 2 ^ w) (hb : b < 2 ^ w) (x y : Nat) (hx : x < 2) (hy : y < 2) : stepC w p (a ^^^ b) ((x + y) % 2) = stepC w p a x ^^^ stepC w p b y := by
  have hta := top_lt hw ha
  have htb := top_lt hw hb
  have ht : (a ^^^ b) / 2 ^ (w - 1) = (a / 2 ^ (w - 1) + b / 2 ^ (w - 1)) % 2 := by
    have h1 := Nat.testBit_xor a b (w - 1)
    have h2 := top_lt hw (Nat.xor_lt_two_pow ha hb)
    simp only [Nat.testBit_eq_decide_div_mod_eq] at h1
    generalize a / 2 ^ (w - 1) = u at *
    generalize b / 2 ^ (w - 1) = v at *
    generalize (a ^^^ b) / 2 ^ (w - 1) = z at *
    have cu : u = 0 ∨ u = 1 := by omega
    have cv : v = 0 ∨ v = 1 := by omega
    have cz : z = 0 ∨ z = 1 := by omega
    rcases cu with rfl | rfl <;> rcases cv with rfl | rfl <;> rcases cz with rfl | rfl <;> simp at h1 ⊢
  have hd : 2 * (a ^^^ b) % 2 ^ w = (2 * a % 2 ^ w) ^^^ (2 * b % 2 ^ w) := by
    rw [← Nat.xor_mod_two_pow]
    congr 1
    have := Nat.shiftLeft_xor_distrib (a := a) (b := b) (i := 1)
    simp only [Nat.shiftLeft_eq, Nat.pow_one] at this
    rw [Nat.mul_comm 2, Nat.mul_comm 2, Nat.mul_comm 2]
    exact this
  unfold stepC
  rw [ht, hd]
  generalize 2 * a % 2 ^ w = A
  generalize 2 * b % 2 ^ w = B
  generalize a / 2 ^ (w - 1) = u at *
  generalize b / 2 ^ (w - 1) = v at *
  have cu : u = 0 ∨ u = 1 := by omega
  have cv : v = 0 ∨ v = 1 := by omega
  have cx : x = 0 ∨ x = 1 := by omega
  have cy : y = 0 ∨ y = 1 := by omega
  have e1 : A ^^^ B ^^^ p = A ^^^ (B ^^^ p) := Nat.xor_assoc _ _ _
  have e2 : A ^^^ B ^^^ p = (A ^^^ p) ^^^ B := by rw [Nat.xor_assoc, Nat.xor_assoc, Nat.xor_comm B p]
  have e3 : A ^^^ B = (A ^^^ p) ^^^ (B ^^^ p) := by rw [Nat.xor_assoc, ← Nat.xor_assoc p B p, Nat.xor_comm p B, Nat.xor_assoc B p p, Nat.xor_self, Nat.xor_zero]
  rcases cu with rfl | rfl <;> rcases cv with rfl | rfl <;> rcases cx with rfl | rfl <;> rcases cy with rfl | rfl <;> simp [← e1, ← e2, ← e3]
/-- The bits of two sequences, the exclusive or of each pair. -/
def mixL : List Int → List Int → List Int
  | x :: l, y :: m => (48 + ((x - 48) + (y - 48)) % 2) :: mixL l m
  | _, _ => []
theorem mixL_bits : ∀ (l m : List Int), AllB (mixL l m)
  | [], _ => AllB.nil
  | _ :: _, [] => AllB.nil
  | x :: l, y :: m => AllB.cons_iff.mpr ⟨by omega, mixL_bits l m⟩
theorem mixL_len : ∀ (l m : List Int), l.length = m.length → (mixL l m).length = l.length
  | [], _, _ => rfl
  | _ :: _, [], h => by simp at h
  | x :: l, y :: m, h => by simp [mixL, mixL_len l m (by simpa using h)]
theorem runC_mix {w p i x : Nat} (C : Crc w p i x) : ∀ (l m : List Int) (a b : Nat), l.length = m.length → AllB l → AllB m → a < 2 ^ w → b < 2 ^ w → runC w p (a ^^^ b) (mixL l m) = runC w p a l ^^^ runC w p b m
  | [], [], _, _, _, _, _, _, _ => rfl
  | [], _ :: _, _, _, h, _, _, _, _ => by simp at h
  | _ :: _, [], _, _, h, _, _, _, _ => by simp at h
  | s :: l, t :: m, a, b, h, hl, hm, ha, hb => by
    obtain ⟨h1, hl⟩ := AllB.cons_iff.mp hl
    obtain ⟨h2, hm⟩ := AllB.cons_iff.mp hm
    have e : (48 + ((s - 48) + (t - 48)) % 2 - 48).toNat = ((s - 48).toNat + (t - 48).toNat) % 2 := by omega
    rw [mixL, runC, runC, runC, e, stepC_xor C.w1 a b ha hb _ _ (by omega) (by omega)]
    exact runC_mix C l m _ _ (by simpa using h) hl hm (stepC_lt C _ _) (stepC_lt C _ _)
theorem revN_xor : ∀ (n a b c d : Nat), revN n (a ^^^ b) (c ^^^ d) = revN n a c ^^^ revN n b d
  | 0, _, _, _, _ => rfl
  | n + 1, a, b, c, d => by
    have e1 : 2 * (a ^^^ b) + (c ^^^ d) % 2 = (2 * a + c % 2) ^^^ (2 * b + d % 2) := by
      apply Nat.eq_of_testBit_eq
      intro i
      rw [Nat.testBit_xor]
      cases i with
      | zero =>
        have h := Nat.testBit_xor c d 0
        simp only [Nat.testBit_zero] at h ⊢
        rw [show (2 * (a ^^^ b) + (c ^^^ d) % 2) % 2 = (c ^^^ d) % 2 by omega, show (2 * a + c % 2) % 2 = c % 2 by omega, show (2 * b + d % 2) % 2 = d % 2 by omega]
        exact h
      | succ i =>
        rw [Nat.testBit_succ, Nat.testBit_succ, Nat.testBit_succ, show (2 * (a ^^^ b) + (c ^^^ d) % 2) / 2 = a ^^^ b by omega, show (2 * a + c % 2) / 2 = a by omega, show (2 * b + d % 2) / 2 = b by omega, Nat.testBit_xor]
    have e2 : (c ^^^ d) / 2 = (c / 2) ^^^ (d / 2) := by
      apply Nat.eq_of_testBit_eq
      intro i
      simp only [Nat.testBit_xor, ← Nat.testBit_succ]
    rw [revN, e1, e2, revN_xor n]
    rfl
theorem finC_xor3 (w x : Nat) (refl : Bool) (a b c : Nat) : finC w x refl a ^^^ finC w x refl b ^^^ finC w x refl c = finC w x refl (a ^^^ b ^^^ c) := by
  have h3 : ∀ u v t : Nat, (u ^^^ x) ^^^ (v ^^^ x) ^^^ (t ^^^ x) = (u ^^^ v ^^^ t) ^^^ x := by
    intro u v t
    have : (u ^^^ x) ^^^ (v ^^^ x) = u ^^^ v := by rw [Nat.xor_assoc, ← Nat.xor_assoc x v x, Nat.xor_comm x v, Nat.xor_assoc v x x, Nat.xor_self, Nat.xor_zero]
    rw [this, ← Nat.xor_assoc]
  unfold finC
  rw [h3]
  cases refl
  · rfl
  · simp only [if_true]
    have e := revN_xor w 0 0 (a ^^^ b) c
    have e' := revN_xor w 0 0 a b
    rw [Nat.xor_zero] at e e'
    rw [e, e']
theorem stepC_zero (w p : Nat) : stepC w p 0 0 = 0 := by
  unfold stepC
  rw [Nat.zero_div, if_pos rfl, Nat.mul_zero, Nat.zero_mod]
theorem runC_zeros (w p : Nat) : ∀ (l : List Int), (∀ x ∈ l, x = 48) → runC w p 0 l = 0
  | [], _ => rfl
  | x :: l, h => by
    have hx := h x (List.mem_cons_self ..)
    subst hx
    rw [runC, show ((48 : Int) - 48).toNat = 0 from rfl, stepC_zero]
    exact runC_zeros w p l (fun y hy => h y (List.mem_cons_of_mem _ hy))
theorem split_top {w r : Nat} (hw : 1 ≤ w) : r = r / 2 ^ (w - 1) * 2 ^ (w - 1) + r % 2 ^ (w - 1) := by
  have := Nat.div_add_mod r (2 ^ (w - 1))
  rw [Nat.mul_comm] at this
  exact this.symm
theorem dbl_mod {w r : Nat} (hw : 1 ≤ w) : 2 * r % 2 ^ w = 2 * (r % 2 ^ (w - 1)) := by
  have e : 2 ^ w = 2 * 2 ^ (w - 1) := by rw [← Nat.pow_succ']; congr 1; omega
  rw [e, Nat.mul_mod_mul_left]
theorem xor_odd {a p : Nat} (ha : a % 2 = 0) (hp : p % 2 = 1) : (a ^^^ p) % 2 = 1 := by
  have h := Nat.testBit_xor a p 0
  simp only [Nat.testBit_zero, ha, hp] at h
  simpa using h
/-- What a step makes is even only where the top bit was the bit. -/
theorem stepC_even {w p i x : Nat} (C : Crc w p i x) {r b v : Nat} (h : stepC w p r b = 2 * v) : r = b * 2 ^ (w - 1) + v := by
  have hw := C.w1
  have hd := dbl_mod (r := r) hw
  unfold stepC at h
  split at h
  · rename_i ht
    rw [hd] at h
    have hs := split_top (r := r) hw
    rw [ht] at hs
    omega
  · rename_i ht
    have := xor_odd (a := 2 * r % 2 ^ w) (by rw [hd]; omega) C.odd
    omega
theorem stepC_keep {w p i x : Nat} (C : Crc w p i x) {r : Nat} (h : stepC w p r 0 = 0) : r = 0 := by
  have := stepC_even C (v := 0) (by rw [h])
  omega
theorem runC_keep {w p i x : Nat} (C : Crc w p i x) : ∀ (l : List Int) (r : Nat), (∀ x ∈ l, x = 48) → runC w p r l = 0 → r = 0
  | [], _, _, h => h
  | y :: l, r, hz, h => by
    have hy := hz y (List.mem_cons_self ..)
    subst hy
    rw [runC] at h
    exact stepC_keep C (runC_keep C l _ (fun z hm => hz z (List.mem_cons_of_mem _ hm)) h)
/-- The number whose highest bits are those of a sequence. -/
def topN : Nat → List Int → Nat
  | _, [] => 0
  | 0, _ :: _ => 0
  | n + 1, x :: l => (x - 48).toNat * 2 ^ n + topN n l
theorem topN_half : ∀ (l : List Int) (n : Nat), l.length ≤ n → topN (n + 1) l = 2 * topN n l
  | [], n, _ => by cases n <;> rfl
  | x :: l, n, h => by
    obtain ⟨m, rfl⟩ : ∃ m, n = m + 1 := ⟨n - 1, by simp at h; omega⟩
    rw [topN, topN_half l m (by simpa using h), topN, Nat.pow_succ]
    rw [Nat.mul_add, ← Nat.mul_assoc 2, Nat.mul_comm 2 ((x - 48).toNat), Nat.mul_assoc, Nat.mul_comm 2 (2 ^ m)]
theorem runC_back {w p i x : Nat} (C : Crc w p i x) : ∀ (l : List Int) (r : Nat), l.length ≤ w → runC w p r l = 0 → r = topN w l
  | [], r, _, h => by rw [runC] at h; rw [h]; cases w <;> rfl
  | y :: l, r, hl, h => by
    obtain ⟨n, rfl⟩ : ∃ n, w = n + 1 := ⟨w - 1, by have := C.w1; omega⟩
    have hl2 : l.length ≤ n := by simpa using hl
    rw [runC] at h
    have e := runC_back C l _ (by omega) h
    rw [topN_half l n hl2] at e
    have := stepC_even C e
    rw [this, topN]
    rfl
theorem topN_zero : ∀ (l : List Int) (n : Nat), l.length ≤ n → AllB l → topN n l = 0 → ∀ x ∈ l, x = 48
  | [], _, _, _, _ => fun _ h => nomatch h
  | y :: l, n, hl, hb, h => by
    obtain ⟨m, rfl⟩ : ∃ m, n = m + 1 := ⟨n - 1, by simp at hl; omega⟩
    obtain ⟨h1, hb⟩ := AllB.cons_iff.mp hb
    rw [topN] at h
    have hp := npow_pos m
    intro z hz
    have h0 : (y - 48).toNat * 2 ^ m = 0 := by omega
    have hy : y = 48 := by
      rcases h1 with rfl | rfl
      · rfl
      · rw [show ((49 : Int) - 48).toNat = 1 from rfl] at h0; omega
    rcases List.mem_cons.mp hz with rfl | hz
    · exact hy
    · exact topN_zero l m (by simpa using hl) hb (by omega) z hz
theorem revN_zero : ∀ (n a r : Nat), revN n a r = 0 → a = 0 ∧ r % 2 ^ n = 0
  | 0, _, r, h => ⟨h, by rw [Nat.pow_zero, Nat.mod_one]⟩
  | n + 1, a, r, h => by
    rw [revN] at h
    obtain ⟨h1, h2⟩ := revN_zero n _ _ h
    refine ⟨by omega, ?_⟩
    have e : r % 2 ^ (n + 1) = 2 * (r / 2 % 2 ^ n) + r % 2 := by
      rw [Nat.pow_succ, Nat.mul_comm (2 ^ n) 2, Nat.mod_mul]; omega
    rw [e, h2]
    omega
theorem finC_inj {w p i x : Nat} (C : Crc w p i x) (refl : Bool) {a b : Nat} (ha : a < 2 ^ w) (hb : b < 2 ^ w) (h : finC w x refl a = finC w x refl b) : a ^^^ b = 0 := by
  unfold finC at h
  have e : (if refl = true then revN w 0 a else a) = if refl = true then revN w 0 b else b := by
    have h2 := congrArg (· ^^^ x) h
    simpa [Nat.xor_assoc] using h2
  cases refl
  · have : a = b := by simpa using e
    rw [this, Nat.xor_self]
  · have e2 : revN w 0 a = revN w 0 b := by simpa using e
    have e3 := revN_xor w 0 0 a b
    rw [Nat.xor_self, e2, Nat.xor_self] at e3
    have := (revN_zero w 0 _ e3).2
    rwa [Nat.mod_eq_of_lt (Nat.xor_lt_two_pow ha hb)] at this
/-- Which bits of a sequence are inverted. -/
def maskL (w : Nat) (q : Int) : Nat → List Int → List Int
  | _, [] => []
  | j, _ :: l => (48 + if j < w then q / 2 ^ j % 2 else 0) :: maskL w q (j + 1) l
theorem maskL_bits (w : Nat) (q : Int) : ∀ (l : List Int) (j : Nat), AllB (maskL w q j l)
  | [], _ => AllB.nil
  | _ :: l, j => AllB.cons_iff.mpr ⟨by split <;> omega, maskL_bits w q l (j + 1)⟩
theorem maskL_len (w : Nat) (q : Int) : ∀ (l : List Int) (j : Nat), (maskL w q j l).length = l.length
  | [], _ => rfl
  | _ :: l, j => by simp [maskL, maskL_len w q l (j + 1)]
theorem maskL_far (w : Nat) (q : Int) : ∀ (l : List Int) (j : Nat), w ≤ j → ∀ x ∈ maskL w q j l, x = 48
  | [], _, _ => fun _ h => nomatch h
  | _ :: l, j, h => by
    intro x hx
    rw [maskL] at hx
    rcases List.mem_cons.mp hx with rfl | hx
    · rw [if_neg (by omega)]; rfl
    · exact maskL_far w q l (j + 1) (by omega) x hx
theorem maskL_drop (w : Nat) (q : Int) : ∀ (n : Nat) (l : List Int) (j : Nat), (maskL w q j l).drop n = maskL w q (j + n) (l.drop n)
  | 0, _, _ => rfl
  | _ + 1, [], _ => rfl
  | n + 1, _ :: l, j => by
    rw [maskL, List.drop_succ_cons, List.drop_succ_cons, maskL_drop w q n l (j + 1)]
    congr 1
    omega
theorem mixL_append : ∀ (a b c d : List Int), a.length = b.length → mixL (a ++ c) (b ++ d) = mixL a b ++ mixL c d
  | [], [], _, _, _ => rfl
  | [], _ :: _, _, _, h => by simp at h
  | _ :: _, [], _, _, h => by simp at h
  | x :: a, y :: b, c, d, h => by simp [mixL, mixL_append a b c d (by simpa using h)]
theorem mixL_self : ∀ (l : List Int), ∀ x ∈ mixL l l, x = 48
  | [] => fun _ h => nomatch h
  | y :: l => by
    intro x hx
    rw [mixL] at hx
    rcases List.mem_cons.mp hx with rfl | hx
    · omega
    · exact mixL_self l x hx
theorem mixL_back : ∀ (l m : List Int), l.length = m.length → AllB l → AllB m → mixL l (mixL l m) = m
  | [], [], _, _, _ => rfl
  | [], _ :: _, h, _, _ => by simp at h
  | _ :: _, [], h, _, _ => by simp at h
  | x :: l, y :: m, h, hl, hm => by
    obtain ⟨h1, hl⟩ := AllB.cons_iff.mp hl
    obtain ⟨h2, hm⟩ := AllB.cons_iff.mp hm
    rw [mixL, mixL, mixL_back l m (by simpa using h) hl hm]
    congr 1
    omega
/-- Is any bit inverted. -/
def anyL (l : List Int) : Bool := l.any (fun x => x == 49)
theorem anyL_no {l : List Int} (hb : AllB l) : anyL l = false ↔ ∀ x ∈ l, x = 48 := by
  unfold anyL
  rw [List.any_eq_false]
  constructor
  · intro h x hx
    have := h x hx
    rcases hb x hx with h | h
    · exact h
    · simp [h] at this
  · intro h x hx
    rw [h x hx]; decide
theorem det {w p i x : Nat} (C : Crc w p i x) (pre suf : List Int) (q : Int) : runC w p 0 (mixL pre pre ++ maskL w q 0 suf) = 0 ↔ anyL (maskL w q 0 suf) = false := by
  rw [runC_append, runC_zeros w p _ (mixL_self pre), anyL_no (maskL_bits w q suf 0)]
  constructor
  · intro h
    have hs : maskL w q 0 suf = (maskL w q 0 suf).take w ++ (maskL w q 0 suf).drop w := (List.take_append_drop _ _).symm
    have hfar : ∀ x ∈ (maskL w q 0 suf).drop w, x = 48 := by rw [maskL_drop]; exact maskL_far w q _ _ (by omega)
    rw [hs, runC_append] at h
    have h1 := runC_keep C _ _ hfar h
    have hlen : ((maskL w q 0 suf).take w).length ≤ w := List.length_take_le _ _
    have h2 := runC_back C _ _ hlen h1
    have h3 := topN_zero _ _ hlen ((maskL_bits w q suf 0).take w) h2.symm
    rw [hs]
    intro y hy
    rcases List.mem_append.mp hy with hy | hy
    · exact h3 y hy
    · exact hfar y hy
  · exact fun h => runC_zeros w p _ h
theorem ev_awake : Ev (fun k => signalbenchlaw04_awake.f k) true := by
  refine Ev.of (fun k => signalbenchlaw04_awake.mono k) (k := 80) ?_
  decide +kernel
theorem ext_one (s : ByteArray) (j : Nat) (h : j < s.size) : s.extract j (j + 1) = strOfNums [bt s (j : Int)] := by
  have e : bytesOf (s.extract j (j + 1)) = [bt s (j : Int)] := by
    have hl := len_bytes s
    rw [bytes_extract, take_snoc s j h, List.drop_append, List.drop_of_length_le (by rw [List.length_take]; omega)]
    simp only [List.length_take, List.nil_append]
    rw [show j - min j (bytesOf s).length = 0 by omega, List.drop_zero]
  rw [← str_bytes (s.extract j (j + 1)), e]
theorem ev_flip (s : ByteArray) (hs : s.size ≤ 200) (hb : AllB (bytesOf s)) (at_ w : Nat) (hat : at_ < s.size) (hw : w ≤ 32) (q : Int) (hq : 0 ≤ q) : Ev (fun k => signalbenchlaw04_flip.f k s (at_ : Int) q (w : Int)) (strOfNums ((bytesOf s).take at_ ++ mixL ((bytesOf s).drop at_) (maskL w q 0 ((bytesOf s).drop at_))), anyL (maskL w q 0 ((bytesOf s).drop at_))) := by
  have hlen := len_bytes s
  have key : ∀ (l pre out : List Int) (f : Bool) (j : Nat), bytesOf s = pre ++ l → at_ + j = pre.length → out.length = pre.length → AllB l →
      Ev (fun k => signalbenchlaw04_flip.l0 k s (at_ : Int) q (w : Int) (strOfNums out) f ((at_ + j : Nat) : Int)) (strOfNums (out ++ mixL l (maskL w q j l)), f || anyL (maskL w q j l)) := by
    intro l
    induction l with
    | nil =>
      intro pre out f j he hj ho hb
      rw [List.append_nil] at he
      rw [he] at hlen
      refine Ev.step (fun k => signalbenchlaw04_flip.l0.eq_2 ..) ?_
      rw [mixL, List.append_nil, show anyL (maskL w q j []) = false from rfl, Bool.or_false]
      · exact Ev.neg (by omega) (Ev.now _)
      all_goals simp [maskL]
    | cons b l ih =>
      intro pre out f j he hj ho hb
      obtain ⟨hb1, hb⟩ := AllB.cons_iff.mp hb
      have hl : s.size = at_ + j + (l.length + 1) := by rw [← hlen, he, hj, List.length_append, List.length_cons]
      have hbt : bt s ((at_ + j : Nat) : Int) = b := by rw [bt_get s (at_ + j) (by omega)]; simp [he, hj]
      have hsz := size_str out
      have e1 : wrap64 (((at_ + j : Nat) : Int) - (at_ : Int)) = (j : Int) := by rw [w64 (by omega) (by omega)]; omega
      have hx := ext_one s (at_ + j) (by omega)
      rw [hbt] at hx
      have hn : ∀ (c : Int) (g : Bool), Ev (fun k => signalbenchlaw04_flip.l0 k s (at_ : Int) q (w : Int) (strOfNums (out ++ [c])) g ((at_ + j + 1 : Nat) : Int)) (strOfNums (out ++ c :: mixL l (maskL w q (j + 1) l)), g || anyL (maskL w q (j + 1) l)) := by
        intro c g
        have h0 := ih (pre ++ [b]) (out ++ [c]) g (j + 1) (by rw [he]; simp) (by rw [List.length_append, List.length_singleton]; omega) (by simp [ho]) hb
        rw [List.append_assoc, List.singleton_append] at h0
        exact h0
      have hyes : (48 : Int) + (if j < w then q / 2 ^ j % 2 else 0) = 49 → Ev (fun k => signalbenchlaw04_flip.j1 k s (at_ : Int) q (w : Int) (strOfNums out) f ((at_ + j : Nat) : Int) true) (strOfNums (out ++ mixL (b :: l) (maskL w q j (b :: l))), f || anyL (maskL w q j (b :: l))) := by
        intro hm
        have hc : 48 + ((b - 48) + (49 - 48)) % 2 = if b = 48 then (49 : Int) else 48 := by rcases hb1 with rfl | rfl <;> decide
        have ha : (f || anyL ((49 : Int) :: maskL w q (j + 1) l)) = (true || anyL (maskL w q (j + 1) l)) := by simp [anyL]
        rw [maskL, hm, mixL, ha, hc]
        have h1 := hn (if b = 48 then 49 else 48) true
        rw [← str_append] at h1
        refine Ev.step (fun k => signalbenchlaw04_flip.j1.eq_2 ..) ?_
        rw [hbt, wnat (by omega)]
        refine Ev.pos rfl (Ev.pos (by omega) (Ev.pos (by omega) (Ev.ite (fun h48 => ?_) (fun h48 => ?_))))
        · rw [if_pos h48] at h1 ⊢; exact Ev.pos (by omega) h1
        · rw [if_neg h48] at h1 ⊢; exact Ev.pos (by omega) h1
      have hno : (48 : Int) + (if j < w then q / 2 ^ j % 2 else 0) = 48 → Ev (fun k => signalbenchlaw04_flip.j1 k s (at_ : Int) q (w : Int) (strOfNums out) f ((at_ + j : Nat) : Int) false) (strOfNums (out ++ mixL (b :: l) (maskL w q j (b :: l))), f || anyL (maskL w q j (b :: l))) := by
        intro hm
        have hc : 48 + ((b - 48) + (48 - 48)) % 2 = b := by rcases hb1 with rfl | rfl <;> decide
        have ha : (f || anyL ((48 : Int) :: maskL w q (j + 1) l)) = (f || anyL (maskL w q (j + 1) l)) := by simp [anyL]
        rw [maskL, hm, mixL, ha, hc]
        have h1 := hn b f
        rw [← str_append] at h1
        refine Ev.step (fun k => signalbenchlaw04_flip.j1.eq_2 ..) ?_
        rw [wnat (by omega), Int.toNat_natCast, Int.toNat_natCast, hx]
        exact Ev.neg (by decide) (Ev.pos (by omega) (Ev.pos (by omega) (Ev.pos (by omega) (Ev.pos (by have h1_ := size_str [b]; rw [List.length_singleton] at h1_; omega) h1))))
      refine Ev.step (fun k => signalbenchlaw04_flip.l0.eq_2 ..) ?_
      rw [e1]
      refine Ev.pos (by omega) (Ev.ite (fun hlt => Ev.pos (by omega) ?_) (fun hlt => ?_))
      · have hlt' : j < w := by omega
        rw [if_pos hlt'] at hyes hno
        have hnn : 0 ≤ q / 2 ^ j := Int.ediv_nonneg hq (by have := pow2_pos j; omega)
        rw [shr_eq q _ j rfl (by omega)]
        generalize q / 2 ^ j = z at *
        rw [Int.tmod_eq_emod_of_nonneg hnn]
        by_cases hz : z % 2 = 1
        · rw [hz]; exact hyes (by omega)
        · have hz0 : z % 2 = 0 := by omega
          rw [hz0]; exact hno (by omega)
      · rw [if_neg (by omega)] at hno
        exact hno (by omega)
  have e0 : s.extract 0 at_ = strOfNums ((bytesOf s).take at_) := by
    rw [← str_bytes (s.extract 0 at_), bytes_extract, List.drop_zero]
  have := key ((bytesOf s).drop at_) ((bytesOf s).take at_) ((bytesOf s).take at_) false 0 (List.take_append_drop _ _).symm (by rw [List.length_take]; omega) rfl (hb.drop at_)
  rw [Bool.false_or, Nat.add_zero] at this
  unfold signalbenchlaw04_flip.f
  rw [Int.toNat_natCast, e0]
  exact Ev.pos (by omega) (Ev.pos (by omega) this)
theorem main : signalbenchlaw04_CheckDetects.Pure := by
  intro w p i x refl s at_ q _ _ _ _ hs _ _
  refine Ev.rounds (g := fun k => signalbenchlaw04_CheckDetects.f k w p i x refl s at_ q) ?_
  have hj : Ev (fun k => signalbenchlaw04_CheckDetects.j0 k s at_ q true w p i x refl) true := by
    refine Ev.step (fun k => signalbenchlaw04_CheckDetects.j0.eq_2 ..) ?_
    exact Ev.pos rfl (Ev.bind ev_awake (Ev.now true))
  unfold signalbenchlaw04_CheckDetects.f
  rw [ref04_Right]
  refine Ev.sbind (Ev.ite (fun hr => Ev.ite (fun _ => hj) (fun h1 => Ev.bind (ev_sound s (by omega)) (Ev.ite (fun sa => Ev.ite (fun _ => hj) (fun h2 => Ev.ite (fun _ => hj) (fun h3 => ?_))) (fun _ => hj)))) (fun _ => hj))
  by_cases hq : q < 0
  · rw [decide_eq_true hq]; exact hj
  rw [decide_eq_false hq]
  obtain ⟨W, P, I, X, rfl, rfl, rfl, rfl, C⟩ := rightC_ok hr
  obtain ⟨A, rfl⟩ := Int.eq_ofNat_of_zero_le (show 0 ≤ at_ by omega)
  have hb := all_isB.mp sa
  have hlen := len_bytes s
  have bits : ∀ (t : ByteArray) (l : List Int), bytesOf t = l → AllB l → t.size ≤ 200 → Ev (fun k => check_Bits.f k W P I X refl t) (((finC W X refl (runC W P I l) : Nat) : Int), 0) := by
    intro t l hl hb hs
    have := ev_check_Bits W P I X refl t (by omega)
    rw [bitsC, if_pos hr, hl, if_pos (all_isB.mpr hb), if_pos (by omega), crcL] at this
    simpa using this
  have hml := maskL_len W q ((bytesOf s).drop A) 0
  have hmb := maskL_bits W q ((bytesOf s).drop A) 0
  have htb : AllB ((bytesOf s).take A ++ mixL ((bytesOf s).drop A) (maskL W q 0 ((bytesOf s).drop A))) := AllB.append_iff.mpr ⟨hb.take A, mixL_bits _ _⟩
  have htl : ((bytesOf s).take A ++ mixL ((bytesOf s).drop A) (maskL W q 0 ((bytesOf s).drop A))).length = s.size := by
    rw [List.length_append, mixL_len _ _ hml.symm, ← List.length_append, List.take_append_drop, hlen]
  have hx := runC_mix C (bytesOf s) _ I I (by rw [htl, hlen]) hb htb C.hi C.hi
  have hmix : mixL (bytesOf s) ((bytesOf s).take A ++ mixL ((bytesOf s).drop A) (maskL W q 0 ((bytesOf s).drop A))) = mixL ((bytesOf s).take A) ((bytesOf s).take A) ++ maskL W q 0 ((bytesOf s).drop A) := by
    conv => lhs; arg 1; rw [← List.take_append_drop A (bytesOf s)]
    rw [mixL_append _ _ _ _ rfl, mixL_back _ _ hml.symm (hb.drop A) hmb]
  rw [Nat.xor_self, hmix] at hx
  have hd := det C ((bytesOf s).take A) ((bytesOf s).drop A) q
  rw [hx] at hd
  refine Ev.step (fun k => signalbenchlaw04_CheckDetects.j0.eq_2 ..) ?_
  refine Ev.neg (by decide) (Ev.bind (ev_flip s (by omega) hb A W (by omega) C.w2 q (by omega)) (Ev.bind (bits s _ rfl hb (by omega)) (Ev.bind (bits _ _ (bytes_str htb.byts) htb (by rw [size_str, htl]; omega)) (Ev.pos rfl (Ev.pos rfl (Ev.pos ?_ (Ev.bind ev_awake (Ev.now true))))))))
  have hr1 := runC_lt C (bytesOf s) I C.hi
  have hr2 := runC_lt C ((bytesOf s).take A ++ mixL ((bytesOf s).drop A) (maskL W q 0 ((bytesOf s).drop A))) I C.hi
  generalize runC W P I (bytesOf s) = u at *
  generalize runC W P I ((bytesOf s).take A ++ mixL ((bytesOf s).drop A) (maskL W q 0 ((bytesOf s).drop A))) = v at *
  cases hany : anyL (maskL W q 0 ((bytesOf s).drop A))
  · have hz := hd.mpr hany
    have huv : u = v := by
      have h2 := congrArg (· ^^^ v) hz
      simpa [Nat.xor_assoc] using h2
    rw [huv]; simp
  · have hne : finC W X refl u ≠ finC W X refl v := by
      intro e
      have hz := hd.mp (finC_inj C refl hr1 hr2 e)
      rw [hany] at hz
      cases hz
    have : ((finC W X refl u : Nat) : Int) ≠ ((finC W X refl v : Nat) : Int) := by exact_mod_cast hne
    simpa using this
end CheckDetects_
theorem CheckDetects : signalbenchlaw04_CheckDetects.Pure := CheckDetects_.main
end Go.Proofs.YteeejopgaegaoaaDoor.Pure
