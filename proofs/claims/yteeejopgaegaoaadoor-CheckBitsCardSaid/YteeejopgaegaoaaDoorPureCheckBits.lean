/- The law CheckBits holds as a statement on numbers and lists: the program and the reference compute one CRC of any string by any description, or the same error. No condition beyond those of the statement. -/
import Derived.Test.YteeejopgaegaoaaDoorPCheckBitsx5
import Derived.Test.YteeejopgaegaoaaDoorSpecCrc
namespace Go.Proofs.YteeejopgaegaoaaDoor.Pure
open Go.RowKit Go.Proofs.YteeejopgaegaoaaDoor.PCheckBits Go.Proofs.YteeejopgaegaoaaDoorW.PrintWords Go.Proofs.YteeejopgaegaoaaDoorW.PrintLast Go.Proofs.YteeejopgaegaoaaDoor.Aid
namespace CheckBits_
theorem ev_bits_Valid_l0 (s : ByteArray) (hs : s.size ≤ 65536) : ∀ (d i : Nat), i + d = s.size → Ev (fun k => bits_Valid.l0 k s (s.size : Int) (i : Int)) (((bytesOf s).drop i).all isB) := by
  intro d
  induction d with
  | zero =>
    intro i h
    refine Ev.stop fun k => ?_
    simp only [bits_Valid.l0]
    rw [if_neg (by omega), drop_end s i (by omega)]; rfl
  | succ d ih =>
    intro i h
    have e : wrap64 ((i : Int) + 1) = ((i + 1 : Nat) : Int) := by rw [w64 (by omega) (by omega)]; rfl
    rw [drop_cons s i (by omega), List.all_cons]
    by_cases h48 : bt s i = 48
    · have e2 : isB (bt s i) = true := isB_iff.mpr (.inl h48)
      rw [e2, Bool.true_and]
      refine Ev.step (fun k => ?_) (ih (i + 1) (by omega))
      simp only [bits_Valid.l0]
      rw [if_pos (by omega), if_pos (by omega), if_pos (by omega), if_pos h48, e]
    · by_cases h49 : bt s i = 49
      · have e2 : isB (bt s i) = true := isB_iff.mpr (.inr h49)
        rw [e2, Bool.true_and]
        refine Ev.step (fun k => ?_) (ih (i + 1) (by omega))
        simp only [bits_Valid.l0]
        rw [if_pos (by omega), if_pos (by omega), if_pos (by omega), if_neg h48, if_pos h49, e]
      · have e2 : isB (bt s i) = false := by simp [isB, h48, h49]
        rw [e2, Bool.false_and]
        refine Ev.stop fun k => ?_
        simp only [bits_Valid.l0]
        rw [if_pos (by omega), if_pos (by omega), if_pos (by omega), if_neg h48, if_neg h49]
theorem ev_bits_Valid (s : ByteArray) : Ev (fun k => bits_Valid.f k s) (vB s) := by
  unfold bits_Valid.f vB
  by_cases h : s.size ≤ 65536
  · rw [decide_eq_true h, Bool.true_and]
    refine Ev.congr (fun k => by rw [if_neg (by omega)]) ?_
    exact Ev.step (fun k => by simp only [bits_Valid.j0]; rfl) (ev_bits_Valid_l0 s h s.size 0 (by omega))
  · rw [decide_eq_false h, Bool.false_and]
    refine Ev.now' fun k => ?_
    rw [if_pos (by omega)]
theorem ev_check_Right (w p i x : Int) (refl : Bool) : Ev (fun k => check_Right.f k w p i x refl) (rightC w p i x) := by
  have hyes : 1 ≤ w ∧ w ≤ 32 → False → Ev (fun k => check_Right.j0 k true w p i x refl) (rightC w p i x) := fun _ h => h.elim
  have hj : ¬ (1 ≤ w ∧ w ≤ 32) → Ev (fun k => check_Right.j0 k true w p i x refl) (rightC w p i x) := by
    intro h
    have e : rightC w p i x = false := by unfold rightC; rw [decide_eq_false (by omega)]
    rw [e]
    refine Ev.step (fun k => check_Right.j0.eq_2 ..) ?_
    exact Ev.pos rfl (Ev.now _)
  clear hyes
  unfold check_Right.f
  refine Ev.ite (fun h1 => hj (by omega)) (fun h1 => ?_)
  by_cases h2 : w > 32
  · rw [decide_eq_true h2]; exact hj (by omega)
  rw [decide_eq_false h2]
  obtain ⟨n, rfl⟩ := Int.eq_ofNat_of_zero_le (show 0 ≤ w by omega)
  have hle := pow2_le32 (show n ≤ 32 by omega)
  have hp := pow2_pos n
  refine Ev.step (fun k => check_Right.j0.eq_2 ..) ?_
  refine Ev.neg (by decide) (Ev.pos (by omega) (Ev.now' fun _ => ?_))
  rw [shl_one (by omega), w64 (x := 2 ^ n - 1) (by omega) (by omega)]
  unfold rightC
  rw [Int.toNat_natCast]
  repeat' split
  all_goals first
    | (rw [decide_eq_false (by omega)])
    | (congr 1; rw [Int.tmod_eq_emod_of_nonneg (by omega), Bool.eq_iff_iff, beq_iff_eq, decide_eq_true_iff]; omega)
theorem ref04_Right (w p i x : Int) (refl : Bool) : signalbenchref04_Right.f w p i x refl = some (rightC w p i x) := by
  unfold signalbenchref04_Right.f
  by_cases h : 1 ≤ w ∧ w ≤ 32
  case neg =>
    have e : rightC w p i x = false := by unfold rightC; rw [decide_eq_false (by omega)]
    rw [e]
    by_cases h1 : w < 1
    · rw [if_pos h1]
    · rw [if_neg h1, if_pos (by omega)]
  obtain ⟨n, rfl⟩ := Int.eq_ofNat_of_zero_le (show 0 ≤ w by omega)
  have hle := pow2_le32 (show n ≤ 32 by omega)
  have hp := pow2_pos n
  rw [if_neg (by omega), if_neg (by omega), if_pos (by omega), shl_one (by omega), w64 (x := 2 ^ n - 1) (by omega) (by omega)]
  unfold rightC
  rw [Int.toNat_natCast]
  repeat' split
  all_goals first
    | (rw [decide_eq_false (by omega)])
    | (congr 1; rw [Int.tmod_eq_emod_of_nonneg (by omega), Bool.eq_iff_iff, beq_iff_eq, decide_eq_true_iff]; omega)
theorem check_shift {w p i x : Nat} (C : Crc w p i x) (refl : Bool) {r b : Nat} (hr : r < 2 ^ w) : check_shift.f (w : Int) p i x refl r b = some ((stepC w p r b : Nat) : Int) := by
  have hw := C.w1
  have hw2 := C.w2
  have hle := pow2_le32 hw2
  have hln := npow_le32 hw2
  have hpp := pow2_pos w
  have hP := C.hp
  have ht := top_lt hw hr
  have e1 : wrap64 ((w : Int) - 1) = ((w - 1 : Nat) : Int) := by rw [w64 (by omega) (by omega)]; omega
  have e2 : Go.bits .and .i64 (shr .i64 (r : Int) ((w - 1 : Nat) : Int)) 1 = ((r / 2 ^ (w - 1) : Nat) : Int) := by
    rw [nshr _ (by omega), and_one]
    generalize r / 2 ^ (w - 1) = z at ht
    omega
  have e3 : wrap64 ((r : Int) * 2) = ((2 * r : Nat) : Int) := by rw [w64 (by omega) (by omega)]; omega
  have hm : 2 * r % 2 ^ w < 2 ^ w := Nat.mod_lt _ (npow_pos w)
  unfold check_shift.f stepC
  rw [e1, if_pos (by omega), if_pos (by omega), e2, e3, shl_one (by omega), w64 (x := 2 ^ w - 1) (by omega) (by omega), nmask w (by omega) (by omega), nxor (by omega) (by omega)]
  by_cases h : r / 2 ^ (w - 1) = b
  · rw [if_pos h, if_pos (by rw [h])]
  · rw [if_neg h, if_neg (fun e => h (by exact_mod_cast e))]
theorem ref04_next {w p i x : Nat} (C : Crc w p i x) (refl : Bool) {r b : Nat} (hr : r < 2 ^ w) : signalbenchref04_next.f (w : Int) p i x refl r b = some ((stepC w p r b : Nat) : Int) := by
  have hw := C.w1
  have hw2 := C.w2
  have hle := pow2_le32 hw2
  have hln := npow_le32 hw2
  have hpp := pow2_pos w
  have hP := C.hp
  have e1 : wrap64 ((w : Int) - 1) = ((w - 1 : Nat) : Int) := by rw [w64 (by omega) (by omega)]; omega
  have e3 : wrap64 ((r : Int) * 2) = ((2 * r : Nat) : Int) := by rw [w64 (by omega) (by omega)]; omega
  have e4 : Int.tmod ((2 * r : Nat) : Int) (2 ^ w) = ((2 * r % 2 ^ w : Nat) : Int) := by
    rw [Int.tmod_eq_emod_of_nonneg (by omega), Int.natCast_emod, npow_cast]
  have hm : 2 * r % 2 ^ w < 2 ^ w := Nat.mod_lt _ (npow_pos w)
  unfold signalbenchref04_next.f stepC
  rw [e1, if_pos (by omega), if_pos (by omega), shl_one (by omega), if_neg (by omega), nshr _ (by omega), e3, e4, nxor (by omega) (by omega)]
  by_cases h : r / 2 ^ (w - 1) = b
  · rw [if_pos h, if_pos (by rw [h])]
  · rw [if_neg h, if_neg (fun e => h (by exact_mod_cast e))]
theorem ev_check_finish {w p i x : Nat} (C : Crc w p i x) (refl : Bool) {r : Nat} (hr : r < 2 ^ w) : Ev (fun k => check_finish.f k (w : Int) p i x refl r) ((finC w x refl r : Nat) : Int) := by
  have hw2 := C.w2
  have hln := npow_le32 hw2
  have hX := C.hx
  have key : ∀ (d j acc q : Nat), j + d = w → acc < 2 ^ j → q < 4294967296 → Ev (fun k => check_finish.l0 k (q : Int) (acc : Int) (w : Int) (j : Int) (w : Int) p i x refl) ((revN d acc q ^^^ x : Nat) : Int) := by
    intro d
    induction d with
    | zero =>
      intro j acc q hj ha hq
      have hb : 2 ^ j ≤ 4294967296 := npow_le32 (by omega)
      refine Ev.step (fun k => check_finish.l0.eq_2 ..) ?_
      rw [nxor (by omega) (by omega)]
      exact Ev.neg (by omega) (Ev.now _)
    | succ d ih =>
      intro j acc q hj ha hq
      have hb : 2 ^ j ≤ 4294967296 := npow_le32 (by omega)
      have e1 : (q : Int) / 2 = ((q / 2 : Nat) : Int) := by omega
      have e2 : Go.bits .and .i64 (q : Int) 1 = ((q % 2 : Nat) : Int) := by rw [and_one]; omega
      have e3 : wrap64 ((acc : Int) * 2) = (acc : Int) * 2 ^ 1 := by rw [w64 (by omega) (by omega)]; omega
      have e4 : Go.bits .or .i64 ((acc : Int) * 2 ^ 1) ((q % 2 : Nat) : Int) = ((2 * acc + q % 2 : Nat) : Int) := by
        rw [or_add 1 (by omega) (by omega) (by omega) (by omega)]; omega
      refine Ev.step (fun k => check_finish.l0.eq_2 ..) ?_
      rw [e1, e2, e3, e4, wnat (by omega)]
      refine Ev.pos (by omega) (ih (j + 1) _ _ (by omega) ?_ (by omega))
      rw [Nat.pow_succ]; omega
  unfold check_finish.f finC
  cases refl
  · rw [nxor (by omega) (by omega)]
    exact Ev.neg (by decide) (Ev.now _)
  · exact Ev.pos rfl (key w 0 0 r (by omega) (by decide) (by omega))
theorem ev_ref04_final {w p i x : Nat} (C : Crc w p i x) (refl : Bool) {r : Nat} (hr : r < 2 ^ w) : Ev (fun k => signalbenchref04_final.f k (w : Int) p i x refl r) ((finC w x refl r : Nat) : Int) := by
  have hw2 := C.w2
  have hln := npow_le32 hw2
  have hX := C.hx
  have key : ∀ (d j acc : Nat), j + d = w → acc < 2 ^ j → Ev (fun k => signalbenchref04_final.l0 k (r : Int) (acc : Int) (j : Int) (w : Int) p i x refl) ((revN d acc (r / 2 ^ j) ^^^ x : Nat) : Int) := by
    intro d
    induction d with
    | zero =>
      intro j acc hj ha
      have hb : 2 ^ j ≤ 4294967296 := npow_le32 (by omega)
      refine Ev.step (fun k => signalbenchref04_final.l0.eq_2 ..) ?_
      rw [nxor (by omega) (by omega)]
      exact Ev.neg (by omega) (Ev.now _)
    | succ d ih =>
      intro j acc hj ha
      have hb : 2 ^ j ≤ 4294967296 := npow_le32 (by omega)
      have e4 : wrap64 (wrap64 (2 * (acc : Int)) + Int.tmod (shr .i64 (r : Int) (j : Int)) 2) = ((2 * acc + r / 2 ^ j % 2 : Nat) : Int) := by
        rw [nshr _ (by omega)]
        generalize r / 2 ^ j = z
        rw [w64 (x := 2 * (acc : Int)) (by omega) (by omega), Int.tmod_eq_emod_of_nonneg (by omega), w64 (by omega) (by omega)]
        omega
      have h := ih (j + 1) (2 * acc + r / 2 ^ j % 2) (by omega) (by rw [Nat.pow_succ]; omega)
      refine Ev.step (fun k => signalbenchref04_final.l0.eq_2 ..) ?_
      rw [e4, wnat (by omega), revN, half_pow2]
      exact Ev.pos (by omega) (Ev.pos (by omega) h)
  unfold signalbenchref04_final.f finC
  cases refl
  · rw [nxor (by omega) (by omega)]
    exact Ev.neg (by decide) (Ev.now _)
  · have := key w 0 0 (by omega) (by decide)
    rw [Nat.pow_zero, Nat.div_one] at this
    exact Ev.pos rfl this
theorem bit_nat {b : Int} (h : b = 48 ∨ b = 49) : (b - 48) % 256 = (((b - 48).toNat : Nat) : Int) := by omega
theorem ev_check_Bits_l1 {w p i x : Nat} (C : Crc w p i x) (refl : Bool) (s : ByteArray) (hs : s.size ≤ 65536) : ∀ (l pre : List Int) (r j : Nat), bytesOf s = pre ++ l → j = pre.length → AllB l → r < 2 ^ w →
    Ev (fun k => check_Bits.l1 k s (r : Int) (s.size : Int) (j : Int) (w : Int) p i x refl) (((finC w x refl (runC w p r l) : Nat) : Int), 0) := by
  have hlen := len_bytes s
  intro l
  induction l with
  | nil =>
    intro pre r j he hj hb hr
    rw [List.append_nil] at he
    rw [he] at hlen
    refine Ev.step (fun k => check_Bits.l1.eq_2 ..) ?_
    rw [runC]
    exact Ev.neg (by omega) (Ev.bind (ev_check_finish C refl hr) (Ev.now _))
  | cons b l ih =>
    intro pre r j he hj hb hr
    obtain ⟨hb1, hb⟩ := AllB.cons_iff.mp hb
    have hl : s.size = j + (l.length + 1) := by rw [← hlen, he, hj, List.length_append, List.length_cons]
    have hbt : bt s (j : Int) = b := by rw [bt_get s j (by omega)]; simp [he, hj]
    refine Ev.step (fun k => check_Bits.l1.eq_2 ..) ?_
    rw [hbt, wnat (by omega), bit_nat hb1, check_shift C refl hr, runC]
    exact Ev.pos (by omega) (Ev.pos (by omega) (Ev.pos (by omega) (Ev.sbind (ih (pre ++ [b]) _ (j + 1) (by rw [he]; simp) (by simp [hj]) hb (stepC_lt C r _)))))
theorem ev_check_Bits_l0 (w p i x : Int) (refl : Bool) (s : ByteArray) (hs : s.size ≤ 140737488355328) (res : Int × Int) : ∀ (l pre : List Int) (j : Nat), bytesOf s = pre ++ l → j = pre.length → (l.all isB = true → Ev (fun k => (bits_Valid.f k s).bind fun t => (if t = true then (check_Bits.j2 k s w p i x refl) else (some (0, 6)))) res) → (l.all isB = false → res = (0, 4)) →
    Ev (fun k => check_Bits.l0 k s (s.size : Int) (j : Int) w p i x refl) res := by
  have hlen := len_bytes s
  intro l
  induction l with
  | nil =>
    intro pre j he hj h0 h1
    rw [List.append_nil] at he
    rw [he] at hlen
    refine Ev.step (fun k => check_Bits.l0.eq_2 ..) ?_
    exact Ev.neg (by omega) (h0 rfl)
  | cons b l ih =>
    intro pre j he hj h0 h1
    have hl : s.size = j + (l.length + 1) := by rw [← hlen, he, hj, List.length_append, List.length_cons]
    have hbt : bt s (j : Int) = b := by rw [bt_get s j (by omega)]; simp [he, hj]
    rw [List.all_cons] at h0 h1
    have hnext : isB b = true → Ev (fun k => check_Bits.l0 k s (s.size : Int) ((j + 1 : Nat) : Int) w p i x refl) res := by
      intro hb
      rw [hb, Bool.true_and] at h0 h1
      exact ih (pre ++ [b]) (j + 1) (by rw [he]; simp) (by simp [hj]) h0 h1
    refine Ev.step (fun k => check_Bits.l0.eq_2 ..) ?_
    rw [hbt, wnat (by omega)]
    refine Ev.pos (by omega) (Ev.pos (by omega) (Ev.pos (by omega) (Ev.ite (fun h48 => hnext (isB_iff.mpr (.inl h48))) (fun h48 => Ev.ite (fun h49 => hnext (isB_iff.mpr (.inr h49))) (fun h49 => ?_)))))
    have e2 : isB b = false := by simp [isB, h48, h49]
    rw [h1 (by rw [e2, Bool.false_and])]
    exact Ev.now _
theorem ev_check_Bits (w p i x : Int) (refl : Bool) (s : ByteArray) (hs : s.size ≤ 140737488355328) : Ev (fun k => check_Bits.f k w p i x refl s) (bitsC w p i x refl s) := by
  unfold check_Bits.f bitsC
  refine Ev.bind (ev_check_Right w p i x refl) (Ev.ite (fun hc => ?_) (fun hc => ?_))
  case refine_2 => rw [if_neg hc]; exact Ev.now _
  rw [if_pos hc]
  obtain ⟨W, P, I, X, rfl, rfl, rfl, rfl, C⟩ := rightC_ok hc
  refine Ev.step (fun k => check_Bits.j0.eq_2 ..) ?_
  refine ev_check_Bits_l0 _ _ _ _ refl s hs _ (bytesOf s) [] 0 rfl rfl (fun hb => ?_) (fun hb => by rw [hb]; rfl)
  rw [if_pos hb]
  refine Ev.bind (ev_bits_Valid s) ?_
  unfold vB
  rw [hb, Bool.and_true]
  by_cases hl : s.size ≤ 65536
  · rw [if_pos hl, decide_eq_true hl]
    refine Ev.pos rfl ?_
    refine Ev.step (fun k => check_Bits.j2.eq_2 ..) ?_
    exact ev_check_Bits_l1 C refl s hl (bytesOf s) [] I 0 rfl rfl (all_isB.mp hb) C.hi
  · rw [if_neg hl, decide_eq_false hl]
    exact Ev.neg (by decide) (Ev.now _)
theorem ev_ref04_Bits_l1 {w p i x : Nat} (C : Crc w p i x) (refl : Bool) (s : ByteArray) (hs : s.size ≤ 65536) : ∀ (l pre : List Int) (r j : Nat), bytesOf s = pre ++ l → j = pre.length → AllB l → r < 2 ^ w →
    Ev (fun k => signalbenchref04_Bits.l1 k s (r : Int) (j : Int) (w : Int) p i x refl) (((finC w x refl (runC w p r l) : Nat) : Int), 0) := by
  have hlen := len_bytes s
  intro l
  induction l with
  | nil =>
    intro pre r j he hj hb hr
    rw [List.append_nil] at he
    rw [he] at hlen
    refine Ev.step (fun k => signalbenchref04_Bits.l1.eq_2 ..) ?_
    rw [runC]
    exact Ev.neg (by omega) (Ev.bind (ev_ref04_final C refl hr) (Ev.now _))
  | cons b l ih =>
    intro pre r j he hj hb hr
    obtain ⟨hb1, hb⟩ := AllB.cons_iff.mp hb
    have hl : s.size = j + (l.length + 1) := by rw [← hlen, he, hj, List.length_append, List.length_cons]
    have hbt : bt s (j : Int) = b := by rw [bt_get s j (by omega)]; simp [he, hj]
    refine Ev.step (fun k => signalbenchref04_Bits.l1.eq_2 ..) ?_
    rw [hbt, wnat (by omega), bit_nat hb1, ref04_next C refl hr, runC]
    exact Ev.pos (by omega) (Ev.pos (by omega) (Ev.sbind (ih (pre ++ [b]) _ (j + 1) (by rw [he]; simp) (by simp [hj]) hb (stepC_lt C r _))))
theorem ev_ref04_Bits_l0 (w p i x : Int) (refl : Bool) (s : ByteArray) (hs : s.size ≤ 140737488355328) (res : Int × Int) : ∀ (l pre : List Int) (j : Nat), bytesOf s = pre ++ l → j = pre.length → (l.all isB = true → Ev (fun k => (if (s.size : Int) > 65536 then (some (0, 6)) else (signalbenchref04_Bits.j2 k s w p i x refl))) res) → (l.all isB = false → res = (0, 4)) →
    Ev (fun k => signalbenchref04_Bits.l0 k s (j : Int) w p i x refl) res := by
  have hlen := len_bytes s
  intro l
  induction l with
  | nil =>
    intro pre j he hj h0 h1
    rw [List.append_nil] at he
    rw [he] at hlen
    refine Ev.step (fun k => signalbenchref04_Bits.l0.eq_2 ..) ?_
    exact Ev.neg (by omega) (h0 rfl)
  | cons b l ih =>
    intro pre j he hj h0 h1
    have hl : s.size = j + (l.length + 1) := by rw [← hlen, he, hj, List.length_append, List.length_cons]
    have hbt : bt s (j : Int) = b := by rw [bt_get s j (by omega)]; simp [he, hj]
    rw [List.all_cons] at h0 h1
    have hnext : isB b = true → Ev (fun k => signalbenchref04_Bits.l0 k s ((j + 1 : Nat) : Int) w p i x refl) res := by
      intro hb
      rw [hb, Bool.true_and] at h0 h1
      exact ih (pre ++ [b]) (j + 1) (by rw [he]; simp) (by simp [hj]) h0 h1
    refine Ev.step (fun k => signalbenchref04_Bits.l0.eq_2 ..) ?_
    rw [hbt, wnat (by omega)]
    refine Ev.pos (by omega) (Ev.pos (by omega) (Ev.ite (fun h48 => hnext (isB_iff.mpr (.inl h48))) (fun h48 => Ev.ite (fun h49 => hnext (isB_iff.mpr (.inr h49))) (fun h49 => ?_))))
    have e2 : isB b = false := by simp [isB, h48, h49]
    rw [h1 (by rw [e2, Bool.false_and])]
    exact Ev.now _
theorem ev_ref04_Bits (w p i x : Int) (refl : Bool) (s : ByteArray) (hs : s.size ≤ 140737488355328) : Ev (fun k => signalbenchref04_Bits.f k w p i x refl s) (bitsC w p i x refl s) := by
  unfold signalbenchref04_Bits.f bitsC
  rw [ref04_Right]
  refine Ev.sbind (Ev.ite (fun hc => ?_) (fun hc => ?_))
  case refine_2 => rw [if_neg hc]; exact Ev.now _
  rw [if_pos hc]
  obtain ⟨W, P, I, X, rfl, rfl, rfl, rfl, C⟩ := rightC_ok hc
  refine Ev.step (fun k => signalbenchref04_Bits.j0.eq_2 ..) ?_
  refine ev_ref04_Bits_l0 _ _ _ _ refl s hs _ (bytesOf s) [] 0 rfl rfl (fun hb => ?_) (fun hb => by rw [hb]; rfl)
  rw [if_pos hb]
  refine Ev.ite (fun hl => ?_) (fun hl => ?_)
  · rw [if_neg (by omega)]; exact Ev.now _
  · rw [if_pos (by omega)]
    refine Ev.step (fun k => signalbenchref04_Bits.j2.eq_2 ..) ?_
    exact ev_ref04_Bits_l1 C refl s (by omega) (bytesOf s) [] I 0 rfl rfl (all_isB.mp hb) C.hi
theorem ev_awake : Ev (fun k => signalbenchlaw04_awake.f k) true := by
  refine Ev.of (fun k => signalbenchlaw04_awake.mono k) (k := 80) ?_
  decide +kernel
theorem main : signalbenchlaw04_CheckBits.Pure := by
  intro w p i x refl s _ _ _ _ hs
  refine Ev.rounds (g := fun k => signalbenchlaw04_CheckBits.f k w p i x refl s) ?_
  unfold signalbenchlaw04_CheckBits.f
  refine Ev.ite (fun _ => Ev.bind ev_awake (Ev.now true)) (fun h => ?_)
  exact Ev.bind (ev_check_Bits w p i x refl s (by omega)) (Ev.bind (ev_ref04_Bits w p i x refl s (by omega)) (Ev.pos rfl (Ev.pos rfl (Ev.bind ev_awake (Ev.now true)))))
end CheckBits_
theorem CheckBits : signalbenchlaw04_CheckBits.Pure := CheckBits_.main
end Go.Proofs.YteeejopgaegaoaaDoor.Pure
