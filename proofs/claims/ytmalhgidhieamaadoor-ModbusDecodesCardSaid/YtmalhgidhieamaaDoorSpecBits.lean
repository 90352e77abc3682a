/- What the functions on sequences of bits compute, on lists of numbers alone. No condition of its own. -/
import Derived.Test.YtmalhgidhieamaaDoorAid
namespace Go.Proofs.YtmalhgidhieamaaDoor.Aid
open Go.RowKit Go.Proofs.YtmalhgidhieamaaDoorW.PrintWords Go.Proofs.YtmalhgidhieamaaDoorW.PrintLast

def isB (x : Int) : Bool := decide (x = 48) || decide (x = 49)
def AllB (l : List Int) : Prop := ∀ x ∈ l, x = 48 ∨ x = 49
theorem isB_iff {x : Int} : isB x = true ↔ x = 48 ∨ x = 49 := by simp [isB]
theorem all_isB {l : List Int} : l.all isB = true ↔ AllB l := by
  simp only [List.all_eq_true, AllB, isB_iff]
theorem AllB.byts {l : List Int} (h : AllB l) : Byts l := fun x hx => by rcases h x hx with rfl | rfl <;> omega
theorem AllB.nil : AllB [] := fun _ h => by cases h
theorem AllB.cons_iff {x : Int} {l : List Int} : AllB (x :: l) ↔ (x = 48 ∨ x = 49) ∧ AllB l := by simp [AllB]
theorem AllB.append_iff {l m : List Int} : AllB (l ++ m) ↔ AllB l ∧ AllB m := by
  simp only [AllB, List.mem_append]
  exact ⟨fun h => ⟨fun x hx => h x (.inl hx), fun x hx => h x (.inr hx)⟩, fun h x hx => hx.elim (h.1 x) (h.2 x)⟩
theorem AllB.reverse {l : List Int} (h : AllB l) : AllB l.reverse := fun x hx => h x (List.mem_reverse.mp hx)
theorem AllB.take {l : List Int} (h : AllB l) (n : Nat) : AllB (l.take n) := fun x hx => h x (List.mem_of_mem_take hx)
theorem AllB.drop {l : List Int} (h : AllB l) (n : Nat) : AllB (l.drop n) := fun x hx => h x (List.mem_of_mem_drop hx)
/-- A sequence of bits. -/
def vB (s : ByteArray) : Bool := decide (s.size ≤ 65536) && (bytesOf s).all isB
theorem vB_iff {s : ByteArray} : vB s = true ↔ s.size ≤ 65536 ∧ AllB (bytesOf s) := by
  simp only [vB, Bool.and_eq_true, decide_eq_true_eq, all_isB]
theorem vB_str {xs : List Int} (h : AllB xs) (hl : xs.length ≤ 65536) : vB (strOfNums xs) = true := by
  rw [vB_iff, size_str, bytes_str h.byts]; exact ⟨hl, h⟩

/-- The number of a sequence of bits, the lowest first. -/
def valL : List Int → Int
  | [] => 0
  | x :: xs => (x - 48) + 2 * valL xs
theorem pow2_pos (n : Nat) : (0 : Int) < 2 ^ n := Int.pow_pos (by decide)
theorem pow2_succ (n : Nat) : (2 : Int) ^ (n + 1) = 2 * 2 ^ n := by rw [Int.pow_succ]; omega
theorem pow2_add (a b : Nat) : (2 : Int) ^ (a + b) = 2 ^ a * 2 ^ b := Int.pow_add 2 a b
theorem pow2_le {a b : Nat} (h : a ≤ b) : (2 : Int) ^ a ≤ 2 ^ b := by
  obtain ⟨d, rfl⟩ := Nat.exists_eq_add_of_le h
  rw [pow2_add]
  have := pow2_pos d
  have := pow2_pos a
  have : (2 : Int) ^ a * 1 ≤ 2 ^ a * 2 ^ d := Int.mul_le_mul_of_nonneg_left (by omega) (by omega)
  omega
theorem pow2_62 : (2 : Int) ^ 62 = 4611686018427387904 := by decide
theorem valL_bd : ∀ {l : List Int}, AllB l → 0 ≤ valL l ∧ valL l < 2 ^ l.length
  | [], _ => by simp [valL]
  | x :: xs, h => by
    obtain ⟨hx, hs⟩ := AllB.cons_iff.mp h
    obtain ⟨h0, h1⟩ := valL_bd hs
    rw [List.length_cons, pow2_succ]
    unfold valL
    rcases hx with rfl | rfl <;> omega
theorem valL_snoc (l : List Int) (x : Int) : valL (l ++ [x]) = valL l + (x - 48) * 2 ^ l.length := by
  induction l with
  | nil => simp [valL]
  | cons y l ih =>
    rw [List.cons_append, valL, ih, valL, List.length_cons, pow2_succ, Int.mul_add, Int.add_assoc]
    congr 2
    rw [Int.mul_left_comm]
theorem valL_append (l m : List Int) : valL (l ++ m) = valL l + valL m * 2 ^ l.length := by
  induction l with
  | nil => simp [valL]
  | cons y l ih =>
    rw [List.cons_append, valL, ih, valL, List.length_cons, pow2_succ, Int.mul_add, Int.add_assoc]
    congr 2
    rw [Int.mul_left_comm]

/-- The lowest bits of a number, the lowest first, as characters. -/
def lsb (n : Int) : Nat → List Int
  | 0 => []
  | w + 1 => lsb n w ++ [48 + n / 2 ^ w % 2]
theorem lsb_len (n : Int) (w : Nat) : (lsb n w).length = w := by induction w with | zero => rfl | succ w ih => simp [lsb, ih]
theorem lsb_bits (n : Int) (w : Nat) : AllB (lsb n w) := by
  induction w with
  | zero => exact AllB.nil
  | succ w ih =>
    refine AllB.append_iff.mpr ⟨ih, AllB.cons_iff.mpr ⟨?_, AllB.nil⟩⟩
    have := Int.emod_two_eq (n / 2 ^ w)
    omega
theorem lsb_get (n : Int) : ∀ (w i : Nat) (h : i < (lsb n w).length), (lsb n w)[i] = 48 + n / 2 ^ i % 2
  | 0, i, h => by simp [lsb] at h
  | w + 1, i, h => by
    by_cases e : i < w
    · have h2 : i < (lsb n w).length := by rw [lsb_len]; exact e
      simp only [lsb]
      rw [List.getElem_append_left h2, lsb_get n w i h2]
    · have : i = w := by rw [lsb_len] at h; omega
      subst this
      have := lsb_len n i
      simp [lsb, List.getElem_append_right, this]
theorem valL_lsb (n : Int) (h : 0 ≤ n) : ∀ w, valL (lsb n w) = n % 2 ^ w
  | 0 => by simp [valL, lsb]
  | w + 1 => by
    rw [lsb, valL_snoc, valL_lsb n h w, lsb_len]
    have e : 48 + n / 2 ^ w % 2 - 48 = n / 2 ^ w % 2 := by omega
    rw [e]
    obtain ⟨m, rfl⟩ := Int.eq_ofNat_of_zero_le h
    have := Nat.mod_pow_succ (x := m) (b := 2) (k := w)
    have h2 := congrArg (fun z : Nat => (z : Int)) this
    simp only [Int.natCast_emod, Int.natCast_add, Int.natCast_mul, Int.natCast_pow, Int.natCast_ediv] at h2
    rw [Int.mul_comm (_ % 2)]
    exact h2.symm

/-- FromInt, Int. -/
def fromIntL (n : Int) (w : Nat) (msb : Bool) : List Int := if msb = true then (lsb n w).reverse else lsb n w
theorem fromIntL_len (n : Int) (w : Nat) (msb : Bool) : (fromIntL n w msb).length = w := by
  unfold fromIntL; split <;> simp [lsb_len]
theorem fromIntL_bits (n : Int) (w : Nat) (msb : Bool) : AllB (fromIntL n w msb) := by
  unfold fromIntL; split
  · exact (lsb_bits n w).reverse
  · exact lsb_bits n w
theorem fromIntL_get (n : Int) (w : Nat) (msb : Bool) (i : Nat) (h : i < (fromIntL n w msb).length) : (fromIntL n w msb)[i] = 48 + n / 2 ^ (if msb = true then w - 1 - i else i) % 2 := by
  have hl := lsb_len n w
  cases msb with
  | true =>
    have h2 : i < w := by rw [fromIntL_len] at h; exact h
    have : (fromIntL n w true)[i] = (lsb n w).reverse[i]'(by rw [List.length_reverse]; omega) := rfl
    rw [this, List.getElem_reverse, lsb_get]
    simp [hl]
  | false => exact lsb_get n w i h
def fromIntS (n w : Int) (msb : Bool) : ByteArray := if w < 0 then ⟨#[]⟩ else if w > 62 then ⟨#[]⟩ else strOfNums (fromIntL n w.toNat msb)
def intL (l : List Int) (msb : Bool) : Int := if msb = true then valL l.reverse else valL l
def intS (s : ByteArray) (msb : Bool) : Int × Int := if vB s = true then (if s.size ≤ 62 then (intL (bytesOf s) msb, 0) else (0, 6)) else (0, 4)
theorem intL_fromIntL (n : Int) (w : Nat) (msb : Bool) (h0 : 0 ≤ n) (h1 : n < 2 ^ w) : intL (fromIntL n w msb) msb = n := by
  cases msb
  · simp [intL, fromIntL, valL_lsb n h0 w, Int.emod_eq_of_lt h0 h1]
  · simp [intL, fromIntL, valL_lsb n h0 w, Int.emod_eq_of_lt h0 h1]
theorem intS_fromIntS (n w : Int) (msb : Bool) (hw : 0 ≤ w) (hw2 : w ≤ 62) (h0 : 0 ≤ n) (h1 : n < 2 ^ w.toNat) : intS (fromIntS n w msb) msb = (n, 0) := by
  have e : fromIntS n w msb = strOfNums (fromIntL n w.toNat msb) := by unfold fromIntS; rw [if_neg (by omega), if_neg (by omega)]
  unfold intS
  rw [e]
  rw [if_pos (vB_str (fromIntL_bits _ _ _) (by rw [fromIntL_len]; omega)), size_str, fromIntL_len, if_pos (by omega), bytes_str (fromIntL_bits _ _ _).byts, intL_fromIntL n _ msb h0 h1]

/-- Invert, Reverse, Ones, Run. -/
def inv (x : Int) : Int := (97 - x) % 256
def invL (l : List Int) : List Int := l.map inv
theorem inv_bit {x : Int} (h : x = 48 ∨ x = 49) : inv x = 97 - x := by unfold inv; rcases h with rfl | rfl <;> decide
theorem invL_bits {l : List Int} (h : AllB l) : AllB (invL l) := by
  intro y hy
  obtain ⟨x, hx, rfl⟩ := List.mem_map.mp hy
  rw [inv_bit (h x hx)]
  rcases h x hx with rfl | rfl <;> omega
theorem invL_invL {l : List Int} (h : AllB l) : invL (invL l) = l := by
  induction l with
  | nil => rfl
  | cons x l ih =>
    obtain ⟨hx, hl⟩ := AllB.cons_iff.mp h
    have e : invL (invL (x :: l)) = inv (inv x) :: invL (invL l) := rfl
    rw [e, ih hl]
    congr 1
    rcases hx with rfl | rfl <;> decide
def onesL : List Int → Int
  | [] => 0
  | x :: xs => (x - 48) + onesL xs
theorem onesL_bd : ∀ {l : List Int}, AllB l → 0 ≤ onesL l ∧ onesL l ≤ l.length
  | [], _ => by simp [onesL]
  | x :: xs, h => by
    obtain ⟨hx, hs⟩ := AllB.cons_iff.mp h
    have := onesL_bd hs
    rw [List.length_cons]
    unfold onesL
    rcases hx with rfl | rfl <;> omega
theorem onesL_inv : ∀ {l : List Int}, AllB l → onesL l + onesL (invL l) = l.length
  | [], _ => by simp [onesL, invL]
  | x :: xs, h => by
    obtain ⟨hx, hs⟩ := AllB.cons_iff.mp h
    have := onesL_inv hs
    have e : invL (x :: xs) = inv x :: invL xs := rfl
    rw [e, onesL, onesL, inv_bit hx, List.length_cons]
    omega
/-- How many cells at the head of a list are x. -/
def headRun (x : Int) : List Int → Nat
  | [] => 0
  | y :: l => if y = x then headRun x l + 1 else 0
theorem headRun_le (x : Int) : ∀ l, headRun x l ≤ l.length
  | [] => Nat.le_refl _
  | y :: l => by
    have := headRun_le x l
    unfold headRun
    split <;> simp <;> omega
theorem headRun_eq (x : Int) : ∀ (l : List Int) (i : Nat) (h : i < headRun x l), l[i]'(by have := headRun_le x l; omega) = x
  | [], i, h => by simp [headRun] at h
  | y :: l, i, h => by
    unfold headRun at h
    split at h
    · rename_i e
      cases i with
      | zero => exact e
      | succ i => simpa using headRun_eq x l i (by omega)
    · omega
theorem headRun_ne (x : Int) : ∀ (l : List Int) (h : headRun x l < l.length), l[headRun x l] ≠ x
  | [], h => by simp at h
  | y :: l, h => by
    by_cases e : y = x
    · have e2 : headRun x (y :: l) = headRun x l + 1 := by simp [headRun, e]
      have h3 : headRun x l < l.length := by rw [e2, List.length_cons] at h; omega
      have := headRun_ne x l h3
      simpa [e2] using this
    · have e2 : headRun x (y :: l) = 0 := by simp [headRun, e]
      simpa [e2] using e
def runS (s : ByteArray) (at_ : Int) : Int := if vB s = true ∧ 0 ≤ at_ ∧ at_ < s.size then (headRun (bt s at_) ((bytesOf s).drop at_.toNat) : Int) else 0
def invS (s : ByteArray) : ByteArray := if vB s = true then strOfNums (invL (bytesOf s)) else ⟨#[]⟩
def revS (s : ByteArray) : ByteArray := if vB s = true then strOfNums (bytesOf s).reverse else ⟨#[]⟩
def onesS (s : ByteArray) : Int := if vB s = true then onesL (bytesOf s) else 0
end Go.Proofs.YtmalhgidhieamaaDoor.Aid
