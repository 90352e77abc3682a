/- The register of a cyclic redundancy check, on numbers and lists alone. No condition of its own. -/
import Derived.Test.YtmalhgidhieamaaDoorSpecBytes
namespace Go.Proofs.YtmalhgidhieamaaDoor.Aid
open Go.RowKit Go.Proofs.YtmalhgidhieamaaDoorW.PrintWords Go.Proofs.YtmalhgidhieamaaDoorW.PrintLast

theorem pow2_32 : (2 : Int) ^ 32 = 4294967296 := by decide
theorem pow2_le32 {w : Nat} (h : w ≤ 32) : (2 : Int) ^ w ≤ 4294967296 := by rw [← pow2_32]; exact pow2_le h
theorem npow_le32 {w : Nat} (h : w ≤ 32) : 2 ^ w ≤ 4294967296 := Nat.le_trans (Nat.pow_le_pow_right (by decide) h) (by decide)
theorem npow_cast (w : Nat) : ((2 ^ w : Nat) : Int) = 2 ^ w := by rw [Int.natCast_pow]; rfl
theorem npow_pos (w : Nat) : 0 < 2 ^ w := Nat.two_pow_pos w
def rightC (w p i x : Int) : Bool := decide (1 ≤ w ∧ w ≤ 32 ∧ 0 ≤ p ∧ p < 2 ^ w.toNat ∧ 0 ≤ i ∧ i < 2 ^ w.toNat ∧ 0 ≤ x ∧ x < 2 ^ w.toNat ∧ p % 2 = 1)
/-- A valid description. -/
structure Crc (w p i x : Nat) : Prop where
  w1 : 1 ≤ w
  w2 : w ≤ 32
  hp : p < 2 ^ w
  hi : i < 2 ^ w
  hx : x < 2 ^ w
  odd : p % 2 = 1
theorem rightC_ok {w p i x : Int} (h : rightC w p i x = true) : ∃ W P I X : Nat, w = (W : Int) ∧ p = (P : Int) ∧ i = (I : Int) ∧ x = (X : Int) ∧ Crc W P I X := by
  unfold rightC at h
  rw [decide_eq_true_eq] at h
  obtain ⟨h1, h2, h3, h4, h5, h6, h7, h8, h9⟩ := h
  obtain ⟨W, rfl⟩ := Int.eq_ofNat_of_zero_le (show 0 ≤ w by omega)
  obtain ⟨P, rfl⟩ := Int.eq_ofNat_of_zero_le h3
  obtain ⟨I, rfl⟩ := Int.eq_ofNat_of_zero_le h5
  obtain ⟨X, rfl⟩ := Int.eq_ofNat_of_zero_le h7
  rw [Int.toNat_natCast, ← npow_cast] at h4 h6 h8
  exact ⟨W, P, I, X, rfl, rfl, rfl, rfl, by omega, by omega, by omega, by omega, by omega, by omega⟩
def stepC (w p r b : Nat) : Nat := if r / 2 ^ (w - 1) = b then 2 * r % 2 ^ w else (2 * r % 2 ^ w) ^^^ p
theorem stepC_lt {w p i x : Nat} (C : Crc w p i x) (r b : Nat) : stepC w p r b < 2 ^ w := by
  have h := Nat.mod_lt (2 * r) (npow_pos w)
  unfold stepC
  split
  · exact h
  · exact Nat.xor_lt_two_pow h C.hp
def runC (w p : Nat) : Nat → List Int → Nat
  | r, [] => r
  | r, x :: l => runC w p (stepC w p r (x - 48).toNat) l
theorem runC_lt {w p i x : Nat} (C : Crc w p i x) : ∀ (l : List Int) (r : Nat), r < 2 ^ w → runC w p r l < 2 ^ w
  | [], _, h => h
  | _ :: l, r, _ => runC_lt C l _ (stepC_lt C r _)
theorem runC_append (w p : Nat) (m : List Int) : ∀ (l : List Int) (r : Nat), runC w p r (l ++ m) = runC w p (runC w p r l) m
  | [], _ => rfl
  | x :: l, r => by simp only [List.cons_append, runC, runC_append w p m l]
/-- The bits of a register in the opposite order, behind those that are there. -/
def revN : Nat → Nat → Nat → Nat
  | 0, acc, _ => acc
  | n + 1, acc, r => revN n (2 * acc + r % 2) (r / 2)
theorem revN_lt : ∀ (n k acc r : Nat), acc < 2 ^ k → revN n acc r < 2 ^ (k + n)
  | 0, _, _, _, h => h
  | n + 1, k, acc, r, h => by
    have := revN_lt n (k + 1) (2 * acc + r % 2) (r / 2) (by rw [Nat.pow_succ]; omega)
    rw [revN, show k + (n + 1) = k + 1 + n by omega]
    exact this
def finC (w x : Nat) (refl : Bool) (r : Nat) : Nat := (if refl = true then revN w 0 r else r) ^^^ x
theorem finC_lt {w p i x : Nat} (C : Crc w p i x) (refl : Bool) {r : Nat} (h : r < 2 ^ w) : finC w x refl r < 2 ^ w := by
  unfold finC
  refine Nat.xor_lt_two_pow ?_ C.hx
  split
  · have := revN_lt w 0 0 r (by decide); rwa [Nat.zero_add] at this
  · exact h
theorem nshr {r : Nat} (n : Nat) (hn : n ≤ 64) : shr .i64 (r : Int) (n : Int) = ((r / 2 ^ n : Nat) : Int) := by
  rw [shr_eq _ _ n rfl hn, Int.natCast_ediv, Int.natCast_pow]; rfl
theorem nmask {x : Nat} (w : Nat) (hw : w ≤ 62) (h : x < 9223372036854775808) : Go.bits .and .i64 (x : Int) (2 ^ w - 1) = ((x % 2 ^ w : Nat) : Int) := by
  have hp := pow2_pos w
  have h62 := pow2_62
  have hle : (2 : Int) ^ w ≤ 2 ^ 62 := pow2_le hw
  rw [and_eq (by omega) (by omega) (by omega) (by omega)]
  have e : ((2 : Int) ^ w - 1).toNat = 2 ^ w - 1 := by rw [← npow_cast]; omega
  rw [e, Int.toNat_natCast, Nat.and_two_pow_sub_one_eq_mod]
theorem nxor {a b : Nat} (ha : a < 9223372036854775808) (hb : b < 9223372036854775808) : Go.bits .xor .i64 (a : Int) (b : Int) = ((a ^^^ b : Nat) : Int) := by
  rw [xor_eq (by omega) (by omega) (by omega) (by omega), Int.toNat_natCast, Int.toNat_natCast]
theorem shl_one {w : Nat} (h : w ≤ 62) : shl .i64 1 (w : Int) = 2 ^ w := by
  have hp := pow2_pos w
  have h62 := pow2_62
  have hle : (2 : Int) ^ w ≤ 2 ^ 62 := pow2_le h
  rw [shl_eq w rfl (by omega) (by omega) (by omega)]; omega
theorem top_lt {w r : Nat} (h1 : 1 ≤ w) (h : r < 2 ^ w) : r / 2 ^ (w - 1) < 2 := by
  refine Nat.div_lt_of_lt_mul ?_
  have : 2 ^ w = 2 ^ (w - 1) * 2 := by rw [← Nat.pow_succ]; congr 1; omega
  omega
theorem half_pow2 (x w : Nat) : x / 2 ^ w / 2 = x / 2 ^ (w + 1) := by rw [Nat.div_div_eq_div_mul, Nat.pow_succ]
/-- The CRC of a sequence of bits, or the error. -/
def crcL (w p i x : Int) (refl : Bool) (l : List Int) : Int := (finC w.toNat x.toNat refl (runC w.toNat p.toNat i.toNat l) : Int)
def bitsC (w p i x : Int) (refl : Bool) (s : ByteArray) : Int × Int :=
  if rightC w p i x = true then (if (bytesOf s).all isB = true then (if s.size ≤ 65536 then (crcL w p i x refl (bytesOf s), 0) else (0, 6)) else (0, 4)) else (0, 1)
def bytesC (w p i x : Int) (refl : Bool) (s : ByteArray) : Int × Int :=
  if rightC w p i x = true then (if s.size > 8192 then (0, 6) else (crcL w p i x refl (fromBytesL (bytesOf s) (!refl)), 0)) else (0, 1)
end Go.Proofs.YtmalhgidhieamaaDoor.Aid
