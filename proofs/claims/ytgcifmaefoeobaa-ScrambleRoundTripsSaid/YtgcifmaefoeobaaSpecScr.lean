/- The register of the scrambler: parity, insertion and the check of a configuration, on numbers alone. No condition of its own. -/
import Derived.Test.YtgcifmaefoeobaaSpecBits
namespace Go.Proofs.Ytgcifmaefoeobaa.Aid
open Go.RowKit Go.Proofs.YtgcifmaefoeobaaW.PrintWords Go.Proofs.YtgcifmaefoeobaaW.PrintLast

def checkS (w t : Int) : Int := if w < 2 ∨ w > 31 ∨ t < 1 ∨ t ≥ 2 ^ w.toNat then 2 else if t ≥ 2 ^ (w.toNat - 1) then 0 else 1
theorem checkS_ok {w t : Int} (h : checkS w t = 0) : 2 ≤ w ∧ w ≤ 31 ∧ 1 ≤ t ∧ t < 2 ^ w.toNat ∧ 2 ^ (w.toNat - 1) ≤ t := by
  unfold checkS at h
  split at h
  · omega
  · split at h
    · rename_i h1 h2; refine ⟨?_, ?_, ?_, ?_, ?_⟩ <;> omega
    · omega
/-- The parity of the lowest w bits. -/
def parN (x : Nat) : Nat → Nat
  | 0 => 0
  | w + 1 => (parN x w + x / 2 ^ w % 2) % 2
theorem parN_lt (x : Nat) : ∀ w, parN x w < 2
  | 0 => by simp [parN]
  | w + 1 => Nat.mod_lt _ (by decide)
def parS (w : Nat) (t r : Int) : Int := (parN (r.toNat &&& t.toNat) w : Int)
theorem parS_bit (w : Nat) (t r : Int) : parS w t r = 0 ∨ parS w t r = 1 := by
  have := parN_lt (r.toNat &&& t.toNat) w
  unfold parS; omega
def insS (w : Nat) (r b : Int) : Int := (2 * r + b) % 2 ^ w
theorem insS_bd (w : Nat) (r b : Int) : 0 ≤ insS w r b ∧ insS w r b < 2 ^ w :=
  ⟨Int.emod_nonneg _ (by have := pow2_pos w; omega), Int.emod_lt_of_pos _ (pow2_pos w)⟩
theorem pow2_31 : (2 : Int) ^ 31 = 2147483648 := by decide
theorem pow2_le31 {w : Nat} (h : w ≤ 31) : (2 : Int) ^ w ≤ 2147483648 := by rw [← pow2_31]; exact pow2_le h
theorem xor_bit {a b : Int} (ha : a = 0 ∨ a = 1) (hb : b = 0 ∨ b = 1) : Go.bits .xor .i64 a b = (a + b) % 2 := by
  rcases ha with rfl | rfl <;> rcases hb with rfl | rfl <;> decide
theorem and_mask {x : Int} (w : Nat) (hw : w ≤ 62) (h0 : 0 ≤ x) (h1 : x < 9223372036854775808) : Go.bits .and .i64 x (2 ^ w - 1) = x % 2 ^ w := by
  have hp := pow2_pos w
  have h62 := pow2_62
  have hle : (2 : Int) ^ w ≤ 2 ^ 62 := pow2_le hw
  rw [and_eq h0 h1 (by omega) (by omega)]
  obtain ⟨n, rfl⟩ := Int.eq_ofNat_of_zero_le h0
  have e : ((2 : Int) ^ w - 1).toNat = 2 ^ w - 1 := by
    have : (2 : Int) ^ w = ((2 ^ w : Nat) : Int) := by rw [Int.natCast_pow]; rfl
    omega
  rw [e, Int.toNat_natCast, Nat.and_two_pow_sub_one_eq_mod]
  rw [Int.natCast_emod, Int.natCast_pow]; rfl
theorem bit_test {t : Int} (w : Nat) (h0 : 0 ≤ t) (h1 : t < 2 ^ (w + 1)) : t / 2 ^ w % 2 = 1 ↔ 2 ^ w ≤ t := by
  have hp := pow2_pos w
  have hs := pow2_succ w
  have hlt : t / 2 ^ w < 2 := Int.ediv_lt_of_lt_mul hp (by omega)
  have h3 : 0 ≤ t / 2 ^ w := Int.ediv_nonneg h0 (by omega)
  constructor
  · intro h
    have : 1 ≤ t / 2 ^ w := by omega
    have := (Int.le_ediv_iff_mul_le hp).mp this
    omega
  · intro h
    have : 1 ≤ t / 2 ^ w := (Int.le_ediv_iff_mul_le hp).mpr (by omega)
    omega
/-- A number's bits, by halves. -/
theorem half_pow (x w : Nat) : x / 2 ^ w / 2 = x / 2 ^ (w + 1) := by rw [Nat.div_div_eq_div_mul, Nat.pow_succ]
theorem and_bit (a b w : Nat) : (a &&& b) / 2 ^ w % 2 = (a / 2 ^ w % 2) * (b / 2 ^ w % 2) := by
  have h := Nat.testBit_and a b w
  simp only [Nat.testBit_eq_decide_div_mod_eq] at h
  rcases Nat.mod_two_eq_zero_or_one (a / 2 ^ w) with ha | ha <;> rcases Nat.mod_two_eq_zero_or_one (b / 2 ^ w) with hb | hb <;> rcases Nat.mod_two_eq_zero_or_one ((a &&& b) / 2 ^ w) with hc | hc <;> simp [ha, hb, hc] at h ⊢
theorem xor_bit_at (a b w : Nat) : (a ^^^ b) / 2 ^ w % 2 = (a / 2 ^ w % 2 + b / 2 ^ w % 2) % 2 := by
  have h := Nat.testBit_xor a b w
  simp only [Nat.testBit_eq_decide_div_mod_eq] at h
  rcases Nat.mod_two_eq_zero_or_one (a / 2 ^ w) with ha | ha <;> rcases Nat.mod_two_eq_zero_or_one (b / 2 ^ w) with hb | hb <;> rcases Nat.mod_two_eq_zero_or_one ((a ^^^ b) / 2 ^ w) with hc | hc <;> simp [ha, hb, hc] at h ⊢
theorem parN_xor (x y : Nat) : ∀ w, parN (x ^^^ y) w = (parN x w + parN y w) % 2
  | 0 => rfl
  | w + 1 => by
    simp only [parN, parN_xor x y w, xor_bit_at]
    omega
end Go.Proofs.Ytgcifmaefoeobaa.Aid
