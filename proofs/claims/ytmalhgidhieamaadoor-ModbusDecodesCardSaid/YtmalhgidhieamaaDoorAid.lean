/- Plain lemmas on numbers, lists and strings that the pure statements of this seat share. No condition of its own. -/
import Derived.Test.YtmalhgidhieamaaDoorVMore
namespace Go.Proofs.YtmalhgidhieamaaDoor.Aid
open Go.RowKit Go.Proofs.YtmalhgidhieamaaDoorW.PrintWords Go.Proofs.YtmalhgidhieamaaDoorW.PrintLast

theorem w64 {x : Int} (h0 : -9223372036854775808 ≤ x) (h1 : x < 9223372036854775808) : wrap64 x = x := by
  unfold wrap64; omega

theorem toList_data (s : ByteArray) : s.toList = s.data.toList := by
  have key : ∀ (d i : Nat) (r : List UInt8), i + d = s.size → ByteArray.toList.loop s i r = r.reverse ++ s.data.toList.drop i := by
    intro d
    induction d with
    | zero =>
      intro i r h
      rw [ByteArray.toList.loop]
      have h2 : s.data.toList.length = s.size := Array.length_toList
      rw [if_neg (by omega), List.drop_of_length_le (by omega)]
      simp
    | succ d ih =>
      intro i r h
      rw [ByteArray.toList.loop]
      have hi : i < s.size := by omega
      have h2 : s.data.toList.length = s.size := Array.length_toList
      rw [if_pos hi, ih (i + 1) _ (by omega), List.drop_eq_getElem_cons (i := i) (by omega)]
      have h3 : s.get! i = s.data.toList[i]'(by omega) := by
        show s.data[i]! = _
        rw [getElem!_pos s.data i hi]; simp
      rw [h3]; simp
  have := key s.size 0 [] (by omega)
  simpa [ByteArray.toList] using this

theorem toList_inj {s t : ByteArray} (h : s.toList = t.toList) : s = t := by
  rw [toList_data, toList_data] at h
  exact ByteArray.ext (Array.toList_inj.mp h)
theorem toList_iff {s t : ByteArray} : s.toList = t.toList ↔ s = t := ⟨toList_inj, fun h => by rw [h]⟩

theorem len_bytes (s : ByteArray) : (bytesOf s).length = s.size := by
  unfold bytesOf; rw [List.length_map]; exact Array.length_toList
/-- Numbers that are bytes. -/
def Byts (xs : List Int) : Prop := ∀ x ∈ xs, 0 ≤ x ∧ x < 256
theorem Byts.nil : Byts [] := fun _ h => by cases h
theorem Byts.cons {x : Int} {xs : List Int} (h : 0 ≤ x ∧ x < 256) (k : Byts xs) : Byts (x :: xs) := fun y hy => by
  rcases List.mem_cons.mp hy with rfl | hy
  · exact h
  · exact k y hy
theorem Byts.append {xs ys : List Int} (h : Byts xs) (k : Byts ys) : Byts (xs ++ ys) := fun y hy => by
  rcases List.mem_append.mp hy with hy | hy
  · exact h y hy
  · exact k y hy
theorem Byts.of_append {xs ys : List Int} (h : Byts (xs ++ ys)) : Byts xs ∧ Byts ys :=
  ⟨fun y hy => h y (List.mem_append.mpr (.inl hy)), fun y hy => h y (List.mem_append.mpr (.inr hy))⟩
theorem Byts.reverse {xs : List Int} (h : Byts xs) : Byts xs.reverse := fun y hy => h y (List.mem_reverse.mp hy)
theorem byts_of (s : ByteArray) : Byts (bytesOf s) := by
  intro x hx
  simp only [bytesOf, List.mem_map] at hx
  obtain ⟨b, _, rfl⟩ := hx
  have := b.toNat_lt
  omega
theorem str_bytes (s : ByteArray) : strOfNums (bytesOf s) = s := by
  apply ByteArray.ext
  simp [strOfNums, bytesOf, Function.comp_def]
theorem bytes_str {xs : List Int} (h : Byts xs) : bytesOf (strOfNums xs) = xs := by
  simp only [bytesOf, strOfNums, List.map_map]
  have : ∀ x ∈ xs, ((fun b : UInt8 => (b.toNat : Int)) ∘ fun n : Int => UInt8.ofNat n.toNat) x = x := by
    intro x hx
    have := h x hx
    simp only [Function.comp, UInt8.toNat_ofNat']
    omega
  rw [List.map_congr_left this]
  simp
theorem bytes_inj {s t : ByteArray} (h : bytesOf s = bytesOf t) : s = t := by rw [← str_bytes s, ← str_bytes t, h]
theorem bytes_append (s t : ByteArray) : bytesOf (s ++ t) = bytesOf s ++ bytesOf t := by
  simp [bytesOf]
theorem bytes_extract (s : ByteArray) (a b : Nat) : bytesOf (s.extract a b) = ((bytesOf s).take b).drop a := by
  simp [bytesOf, ByteArray.data_extract, List.map_take, List.map_drop, Array.toList_extract, List.extract_eq_take_drop]
  try rw [List.drop_take]
theorem str_append (xs ys : List Int) : strOfNums xs ++ strOfNums ys = strOfNums (xs ++ ys) := by
  apply ByteArray.ext
  simp [strOfNums, ByteArray.data_append]
theorem size_str (xs : List Int) : (strOfNums xs).size = xs.length := strOfNums_size xs
theorem bt_get (s : ByteArray) (i : Nat) (h : i < (bytesOf s).length) : bt s (i : Int) = (bytesOf s)[i] := by
  have h2 : i < s.size := by rw [← len_bytes]; exact h
  unfold bt
  simp [h2, bytesOf]
  rfl
theorem drop_cons (s : ByteArray) (i : Nat) (h : i < s.size) : (bytesOf s).drop i = bt s (i : Int) :: (bytesOf s).drop (i + 1) := by
  have h2 : i < (bytesOf s).length := by rw [len_bytes]; exact h
  rw [List.drop_eq_getElem_cons h2, bt_get s i h2]
theorem drop_end (s : ByteArray) (i : Nat) (h : s.size ≤ i) : (bytesOf s).drop i = [] := by
  rw [List.drop_of_length_le]; rw [len_bytes]; exact h
theorem take_snoc (s : ByteArray) (i : Nat) (h : i < s.size) : (bytesOf s).take (i + 1) = (bytesOf s).take i ++ [bt s (i : Int)] := by
  have h2 : i < (bytesOf s).length := by rw [len_bytes]; exact h
  rw [List.take_succ_eq_append_getElem h2, bt_get s i h2]
theorem bt_mem (s : ByteArray) (i : Nat) (h : i < s.size) : bt s (i : Int) ∈ bytesOf s := by
  have h2 : i < (bytesOf s).length := by rw [len_bytes]; exact h
  rw [bt_get s i h2]; exact List.getElem_mem h2
theorem bt_str {xs : List Int} (h : Byts xs) (i : Nat) (hi : i < xs.length) : bt (strOfNums xs) (i : Int) = xs[i] := by
  have e := bytes_str h
  rw [bt_get _ i (by rw [e]; exact hi)]
  simp [e]
theorem bt_lo (s : ByteArray) (i : Int) : 0 ≤ bt s i := (bt_range s i).1
theorem bt_hi (s : ByteArray) (i : Int) : bt s i ≤ 255 := (bt_range s i).2

/-! bits -/
theorem isBit_iff (x : Int) : (x = 48 ∨ x = 49) ↔ (decide (x = 48) || decide (x = 49)) = true := by simp

theorem toNat_ofInt64 {x : Int} (h0 : 0 ≤ x) (h1 : x < 18446744073709551616) : (BitVec.ofInt 64 x).toNat = x.toNat := by
  rw [BitVec.toNat_ofInt]; congr 1; omega
theorem i64_wrap (x : Int) : IntKind.i64.wrap x = wrap64 x := IntWalk.i64_left x
theorem or_eq {x y : Int} (hx : 0 ≤ x) (hx2 : x < 9223372036854775808) (hy : 0 ≤ y) (hy2 : y < 9223372036854775808) : Go.bits .or .i64 x y = ((x.toNat ||| y.toNat : Nat) : Int) := by
  have h : (BitVec.ofInt 64 x ||| BitVec.ofInt 64 y).toNat = x.toNat ||| y.toNat := by
    rw [BitVec.toNat_or, toNat_ofInt64 hx (by omega), toNat_ofInt64 hy (by omega)]
  have hl : x.toNat ||| y.toNat < 2 ^ 63 := Nat.or_lt_two_pow (by omega) (by omega)
  show IntKind.i64.wrap ((BitVec.ofInt 64 x ||| BitVec.ofInt 64 y).toNat : Int) = _
  rw [h, i64_wrap, w64 (by omega) (by omega)]
theorem and_eq {x y : Int} (hx : 0 ≤ x) (hx2 : x < 9223372036854775808) (hy : 0 ≤ y) (hy2 : y < 9223372036854775808) : Go.bits .and .i64 x y = ((x.toNat &&& y.toNat : Nat) : Int) := by
  have h : (BitVec.ofInt 64 x &&& BitVec.ofInt 64 y).toNat = x.toNat &&& y.toNat := by
    rw [BitVec.toNat_and, toNat_ofInt64 hx (by omega), toNat_ofInt64 hy (by omega)]
  have hl : x.toNat &&& y.toNat < 2 ^ 63 := Nat.and_lt_two_pow _ (by omega)
  show IntKind.i64.wrap ((BitVec.ofInt 64 x &&& BitVec.ofInt 64 y).toNat : Int) = _
  rw [h, i64_wrap, w64 (by omega) (by omega)]
theorem xor_eq {x y : Int} (hx : 0 ≤ x) (hx2 : x < 9223372036854775808) (hy : 0 ≤ y) (hy2 : y < 9223372036854775808) : Go.bits .xor .i64 x y = ((x.toNat ^^^ y.toNat : Nat) : Int) := by
  have h : (BitVec.ofInt 64 x ^^^ BitVec.ofInt 64 y).toNat = x.toNat ^^^ y.toNat := by
    rw [BitVec.toNat_xor, toNat_ofInt64 hx (by omega), toNat_ofInt64 hy (by omega)]
  have hl : x.toNat ^^^ y.toNat < 2 ^ 63 := Nat.xor_lt_two_pow (by omega) (by omega)
  show IntKind.i64.wrap ((BitVec.ofInt 64 x ^^^ BitVec.ofInt 64 y).toNat : Int) = _
  rw [h, i64_wrap, w64 (by omega) (by omega)]
theorem or_comm {x y : Int} (hx : 0 ≤ x) (hx2 : x < 9223372036854775808) (hy : 0 ≤ y) (hy2 : y < 9223372036854775808) : Go.bits .or .i64 x y = Go.bits .or .i64 y x := by
  rw [or_eq hx hx2 hy hy2, or_eq hy hy2 hx hx2, Nat.or_comm]
/-- The lowest bit of any number. -/
theorem and_one (x : Int) : Go.bits .and .i64 x 1 = x % 2 := by
  have h : (BitVec.ofInt 64 x &&& BitVec.ofInt 64 1).toNat = (x % 2).toNat := by
    rw [BitVec.toNat_and, toNat_ofInt64 (x := 1) (by omega) (by omega), BitVec.toNat_ofInt]
    show _ &&& 1 = _
    rw [Nat.and_one_is_mod]
    omega
  show IntKind.i64.wrap ((BitVec.ofInt 64 x &&& BitVec.ofInt 64 1).toNat : Int) = _
  rw [h, i64_wrap, w64 (by omega) (by omega)]
  omega
/-- Numbers whose bits lie apart. -/
theorem or_add {a b : Int} (i : Nat) (ha : 0 ≤ a) (ha2 : a * 2 ^ i + b < 9223372036854775808) (hb : 0 ≤ b) (hb2 : b < 2 ^ i) : Go.bits .or .i64 (a * 2 ^ i) b = a * 2 ^ i + b := by
  obtain ⟨n, rfl⟩ := Int.eq_ofNat_of_zero_le ha
  obtain ⟨m, rfl⟩ := Int.eq_ofNat_of_zero_le hb
  have hp : (0 : Int) ≤ (n : Int) * 2 ^ i := Int.mul_nonneg (by omega) (Int.le_of_lt (Int.pow_pos (by decide)))
  rw [or_eq hp (by omega) hb (by omega)]
  have e : ((n : Int) * 2 ^ i).toNat = 2 ^ i * n := by
    have : (n : Int) * 2 ^ i = ((2 ^ i * n : Nat) : Int) := by
      rw [Int.natCast_mul, Int.natCast_pow, Int.mul_comm]; rfl
    rw [this]; rfl
  rw [e, Int.toNat_natCast, ← Nat.two_pow_add_eq_or_of_lt (by exact_mod_cast hb2)]
  rw [Int.natCast_add, Int.natCast_mul, Int.natCast_pow, Int.mul_comm]; rfl

theorem shl_eq {x y : Int} (n : Nat) (hy : y = (n : Int)) (hn : n < 64) (h0 : 0 ≤ x * 2 ^ n) (h1 : x * 2 ^ n < 9223372036854775808) : shl .i64 x y = x * 2 ^ n := by
  subst hy
  unfold shl
  have : min ((n : Int).toNat) IntKind.i64.bits = n := by
    show min ((n : Int).toNat) 64 = n
    rw [Int.toNat_natCast]; omega
  rw [this, i64_wrap, w64 (by omega) (by omega)]
theorem shr_eq (x y : Int) (n : Nat) (hy : y = (n : Int)) (hn : n ≤ 64) : shr .i64 x y = x / 2 ^ n := by
  subst hy
  unfold shr
  have : min ((n : Int).toNat) IntKind.i64.bits = n := by
    show min ((n : Int).toNat) 64 = n
    rw [Int.toNat_natCast]; omega
  rw [this]

/-! rounds -/
theorem Ev.now' {α : Type} {g : Nat → Option α} {r : α} (h : ∀ k, g k = some r) : Ev g r := ⟨0, fun k _ => h k⟩
/-- One round that answers. -/
theorem Ev.stop {α : Type} {g : Nat → Option α} {r : α} (h : ∀ k, g (k + 1) = some r) : Ev g r := Ev.step h (Ev.now r)
theorem Ev.uniq {α : Type} {g : Nat → Option α} {r q : α} (h : Ev g r) (k : Ev g q) : r = q := by
  obtain ⟨K, h⟩ := h
  obtain ⟨K', k⟩ := k
  have a := h (max K K') (Nat.le_max_left _ _)
  have b := k (max K K') (Nat.le_max_right _ _)
  rw [a] at b
  exact Option.some.inj b
/-- The i-th cell of what is filled from the left. -/
theorem set_fill {α : Type} (pre : List α) (x v : α) (post : List α) (i : Nat) (h : i = pre.length) : (pre ++ x :: post).set i v = pre ++ v :: post := by
  subst h; simp
/-! running -/
theorem Ev.pos {α : Type} {c : Prop} {d : Decidable c} {f g : Nat → Option α} {r : α} (h : c) (e : Ev f r) : Ev (fun k => if c then f k else g k) r :=
  Ev.congr (fun k => by rw [if_pos h]) e
theorem Ev.neg {α : Type} {c : Prop} {d : Decidable c} {f g : Nat → Option α} {r : α} (h : ¬ c) (e : Ev g r) : Ev (fun k => if c then f k else g k) r :=
  Ev.congr (fun k => by rw [if_neg h]) e
theorem Ev.sbind {α β : Type} {a : α} {f : Nat → α → Option β} {r : β} (e : Ev (fun k => f k a) r) : Ev (fun k => (some a).bind (f k)) r :=
  Ev.congr (fun k => by rw [Option.bind_some]) e
theorem Ev.ite {α : Type} {c : Prop} {d : Decidable c} {f g : Nat → Option α} {r : α} (h : c → Ev f r) (e : ¬ c → Ev g r) : Ev (fun k => if c then f k else g k) r := by
  by_cases hc : c
  · exact Ev.pos hc (h hc)
  · exact Ev.neg hc (e hc)
/-- The round's counter. -/
theorem wnat {i : Nat} (h : i < 9223372036854775807) : wrap64 ((i : Int) + 1) = ((i + 1 : Nat) : Int) := by
  rw [w64 (by omega) (by omega)]; rfl
end Go.Proofs.YtmalhgidhieamaaDoor.Aid
