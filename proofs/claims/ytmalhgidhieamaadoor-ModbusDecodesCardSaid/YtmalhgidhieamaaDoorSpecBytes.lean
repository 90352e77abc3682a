/- What FromBytes and Bytes compute, on lists of numbers alone. No condition of its own. -/
import Derived.Test.YtmalhgidhieamaaDoorSpecBits
namespace Go.Proofs.YtmalhgidhieamaaDoor.Aid
open Go.RowKit Go.Proofs.YtmalhgidhieamaaDoorW.PrintWords Go.Proofs.YtmalhgidhieamaaDoorW.PrintLast

def fromBytesL : List Int → Bool → List Int
  | [], _ => []
  | x :: l, msb => fromIntL x 8 msb ++ fromBytesL l msb
theorem fromBytesL_len (msb : Bool) : ∀ l, (fromBytesL l msb).length = 8 * l.length
  | [] => rfl
  | x :: l => by simp [fromBytesL, fromBytesL_len msb l, fromIntL_len]; omega
theorem fromBytesL_bits (msb : Bool) : ∀ l, AllB (fromBytesL l msb)
  | [] => AllB.nil
  | _ :: l => AllB.append_iff.mpr ⟨fromIntL_bits _ _ _, fromBytesL_bits msb l⟩
theorem fromBytesL_append (l m : List Int) (msb : Bool) : fromBytesL (l ++ m) msb = fromBytesL l msb ++ fromBytesL m msb := by
  induction l with
  | nil => rfl
  | cons x l ih => simp [fromBytesL, ih]
theorem fromBytesL_drop (msb : Bool) : ∀ (i : Nat) (l : List Int), (fromBytesL l msb).drop (8 * i) = fromBytesL (l.drop i) msb
  | 0, l => by simp
  | i + 1, [] => by simp [fromBytesL]
  | i + 1, x :: l => by
    rw [List.drop_succ_cons, ← fromBytesL_drop msb i l, fromBytesL, show 8 * (i + 1) = (fromIntL x 8 msb).length + 8 * i by rw [fromIntL_len]; omega, List.drop_append, List.drop_of_length_le (by omega), Nat.add_sub_cancel_left, List.nil_append]
def fromBytesS (b : ByteArray) (msb : Bool) : ByteArray := if b.size > 8192 then ⟨#[]⟩ else strOfNums (fromBytesL (bytesOf b) msb)
def chunk (l : List Int) (msb : Bool) (i : Nat) : Int := intL ((l.drop (8 * i)).take 8) msb
def bytesL (l : List Int) (msb : Bool) (n : Nat) : List Int := (List.range n).map (chunk l msb)
theorem bytesL_succ (l : List Int) (msb : Bool) (n : Nat) : bytesL l msb (n + 1) = bytesL l msb n ++ [chunk l msb n] := by simp [bytesL, List.range_succ]
theorem bytesL_len (l : List Int) (msb : Bool) (n : Nat) : (bytesL l msb n).length = n := by simp [bytesL]
theorem intL_bd {l : List Int} (h : AllB l) (msb : Bool) : 0 ≤ intL l msb ∧ intL l msb < 2 ^ l.length := by
  unfold intL
  split
  · have := valL_bd h.reverse; rwa [List.length_reverse] at this
  · exact valL_bd h
theorem chunk_bd {l : List Int} (h : AllB l) (msb : Bool) (i : Nat) : 0 ≤ chunk l msb i ∧ chunk l msb i < 256 := by
  have h1 := intL_bd ((h.drop (8 * i)).take 8) msb
  have h2 : (2 : Int) ^ ((l.drop (8 * i)).take 8).length ≤ 2 ^ 8 := pow2_le (by rw [List.length_take]; omega)
  have h3 : (2 : Int) ^ 8 = 256 := by decide
  unfold chunk
  omega
theorem bytesL_byts {l : List Int} (h : AllB l) (msb : Bool) (n : Nat) : Byts (bytesL l msb n) := by
  intro x hx
  obtain ⟨i, _, rfl⟩ := List.mem_map.mp hx
  exact chunk_bd h msb i
def bytesS (s : ByteArray) (msb : Bool) : ByteArray × Int := if vB s = true then (if s.size % 8 = 0 then (strOfNums (bytesL (bytesOf s) msb (s.size / 8)), 0) else (⟨#[]⟩, 1)) else (⟨#[]⟩, 4)
theorem chunk_fromBytesL (l : List Int) (hl : Byts l) (msb : Bool) (i : Nat) (h : i < l.length) : chunk (fromBytesL l msb) msb i = l[i] := by
  unfold chunk
  have hb := hl _ (List.getElem_mem h)
  have h3 : (2 : Int) ^ 8 = 256 := by decide
  rw [fromBytesL_drop, List.drop_eq_getElem_cons h, fromBytesL, List.take_append_of_le_length (by rw [fromIntL_len]; omega), List.take_of_length_le (by rw [fromIntL_len]; omega), intL_fromIntL _ 8 msb hb.1 (by omega)]
theorem bytesL_fromBytesL (l : List Int) (hl : Byts l) (msb : Bool) : bytesL (fromBytesL l msb) msb l.length = l := by
  apply List.ext_getElem
  · rw [bytesL_len]
  · intro i h1 h2
    simp only [bytesL, List.getElem_map, List.getElem_range]
    exact chunk_fromBytesL l hl msb i h2
theorem fromBytesS_size (b : ByteArray) (msb : Bool) (h : b.size ≤ 8192) : (fromBytesS b msb).size = 8 * b.size := by
  unfold fromBytesS; rw [if_neg (by omega), size_str, fromBytesL_len, len_bytes]
theorem bytesS_fromBytesS (b : ByteArray) (msb : Bool) (h : b.size ≤ 8192) : bytesS (fromBytesS b msb) msb = (b, 0) := by
  have hs := fromBytesS_size b msb h
  have e : fromBytesS b msb = strOfNums (fromBytesL (bytesOf b) msb) := by unfold fromBytesS; rw [if_neg (by omega)]
  have hv : vB (fromBytesS b msb) = true := by rw [e]; exact vB_str (fromBytesL_bits _ _) (by rw [fromBytesL_len, len_bytes]; omega)
  unfold bytesS
  rw [if_pos hv, if_pos (by omega), hs, e, bytes_str (fromBytesL_bits _ _).byts, show 8 * b.size / 8 = (bytesOf b).length by rw [len_bytes]; omega, bytesL_fromBytesL _ (byts_of b), str_bytes]
theorem intS_extract (s : ByteArray) (msb : Bool) (hb : AllB (bytesOf s)) (i : Nat) : intS (s.extract (8 * i) (8 * i + 8)) msb = (chunk (bytesOf s) msb i, 0) := by
  have e : bytesOf (s.extract (8 * i) (8 * i + 8)) = ((bytesOf s).drop (8 * i)).take 8 := by
    rw [bytes_extract, List.drop_take]
    congr 1; omega
  have hsz : (s.extract (8 * i) (8 * i + 8)).size ≤ 8 := by rw [← len_bytes, e, List.length_take]; omega
  have hv : vB (s.extract (8 * i) (8 * i + 8)) = true := by
    rw [vB_iff, e]; exact ⟨by omega, (hb.drop _).take _⟩
  unfold intS
  rw [if_pos hv, if_pos (by omega), e]; rfl
end Go.Proofs.YtmalhgidhieamaaDoor.Aid
