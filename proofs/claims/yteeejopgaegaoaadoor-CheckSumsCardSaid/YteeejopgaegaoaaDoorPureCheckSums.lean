/- The law CheckSums holds as a statement on numbers and lists: the program and the reference compute the same sums of any bytes. No condition beyond those of the statement. -/
import Derived.Test.YteeejopgaegaoaaDoorPCheckSumsx5
import Derived.Test.YteeejopgaegaoaaDoorSpecCrc
namespace Go.Proofs.YteeejopgaegaoaaDoor.Pure
open Go.RowKit Go.Proofs.YteeejopgaegaoaaDoor.PCheckSums Go.Proofs.YteeejopgaegaoaaDoorW.PrintWords Go.Proofs.YteeejopgaegaoaaDoorW.PrintLast Go.Proofs.YteeejopgaegaoaaDoor.Aid
set_option linter.unusedVariables false
set_option linter.unusedSimpArgs false
namespace CheckSums_
def sumL : Int → List Int → Int
  | n, [] => n
  | n, b :: l => sumL ((n + b) % 256) l
def xorL : Nat → List Int → Nat
  | n, [] => n
  | n, b :: l => xorL (n ^^^ b.toNat) l
def carL : Int → List Int → Int
  | n, [] => 255 - n
  | n, b :: l => carL (if n + b > 255 then n + b - 255 else n + b) l
theorem xor_u8 {a b : Nat} (ha : a < 256) (hb : b < 256) : Go.bits .xor .u8 (a : Int) (b : Int) = ((a ^^^ b : Nat) : Int) := by
  have g : ∀ x : Nat, x < 256 → (BitVec.ofInt 8 (x : Int)).toNat = x := fun x hx => by rw [BitVec.toNat_ofInt]; show (((x : Int) % (256 : Nat)).toNat) = x; omega
  have h : (BitVec.ofInt 8 (a : Int) ^^^ BitVec.ofInt 8 (b : Int)).toNat = a ^^^ b := by
    rw [BitVec.toNat_xor, g a ha, g b hb]
  have hl : a ^^^ b < 2 ^ 8 := Nat.xor_lt_two_pow (by omega) (by omega)
  show IntKind.u8.wrap ((BitVec.ofInt 8 (a : Int) ^^^ BitVec.ofInt 8 (b : Int)).toNat : Int) = _
  rw [h]
  show ((a ^^^ b : Nat) : Int) % 256 = _
  omega
theorem ev_check_Sum (s : ByteArray) (hs : s.size ≤ 140737488355328) : Ev (fun k => check_Sum.f k s) (sumL 0 (bytesOf s)) := by
  have hlen := len_bytes s
  have key : ∀ (l pre : List Int) (n : Int) (j : Nat), bytesOf s = pre ++ l → j = pre.length → 0 ≤ n → n < 256 → Ev (fun k => check_Sum.l0 k s n (s.size : Int) (j : Int)) (sumL n l) := by
    intro l
    induction l with
    | nil =>
      intro pre n j he hj h0 h1
      rw [List.append_nil] at he
      rw [he] at hlen
      refine Ev.step (fun k => check_Sum.l0.eq_2 ..) ?_
      rw [w64 (x := n) (by omega) (by omega)]
      exact Ev.neg (by omega) (Ev.now _)
    | cons b l ih =>
      intro pre n j he hj h0 h1
      have hl : s.size = j + (l.length + 1) := by rw [← hlen, he, hj, List.length_append, List.length_cons]
      have hbt : bt s (j : Int) = b := by rw [bt_get s j (by omega)]; simp [he, hj]
      refine Ev.step (fun k => check_Sum.l0.eq_2 ..) ?_
      rw [hbt, wnat (by omega)]
      exact Ev.pos (by omega) (Ev.pos (by omega) (Ev.pos (by omega) (ih (pre ++ [b]) _ (j + 1) (by rw [he]; simp) (by simp [hj]) (by omega) (by omega))))
  exact key (bytesOf s) [] 0 0 rfl rfl (by omega) (by omega)
theorem ev_check_Xor (s : ByteArray) (hs : s.size ≤ 140737488355328) : Ev (fun k => check_Xor.f k s) ((xorL 0 (bytesOf s) : Nat) : Int) := by
  have hlen := len_bytes s
  have key : ∀ (l pre : List Int) (n j : Nat), bytesOf s = pre ++ l → j = pre.length → n < 256 → Ev (fun k => check_Xor.l0 k s (n : Int) (s.size : Int) (j : Int)) ((xorL n l : Nat) : Int) := by
    intro l
    induction l with
    | nil =>
      intro pre n j he hj h0
      rw [List.append_nil] at he
      rw [he] at hlen
      refine Ev.step (fun k => check_Xor.l0.eq_2 ..) ?_
      rw [w64 (x := (n : Int)) (by omega) (by omega)]
      exact Ev.neg (by omega) (Ev.now _)
    | cons b l ih =>
      intro pre n j he hj h0
      have hl : s.size = j + (l.length + 1) := by rw [← hlen, he, hj, List.length_append, List.length_cons]
      have hbt : bt s (j : Int) = b := by rw [bt_get s j (by omega)]; simp [he, hj]
      have h1 := bt_lo s (j : Int)
      have h2 := bt_hi s (j : Int)
      rw [hbt] at h1 h2
      obtain ⟨c, rfl⟩ := Int.eq_ofNat_of_zero_le h1
      have hl : n ^^^ c < 2 ^ 8 := Nat.xor_lt_two_pow (by omega) (by omega)
      refine Ev.step (fun k => check_Xor.l0.eq_2 ..) ?_
      rw [hbt, wnat (by omega), xor_u8 h0 (by omega)]
      exact Ev.pos (by omega) (Ev.pos (by omega) (Ev.pos (by omega) (ih (pre ++ [(c : Int)]) _ (j + 1) (by rw [he]; simp) (by simp [hj]) hl)))
  exact key (bytesOf s) [] 0 0 rfl rfl (by omega)
theorem ev_check_Carry (s : ByteArray) (hs : s.size ≤ 140737488355328) : Ev (fun k => check_Carry.f k s) (carL 0 (bytesOf s)) := by
  have hlen := len_bytes s
  have key : ∀ (l pre : List Int) (n : Int) (j : Nat), bytesOf s = pre ++ l → j = pre.length → 0 ≤ n → n < 256 → Ev (fun k => check_Carry.l0 k s n (s.size : Int) (j : Int)) (carL n l) := by
    intro l
    induction l with
    | nil =>
      intro pre n j he hj h0 h1
      rw [List.append_nil] at he
      rw [he] at hlen
      refine Ev.step (fun k => check_Carry.l0.eq_2 ..) ?_
      rw [w64 (x := 255 - n) (by omega) (by omega)]
      exact Ev.neg (by omega) (Ev.now _)
    | cons b l ih =>
      intro pre n j he hj h0 h1
      have hl : s.size = j + (l.length + 1) := by rw [← hlen, he, hj, List.length_append, List.length_cons]
      have hbt : bt s (j : Int) = b := by rw [bt_get s j (by omega)]; simp [he, hj]
      have h1 := bt_lo s (j : Int)
      have h2 := bt_hi s (j : Int)
      rw [hbt] at h1 h2
      have hn := ih (pre ++ [b]) (if n + b > 255 then n + b - 255 else n + b) (j + 1) (by rw [he]; simp) (by simp [hj]) (by split <;> omega) (by split <;> omega)
      refine Ev.step (fun k => check_Carry.l0.eq_2 ..) ?_
      rw [hbt, wnat (by omega), w64 (x := b) (by omega) (by omega), w64 (x := n + b) (by omega) (by omega), w64 (x := n + b - 255) (by omega) (by omega), carL]
      refine Ev.pos (by omega) (Ev.pos (by omega) (Ev.pos (by omega) (Ev.ite (fun h => ?_) (fun h => ?_))))
      · rw [if_pos h] at hn ⊢; exact hn
      · rw [if_neg h] at hn ⊢; exact hn
  exact key (bytesOf s) [] 0 0 rfl rfl (by omega) (by omega)
theorem ev_ref04_Sum (s : ByteArray) (hs : s.size ≤ 140737488355328) : Ev (fun k => signalbenchref04_Sum.f k s) (sumL 0 (bytesOf s)) := by
  have hlen := len_bytes s
  have key : ∀ (l pre : List Int) (n : Int) (j : Nat), bytesOf s = pre ++ l → j = pre.length → 0 ≤ n → n < 256 → Ev (fun k => signalbenchref04_Sum.l0 k s n (j : Int)) (sumL n l) := by
    intro l
    induction l with
    | nil =>
      intro pre n j he hj h0 h1
      rw [List.append_nil] at he
      rw [he] at hlen
      refine Ev.step (fun k => signalbenchref04_Sum.l0.eq_2 ..) ?_
      exact Ev.neg (by omega) (Ev.now _)
    | cons b l ih =>
      intro pre n j he hj h0 h1
      have hl : s.size = j + (l.length + 1) := by rw [← hlen, he, hj, List.length_append, List.length_cons]
      have hbt : bt s (j : Int) = b := by rw [bt_get s j (by omega)]; simp [he, hj]
      have g1 := bt_lo s (j : Int)
      have g2 := bt_hi s (j : Int)
      rw [hbt] at g1 g2
      refine Ev.step (fun k => signalbenchref04_Sum.l0.eq_2 ..) ?_
      rw [hbt, wnat (by omega), w64 (x := b) (by omega) (by omega), w64 (x := n + b) (by omega) (by omega), Int.tmod_eq_emod_of_nonneg (by omega)]
      exact Ev.pos (by omega) (Ev.pos (by omega) (ih (pre ++ [b]) _ (j + 1) (by rw [he]; simp) (by simp [hj]) (by omega) (by omega)))
  exact key (bytesOf s) [] 0 0 rfl rfl (by omega) (by omega)
theorem ev_ref04_Xor (s : ByteArray) (hs : s.size ≤ 140737488355328) : Ev (fun k => signalbenchref04_Xor.f k s) ((xorL 0 (bytesOf s) : Nat) : Int) := by
  have hlen := len_bytes s
  have key : ∀ (l pre : List Int) (n j : Nat), bytesOf s = pre ++ l → j = pre.length → n < 256 → Ev (fun k => signalbenchref04_Xor.l0 k s (n : Int) (j : Int)) ((xorL n l : Nat) : Int) := by
    intro l
    induction l with
    | nil =>
      intro pre n j he hj h0
      rw [List.append_nil] at he
      rw [he] at hlen
      refine Ev.step (fun k => signalbenchref04_Xor.l0.eq_2 ..) ?_
      exact Ev.neg (by omega) (Ev.now _)
    | cons b l ih =>
      intro pre n j he hj h0
      have hl : s.size = j + (l.length + 1) := by rw [← hlen, he, hj, List.length_append, List.length_cons]
      have hbt : bt s (j : Int) = b := by rw [bt_get s j (by omega)]; simp [he, hj]
      have h1 := bt_lo s (j : Int)
      have h2 := bt_hi s (j : Int)
      rw [hbt] at h1 h2
      obtain ⟨c, rfl⟩ := Int.eq_ofNat_of_zero_le h1
      have hl : n ^^^ c < 2 ^ 8 := Nat.xor_lt_two_pow (by omega) (by omega)
      refine Ev.step (fun k => signalbenchref04_Xor.l0.eq_2 ..) ?_
      rw [hbt, wnat (by omega), w64 (x := (c : Int)) (by omega) (by omega), nxor (by omega) (by omega)]
      exact Ev.pos (by omega) (Ev.pos (by omega) (ih (pre ++ [(c : Int)]) _ (j + 1) (by rw [he]; simp) (by simp [hj]) hl))
  exact key (bytesOf s) [] 0 0 rfl rfl (by omega)
theorem ev_ref04_Carry (s : ByteArray) (hs : s.size ≤ 140737488355328) : Ev (fun k => signalbenchref04_Carry.f k s) (carL 0 (bytesOf s)) := by
  have hlen := len_bytes s
  have key : ∀ (l pre : List Int) (n : Int) (j : Nat), bytesOf s = pre ++ l → j = pre.length → 0 ≤ n → n < 256 → Ev (fun k => signalbenchref04_Carry.l0 k s n (j : Int)) (carL n l) := by
    intro l
    induction l with
    | nil =>
      intro pre n j he hj h0 h1
      rw [List.append_nil] at he
      rw [he] at hlen
      refine Ev.step (fun k => signalbenchref04_Carry.l0.eq_2 ..) ?_
      rw [w64 (x := 255 - n) (by omega) (by omega)]
      exact Ev.neg (by omega) (Ev.now _)
    | cons b l ih =>
      intro pre n j he hj h0 h1
      have hl : s.size = j + (l.length + 1) := by rw [← hlen, he, hj, List.length_append, List.length_cons]
      have hbt : bt s (j : Int) = b := by rw [bt_get s j (by omega)]; simp [he, hj]
      have h1 := bt_lo s (j : Int)
      have h2 := bt_hi s (j : Int)
      rw [hbt] at h1 h2
      have hn := ih (pre ++ [b]) (if n + b > 255 then n + b - 255 else n + b) (j + 1) (by rw [he]; simp) (by simp [hj]) (by split <;> omega) (by split <;> omega)
      refine Ev.step (fun k => signalbenchref04_Carry.l0.eq_2 ..) ?_
      rw [hbt, wnat (by omega), w64 (x := b) (by omega) (by omega), w64 (x := n + b) (by omega) (by omega), w64 (x := n + b - 255) (by omega) (by omega), carL]
      refine Ev.pos (by omega) (Ev.pos (by omega) (Ev.ite (fun h => ?_) (fun h => ?_)))
      · rw [if_pos h] at hn ⊢; exact hn
      · rw [if_neg h] at hn ⊢; exact hn
  exact key (bytesOf s) [] 0 0 rfl rfl (by omega) (by omega)
theorem ev_awake : Ev (fun k => signalbenchlaw04_awake.f k) true := by
  refine Ev.of (fun k => signalbenchlaw04_awake.mono k) (k := 80) ?_
  decide +kernel
theorem main : signalbenchlaw04_CheckSums.Pure := by
  intro s hs
  refine Ev.rounds (g := fun k => signalbenchlaw04_CheckSums.f k s) ?_
  unfold signalbenchlaw04_CheckSums.f
  refine Ev.ite (fun _ => Ev.bind ev_awake (Ev.now true)) (fun h => ?_)
  have hs2 : s.size ≤ 140737488355328 := by omega
  exact Ev.bind (ev_check_Sum s hs2) (Ev.bind (ev_ref04_Sum s hs2) (Ev.pos rfl (Ev.bind (ev_check_Xor s hs2) (Ev.bind (ev_ref04_Xor s hs2) (Ev.pos rfl (Ev.bind (ev_check_Carry s hs2) (Ev.bind (ev_ref04_Carry s hs2) (Ev.pos rfl (Ev.bind ev_awake (Ev.now true))))))))))
end CheckSums_
theorem CheckSums : signalbenchlaw04_CheckSums.Pure := CheckSums_.main
end Go.Proofs.YteeejopgaegaoaaDoor.Pure
