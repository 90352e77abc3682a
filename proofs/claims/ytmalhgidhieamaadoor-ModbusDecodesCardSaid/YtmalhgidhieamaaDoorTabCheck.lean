/- The table of named descriptions: what it holds, and what the two functions that read it answer. The condition of each: the table's cells are as the program's text lays them. -/
import Derived.Test.YtmalhgidhieamaaDoorProg
import Derived.Below
import Derived.WalkKit
import Derived.KernelRfl
import Derived.LoopN
import Derived.Laws.ResultCell
import Derived.Laws.Rows
import Derived.Laws.Strings
import Derived.Deep.QuietTactic
import Derived.BigQuiet
import Derived.Outline
import Derived.Test.YtmalhgidhieamaaDoorVMore
import Derived.Test.YtmalhgidhieamaaDoorVWords
namespace Go.Proofs.YtmalhgidhieamaaDoorW.PrintWords
open Go.RowKit
set_option linter.unusedVariables false
set_option linter.unusedSimpArgs false
def tabCells : List Value := [.string ⟨#[99, 97, 110, 49, 53]⟩, .int .i64 15, .int .i64 17817, .int .i64 0, .int .i64 0, .bool false,
  .string ⟨#[99, 114, 99, 49, 54, 109, 111, 100, 98, 117, 115]⟩, .int .i64 16, .int .i64 32773, .int .i64 65535, .int .i64 0, .bool true,
  .string ⟨#[99, 114, 99, 51, 50]⟩, .int .i64 32, .int .i64 79764919, .int .i64 4294967295, .int .i64 4294967295, .bool true,
  .string ⟨#[99, 114, 99, 53, 117, 115, 98]⟩, .int .i64 5, .int .i64 5, .int .i64 31, .int .i64 31, .bool true,
  .string ⟨#[99, 114, 99, 56]⟩, .int .i64 8, .int .i64 7, .int .i64 0, .int .i64 0, .bool false]
/-- The variable check.table is as it was laid. -/
def TabOk (w : World) : Prop := ∀ (i : Nat) (v : Value), tabCells[i]? = some v → w.cell? ⟨0, i, none⟩ = some v
theorem TabOk.below {w w' : World} (h : TabOk w) (hb : Below w.heap.size w w') : TabOk w' := by
  intro i v hv
  have hc := h i v hv
  rw [hb.cell (p := ⟨0, i, none⟩) (World.block_lt_of_cell? _ _ hc)]
  exact hc
def check_Named.f (a0 : ByteArray) : Option (Int × Int × Int × Int × Bool × Bool) :=
  if a0.toList = [99, 97, 110, 49, 53] then some (15, 17817, 0, 0, false, true)
  else if a0.toList = [99, 114, 99, 49, 54, 109, 111, 100, 98, 117, 115] then some (16, 32773, 65535, 0, true, true)
  else if a0.toList = [99, 114, 99, 51, 50] then some (32, 79764919, 4294967295, 4294967295, true, true)
  else if a0.toList = [99, 114, 99, 53, 117, 115, 98] then some (5, 5, 31, 31, true, true)
  else if a0.toList = [99, 114, 99, 56] then some (8, 7, 0, 0, false, true)
  else some (0, 0, 0, 0, false, false)
set_option maxHeartbeats 2000000 in
set_option maxRecDepth 100000 in
theorem named_0 (a0 : ByteArray) (w : World) (hT_ : TabOk w) (e0 : ([99, 97, 110, 49, 53] == a0.toList) = true) :
    Calls Tryd.prog 38 #[.string a0] w fun e w' => e = .returned (.tuple #[.agg #[.int .i64 15, .int .i64 17817, .int .i64 0, .int .i64 0, .bool false], .bool true]) ∧ Below w.heap.size w w' := by
  have t0 := hT_ 0 _ rfl
  have t1 := hT_ 1 _ rfl
  have t2 := hT_ 2 _ rfl
  have t3 := hT_ 3 _ rfl
  have t4 := hT_ 4 _ rfl
  have t5 := hT_ 5 _ rfl
  have hz : 0 < w.heap.size := World.block_lt_of_cell? _ _ t0
  have hz1 : w.heap.size ≠ 0 := by omega
  have hz2 : ¬ (0 = w.heap.size) := by omega
  clear hT_
  go_enter Tryd.func38, Tryd.ntmps38
  go_wp2
  refine wp_loop_rounds 7 ?_
  repeat (rw [rounds_succ]; go_wp2)
  refine bodyPost_ret (v := .tuple #[.agg #[.int .i64 15, .int .i64 17817, .int .i64 0, .int .i64 0, .bool false], .bool true]) (by simp [results, Tryd.results38, go_sem]) rfl ⟨rfl, ?_⟩
  repeat (first | exact Below.refl _ _ | apply below_alloc | refine below_set ?_ (Nat.le_refl _))
set_option maxHeartbeats 2000000 in
set_option maxRecDepth 100000 in
theorem named_1 (a0 : ByteArray) (w : World) (hT_ : TabOk w) (e0 : ([99, 97, 110, 49, 53] == a0.toList) = false) (e1 : ([99, 114, 99, 49, 54, 109, 111, 100, 98, 117, 115] == a0.toList) = true) :
    Calls Tryd.prog 38 #[.string a0] w fun e w' => e = .returned (.tuple #[.agg #[.int .i64 16, .int .i64 32773, .int .i64 65535, .int .i64 0, .bool true], .bool true]) ∧ Below w.heap.size w w' := by
  have t0 := hT_ 0 _ rfl
  have t6 := hT_ 6 _ rfl
  have t7 := hT_ 7 _ rfl
  have t8 := hT_ 8 _ rfl
  have t9 := hT_ 9 _ rfl
  have t10 := hT_ 10 _ rfl
  have t11 := hT_ 11 _ rfl
  have hz : 0 < w.heap.size := World.block_lt_of_cell? _ _ t0
  have hz1 : w.heap.size ≠ 0 := by omega
  have hz2 : ¬ (0 = w.heap.size) := by omega
  clear hT_
  go_enter Tryd.func38, Tryd.ntmps38
  go_wp2
  refine wp_loop_rounds 7 ?_
  repeat (rw [rounds_succ]; go_wp2)
  refine bodyPost_ret (v := .tuple #[.agg #[.int .i64 16, .int .i64 32773, .int .i64 65535, .int .i64 0, .bool true], .bool true]) (by simp [results, Tryd.results38, go_sem]) rfl ⟨rfl, ?_⟩
  repeat (first | exact Below.refl _ _ | apply below_alloc | refine below_set ?_ (Nat.le_refl _))
set_option maxHeartbeats 2000000 in
set_option maxRecDepth 100000 in
theorem named_2 (a0 : ByteArray) (w : World) (hT_ : TabOk w) (e0 : ([99, 97, 110, 49, 53] == a0.toList) = false) (e1 : ([99, 114, 99, 49, 54, 109, 111, 100, 98, 117, 115] == a0.toList) = false) (e2 : ([99, 114, 99, 51, 50] == a0.toList) = true) :
    Calls Tryd.prog 38 #[.string a0] w fun e w' => e = .returned (.tuple #[.agg #[.int .i64 32, .int .i64 79764919, .int .i64 4294967295, .int .i64 4294967295, .bool true], .bool true]) ∧ Below w.heap.size w w' := by
  have t0 := hT_ 0 _ rfl
  have t6 := hT_ 6 _ rfl
  have t12 := hT_ 12 _ rfl
  have t13 := hT_ 13 _ rfl
  have t14 := hT_ 14 _ rfl
  have t15 := hT_ 15 _ rfl
  have t16 := hT_ 16 _ rfl
  have t17 := hT_ 17 _ rfl
  have hz : 0 < w.heap.size := World.block_lt_of_cell? _ _ t0
  have hz1 : w.heap.size ≠ 0 := by omega
  have hz2 : ¬ (0 = w.heap.size) := by omega
  clear hT_
  go_enter Tryd.func38, Tryd.ntmps38
  go_wp2
  refine wp_loop_rounds 7 ?_
  repeat (rw [rounds_succ]; go_wp2)
  refine bodyPost_ret (v := .tuple #[.agg #[.int .i64 32, .int .i64 79764919, .int .i64 4294967295, .int .i64 4294967295, .bool true], .bool true]) (by simp [results, Tryd.results38, go_sem]) rfl ⟨rfl, ?_⟩
  repeat (first | exact Below.refl _ _ | apply below_alloc | refine below_set ?_ (Nat.le_refl _))
set_option maxHeartbeats 2000000 in
set_option maxRecDepth 100000 in
theorem named_3 (a0 : ByteArray) (w : World) (hT_ : TabOk w) (e0 : ([99, 97, 110, 49, 53] == a0.toList) = false) (e1 : ([99, 114, 99, 49, 54, 109, 111, 100, 98, 117, 115] == a0.toList) = false) (e2 : ([99, 114, 99, 51, 50] == a0.toList) = false) (e3 : ([99, 114, 99, 53, 117, 115, 98] == a0.toList) = true) :
    Calls Tryd.prog 38 #[.string a0] w fun e w' => e = .returned (.tuple #[.agg #[.int .i64 5, .int .i64 5, .int .i64 31, .int .i64 31, .bool true], .bool true]) ∧ Below w.heap.size w w' := by
  have t0 := hT_ 0 _ rfl
  have t6 := hT_ 6 _ rfl
  have t12 := hT_ 12 _ rfl
  have t18 := hT_ 18 _ rfl
  have t19 := hT_ 19 _ rfl
  have t20 := hT_ 20 _ rfl
  have t21 := hT_ 21 _ rfl
  have t22 := hT_ 22 _ rfl
  have t23 := hT_ 23 _ rfl
  have hz : 0 < w.heap.size := World.block_lt_of_cell? _ _ t0
  have hz1 : w.heap.size ≠ 0 := by omega
  have hz2 : ¬ (0 = w.heap.size) := by omega
  clear hT_
  go_enter Tryd.func38, Tryd.ntmps38
  go_wp2
  refine wp_loop_rounds 7 ?_
  repeat (rw [rounds_succ]; go_wp2)
  refine bodyPost_ret (v := .tuple #[.agg #[.int .i64 5, .int .i64 5, .int .i64 31, .int .i64 31, .bool true], .bool true]) (by simp [results, Tryd.results38, go_sem]) rfl ⟨rfl, ?_⟩
  repeat (first | exact Below.refl _ _ | apply below_alloc | refine below_set ?_ (Nat.le_refl _))
set_option maxHeartbeats 2000000 in
set_option maxRecDepth 100000 in
theorem named_4 (a0 : ByteArray) (w : World) (hT_ : TabOk w) (e0 : ([99, 97, 110, 49, 53] == a0.toList) = false) (e1 : ([99, 114, 99, 49, 54, 109, 111, 100, 98, 117, 115] == a0.toList) = false) (e2 : ([99, 114, 99, 51, 50] == a0.toList) = false) (e3 : ([99, 114, 99, 53, 117, 115, 98] == a0.toList) = false) (e4 : ([99, 114, 99, 56] == a0.toList) = true) :
    Calls Tryd.prog 38 #[.string a0] w fun e w' => e = .returned (.tuple #[.agg #[.int .i64 8, .int .i64 7, .int .i64 0, .int .i64 0, .bool false], .bool true]) ∧ Below w.heap.size w w' := by
  have t0 := hT_ 0 _ rfl
  have t6 := hT_ 6 _ rfl
  have t12 := hT_ 12 _ rfl
  have t18 := hT_ 18 _ rfl
  have t24 := hT_ 24 _ rfl
  have t25 := hT_ 25 _ rfl
  have t26 := hT_ 26 _ rfl
  have t27 := hT_ 27 _ rfl
  have t28 := hT_ 28 _ rfl
  have t29 := hT_ 29 _ rfl
  have hz : 0 < w.heap.size := World.block_lt_of_cell? _ _ t0
  have hz1 : w.heap.size ≠ 0 := by omega
  have hz2 : ¬ (0 = w.heap.size) := by omega
  clear hT_
  go_enter Tryd.func38, Tryd.ntmps38
  go_wp2
  refine wp_loop_rounds 7 ?_
  repeat (rw [rounds_succ]; go_wp2)
  refine bodyPost_ret (v := .tuple #[.agg #[.int .i64 8, .int .i64 7, .int .i64 0, .int .i64 0, .bool false], .bool true]) (by simp [results, Tryd.results38, go_sem]) rfl ⟨rfl, ?_⟩
  repeat (first | exact Below.refl _ _ | apply below_alloc | refine below_set ?_ (Nat.le_refl _))
set_option maxHeartbeats 2000000 in
set_option maxRecDepth 100000 in
theorem named_5 (a0 : ByteArray) (w : World) (hT_ : TabOk w) (e0 : ([99, 97, 110, 49, 53] == a0.toList) = false) (e1 : ([99, 114, 99, 49, 54, 109, 111, 100, 98, 117, 115] == a0.toList) = false) (e2 : ([99, 114, 99, 51, 50] == a0.toList) = false) (e3 : ([99, 114, 99, 53, 117, 115, 98] == a0.toList) = false) (e4 : ([99, 114, 99, 56] == a0.toList) = false) :
    Calls Tryd.prog 38 #[.string a0] w fun e w' => e = .returned (.tuple #[.agg #[.int .i64 0, .int .i64 0, .int .i64 0, .int .i64 0, .bool false], .bool false]) ∧ Below w.heap.size w w' := by
  have t0 := hT_ 0 _ rfl
  have t6 := hT_ 6 _ rfl
  have t12 := hT_ 12 _ rfl
  have t18 := hT_ 18 _ rfl
  have t24 := hT_ 24 _ rfl
  have hz : 0 < w.heap.size := World.block_lt_of_cell? _ _ t0
  have hz1 : w.heap.size ≠ 0 := by omega
  have hz2 : ¬ (0 = w.heap.size) := by omega
  clear hT_
  go_enter Tryd.func38, Tryd.ntmps38
  go_wp2
  refine wp_loop_rounds 7 ?_
  repeat (rw [rounds_succ]; go_wp2)
  refine bodyPost_ret (v := .tuple #[.agg #[.int .i64 0, .int .i64 0, .int .i64 0, .int .i64 0, .bool false], .bool false]) (by simp [results, Tryd.results38, go_sem]) rfl ⟨rfl, ?_⟩
  repeat (first | exact Below.refl _ _ | apply below_alloc | refine below_set ?_ (Nat.le_refl _))
theorem check_Named.calls (a0 : ByteArray) (r1 r2 r3 r4 : Int) (r5 r6 : Bool) (w : World) (hT_ : TabOk w) (h : check_Named.f a0 = some (r1, r2, r3, r4, r5, r6)) :
    Calls Tryd.prog 38 #[.string a0] w fun e w' => e = .returned (.tuple #[.agg #[.int .i64 r1, .int .i64 r2, .int .i64 r3, .int .i64 r4, .bool r5], .bool r6]) ∧ Below w.heap.size w w' := by
  have yes : ∀ l : List UInt8, a0.toList = l → (l == a0.toList) = true := fun l e => by rw [e]; exact beq_self_eq_true l
  have no : ∀ l : List UInt8, ¬ a0.toList = l → (l == a0.toList) = false := fun l e => by simpa using fun h => e h.symm
  unfold check_Named.f at h
  split at h
  · rename_i c0
    obtain ⟨rfl, rfl, rfl, rfl, rfl, rfl⟩ : 15 = r1 ∧ 17817 = r2 ∧ 0 = r3 ∧ 0 = r4 ∧ false = r5 ∧ true = r6 := by simpa using h
    exact named_0 a0 w hT_ (yes _ c0)
  split at h
  · rename_i c0 c1
    obtain ⟨rfl, rfl, rfl, rfl, rfl, rfl⟩ : 16 = r1 ∧ 32773 = r2 ∧ 65535 = r3 ∧ 0 = r4 ∧ true = r5 ∧ true = r6 := by simpa using h
    exact named_1 a0 w hT_ (no _ c0) (yes _ c1)
  split at h
  · rename_i c0 c1 c2
    obtain ⟨rfl, rfl, rfl, rfl, rfl, rfl⟩ : 32 = r1 ∧ 79764919 = r2 ∧ 4294967295 = r3 ∧ 4294967295 = r4 ∧ true = r5 ∧ true = r6 := by simpa using h
    exact named_2 a0 w hT_ (no _ c0) (no _ c1) (yes _ c2)
  split at h
  · rename_i c0 c1 c2 c3
    obtain ⟨rfl, rfl, rfl, rfl, rfl, rfl⟩ : 5 = r1 ∧ 5 = r2 ∧ 31 = r3 ∧ 31 = r4 ∧ true = r5 ∧ true = r6 := by simpa using h
    exact named_3 a0 w hT_ (no _ c0) (no _ c1) (no _ c2) (yes _ c3)
  split at h
  · rename_i c0 c1 c2 c3 c4
    obtain ⟨rfl, rfl, rfl, rfl, rfl, rfl⟩ : 8 = r1 ∧ 7 = r2 ∧ 0 = r3 ∧ 0 = r4 ∧ false = r5 ∧ true = r6 := by simpa using h
    exact named_4 a0 w hT_ (no _ c0) (no _ c1) (no _ c2) (no _ c3) (yes _ c4)
  · rename_i c0 c1 c2 c3 c4
    obtain ⟨rfl, rfl, rfl, rfl, rfl, rfl⟩ : 0 = r1 ∧ 0 = r2 ∧ 0 = r3 ∧ 0 = r4 ∧ false = r5 ∧ false = r6 := by simpa using h
    exact named_5 a0 w hT_ (no _ c0) (no _ c1) (no _ c2) (no _ c3) (no _ c4)
end Go.Proofs.YtmalhgidhieamaaDoorW.PrintWords
