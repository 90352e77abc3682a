-- Written by a program of this session (wip/tools/pr.py), which calls the kit's print with changes of its own.
import Derived.Test.YtbggkaofkohecaaPSyncEncodesx0
import Derived.Test.YtbggkaofkohecaaPSyncEncodesx2
import Derived.Test.YtbggkaofkohecaaPSyncEncodesx3
import Derived.Test.YtbggkaofkohecaaPSyncEncodesx9
import Derived.Test.YtbggkaofkohecaaPSyncEncodesx10
import Derived.Test.YtbggkaofkohecaaPSyncEncodesx11
import Derived.Test.YtbggkaofkohecaaPSyncEncodesx13
namespace Go.Proofs.Ytbggkaofkohecaa.PSyncEncodes
open Go.RowKit Go.Proofs.YtbggkaofkohecaaW.PrintWords Go.Proofs.YtbggkaofkohecaaW.PrintLast Go.Proofs.YtbggkaofkohecaaW.PrintMore
attribute [local go_sem] max2_int min2_int max_two min_two max_three min_three max_four min_four   -- for this text's walks alone
set_option linter.unusedVariables false
set_option linter.unusedSimpArgs false

attribute [local go_sem high] eqA46
/-! ### signalbenchlaw21_sameItems: function 23 -/
mutual
def signalbenchlaw21_sameItems.j0 : Nat → List (S46) → List (S46) → Option (Bool)
 | 0, _, _ => none
 | k + 1, x0, x1 => signalbenchlaw21_sameItems.l0 k x0 x1 0
def signalbenchlaw21_sameItems.l0 : Nat → List (S46) → List (S46) → Int → Option (Bool)
 | 0, _, _, _ => none
 | k + 1, x0, x1, x5 => if x5 < (x0.length : Int) then (if 0 ≤ x5 then (if x5 < (x1.length : Int) then (if (!(((rd_T46 x0 x5).f0) == ((rd_T46 x1 x5).f0)) || (!(((rd_T46 x0 x5).f1) == ((rd_T46 x1 x5).f1)) || (!(((rd_T46 x0 x5).f2) == ((rd_T46 x1 x5).f2)) || (!((((rd_T46 x0 x5).f3).toList) == (((rd_T46 x1 x5).f3).toList)) || (!(((rd_T46 x0 x5).f4) == ((rd_T46 x1 x5).f4))))))) = true then (some false) else (signalbenchlaw21_sameItems.l0 k x0 x1 (wrap64 (x5 + 1)))) else (none)) else (none)) else (some true)
end
def signalbenchlaw21_sameItems.f (k : Nat) (l0 : List (S46)) (l1 : List (S46)) : Option (Bool) := if (l0.length : Int) = (l1.length : Int) then (signalbenchlaw21_sameItems.j0 k l0 l1) else (some false)
theorem signalbenchlaw21_sameItems.mono_l : ∀ k, (∀ y0 y1, LeO (signalbenchlaw21_sameItems.j0 k y0 y1) (signalbenchlaw21_sameItems.j0 (k + 1) y0 y1)) ∧ (∀ y0 y1 y2, LeO (signalbenchlaw21_sameItems.l0 k y0 y1 y2) (signalbenchlaw21_sameItems.l0 (k + 1) y0 y1 y2))
 | 0 => ⟨fun _ _ r h => by simp [signalbenchlaw21_sameItems.j0] at h, fun _ _ _ r h => by simp [signalbenchlaw21_sameItems.l0] at h⟩
 | k + 1 => by
  obtain ⟨ih0, ih1⟩ := signalbenchlaw21_sameItems.mono_l k
  refine ⟨?_, ?_⟩
  ·intro y0 y1
   unfold signalbenchlaw21_sameItems.j0
   repeat' first
   | (with_reducible exact ih0 _ _)
   | (with_reducible exact ih1 _ _ _)
   | (with_reducible exact LeO.refl _)
   | (with_reducible exact LeO.none _)
   | (with_reducible refine LeO.ite ?_ ?_)
   | (with_reducible refine LeO.bind ?_ (fun _ => ?_))
   | exact ih0 _ _
   | exact ih1 _ _ _
   | exact LeO.none _
   | refine LeO.ite ?_ ?_
   | refine LeO.bind ?_ (fun _ => ?_)
  ·intro y0 y1 y2
   unfold signalbenchlaw21_sameItems.l0
   repeat' first
   | (with_reducible exact ih0 _ _)
   | (with_reducible exact ih1 _ _ _)
   | (with_reducible exact LeO.refl _)
   | (with_reducible exact LeO.none _)
   | (with_reducible refine LeO.ite ?_ ?_)
   | (with_reducible refine LeO.bind ?_ (fun _ => ?_))
   | exact ih0 _ _
   | exact ih1 _ _ _
   | exact LeO.none _
   | refine LeO.ite ?_ ?_
   | refine LeO.bind ?_ (fun _ => ?_)
theorem signalbenchlaw21_sameItems.mono : ∀ a0 a1 k, LeO (signalbenchlaw21_sameItems.f k a0 a1) (signalbenchlaw21_sameItems.f (k + 1) a0 a1) := by
 intro a0 a1 k
 obtain ⟨ih0, ih1⟩ := signalbenchlaw21_sameItems.mono_l k
 unfold signalbenchlaw21_sameItems.f
 repeat' first
   | (with_reducible exact ih0 _ _)
   | (with_reducible exact ih1 _ _ _)
   | (with_reducible exact LeO.refl _)
   | (with_reducible exact LeO.none _)
   | (with_reducible refine LeO.ite ?_ ?_)
   | (with_reducible refine LeO.bind ?_ (fun _ => ?_))
   | exact ih0 _ _
   | exact ih1 _ _ _
   | exact LeO.none _
   | refine LeO.ite ?_ ?_
   | refine LeO.bind ?_ (fun _ => ?_)
set_option maxHeartbeats 8000000 in
set_option maxRecDepth 100000 in
theorem signalbenchlaw21_sameItems.calls (k : Nat) (A0 : Option Addr) (c0 : Nat) (l0 : List (S46)) (A1 : Option Addr) (c1 : Nat) (l1 : List (S46)) (r : Bool) (w : World) (hr0 : Kd.C k46 w A0 l0.length l0) (hc0 : l0.length ≤ c0) (hr1 : Kd.C k46 w A1 l1.length l1) (hc1 : l1.length ≤ c1) (h : signalbenchlaw21_sameItems.f k l0 l1 = some r) :
  Calls Try.prog 23 #[.slice A0 l0.length c0, .slice A1 l1.length c1] w fun e w' => e = .returned (.bool r) ∧ Drawn0 w w' := by
 have hu46 := Try.underlying46
 have HR0 := Aside0.mk hr0
 have HC0 := Aside0.mk hc0
 clear hr0 hc0
 have HR1 := Aside0.mk hr1
 have HC1 := Aside0.mk hc1
 clear hr1 hc1
 have H : (if (l0.length : Int) = (l1.length : Int) then (signalbenchlaw21_sameItems.j0 k l0 l1) else (some false)) = some r := h
 clear h
 have HC3 := Aside0.mk H
 clear H
 go_enter Try.func23, Try.ntmps23
 go_upto_if 10 with (fail)
 repeat (go_quiet (fail); go_upto_if 10 with (fail))
 go_cut [] (fun wc => ∃ (kq : Nat), Aside0 (signalbenchlaw21_sameItems.j0 kq l0 l1 = some r) ∧ Aside0 (kq ≤ k) ∧ Drawn0 w wc)
 case first =>
  have H := HC3.out
  clear HC3
  by_cases c4 : (l0.length : Int) = (l1.length : Int)
  ·rw [if_pos c4] at H
   have c4b0 : ((l0.length : Int) == (l1.length : Int)) = true := beq_iff_eq.mpr c4
   have c4b1 : ((l0.length : Int) != (l1.length : Int)) = false := bne_eq_false_iff_eq.mpr c4
   have c4b2 : (l0.length == l1.length) = true := by first | simpa using c4 | (simp at c4 ⊢; omega)
   clear c4
   (first | rw [c4b0] | (simp only [i64_w, i32_w]; rw [c4b0]) | skip)
   have H' := Aside0.mk H
   clear H
   go_wp2
   repeat (go_quiet (fail); try go_wp2)
   go_meet
   case rel => exact ⟨_, H', ⟨by first | omega | exact Nat.le_refl _⟩, by repeat (first | exact Drawn0.refl _ | apply Drawn0.step)⟩
  ·rw [if_neg c4] at H
   have c4b0 : ((l0.length : Int) == (l1.length : Int)) = false := beq_eq_false_iff_ne.mpr c4
   have c4b1 : ((l0.length : Int) != (l1.length : Int)) = true := bne_iff_ne.mpr c4
   have c4b2 : (l0.length == l1.length) = false := by first | simpa using c4 | (simp at c4 ⊢; omega)
   (first | rw [c4b0] | (simp only [i64_w, i32_w]; rw [c4b0]) | skip)
   obtain rfl := Option.some.inj H
   go_wp2
   repeat (go_quiet (fail); try go_wp2)
   go_ret
   exact ⟨by first | rfl | (simp; done) | (simp [*]; done), by repeat (first | exact Drawn0.refl _ | apply Drawn0.step)⟩
 case rest =>
  clear HC3
  try clear c1
  try clear c2
  try clear p2
  try clear c4
  try clear c4b0
  try clear c4b1
  try clear c4b2
  obtain ⟨kq, HA, HJ2, ⟨mc2, rfl⟩⟩ := hcut
  cases kq with
  | zero => exact absurd HA.out (by simp [signalbenchlaw21_sameItems.j0])
  | succ kj2 =>
   have H := HA.out
   clear HA
   simp only [signalbenchlaw21_sameItems.j0] at H
   have H' := Aside0.mk H
   clear H
   go_wp2
   repeat (go_quiet (fail); try go_wp2)
   go_loopg [5] kj2 (fun kq v5 w' => ∃ (x5_2 : Int), v5 = .int .i64 x5_2 ∧ Aside0 (signalbenchlaw21_sameItems.l0 kq l0 l1 x5_2 = some r) ∧ Aside0 (kq ≤ kj2) ∧ Drawn0 w w')
   case atStart => exact ⟨(0), (by first | rfl | (simp; done) | (simp [*]; done)), H', ⟨Nat.le_refl _⟩, by repeat (first | exact Drawn0.refl _ | apply Drawn0.step)⟩
   case round =>
    clear H'
    try clear c1
    try clear c2
    try clear p2
    try clear c4
    try clear c4b0
    try clear c4b1
    try clear c4b2
    try clear p2
    obtain ⟨x5_2, rfl, HA, HK2, ⟨m2, rfl⟩⟩ := hrel
    cases gk with
    | zero => exact absurd HA.out (by simp [signalbenchlaw21_sameItems.l0])
    | succ k2 =>
     have H := HA.out
     clear HA
     simp only [signalbenchlaw21_sameItems.l0] at H
     by_cases c5 : x5_2 < (l0.length : Int)
     ·rw [if_pos c5] at H
      have c5b0 : decide (x5_2 < (l0.length : Int)) = true := decide_eq_true c5
      clear c5
      by_cases c6 : 0 ≤ x5_2
      ·rw [if_pos c6] at H
       have c6b0 : decide (0 ≤ x5_2) = true := decide_eq_true c6
       clear c6
       by_cases c7 : x5_2 < (l1.length : Int)
       ·rw [if_pos c7] at H
        have c7b0 : decide (x5_2 < (l1.length : Int)) = true := decide_eq_true c7
        clear c7
        by_cases c8 : (!(((rd_T46 l0 x5_2).f0) == ((rd_T46 l1 x5_2).f0)) || (!(((rd_T46 l0 x5_2).f1) == ((rd_T46 l1 x5_2).f1)) || (!(((rd_T46 l0 x5_2).f2) == ((rd_T46 l1 x5_2).f2)) || (!((((rd_T46 l0 x5_2).f3).toList) == (((rd_T46 l1 x5_2).f3).toList)) || (!(((rd_T46 l0 x5_2).f4) == ((rd_T46 l1 x5_2).f4))))))) = true
        ·rw [if_pos c8] at H
         have c8b0 : (!(((rd_T46 l0 x5_2).f0) == ((rd_T46 l1 x5_2).f0)) || (!(((rd_T46 l0 x5_2).f1) == ((rd_T46 l1 x5_2).f1)) || (!(((rd_T46 l0 x5_2).f2) == ((rd_T46 l1 x5_2).f2)) || (!((((rd_T46 l0 x5_2).f3).toList) == (((rd_T46 l1 x5_2).f3).toList)) || (!(((rd_T46 l0 x5_2).f4) == ((rd_T46 l1 x5_2).f4))))))) = true := c8
         (try (have c8b1 : ((rd_T46 l0 x5_2).f0 = ((rd_T46 l1 x5_2).f0) ∧ (rd_T46 l0 x5_2).f1 = ((rd_T46 l1 x5_2).f1) ∧ (rd_T46 l0 x5_2).f2 = ((rd_T46 l1 x5_2).f2) ∧ ((rd_T46 l0 x5_2).f3).toList = (((rd_T46 l1 x5_2).f3).toList) ∧ (rd_T46 l0 x5_2).f4 = ((rd_T46 l1 x5_2).f4)) = False := eq_false (by intro h_; have e_ := c8; simp [h_] at e_)))
         clear c8
         obtain rfl := Option.some.inj H
         have p322 : 0 ≤ (x5_2 : Int) := of_decide_eq_true (by first | (with_reducible assumption) | assumption)
         have q322 : x5_2 < (l0.length : Int) := of_decide_eq_true (by first | (with_reducible assumption) | assumption)
         obtain ⟨ad322, e322, hx322_0, hx322_1, hx322_2, hx322_3, hx322_4⟩ := at_T46 HR0.out x5_2 p322 q322
         cases e322
         replace p322 := eq_true p322
         replace q322 := eq_true q322
         have p323 : 0 ≤ (x5_2 : Int) := of_decide_eq_true (by first | (with_reducible assumption) | assumption)
         have q323 : x5_2 < (l1.length : Int) := of_decide_eq_true (by first | (with_reducible assumption) | assumption)
         obtain ⟨ad323, e323, hx323_0, hx323_1, hx323_2, hx323_3, hx323_4⟩ := at_T46 HR1.out x5_2 p323 q323
         cases e323
         replace p323 := eq_true p323
         replace q323 := eq_true q323
         go_wp2
         repeat (go_quiet (fail); try go_wp2)
         go_ret
         exact ⟨by first | rfl | (simp; done) | (simp [*]; done), by repeat (first | exact Drawn0.refl _ | apply Drawn0.step)⟩
        ·rw [if_neg c8] at H
         have c8b0 : (!(((rd_T46 l0 x5_2).f0) == ((rd_T46 l1 x5_2).f0)) || (!(((rd_T46 l0 x5_2).f1) == ((rd_T46 l1 x5_2).f1)) || (!(((rd_T46 l0 x5_2).f2) == ((rd_T46 l1 x5_2).f2)) || (!((((rd_T46 l0 x5_2).f3).toList) == (((rd_T46 l1 x5_2).f3).toList)) || (!(((rd_T46 l0 x5_2).f4) == ((rd_T46 l1 x5_2).f4))))))) = false := by simpa using c8
         (try (have c8b1 : ((rd_T46 l0 x5_2).f0 = ((rd_T46 l1 x5_2).f0) ∧ (rd_T46 l0 x5_2).f1 = ((rd_T46 l1 x5_2).f1) ∧ (rd_T46 l0 x5_2).f2 = ((rd_T46 l1 x5_2).f2) ∧ ((rd_T46 l0 x5_2).f3).toList = (((rd_T46 l1 x5_2).f3).toList) ∧ (rd_T46 l0 x5_2).f4 = ((rd_T46 l1 x5_2).f4)) = True := eq_true (by simpa using c8)))
         clear c8
         have H' := Aside0.mk H
         clear H
         have p322 : 0 ≤ (x5_2 : Int) := of_decide_eq_true (by first | (with_reducible assumption) | assumption)
         have q322 : x5_2 < (l0.length : Int) := of_decide_eq_true (by first | (with_reducible assumption) | assumption)
         obtain ⟨ad322, e322, hx322_0, hx322_1, hx322_2, hx322_3, hx322_4⟩ := at_T46 HR0.out x5_2 p322 q322
         cases e322
         replace p322 := eq_true p322
         replace q322 := eq_true q322
         have p323 : 0 ≤ (x5_2 : Int) := of_decide_eq_true (by first | (with_reducible assumption) | assumption)
         have q323 : x5_2 < (l1.length : Int) := of_decide_eq_true (by first | (with_reducible assumption) | assumption)
         obtain ⟨ad323, e323, hx323_0, hx323_1, hx323_2, hx323_3, hx323_4⟩ := at_T46 HR1.out x5_2 p323 q323
         cases e323
         replace p323 := eq_true p323
         replace q323 := eq_true q323
         go_wp2
         repeat (go_quiet (fail); try go_wp2)
         go_roundg k2
         case measure => have := HJ2.out; have := HK2.out; omega
         case rel => exact ⟨(wrap64 (x5_2 + 1)), (by first | rfl | (simp; done) | (simp [*]; done)), H', ⟨by have := HJ2.out; have := HK2.out; omega⟩, by repeat (first | exact Drawn0.refl _ | apply Drawn0.step)⟩
       ·rw [if_neg c7] at H
        exact absurd H (by simp)
      ·rw [if_neg c6] at H
       exact absurd H (by simp)
     ·rw [if_neg c5] at H
      have c5b0 : decide (x5_2 < (l0.length : Int)) = false := decide_eq_false c5
      clear c5
      obtain rfl := Option.some.inj H
      go_wp2
      repeat (go_quiet (fail); try go_wp2)
      go_ret
      exact ⟨by first | rfl | (simp; done) | (simp [*]; done), by repeat (first | exact Drawn0.refl _ | apply Drawn0.step)⟩

/-! ### signalbenchlaw21_SyncEncodes: function 4 -/
mutual
def signalbenchlaw21_SyncEncodes.j0 : Nat → List (S46) → ByteArray → Int → Bool → Option (Bool)
 | 0, _, _, _, _ => none
 | k + 1, x1, x325000, x325001, x325002 => (signalbenchlaw21_few.f k x1).bind fun t326 => (if t326 = true then (signalbenchlaw21_SyncEncodes.j1 k x1 (decide ((x325000.size : Int) > 70000)) x325000 x325001 x325002) else (signalbenchlaw21_SyncEncodes.j1 k x1 true x325000 x325001 x325002))
def signalbenchlaw21_SyncEncodes.j1 : Nat → List (S46) → Bool → ByteArray → Int → Bool → Option (Bool)
 | 0, _, _, _, _, _ => none
 | k + 1, x1, x19, x325000, x325001, x325002 => if x19 = true then (some true) else ((sync_Encode.f k x325000 x325001 x325002 x1).bind fun bt327 => ((signalbenchref21_Encode.f k x325000 x325001 x325002 x1).bind fun bt331 => ((sync_Check.f k x325000 x325001 x325002).bind fun t335 => ((signalbenchref21_Check.f k x325000 x325001 x325002).bind fun t336 => (if t335 = t336 then (if bt327.2 = bt331.2 then ((signalbenchlaw21_sameItems.f k bt327.1 bt331.1).bind fun t337 => (some t337)) else (some false)) else (some false))))))
end
def signalbenchlaw21_SyncEncodes.f (k : Nat) (a0_0 : ByteArray) (a0_1 : Int) (a0_2 : Bool) (l1 : List (S46)) : Option (Bool) := (signalbenchlaw21_lives.f k).bind fun t325 => (if t325 = true then (signalbenchlaw21_SyncEncodes.j0 k l1 a0_0 a0_1 a0_2) else (some false))
theorem signalbenchlaw21_SyncEncodes.mono_l : ∀ k, (∀ y0 y1 y2 y3, LeO (signalbenchlaw21_SyncEncodes.j0 k y0 y1 y2 y3) (signalbenchlaw21_SyncEncodes.j0 (k + 1) y0 y1 y2 y3)) ∧ (∀ y0 y1 y2 y3 y4, LeO (signalbenchlaw21_SyncEncodes.j1 k y0 y1 y2 y3 y4) (signalbenchlaw21_SyncEncodes.j1 (k + 1) y0 y1 y2 y3 y4))
 | 0 => ⟨fun _ _ _ _ r h => by simp [signalbenchlaw21_SyncEncodes.j0] at h, fun _ _ _ _ _ r h => by simp [signalbenchlaw21_SyncEncodes.j1] at h⟩
 | k + 1 => by
  obtain ⟨ih0, ih1⟩ := signalbenchlaw21_SyncEncodes.mono_l k
  refine ⟨?_, ?_⟩
  ·intro y0 y1 y2 y3
   unfold signalbenchlaw21_SyncEncodes.j0
   repeat' first
   | (with_reducible exact ih0 _ _ _ _)
   | (with_reducible exact ih1 _ _ _ _ _)
   | (with_reducible exact signalbenchlaw21_few.mono _ _)
   | (with_reducible exact signalbenchlaw21_lives.mono _)
   | (with_reducible exact signalbenchlaw21_sameItems.mono _ _ _)
   | (with_reducible exact signalbenchref21_Check.mono _ _ _ _)
   | (with_reducible exact signalbenchref21_Encode.mono _ _ _ _ _)
   | (with_reducible exact sync_Check.mono _ _ _ _)
   | (with_reducible exact sync_Encode.mono _ _ _ _ _)
   | (with_reducible exact LeO.refl _)
   | (with_reducible exact LeO.none _)
   | (with_reducible refine LeO.ite ?_ ?_)
   | (with_reducible refine LeO.bind ?_ (fun _ => ?_))
   | exact ih0 _ _ _ _
   | exact ih1 _ _ _ _ _
   | exact signalbenchlaw21_few.mono _ _
   | exact signalbenchlaw21_lives.mono _
   | exact signalbenchlaw21_sameItems.mono _ _ _
   | exact signalbenchref21_Check.mono _ _ _ _
   | exact signalbenchref21_Encode.mono _ _ _ _ _
   | exact sync_Check.mono _ _ _ _
   | exact sync_Encode.mono _ _ _ _ _
   | exact LeO.none _
   | refine LeO.ite ?_ ?_
   | refine LeO.bind ?_ (fun _ => ?_)
  ·intro y0 y1 y2 y3 y4
   unfold signalbenchlaw21_SyncEncodes.j1
   repeat' first
   | (with_reducible exact ih0 _ _ _ _)
   | (with_reducible exact ih1 _ _ _ _ _)
   | (with_reducible exact signalbenchlaw21_few.mono _ _)
   | (with_reducible exact signalbenchlaw21_lives.mono _)
   | (with_reducible exact signalbenchlaw21_sameItems.mono _ _ _)
   | (with_reducible exact signalbenchref21_Check.mono _ _ _ _)
   | (with_reducible exact signalbenchref21_Encode.mono _ _ _ _ _)
   | (with_reducible exact sync_Check.mono _ _ _ _)
   | (with_reducible exact sync_Encode.mono _ _ _ _ _)
   | (with_reducible exact LeO.refl _)
   | (with_reducible exact LeO.none _)
   | (with_reducible refine LeO.ite ?_ ?_)
   | (with_reducible refine LeO.bind ?_ (fun _ => ?_))
   | exact ih0 _ _ _ _
   | exact ih1 _ _ _ _ _
   | exact signalbenchlaw21_few.mono _ _
   | exact signalbenchlaw21_lives.mono _
   | exact signalbenchlaw21_sameItems.mono _ _ _
   | exact signalbenchref21_Check.mono _ _ _ _
   | exact signalbenchref21_Encode.mono _ _ _ _ _
   | exact sync_Check.mono _ _ _ _
   | exact sync_Encode.mono _ _ _ _ _
   | exact LeO.none _
   | refine LeO.ite ?_ ?_
   | refine LeO.bind ?_ (fun _ => ?_)
theorem signalbenchlaw21_SyncEncodes.mono : ∀ a0 a1 a2 a3 k, LeO (signalbenchlaw21_SyncEncodes.f k a0 a1 a2 a3) (signalbenchlaw21_SyncEncodes.f (k + 1) a0 a1 a2 a3) := by
 intro a0 a1 a2 a3 k
 obtain ⟨ih0, ih1⟩ := signalbenchlaw21_SyncEncodes.mono_l k
 unfold signalbenchlaw21_SyncEncodes.f
 repeat' first
   | (with_reducible exact ih0 _ _ _ _)
   | (with_reducible exact ih1 _ _ _ _ _)
   | (with_reducible exact signalbenchlaw21_few.mono _ _)
   | (with_reducible exact signalbenchlaw21_lives.mono _)
   | (with_reducible exact signalbenchlaw21_sameItems.mono _ _ _)
   | (with_reducible exact signalbenchref21_Check.mono _ _ _ _)
   | (with_reducible exact signalbenchref21_Encode.mono _ _ _ _ _)
   | (with_reducible exact sync_Check.mono _ _ _ _)
   | (with_reducible exact sync_Encode.mono _ _ _ _ _)
   | (with_reducible exact LeO.refl _)
   | (with_reducible exact LeO.none _)
   | (with_reducible refine LeO.ite ?_ ?_)
   | (with_reducible refine LeO.bind ?_ (fun _ => ?_))
   | exact ih0 _ _ _ _
   | exact ih1 _ _ _ _ _
   | exact signalbenchlaw21_few.mono _ _
   | exact signalbenchlaw21_lives.mono _
   | exact signalbenchlaw21_sameItems.mono _ _ _
   | exact signalbenchref21_Check.mono _ _ _ _
   | exact signalbenchref21_Encode.mono _ _ _ _ _
   | exact sync_Check.mono _ _ _ _
   | exact sync_Encode.mono _ _ _ _ _
   | exact LeO.none _
   | refine LeO.ite ?_ ?_
   | refine LeO.bind ?_ (fun _ => ?_)
def signalbenchlaw21_SyncEncodes.T7 : Bool × List (List Nat × List Nat) := (true, [([], []), ([0], [0]), ([], []), ([2, 1], [2]), ([1, 3], [1, 3]), ([4, 3], [4]), ([5], [5]), ([5], [5]), ([6, 7, 5], [5, 6, 7]), ([5, 8], [5, 8]), ([9, 5], [9]), ([10], [10]), ([10], [10]), ([11, 12, 10, 10], [10, 11, 12]), ([10, 13], [10, 13]), ([14, 13, 0, 1, 2, 3, 4, 5, 6, 7, 8, 9, 10, 11, 12, 13, 14], [14])])
def signalbenchlaw21_SyncEncodes.B7 : List Nat := [0, 1, 0, 7, 15, 31, 63, 63, 255, 511, 1023, 2047, 2047, 8191, 16383, 32767]
theorem signalbenchlaw21_SyncEncodes.tab7 : rtab .any (opsOf Try.f4 7) = signalbenchlaw21_SyncEncodes.T7 := by kernel_rfl
theorem signalbenchlaw21_SyncEncodes.bits7 : waitsOk signalbenchlaw21_SyncEncodes.T7.2 signalbenchlaw21_SyncEncodes.B7 = true := by kernel_rfl
set_option maxHeartbeats 8000000 in
set_option maxRecDepth 100000 in
theorem signalbenchlaw21_SyncEncodes.calls (k : Nat) (a0_0 : ByteArray) (a0_1 : Int) (a0_2 : Bool) (A1 : Option Addr) (c1 : Nat) (l1 : List (S46)) (r : Bool) (w : World) (hr1 : Kd.C k46 w A1 l1.length l1) (hc1 : l1.length ≤ c1) (h : signalbenchlaw21_SyncEncodes.f k a0_0 a0_1 a0_2 l1 = some r) :
  Calls Try.prog 4 #[.agg #[.string a0_0, .int .i64 a0_1, .bool a0_2], .slice A1 l1.length c1] w fun e w' => e = .returned (.bool r) ∧ Below w.heap.size w w' := by
 have hu23 := Try.underlying23
 have HR1 := Aside0.mk hr1
 have HC1 := Aside0.mk hc1
 clear hr1 hc1
 have HB := Aside0.mk (Below.refl w.heap.size w)
 have H : ((signalbenchlaw21_lives.f k).bind fun t325 => (if t325 = true then (signalbenchlaw21_SyncEncodes.j0 k l1 a0_0 a0_1 a0_2) else (some false))) = some r := h
 clear h
 replace H := Option.bind_eq_some_iff.mp H
 obtain ⟨t325, A30, H⟩ := H
 replace H : (if t325 = true then (signalbenchlaw21_SyncEncodes.j0 k l1 a0_0 a0_1 a0_2) else (some false)) = some r := H
 have A3 := Aside0.mk A30
 clear A30
 have HC4 := Aside0.mk H
 clear H
 go_enter Try.func4, Try.ntmps4
 go_upto_if 10 with (first | ((with_reducible refine gate_dst (N := 2) rfl ?_); (try (refine gate_guard (by first | rfl | (go_simp; done)) ?_; dsimp only)); refine box_event ?hg (N := 2) ?hd (cs := #[.string a0_0, .int .i64 a0_1, .bool a0_2]) (t := 23) ?hr ?_; (case hd => rfl); (case hg => rfl); (case hr => first | (go_simp; done) | (go_simp; rfl)); intro gb324 hg w5 hbox hb; have n0_ := Aside0.mk (below_step (hbw HB.out) hb); have n1_ := Aside0.mk (hbox); have n2_ := Aside0.mk ((by rw [hg]; exact (below_size (hbw HB.out)) : w.heap.size ≤ gb324)); have n3_ := Aside0.mk ((by rw [hg]; exact (below_size (hbw HB.out)) : w.heap.size ≤ gb324)); clear HB; have HB := n0_; have BK324 := n1_; have GW324 := n2_; have GE324 := n3_; clear n0_ n1_ n2_ n3_; clear hb hbox hg) | ((with_reducible refine gate_callee (f := 8) rfl ?_); refine goesL_ (some 9) rfl rfl Try.func8 (by kernel_rfl) rfl #[] rfl (by (try simp only [List.map_toArray, List.map_cons, List.map_nil]); first | done | rfl | (simp only [List.length_drop, List.length_take]; rfl)) ?_; (with_reducible refine (signalbenchlaw21_lives.calls k  t325 _ A3.out).mono ?_); rintro e w6 ⟨rfl, hb⟩; refine ⟨_, rfl, ?_⟩; have n0_ := Aside0.mk (blkb BK324.out hb); have n1_ := Aside0.mk (below_step (hbw HB.out) hb); clear BK324; clear HB; have BK324 := n0_; have HB := n1_; clear n0_ n1_; (try clear hb); (try clear hb2); (try clear hk); (try clear hi)))
 (try simp only [Act.put, List.setIfInBounds_toArray, List.set_cons_zero, List.set_cons_succ])
 go_cut [] (fun wc => ∃ (kq : Nat), Aside0 (signalbenchlaw21_SyncEncodes.j0 kq l1 a0_0 a0_1 a0_2 = some r) ∧ Aside0 (kq ≤ k) ∧ Aside0 (wc.heap[gb324]? = some (.cells #[.string a0_0, .int .i64 a0_1, .bool a0_2] 23 (0, 0))) ∧ Aside0 (Below w.heap.size w wc))
 case first =>
  have H := HC4.out
  clear HC4
  by_cases c7 : t325 = true
  ·subst c7
   have H1 : (signalbenchlaw21_SyncEncodes.j0 k l1 a0_0 a0_1 a0_2) = some r := by rw [if_pos rfl] at H; exact H
   clear H
   have H := H1
   clear H1
   have H' := Aside0.mk H
   clear H
   go_wp2
   go_meet
   case rel => exact ⟨_, H', ⟨by first | omega | exact Nat.le_refl _⟩, ⟨by (with_reducible repeat (first | refine blk_drewN ?_ _ | refine blk_drew ?_ | refine blk_alloc ?_ _)); exact BK324.out⟩, ⟨by repeat (first | (with_reducible first | exact HB.out | apply below_alloc | apply pw_below_drewN | apply below_drew1 | refine below_set ?_ GE324.out) | exact HB.out)⟩⟩
  ·replace c7 := Bool.eq_false_iff.mpr c7
   subst c7
   have H1 : (some false) = some r := by rw [if_neg (show ¬ (false = true) by decide)] at H; exact H
   clear H
   have H := H1
   clear H1
   obtain rfl := Option.some.inj H
   go_wp2
   go_ret
   exact ⟨by first | rfl | (simp [errW_none, errW_some] <;> rfl) | (simp [*, errW_none, errW_some] <;> rfl), by repeat (first | (with_reducible first | exact HB.out | apply below_alloc | apply pw_below_drewN | apply below_drew1 | refine below_set ?_ GE324.out) | exact HB.out)⟩
 case rest =>
  clear HC4
  try clear c1
  try clear p2
  try clear c4
  try clear c7
  obtain ⟨kq, HA, HJ3, BK324, HB⟩ := hcut
  cases kq with
  | zero => exact absurd HA.out (by simp [signalbenchlaw21_SyncEncodes.j0])
  | succ kj3 =>
   have H := HA.out
   clear HA
   simp only [signalbenchlaw21_SyncEncodes.j0] at H
   have HC8 := Aside0.mk H
   clear H
   go_upto_region 3 with (fail)
   go_cut [19] (fun v19 wc => ∃ (kq : Nat) (x19_7 : Bool), v19 = .bool x19_7 ∧ Aside0 (signalbenchlaw21_SyncEncodes.j1 kq l1 x19_7 a0_0 a0_1 a0_2 = some r) ∧ Aside0 (kq ≤ kj3) ∧ Aside0 (wc.heap[gb324]? = some (.cells #[.string a0_0, .int .i64 a0_1, .bool a0_2] 23 (0, 0))) ∧ Aside0 (Below w.heap.size w wc))
   case first =>
    have H := HC8.out
    clear HC8
    replace H := Option.bind_eq_some_iff.mp H
    obtain ⟨t326, A90, H⟩ := H
    replace H : (if t326 = true then (signalbenchlaw21_SyncEncodes.j1 kj3 l1 (decide ((a0_0.size : Int) > 70000)) a0_0 a0_1 a0_2) else (signalbenchlaw21_SyncEncodes.j1 kj3 l1 true a0_0 a0_1 a0_2)) = some r := H
    have A9 := Aside0.mk A90
    clear A90
    by_cases c10 : t326 = true
    ·subst c10
     have H1 : (signalbenchlaw21_SyncEncodes.j1 kj3 l1 (decide ((a0_0.size : Int) > 70000)) a0_0 a0_1 a0_2) = some r := by rw [if_pos rfl] at H; exact H
     clear H
     have H := H1
     clear H1
     have H' := Aside0.mk H
     clear H
     go_wp2_with (first | ((with_reducible refine gate_callee (f := 18) rfl ?_); refine goesL_ (some 12) rfl rfl Try.func18 (by kernel_rfl) rfl #[.slice A1 l1.length c1] rfl (by (try simp only [List.map_toArray, List.map_cons, List.map_nil]); first | done | rfl | (simp only [List.length_drop, List.length_take]; rfl)) ?_; (with_reducible refine (signalbenchlaw21_few.calls kj3 _ _ l1 true _ ?side1 ?side2 A9.out).mono ?_); (case side1 => repeat (first | exact (Kd.C_below HR1.out HB.out) | (with_reducible refine Kd.C_alloc ?_ _) | (with_reducible refine Kd.C_drewN ?_ _) | (with_reducible refine Kd.C_drew ?_))); (case side2 => exact HC1.out); rintro e w' ⟨rfl, ⟨nd, rfl⟩⟩; refine ⟨_, rfl, ?_⟩; have hcz11_0 : wc.cell? ⟨gb324, 0, none⟩ = some (.string a0_0) := (blk_cell BK324.out 0).trans rfl; have hcz11_1 : wc.cell? ⟨gb324, 1, none⟩ = some (.int .i64 a0_1) := (blk_cell BK324.out 1).trans rfl; have hcz11_2 : wc.cell? ⟨gb324, 2, none⟩ = some (.bool a0_2) := (blk_cell BK324.out 2).trans rfl; have hfz11_0 := blk_frozen BK324.out 0; have hfz11_1 := blk_frozen BK324.out 1; have hfz11_2 := blk_frozen BK324.out 2))
     go_meet
     case rel => exact ⟨_, (decide ((a0_0.size : Int) > 70000)), (by first | rfl | (simp; done) | (simp [*]; done)), H', ⟨by have := HJ3.out; first | omega | exact Nat.le_refl _⟩, ⟨by (with_reducible repeat (first | refine blk_drewN ?_ _ | refine blk_drew ?_ | refine blk_alloc ?_ _)); exact BK324.out⟩, ⟨by repeat (first | (with_reducible first | exact HB.out | apply below_alloc | apply pw_below_drewN | apply below_drew1 | refine below_set ?_ GE324.out) | exact HB.out)⟩⟩
    ·replace c10 := Bool.eq_false_iff.mpr c10
     subst c10
     have H1 : (signalbenchlaw21_SyncEncodes.j1 kj3 l1 true a0_0 a0_1 a0_2) = some r := by rw [if_neg (show ¬ (false = true) by decide)] at H; exact H
     clear H
     have H := H1
     clear H1
     have H' := Aside0.mk H
     clear H
     go_wp2_with (first | ((with_reducible refine gate_callee (f := 18) rfl ?_); refine goesL_ (some 12) rfl rfl Try.func18 (by kernel_rfl) rfl #[.slice A1 l1.length c1] rfl (by (try simp only [List.map_toArray, List.map_cons, List.map_nil]); first | done | rfl | (simp only [List.length_drop, List.length_take]; rfl)) ?_; (with_reducible refine (signalbenchlaw21_few.calls kj3 _ _ l1 false _ ?side1 ?side2 A9.out).mono ?_); (case side1 => repeat (first | exact (Kd.C_below HR1.out HB.out) | (with_reducible refine Kd.C_alloc ?_ _) | (with_reducible refine Kd.C_drewN ?_ _) | (with_reducible refine Kd.C_drew ?_))); (case side2 => exact HC1.out); rintro e w' ⟨rfl, ⟨nd, rfl⟩⟩; refine ⟨_, rfl, ?_⟩))
     go_meet
     case rel => exact ⟨_, (true), (by first | rfl | (simp; done) | (simp [*]; done)), H', ⟨by have := HJ3.out; first | omega | exact Nat.le_refl _⟩, ⟨by (with_reducible repeat (first | refine blk_drewN ?_ _ | refine blk_drew ?_ | refine blk_alloc ?_ _)); exact BK324.out⟩, ⟨by repeat (first | (with_reducible first | exact HB.out | apply below_alloc | apply pw_below_drewN | apply below_drew1 | refine below_set ?_ GE324.out) | exact HB.out)⟩⟩
   case rest =>
    clear HC8
    try clear c1
    try clear p2
    try clear c4
    try clear c7
    try clear c8
    try clear c10
    try clear hcz11_0
    try clear hcz11_1
    try clear hcz11_2
    try clear hfz11_0
    try clear hfz11_1
    try clear hfz11_2
    try clear p2
    obtain ⟨kq, x19_7, rfl, HA, HJ7, BK324, HB⟩ := hcut
    cases kq with
    | zero => exact absurd HA.out (by simp [signalbenchlaw21_SyncEncodes.j1])
    | succ kj7 =>
     have H := HA.out
     clear HA
     simp only [signalbenchlaw21_SyncEncodes.j1] at H
     by_cases c12 : x19_7 = true
     ·subst c12
      have H1 : (some true) = some r := by rw [if_pos rfl] at H; exact H
      clear H
      have H := H1
      clear H1
      obtain rfl := Option.some.inj H
      go_wp2
      go_ret
      exact ⟨by first | rfl | (simp [errW_none, errW_some] <;> rfl) | (simp [*, errW_none, errW_some] <;> rfl), by repeat (first | (with_reducible first | exact HB.out | apply below_alloc | apply pw_below_drewN | apply below_drew1 | refine below_set ?_ GE324.out) | exact HB.out)⟩
     ·replace c12 := Bool.eq_false_iff.mpr c12
      subst c12
      have H1 : ((sync_Encode.f kj7 a0_0 a0_1 a0_2 l1).bind fun bt327 => ((signalbenchref21_Encode.f kj7 a0_0 a0_1 a0_2 l1).bind fun bt331 => ((sync_Check.f kj7 a0_0 a0_1 a0_2).bind fun t335 => ((signalbenchref21_Check.f kj7 a0_0 a0_1 a0_2).bind fun t336 => (if t335 = t336 then (if bt327.2 = bt331.2 then ((signalbenchlaw21_sameItems.f kj7 bt327.1 bt331.1).bind fun t337 => (some t337)) else (some false)) else (some false)))))) = some r := by rw [if_neg (show ¬ (false = true) by decide)] at H; exact H
      clear H
      have H := H1
      clear H1
      replace H := Option.bind_eq_some_iff.mp H
      obtain ⟨⟨t327, t330⟩, A130, H⟩ := H
      replace H : ((signalbenchref21_Encode.f kj7 a0_0 a0_1 a0_2 l1).bind fun bt331 => ((sync_Check.f kj7 a0_0 a0_1 a0_2).bind fun t335 => ((signalbenchref21_Check.f kj7 a0_0 a0_1 a0_2).bind fun t336 => (if t335 = t336 then (if t330 = bt331.2 then ((signalbenchlaw21_sameItems.f kj7 t327 bt331.1).bind fun t337 => (some t337)) else (some false)) else (some false))))) = some r := H
      have A13 := Aside0.mk A130
      clear A130
      replace H := Option.bind_eq_some_iff.mp H
      obtain ⟨⟨t331, t334⟩, A140, H⟩ := H
      replace H : ((sync_Check.f kj7 a0_0 a0_1 a0_2).bind fun t335 => ((signalbenchref21_Check.f kj7 a0_0 a0_1 a0_2).bind fun t336 => (if t335 = t336 then (if t330 = t334 then ((signalbenchlaw21_sameItems.f kj7 t327 t331).bind fun t337 => (some t337)) else (some false)) else (some false)))) = some r := H
      have A14 := Aside0.mk A140
      clear A140
      replace H := Option.bind_eq_some_iff.mp H
      obtain ⟨t335, A150, H⟩ := H
      replace H : ((signalbenchref21_Check.f kj7 a0_0 a0_1 a0_2).bind fun t336 => (if t335 = t336 then (if t330 = t334 then ((signalbenchlaw21_sameItems.f kj7 t327 t331).bind fun t337 => (some t337)) else (some false)) else (some false))) = some r := H
      have A15 := Aside0.mk A150
      clear A150
      replace H := Option.bind_eq_some_iff.mp H
      obtain ⟨t336, A160, H⟩ := H
      replace H : (if t335 = t336 then (if t330 = t334 then ((signalbenchlaw21_sameItems.f kj7 t327 t331).bind fun t337 => (some t337)) else (some false)) else (some false)) = some r := H
      have A16 := Aside0.mk A160
      clear A160
      by_cases c17 : t335 = t336
      ·rw [if_pos c17] at H
       have c17b0 : (t335 == t336) = true := beq_iff_eq.mpr c17
       have c17b1 : (t335 != t336) = false := bne_eq_false_iff_eq.mpr c17
       clear c17
       by_cases c18 : t330 = t334
       ·rw [if_pos c18] at H
        have c18b0 : (t330 == t334) = true := beq_iff_eq.mpr c18
        have c18b1 : (t330 != t334) = false := bne_eq_false_iff_eq.mpr c18
        clear c18
        replace H := Option.bind_eq_some_iff.mp H
        obtain ⟨t337, A190, H⟩ := H
        replace H : (some t337) = some r := H
        have A19 := Aside0.mk A190
        clear A190
        obtain rfl := Option.some.inj H
        have hcz20_0 : wc.cell? ⟨gb324, 0, none⟩ = some (.string a0_0) := (blk_cell BK324.out 0).trans rfl
        have hcz20_1 : wc.cell? ⟨gb324, 1, none⟩ = some (.int .i64 a0_1) := (blk_cell BK324.out 1).trans rfl
        have hcz20_2 : wc.cell? ⟨gb324, 2, none⟩ = some (.bool a0_2) := (blk_cell BK324.out 2).trans rfl
        have hfz20_0 := blk_frozen BK324.out 0
        have hfz20_1 := blk_frozen BK324.out 1
        have hfz20_2 := blk_frozen BK324.out 2
        try go_wp2_with (first | ((with_reducible refine gate_callee (f := 19) rfl ?_); refine goesL_ (some 23) rfl rfl Try.func19 (by kernel_rfl) rfl #[.agg #[.string a0_0, .int .i64 a0_1, .bool a0_2], .slice A1 l1.length c1] rfl (by (try simp only [List.map_toArray, List.map_cons, List.map_nil]); first | done | rfl | (simp only [List.length_drop, List.length_take]; rfl)) ?_; (with_reducible refine (sync_Encode.calls kj7 a0_0 a0_1 a0_2 _ _ l1 t327 t330 _ ?side1 ?side2 A13.out).mono ?_); (case side1 => repeat (first | exact (Kd.C_below HR1.out HB.out) | (with_reducible refine Kd.C_alloc ?_ _) | (with_reducible refine Kd.C_drewN ?_ _) | (with_reducible refine Kd.C_drew ?_))); (case side2 => exact HC1.out); rintro e w21 ⟨v328, rfl, ho0, hb⟩; refine ⟨_, rfl, ?_⟩; have n0_ := Aside0.mk (Kd.R_lower ho0 (below_size (hbw HB.out))); have n1_ := Aside0.mk (blkb BK324.out hb); have n2_ := Aside0.mk (below_step (hbw HB.out) hb); clear BK324; clear HB; have HO329 := n0_; have BK324 := n1_; have HB := n2_; clear n0_ n1_ n2_; (try clear hb); (try clear hb2); (try clear hk); (try clear hi); (try clear ho0); have hcz22_0 : w21.cell? ⟨gb324, 0, none⟩ = some (.string a0_0) := (blk_cell BK324.out 0).trans rfl; have hcz22_1 : w21.cell? ⟨gb324, 1, none⟩ = some (.int .i64 a0_1) := (blk_cell BK324.out 1).trans rfl; have hcz22_2 : w21.cell? ⟨gb324, 2, none⟩ = some (.bool a0_2) := (blk_cell BK324.out 2).trans rfl; have hfz22_0 := blk_frozen BK324.out 0; have hfz22_1 := blk_frozen BK324.out 1; have hfz22_2 := blk_frozen BK324.out 2) | ((with_reducible refine gate_callee (f := 20) rfl ?_); refine goesL_ (some 29) rfl rfl Try.func20 (by kernel_rfl) rfl #[.agg #[.string a0_0, .int .i64 a0_1, .bool a0_2], .slice A1 l1.length c1] rfl (by (try simp only [List.map_toArray, List.map_cons, List.map_nil]); first | done | rfl | (simp only [List.length_drop, List.length_take]; rfl)) ?_; (with_reducible refine (signalbenchref21_Encode.calls kj7 a0_0 a0_1 a0_2 _ _ l1 t331 t334 _ ?side1 ?side2 A14.out).mono ?_); (case side1 => repeat (first | exact (Kd.C_below HR1.out HB.out) | (with_reducible refine Kd.C_alloc ?_ _) | (with_reducible refine Kd.C_drewN ?_ _) | (with_reducible refine Kd.C_drew ?_))); (case side2 => exact HC1.out); rintro e w23 ⟨v332, rfl, ho0, hb⟩; refine ⟨_, rfl, ?_⟩; have n0_ := Aside0.mk (Kd.R_elder' (rkw HO329.out) (Kd.R_base ho0) hb); have n1_ := Aside0.mk (Kd.R_lower (Kd.R_new' ho0 (Kd.R_lt (rkw HO329.out))) (below_size (hbw HB.out))); have n2_ := Aside0.mk (blkb BK324.out hb); have n3_ := Aside0.mk (below_step (hbw HB.out) hb); clear HO329; clear BK324; clear HB; have HO329 := n0_; have HO333 := n1_; have BK324 := n2_; have HB := n3_; clear n0_ n1_ n2_ n3_; (try clear hb); (try clear hb2); (try clear hk); (try clear hi); (try clear ho0)))
        have n0_ := Aside0.mk (Kd.R_drew HO329.out)
        have n1_ := Aside0.mk (Kd.R_drew HO333.out)
        have n2_ := Aside0.mk (blk_drew BK324.out)
        have n3_ := Aside0.mk (below_drew1 HB.out)
        clear HO329
        clear HO333
        clear BK324
        clear HB
        have HO329 := n0_
        have HO333 := n1_
        have BK324 := n2_
        have HB := n3_
        clear n0_ n1_ n2_ n3_
        refine start_ (n := 16) (S := fun w' => w'.cell? ⟨gb324, 0, none⟩ = some (.string a0_0) ∧ w'.cell? ⟨gb324, 1, none⟩ = some (.int .i64 a0_1) ∧ w'.cell? ⟨gb324, 2, none⟩ = some (.bool a0_2)) (ds := []) #[false, false, false, false, false, false, false, false, false, false, false, false, false, false, false, false] (by kernel_rfl) rfl rfl ⟨(blk_cell BK324.out 0).trans rfl, (blk_cell BK324.out 1).trans rfl, (blk_cell BK324.out 2).trans rfl⟩ (fun hHeld => ?_); refine with_tabW signalbenchlaw21_SyncEncodes.tab7 signalbenchlaw21_SyncEncodes.bits7 (fun HT_ HW_ => ?_)
        generalize w23.drew = w24 at HO329 HO333 BK324 HB hHeld ⊢
        refine take_ (i := 0) (N := some 32) (v := ?_) (a' := ?_) #[true, false, false, false, false, false, false, false, false, false, false, false, false, false, false, false] rfl rfl (take_ofW HT_.out HW_.out (by kernel_rfl)) (fun _ _ _ h => h) (Or.inl ⟨by rfl, ?_⟩) hHeld ?_ ?_
        rotate_left
        ·rintro w' ⟨s0, s1, s2⟩
         go_simp
         with_reducible rfl
        rotate_left
        ·simp only [Act.put, nrm]
         rfl
        refine take_ (i := 2) (N := some 34) (v := ?_) (a' := ?_) #[true, false, true, false, false, false, false, false, false, false, false, false, false, false, false, false] rfl rfl (take_ofW HT_.out HW_.out (by kernel_rfl)) (fun _ _ _ h => h) (Or.inl ⟨by rfl, ?_⟩) hHeld ?_ ?_
        rotate_left
        ·rintro w' ⟨s0, s1, s2⟩
         go_simp
         with_reducible rfl
        rotate_left
        ·simp only [Act.put, nrm]
         rfl
        refine one_ (i := 1) (N := some 33) #[true, true, true, false, false, false, false, false, false, false, false, false, false, false, false, false] rfl rfl (one_of HT_.out (by kernel_rfl)) (by decide) (fun K hK => ?_)
        refine goes_ Try.func21 (by kernel_rfl) rfl #[.agg #[.string a0_0, .int .i64 a0_1, .bool a0_2]] (by rfl) rfl rfl (by (try simp only [List.map_toArray, List.map_cons, List.map_nil]); first | done | rfl | (simp only [List.length_drop, List.length_take]; rfl)) ?_
        with_reducible refine (sync_Check.calls kj7 a0_0 a0_1 a0_2 t335 _ A15.out).mono ?_
        rintro e w25 ⟨rfl, hb⟩
        refine ⟨_, rfl, ?_⟩
        have n0_ := Aside0.mk (Kd.R_below (rkw HO329.out) hb)
        have n1_ := Aside0.mk (Kd.R_below (rkw HO333.out) hb)
        have n2_ := Aside0.mk (blkb BK324.out hb)
        have n3_ := Aside0.mk (below_step (hbw HB.out) hb)
        clear HO329
        clear HO333
        clear BK324
        clear HB
        have HO329 := n0_
        have HO333 := n1_
        have BK324 := n2_
        have HB := n3_
        clear n0_ n1_ n2_ n3_
        (try clear hb)
        (try clear hb2)
        (try clear hk)
        (try clear hi)
        refine hK.out _ _ ⟨(blk_cell BK324.out 0).trans rfl, (blk_cell BK324.out 1).trans rfl, (blk_cell BK324.out 2).trans rfl⟩ (fun hHeld => ?_)
        clear hK K
        refine norm_ (a' := ?_) ?_ ?_
        rotate_left
        ·show Act.put _ (some 33) _ = _
         simp only [Act.put, nrm]
         rfl
        refine one_ (i := 3) (N := some 35) #[true, true, true, true, false, false, false, false, false, false, false, false, false, false, false, false] rfl rfl (one_of HT_.out (by kernel_rfl)) (by decide) (fun K hK => ?_)
        refine goes_ Try.func22 (by kernel_rfl) rfl #[.agg #[.string a0_0, .int .i64 a0_1, .bool a0_2]] (by rfl) rfl rfl (by (try simp only [List.map_toArray, List.map_cons, List.map_nil]); first | done | rfl | (simp only [List.length_drop, List.length_take]; rfl)) ?_
        with_reducible refine (signalbenchref21_Check.calls kj7 a0_0 a0_1 a0_2 t336 _ A16.out).mono ?_
        rintro e w26 ⟨rfl, hb⟩
        refine ⟨_, rfl, ?_⟩
        have n0_ := Aside0.mk (Kd.R_below (rkw HO329.out) hb)
        have n1_ := Aside0.mk (Kd.R_below (rkw HO333.out) hb)
        have n2_ := Aside0.mk (blkb BK324.out hb)
        have n3_ := Aside0.mk (below_step (hbw HB.out) hb)
        clear HO329
        clear HO333
        clear BK324
        clear HB
        have HO329 := n0_
        have HO333 := n1_
        have BK324 := n2_
        have HB := n3_
        clear n0_ n1_ n2_ n3_
        (try clear hb)
        (try clear hb2)
        (try clear hk)
        (try clear hi)
        obtain ⟨Ao27, co27, eo27⟩ := Kd.R_slice HO329.out
        (first | subst eo27 | (injection eo27 with f1_ f2_ f3_; have f4_ := f1_.symm; have f5_ := f3_.symm; clear f1_ f2_ f3_; subst f4_; subst f5_))
        obtain ⟨Ao28, co28, eo28⟩ := Kd.R_slice HO333.out
        (first | subst eo28 | (injection eo28 with f1_ f2_ f3_; have f4_ := f1_.symm; have f5_ := f3_.symm; clear f1_ f2_ f3_; subst f4_; subst f5_))
        refine hK.out _ _ ⟨(blk_cell BK324.out 0).trans rfl, (blk_cell BK324.out 1).trans rfl, (blk_cell BK324.out 2).trans rfl⟩ (fun hHeld => ?_)
        clear hK K
        refine norm_ (a' := ?_) ?_ ?_
        rotate_left
        ·show Act.put _ (some 35) _ = _
         simp only [Act.put, nrm]
         rfl
        refine pstep 4 (some 36) #[true, true, true, true, true, false, false, false, false, false, false, false, false, false, false, false] HT_.out ?_
        refine pstep 5 (some 37) #[true, true, true, true, true, true, false, false, false, false, false, false, false, false, false, false] HT_.out ?_
        refine pstep 6 (some 38) #[true, true, true, true, true, true, true, false, false, false, false, false, false, false, false, false] HT_.out ?_
        refine pstep 7 (some 39) #[true, true, true, true, true, true, true, true, false, false, false, false, false, false, false, false] HT_.out ?_
        refine pstep 8 (some 40) #[true, true, true, true, true, true, true, true, true, false, false, false, false, false, false, false] HT_.out ?_
        refine pstep 9 (some 41) #[true, true, true, true, true, true, true, true, true, true, false, false, false, false, false, false] HT_.out ?_
        refine pstep 10 (some 42) #[true, true, true, true, true, true, true, true, true, true, true, false, false, false, false, false] HT_.out ?_
        refine pstep 11 (some 43) #[true, true, true, true, true, true, true, true, true, true, true, true, false, false, false, false] HT_.out ?_
        refine pstep 12 (some 44) #[true, true, true, true, true, true, true, true, true, true, true, true, true, false, false, false] HT_.out ?_
        refine one_ (i := 13) (N := some 45) #[true, true, true, true, true, true, true, true, true, true, true, true, true, true, false, false] rfl rfl (one_of HT_.out (by kernel_rfl)) (by decide) (fun K hK => ?_)
        refine goes_ Try.func23 (by kernel_rfl) rfl #[.slice Ao27 t327.length co27, .slice Ao28 t331.length co28] (by rfl) rfl rfl (by (try simp only [List.map_toArray, List.map_cons, List.map_nil]); first | done | rfl | (simp only [List.length_drop, List.length_take]; rfl)) ?_
        with_reducible refine (signalbenchlaw21_sameItems.calls kj7 _ _ t327 _ _ t331 t337 _ ?side1 ?side2 ?side3 ?side4 A19.out).mono ?_
        (case side1 => repeat (first | exact (Kd.R_reads' HO329.out).2.2 | (with_reducible refine Kd.C_alloc ?_ _) | (with_reducible refine Kd.C_drewN ?_ _) | (with_reducible refine Kd.C_drew ?_)))
        (case side2 => exact (Kd.R_reads' HO329.out).2.1)
        (case side3 => repeat (first | exact (Kd.R_reads' HO333.out).2.2 | (with_reducible refine Kd.C_alloc ?_ _) | (with_reducible refine Kd.C_drewN ?_ _) | (with_reducible refine Kd.C_drew ?_)))
        (case side4 => exact (Kd.R_reads' HO333.out).2.1)
        rintro e w' ⟨rfl, ⟨nd, rfl⟩⟩
        refine ⟨_, rfl, ?_⟩
        refine hK.out _ _ ⟨(blk_cell BK324.out 0).trans rfl, (blk_cell BK324.out 1).trans rfl, (blk_cell BK324.out 2).trans rfl⟩ (fun hHeld => ?_)
        clear hK K
        refine norm_ (a' := ?_) ?_ ?_
        rotate_left
        ·show Act.put _ (some 45) _ = _
         simp only [Act.put, nrm]
         rfl
        refine pstep 14 (some 46) #[true, true, true, true, true, true, true, true, true, true, true, true, true, true, true, false] HT_.out ?_
        refine pstep 15 (some 4) #[true, true, true, true, true, true, true, true, true, true, true, true, true, true, true, true] HT_.out ?_
        refine done_ (done_of HT_.out (by kernel_rfl)) ?_
        try go_wp2
        go_ret
        exact ⟨by first | rfl | (simp [errW_none, errW_some] <;> rfl) | (simp [*, errW_none, errW_some] <;> rfl), by repeat (first | (with_reducible first | exact HB.out | apply below_alloc | apply pw_below_drewN | apply below_drew1 | refine below_set ?_ GE324.out) | exact HB.out)⟩
       ·rw [if_neg c18] at H
        have c18b0 : (t330 == t334) = false := beq_eq_false_iff_ne.mpr c18
        have c18b1 : (t330 != t334) = true := bne_iff_ne.mpr c18
        obtain rfl := Option.some.inj H
        have hcz29_0 : wc.cell? ⟨gb324, 0, none⟩ = some (.string a0_0) := (blk_cell BK324.out 0).trans rfl
        have hcz29_1 : wc.cell? ⟨gb324, 1, none⟩ = some (.int .i64 a0_1) := (blk_cell BK324.out 1).trans rfl
        have hcz29_2 : wc.cell? ⟨gb324, 2, none⟩ = some (.bool a0_2) := (blk_cell BK324.out 2).trans rfl
        have hfz29_0 := blk_frozen BK324.out 0
        have hfz29_1 := blk_frozen BK324.out 1
        have hfz29_2 := blk_frozen BK324.out 2
        try go_wp2_with (first | ((with_reducible refine gate_callee (f := 19) rfl ?_); refine goesL_ (some 23) rfl rfl Try.func19 (by kernel_rfl) rfl #[.agg #[.string a0_0, .int .i64 a0_1, .bool a0_2], .slice A1 l1.length c1] rfl (by (try simp only [List.map_toArray, List.map_cons, List.map_nil]); first | done | rfl | (simp only [List.length_drop, List.length_take]; rfl)) ?_; (with_reducible refine (sync_Encode.calls kj7 a0_0 a0_1 a0_2 _ _ l1 t327 t330 _ ?side1 ?side2 A13.out).mono ?_); (case side1 => repeat (first | exact (Kd.C_below HR1.out HB.out) | (with_reducible refine Kd.C_alloc ?_ _) | (with_reducible refine Kd.C_drewN ?_ _) | (with_reducible refine Kd.C_drew ?_))); (case side2 => exact HC1.out); rintro e w30 ⟨v328, rfl, ho0, hb⟩; refine ⟨_, rfl, ?_⟩; have n0_ := Aside0.mk (Kd.R_lower ho0 (below_size (hbw HB.out))); have n1_ := Aside0.mk (blkb BK324.out hb); have n2_ := Aside0.mk (below_step (hbw HB.out) hb); clear BK324; clear HB; have HO329 := n0_; have BK324 := n1_; have HB := n2_; clear n0_ n1_ n2_; (try clear hb); (try clear hb2); (try clear hk); (try clear hi); (try clear ho0); have hcz31_0 : w30.cell? ⟨gb324, 0, none⟩ = some (.string a0_0) := (blk_cell BK324.out 0).trans rfl; have hcz31_1 : w30.cell? ⟨gb324, 1, none⟩ = some (.int .i64 a0_1) := (blk_cell BK324.out 1).trans rfl; have hcz31_2 : w30.cell? ⟨gb324, 2, none⟩ = some (.bool a0_2) := (blk_cell BK324.out 2).trans rfl; have hfz31_0 := blk_frozen BK324.out 0; have hfz31_1 := blk_frozen BK324.out 1; have hfz31_2 := blk_frozen BK324.out 2) | ((with_reducible refine gate_callee (f := 20) rfl ?_); refine goesL_ (some 29) rfl rfl Try.func20 (by kernel_rfl) rfl #[.agg #[.string a0_0, .int .i64 a0_1, .bool a0_2], .slice A1 l1.length c1] rfl (by (try simp only [List.map_toArray, List.map_cons, List.map_nil]); first | done | rfl | (simp only [List.length_drop, List.length_take]; rfl)) ?_; (with_reducible refine (signalbenchref21_Encode.calls kj7 a0_0 a0_1 a0_2 _ _ l1 t331 t334 _ ?side1 ?side2 A14.out).mono ?_); (case side1 => repeat (first | exact (Kd.C_below HR1.out HB.out) | (with_reducible refine Kd.C_alloc ?_ _) | (with_reducible refine Kd.C_drewN ?_ _) | (with_reducible refine Kd.C_drew ?_))); (case side2 => exact HC1.out); rintro e w32 ⟨v332, rfl, ho0, hb⟩; refine ⟨_, rfl, ?_⟩; have n0_ := Aside0.mk (Kd.R_elder' (rkw HO329.out) (Kd.R_base ho0) hb); have n1_ := Aside0.mk (Kd.R_lower (Kd.R_new' ho0 (Kd.R_lt (rkw HO329.out))) (below_size (hbw HB.out))); have n2_ := Aside0.mk (blkb BK324.out hb); have n3_ := Aside0.mk (below_step (hbw HB.out) hb); clear HO329; clear BK324; clear HB; have HO329 := n0_; have HO333 := n1_; have BK324 := n2_; have HB := n3_; clear n0_ n1_ n2_ n3_; (try clear hb); (try clear hb2); (try clear hk); (try clear hi); (try clear ho0)))
        have n0_ := Aside0.mk (Kd.R_drew HO329.out)
        have n1_ := Aside0.mk (Kd.R_drew HO333.out)
        have n2_ := Aside0.mk (blk_drew BK324.out)
        have n3_ := Aside0.mk (below_drew1 HB.out)
        clear HO329
        clear HO333
        clear BK324
        clear HB
        have HO329 := n0_
        have HO333 := n1_
        have BK324 := n2_
        have HB := n3_
        clear n0_ n1_ n2_ n3_
        refine start_ (n := 16) (S := fun w' => w'.cell? ⟨gb324, 0, none⟩ = some (.string a0_0) ∧ w'.cell? ⟨gb324, 1, none⟩ = some (.int .i64 a0_1) ∧ w'.cell? ⟨gb324, 2, none⟩ = some (.bool a0_2)) (ds := []) #[false, false, false, false, false, false, false, false, false, false, false, false, false, false, false, false] (by kernel_rfl) rfl rfl ⟨(blk_cell BK324.out 0).trans rfl, (blk_cell BK324.out 1).trans rfl, (blk_cell BK324.out 2).trans rfl⟩ (fun hHeld => ?_); refine with_tabW signalbenchlaw21_SyncEncodes.tab7 signalbenchlaw21_SyncEncodes.bits7 (fun HT_ HW_ => ?_)
        generalize w32.drew = w33 at HO329 HO333 BK324 HB hHeld ⊢
        refine take_ (i := 0) (N := some 32) (v := ?_) (a' := ?_) #[true, false, false, false, false, false, false, false, false, false, false, false, false, false, false, false] rfl rfl (take_ofW HT_.out HW_.out (by kernel_rfl)) (fun _ _ _ h => h) (Or.inl ⟨by rfl, ?_⟩) hHeld ?_ ?_
        rotate_left
        ·rintro w' ⟨s0, s1, s2⟩
         go_simp
         with_reducible rfl
        rotate_left
        ·simp only [Act.put, nrm]
         rfl
        refine take_ (i := 2) (N := some 34) (v := ?_) (a' := ?_) #[true, false, true, false, false, false, false, false, false, false, false, false, false, false, false, false] rfl rfl (take_ofW HT_.out HW_.out (by kernel_rfl)) (fun _ _ _ h => h) (Or.inl ⟨by rfl, ?_⟩) hHeld ?_ ?_
        rotate_left
        ·rintro w' ⟨s0, s1, s2⟩
         go_simp
         with_reducible rfl
        rotate_left
        ·simp only [Act.put, nrm]
         rfl
        refine one_ (i := 1) (N := some 33) #[true, true, true, false, false, false, false, false, false, false, false, false, false, false, false, false] rfl rfl (one_of HT_.out (by kernel_rfl)) (by decide) (fun K hK => ?_)
        refine goes_ Try.func21 (by kernel_rfl) rfl #[.agg #[.string a0_0, .int .i64 a0_1, .bool a0_2]] (by rfl) rfl rfl (by (try simp only [List.map_toArray, List.map_cons, List.map_nil]); first | done | rfl | (simp only [List.length_drop, List.length_take]; rfl)) ?_
        with_reducible refine (sync_Check.calls kj7 a0_0 a0_1 a0_2 t335 _ A15.out).mono ?_
        rintro e w34 ⟨rfl, hb⟩
        refine ⟨_, rfl, ?_⟩
        have n0_ := Aside0.mk (Kd.R_below (rkw HO329.out) hb)
        have n1_ := Aside0.mk (Kd.R_below (rkw HO333.out) hb)
        have n2_ := Aside0.mk (blkb BK324.out hb)
        have n3_ := Aside0.mk (below_step (hbw HB.out) hb)
        clear HO329
        clear HO333
        clear BK324
        clear HB
        have HO329 := n0_
        have HO333 := n1_
        have BK324 := n2_
        have HB := n3_
        clear n0_ n1_ n2_ n3_
        (try clear hb)
        (try clear hb2)
        (try clear hk)
        (try clear hi)
        refine hK.out _ _ ⟨(blk_cell BK324.out 0).trans rfl, (blk_cell BK324.out 1).trans rfl, (blk_cell BK324.out 2).trans rfl⟩ (fun hHeld => ?_)
        clear hK K
        refine norm_ (a' := ?_) ?_ ?_
        rotate_left
        ·show Act.put _ (some 33) _ = _
         simp only [Act.put, nrm]
         rfl
        refine one_ (i := 3) (N := some 35) #[true, true, true, true, false, false, false, false, false, false, false, false, false, false, false, false] rfl rfl (one_of HT_.out (by kernel_rfl)) (by decide) (fun K hK => ?_)
        refine goes_ Try.func22 (by kernel_rfl) rfl #[.agg #[.string a0_0, .int .i64 a0_1, .bool a0_2]] (by rfl) rfl rfl (by (try simp only [List.map_toArray, List.map_cons, List.map_nil]); first | done | rfl | (simp only [List.length_drop, List.length_take]; rfl)) ?_
        with_reducible refine (signalbenchref21_Check.calls kj7 a0_0 a0_1 a0_2 t336 _ A16.out).mono ?_
        rintro e w35 ⟨rfl, hb⟩
        refine ⟨_, rfl, ?_⟩
        have n0_ := Aside0.mk (Kd.R_below (rkw HO329.out) hb)
        have n1_ := Aside0.mk (Kd.R_below (rkw HO333.out) hb)
        have n2_ := Aside0.mk (blkb BK324.out hb)
        have n3_ := Aside0.mk (below_step (hbw HB.out) hb)
        clear HO329
        clear HO333
        clear BK324
        clear HB
        have HO329 := n0_
        have HO333 := n1_
        have BK324 := n2_
        have HB := n3_
        clear n0_ n1_ n2_ n3_
        (try clear hb)
        (try clear hb2)
        (try clear hk)
        (try clear hi)
        refine hK.out _ _ ⟨(blk_cell BK324.out 0).trans rfl, (blk_cell BK324.out 1).trans rfl, (blk_cell BK324.out 2).trans rfl⟩ (fun hHeld => ?_)
        clear hK K
        refine norm_ (a' := ?_) ?_ ?_
        rotate_left
        ·show Act.put _ (some 35) _ = _
         simp only [Act.put, nrm]
         rfl
        refine pstep 4 (some 36) #[true, true, true, true, true, false, false, false, false, false, false, false, false, false, false, false] HT_.out ?_
        refine pstep 5 (some 37) #[true, true, true, true, true, true, false, false, false, false, false, false, false, false, false, false] HT_.out ?_
        refine pstep 6 (some 38) #[true, true, true, true, true, true, true, false, false, false, false, false, false, false, false, false] HT_.out ?_
        refine pstep 7 (some 39) #[true, true, true, true, true, true, true, true, false, false, false, false, false, false, false, false] HT_.out ?_
        refine pstep 8 (some 40) #[true, true, true, true, true, true, true, true, true, false, false, false, false, false, false, false] HT_.out ?_
        refine pstep 9 (some 41) #[true, true, true, true, true, true, true, true, true, true, false, false, false, false, false, false] HT_.out ?_
        refine pstep 10 (some 42) #[true, true, true, true, true, true, true, true, true, true, true, false, false, false, false, false] HT_.out ?_
        refine pure_ (i := 11) (N := some 43) (v := undef) (a' := ?_) #[true, true, true, true, true, true, true, true, true, true, true, true, false, false, false, false] rfl rfl (any_of HT_.out (by kernel_rfl)) (fun _ _ _ h => h) (Or.inr ⟨by rfl, rfl⟩) ?_ ?_
        rotate_left
        ·simp only [Act.put, nrm]
         rfl
        refine pure_ (i := 12) (N := some 44) (v := undef) (a' := ?_) #[true, true, true, true, true, true, true, true, true, true, true, true, true, false, false, false] rfl rfl (any_of HT_.out (by kernel_rfl)) (fun _ _ _ h => h) (Or.inr ⟨by rfl, rfl⟩) ?_ ?_
        rotate_left
        ·simp only [Act.put, nrm]
         rfl
        refine pure_ (i := 13) (N := some 45) (v := undef) (a' := ?_) #[true, true, true, true, true, true, true, true, true, true, true, true, true, true, false, false] rfl rfl (any_of HT_.out (by kernel_rfl)) (fun _ _ _ h => h) (Or.inr ⟨by rfl, rfl⟩) ?_ ?_
        rotate_left
        ·simp only [Act.put, nrm]
         rfl
        refine pstep 14 (some 46) #[true, true, true, true, true, true, true, true, true, true, true, true, true, true, true, false] HT_.out ?_
        refine pstep 15 (some 4) #[true, true, true, true, true, true, true, true, true, true, true, true, true, true, true, true] HT_.out ?_
        refine done_ (done_of HT_.out (by kernel_rfl)) ?_
        try go_wp2
        go_ret
        exact ⟨by first | rfl | (simp [errW_none, errW_some] <;> rfl) | (simp [*, errW_none, errW_some] <;> rfl), by repeat (first | (with_reducible first | exact HB.out | apply below_alloc | apply pw_below_drewN | apply below_drew1 | refine below_set ?_ GE324.out) | exact HB.out)⟩
      ·rw [if_neg c17] at H
       have c17b0 : (t335 == t336) = false := beq_eq_false_iff_ne.mpr c17
       have c17b1 : (t335 != t336) = true := bne_iff_ne.mpr c17
       obtain rfl := Option.some.inj H
       have hcz36_0 : wc.cell? ⟨gb324, 0, none⟩ = some (.string a0_0) := (blk_cell BK324.out 0).trans rfl
       have hcz36_1 : wc.cell? ⟨gb324, 1, none⟩ = some (.int .i64 a0_1) := (blk_cell BK324.out 1).trans rfl
       have hcz36_2 : wc.cell? ⟨gb324, 2, none⟩ = some (.bool a0_2) := (blk_cell BK324.out 2).trans rfl
       have hfz36_0 := blk_frozen BK324.out 0
       have hfz36_1 := blk_frozen BK324.out 1
       have hfz36_2 := blk_frozen BK324.out 2
       try go_wp2_with (first | ((with_reducible refine gate_callee (f := 19) rfl ?_); refine goesL_ (some 23) rfl rfl Try.func19 (by kernel_rfl) rfl #[.agg #[.string a0_0, .int .i64 a0_1, .bool a0_2], .slice A1 l1.length c1] rfl (by (try simp only [List.map_toArray, List.map_cons, List.map_nil]); first | done | rfl | (simp only [List.length_drop, List.length_take]; rfl)) ?_; (with_reducible refine (sync_Encode.calls kj7 a0_0 a0_1 a0_2 _ _ l1 t327 t330 _ ?side1 ?side2 A13.out).mono ?_); (case side1 => repeat (first | exact (Kd.C_below HR1.out HB.out) | (with_reducible refine Kd.C_alloc ?_ _) | (with_reducible refine Kd.C_drewN ?_ _) | (with_reducible refine Kd.C_drew ?_))); (case side2 => exact HC1.out); rintro e w37 ⟨v328, rfl, ho0, hb⟩; refine ⟨_, rfl, ?_⟩; have n0_ := Aside0.mk (Kd.R_lower ho0 (below_size (hbw HB.out))); have n1_ := Aside0.mk (blkb BK324.out hb); have n2_ := Aside0.mk (below_step (hbw HB.out) hb); clear BK324; clear HB; have HO329 := n0_; have BK324 := n1_; have HB := n2_; clear n0_ n1_ n2_; (try clear hb); (try clear hb2); (try clear hk); (try clear hi); (try clear ho0); have hcz38_0 : w37.cell? ⟨gb324, 0, none⟩ = some (.string a0_0) := (blk_cell BK324.out 0).trans rfl; have hcz38_1 : w37.cell? ⟨gb324, 1, none⟩ = some (.int .i64 a0_1) := (blk_cell BK324.out 1).trans rfl; have hcz38_2 : w37.cell? ⟨gb324, 2, none⟩ = some (.bool a0_2) := (blk_cell BK324.out 2).trans rfl; have hfz38_0 := blk_frozen BK324.out 0; have hfz38_1 := blk_frozen BK324.out 1; have hfz38_2 := blk_frozen BK324.out 2) | ((with_reducible refine gate_callee (f := 20) rfl ?_); refine goesL_ (some 29) rfl rfl Try.func20 (by kernel_rfl) rfl #[.agg #[.string a0_0, .int .i64 a0_1, .bool a0_2], .slice A1 l1.length c1] rfl (by (try simp only [List.map_toArray, List.map_cons, List.map_nil]); first | done | rfl | (simp only [List.length_drop, List.length_take]; rfl)) ?_; (with_reducible refine (signalbenchref21_Encode.calls kj7 a0_0 a0_1 a0_2 _ _ l1 t331 t334 _ ?side1 ?side2 A14.out).mono ?_); (case side1 => repeat (first | exact (Kd.C_below HR1.out HB.out) | (with_reducible refine Kd.C_alloc ?_ _) | (with_reducible refine Kd.C_drewN ?_ _) | (with_reducible refine Kd.C_drew ?_))); (case side2 => exact HC1.out); rintro e w39 ⟨v332, rfl, ho0, hb⟩; refine ⟨_, rfl, ?_⟩; have n0_ := Aside0.mk (Kd.R_elder' (rkw HO329.out) (Kd.R_base ho0) hb); have n1_ := Aside0.mk (Kd.R_lower (Kd.R_new' ho0 (Kd.R_lt (rkw HO329.out))) (below_size (hbw HB.out))); have n2_ := Aside0.mk (blkb BK324.out hb); have n3_ := Aside0.mk (below_step (hbw HB.out) hb); clear HO329; clear BK324; clear HB; have HO329 := n0_; have HO333 := n1_; have BK324 := n2_; have HB := n3_; clear n0_ n1_ n2_ n3_; (try clear hb); (try clear hb2); (try clear hk); (try clear hi); (try clear ho0)))
       have n0_ := Aside0.mk (Kd.R_drew HO329.out)
       have n1_ := Aside0.mk (Kd.R_drew HO333.out)
       have n2_ := Aside0.mk (blk_drew BK324.out)
       have n3_ := Aside0.mk (below_drew1 HB.out)
       clear HO329
       clear HO333
       clear BK324
       clear HB
       have HO329 := n0_
       have HO333 := n1_
       have BK324 := n2_
       have HB := n3_
       clear n0_ n1_ n2_ n3_
       refine start_ (n := 16) (S := fun w' => w'.cell? ⟨gb324, 0, none⟩ = some (.string a0_0) ∧ w'.cell? ⟨gb324, 1, none⟩ = some (.int .i64 a0_1) ∧ w'.cell? ⟨gb324, 2, none⟩ = some (.bool a0_2)) (ds := []) #[false, false, false, false, false, false, false, false, false, false, false, false, false, false, false, false] (by kernel_rfl) rfl rfl ⟨(blk_cell BK324.out 0).trans rfl, (blk_cell BK324.out 1).trans rfl, (blk_cell BK324.out 2).trans rfl⟩ (fun hHeld => ?_); refine with_tabW signalbenchlaw21_SyncEncodes.tab7 signalbenchlaw21_SyncEncodes.bits7 (fun HT_ HW_ => ?_)
       generalize w39.drew = w40 at HO329 HO333 BK324 HB hHeld ⊢
       refine take_ (i := 0) (N := some 32) (v := ?_) (a' := ?_) #[true, false, false, false, false, false, false, false, false, false, false, false, false, false, false, false] rfl rfl (take_ofW HT_.out HW_.out (by kernel_rfl)) (fun _ _ _ h => h) (Or.inl ⟨by rfl, ?_⟩) hHeld ?_ ?_
       rotate_left
       ·rintro w' ⟨s0, s1, s2⟩
        go_simp
        with_reducible rfl
       rotate_left
       ·simp only [Act.put, nrm]
        rfl
       refine take_ (i := 2) (N := some 34) (v := ?_) (a' := ?_) #[true, false, true, false, false, false, false, false, false, false, false, false, false, false, false, false] rfl rfl (take_ofW HT_.out HW_.out (by kernel_rfl)) (fun _ _ _ h => h) (Or.inl ⟨by rfl, ?_⟩) hHeld ?_ ?_
       rotate_left
       ·rintro w' ⟨s0, s1, s2⟩
        go_simp
        with_reducible rfl
       rotate_left
       ·simp only [Act.put, nrm]
        rfl
       refine one_ (i := 1) (N := some 33) #[true, true, true, false, false, false, false, false, false, false, false, false, false, false, false, false] rfl rfl (one_of HT_.out (by kernel_rfl)) (by decide) (fun K hK => ?_)
       refine goes_ Try.func21 (by kernel_rfl) rfl #[.agg #[.string a0_0, .int .i64 a0_1, .bool a0_2]] (by rfl) rfl rfl (by (try simp only [List.map_toArray, List.map_cons, List.map_nil]); first | done | rfl | (simp only [List.length_drop, List.length_take]; rfl)) ?_
       with_reducible refine (sync_Check.calls kj7 a0_0 a0_1 a0_2 t335 _ A15.out).mono ?_
       rintro e w41 ⟨rfl, hb⟩
       refine ⟨_, rfl, ?_⟩
       have n0_ := Aside0.mk (Kd.R_below (rkw HO329.out) hb)
       have n1_ := Aside0.mk (Kd.R_below (rkw HO333.out) hb)
       have n2_ := Aside0.mk (blkb BK324.out hb)
       have n3_ := Aside0.mk (below_step (hbw HB.out) hb)
       clear HO329
       clear HO333
       clear BK324
       clear HB
       have HO329 := n0_
       have HO333 := n1_
       have BK324 := n2_
       have HB := n3_
       clear n0_ n1_ n2_ n3_
       (try clear hb)
       (try clear hb2)
       (try clear hk)
       (try clear hi)
       refine hK.out _ _ ⟨(blk_cell BK324.out 0).trans rfl, (blk_cell BK324.out 1).trans rfl, (blk_cell BK324.out 2).trans rfl⟩ (fun hHeld => ?_)
       clear hK K
       refine norm_ (a' := ?_) ?_ ?_
       rotate_left
       ·show Act.put _ (some 33) _ = _
        simp only [Act.put, nrm]
        rfl
       refine one_ (i := 3) (N := some 35) #[true, true, true, true, false, false, false, false, false, false, false, false, false, false, false, false] rfl rfl (one_of HT_.out (by kernel_rfl)) (by decide) (fun K hK => ?_)
       refine goes_ Try.func22 (by kernel_rfl) rfl #[.agg #[.string a0_0, .int .i64 a0_1, .bool a0_2]] (by rfl) rfl rfl (by (try simp only [List.map_toArray, List.map_cons, List.map_nil]); first | done | rfl | (simp only [List.length_drop, List.length_take]; rfl)) ?_
       with_reducible refine (signalbenchref21_Check.calls kj7 a0_0 a0_1 a0_2 t336 _ A16.out).mono ?_
       rintro e w42 ⟨rfl, hb⟩
       refine ⟨_, rfl, ?_⟩
       have n0_ := Aside0.mk (Kd.R_below (rkw HO329.out) hb)
       have n1_ := Aside0.mk (Kd.R_below (rkw HO333.out) hb)
       have n2_ := Aside0.mk (blkb BK324.out hb)
       have n3_ := Aside0.mk (below_step (hbw HB.out) hb)
       clear HO329
       clear HO333
       clear BK324
       clear HB
       have HO329 := n0_
       have HO333 := n1_
       have BK324 := n2_
       have HB := n3_
       clear n0_ n1_ n2_ n3_
       (try clear hb)
       (try clear hb2)
       (try clear hk)
       (try clear hi)
       refine hK.out _ _ ⟨(blk_cell BK324.out 0).trans rfl, (blk_cell BK324.out 1).trans rfl, (blk_cell BK324.out 2).trans rfl⟩ (fun hHeld => ?_)
       clear hK K
       refine norm_ (a' := ?_) ?_ ?_
       rotate_left
       ·show Act.put _ (some 35) _ = _
        simp only [Act.put, nrm]
        rfl
       refine pstep 4 (some 36) #[true, true, true, true, true, false, false, false, false, false, false, false, false, false, false, false] HT_.out ?_
       refine pstep 5 (some 37) #[true, true, true, true, true, true, false, false, false, false, false, false, false, false, false, false] HT_.out ?_
       refine pure_ (i := 6) (N := some 38) (v := undef) (a' := ?_) #[true, true, true, true, true, true, true, false, false, false, false, false, false, false, false, false] rfl rfl (any_of HT_.out (by kernel_rfl)) (fun _ _ _ h => h) (Or.inr ⟨by rfl, rfl⟩) ?_ ?_
       rotate_left
       ·simp only [Act.put, nrm]
        rfl
       refine pure_ (i := 7) (N := some 39) (v := undef) (a' := ?_) #[true, true, true, true, true, true, true, true, false, false, false, false, false, false, false, false] rfl rfl (any_of HT_.out (by kernel_rfl)) (fun _ _ _ h => h) (Or.inr ⟨by rfl, rfl⟩) ?_ ?_
       rotate_left
       ·simp only [Act.put, nrm]
        rfl
       refine pure_ (i := 8) (N := some 40) (v := undef) (a' := ?_) #[true, true, true, true, true, true, true, true, true, false, false, false, false, false, false, false] rfl rfl (any_of HT_.out (by kernel_rfl)) (fun _ _ _ h => h) (Or.inr ⟨by rfl, rfl⟩) ?_ ?_
       rotate_left
       ·simp only [Act.put, nrm]
        rfl
       refine pstep 9 (some 41) #[true, true, true, true, true, true, true, true, true, true, false, false, false, false, false, false] HT_.out ?_
       refine pstep 10 (some 42) #[true, true, true, true, true, true, true, true, true, true, true, false, false, false, false, false] HT_.out ?_
       refine pure_ (i := 11) (N := some 43) (v := undef) (a' := ?_) #[true, true, true, true, true, true, true, true, true, true, true, true, false, false, false, false] rfl rfl (any_of HT_.out (by kernel_rfl)) (fun _ _ _ h => h) (Or.inr ⟨by rfl, rfl⟩) ?_ ?_
       rotate_left
       ·simp only [Act.put, nrm]
        rfl
       refine pure_ (i := 12) (N := some 44) (v := undef) (a' := ?_) #[true, true, true, true, true, true, true, true, true, true, true, true, true, false, false, false] rfl rfl (any_of HT_.out (by kernel_rfl)) (fun _ _ _ h => h) (Or.inr ⟨by rfl, rfl⟩) ?_ ?_
       rotate_left
       ·simp only [Act.put, nrm]
        rfl
       refine pure_ (i := 13) (N := some 45) (v := undef) (a' := ?_) #[true, true, true, true, true, true, true, true, true, true, true, true, true, true, false, false] rfl rfl (any_of HT_.out (by kernel_rfl)) (fun _ _ _ h => h) (Or.inr ⟨by rfl, rfl⟩) ?_ ?_
       rotate_left
       ·simp only [Act.put, nrm]
        rfl
       refine pstep 14 (some 46) #[true, true, true, true, true, true, true, true, true, true, true, true, true, true, true, false] HT_.out ?_
       refine pstep 15 (some 4) #[true, true, true, true, true, true, true, true, true, true, true, true, true, true, true, true] HT_.out ?_
       refine done_ (done_of HT_.out (by kernel_rfl)) ?_
       try go_wp2
       go_ret
       exact ⟨by first | rfl | (simp [errW_none, errW_some] <;> rfl) | (simp [*, errW_none, errW_some] <;> rfl), by repeat (first | (with_reducible first | exact HB.out | apply below_alloc | apply pw_below_drewN | apply below_drew1 | refine below_set ?_ GE324.out) | exact HB.out)⟩

/-- THE ONE PURE STATEMENT of signalbenchlaw21_SyncEncodes: yours. -/
def signalbenchlaw21_SyncEncodes.Pure : Prop := ∀ (a0_0 : ByteArray) (a0_1 : Int) (a0_2 : Bool) (l1 : List (S46)), a0_0.size ≤ 140737488351232 → (Lit.int .i64 a0_1).wf = true → l1.length ≤ maxLen → l1.length * 48 ≤ 140737488351232 → (∀ x ∈ l1, (Lit.int .i64 x.f0).wf = true ∧ (Lit.int .i64 x.f1).wf = true ∧ (Lit.int .i64 x.f2).wf = true ∧ x.f3.size ≤ 140737488351232 ∧ (Lit.int .i64 x.f4).wf = true) → ∃ k, signalbenchlaw21_SyncEncodes.f k a0_0 a0_1 a0_2 l1 = some true
theorem signalbenchlaw21_SyncEncodes.walk (P : signalbenchlaw21_SyncEncodes.Pure) (a0_0 : ByteArray) (a0_1 : Int) (a0_2 : Bool) (A1 : Option Addr) (c1 : Nat) (l1 : List (S46)) (w : World) (hr1 : Kd.C k46 w A1 l1.length l1) (hc1 : l1.length ≤ c1) (w0_ : a0_0.size ≤ 140737488351232) (w1_ : (Lit.int .i64 a0_1).wf = true) (w2_ : l1.length ≤ maxLen) (w3_ : l1.length * 48 ≤ 140737488351232) (w4_ : (∀ x ∈ l1, (Lit.int .i64 x.f0).wf = true ∧ (Lit.int .i64 x.f1).wf = true ∧ (Lit.int .i64 x.f2).wf = true ∧ x.f3.size ≤ 140737488351232 ∧ (Lit.int .i64 x.f4).wf = true)) :
  Calls Try.prog 4 #[.agg #[.string a0_0, .int .i64 a0_1, .bool a0_2], .slice A1 l1.length c1] w fun e w' => e = .returned (.bool true) ∧ Below w.heap.size w w' := by
 obtain ⟨k, h⟩ := P a0_0 a0_1 a0_2 l1 w0_ w1_ w2_ w3_ w4_
 refine (signalbenchlaw21_SyncEncodes.calls k a0_0 a0_1 a0_2 A1 c1 l1 true w hr1 hc1 h).mono ?_
 rintro e w' ⟨rfl, hd⟩
 exact ⟨rfl, hd⟩

end Go.Proofs.Ytbggkaofkohecaa.PSyncEncodes
