-- Written by a program of this session (wip/tools/pr.py), which calls the kit's print with changes of its own.
import Derived.Test.YtbggkaofkohecaaPSyncDecodesx0
import Derived.Test.YtbggkaofkohecaaPSyncDecodesx10
namespace Go.Proofs.Ytbggkaofkohecaa.PSyncDecodes
open Go.RowKit Go.Proofs.YtbggkaofkohecaaW.PrintWords Go.Proofs.YtbggkaofkohecaaW.PrintLast Go.Proofs.YtbggkaofkohecaaW.PrintMore
attribute [local go_sem] max2_int min2_int max_two min_two max_three min_three max_four min_four   -- for this text's walks alone
set_option linter.unusedVariables false
set_option linter.unusedSimpArgs false

/-! ### signalbenchref21_search: function 37 -/
def signalbenchref21_search.j0 : Nat → ByteArray → Int → Bool → Int → Int → Int → Int → Int → Int → Int → ByteArray → Option (Int × Int × Int × Int × Int × Int × Int × ByteArray)
 | 0, _, _, _, _, _, _, _, _, _, _, _ => none
 | k + 1, x315000, x315001, x315002, x316000, x316001, x316002, x316003, x316004, x316005, x316006, x316007 => (signalbenchref21_word.f k x316007).bind fun t318 => (if t318.toList = x315000.toList then (if 1 ≤ 7 then (if 7 ≤ (x316007.size : Int) then ((signalbenchref21_unpack.f k (x316007.extract 1 7)).bind fun t319 => (some (1, x316001, t319, x316003, x316004, x316005, x316006, (⟨#[]⟩ : ByteArray)))) else (none)) else (none)) else (some (x316000, x316001, x316002, x316003, x316004, x316005, x316006, x316007)))
def signalbenchref21_search.f (k : Nat) (a0_0 : ByteArray) (a0_1 : Int) (a0_2 : Bool) (a1_0 : Int) (a1_1 : Int) (a1_2 : Int) (a1_3 : Int) (a1_4 : Int) (a1_5 : Int) (a1_6 : Int) (a1_7 : ByteArray) (a2 : ByteArray) (a3 : Int) : Option (Int × Int × Int × Int × Int × Int × Int × ByteArray) := if a1_7.size + a2.size ≤ 9223372036854775807 then ((signalbenchref21_pack.f k a3).bind fun t317 => (if (a1_7 ++ a2).size + t317.size ≤ 9223372036854775807 then (if (((a1_7 ++ a2) ++ t317).size : Int) > (wrap64 (7 * (a0_0.size : Int))) then (if 7 ≤ (((a1_7 ++ a2) ++ t317).size : Int) then (signalbenchref21_search.j0 k a0_0 a0_1 a0_2 a1_0 a1_1 a1_2 a1_3 a1_4 a1_5 a1_6 (((a1_7 ++ a2) ++ t317).extract 7 ((a1_7 ++ a2) ++ t317).size)) else (none)) else (signalbenchref21_search.j0 k a0_0 a0_1 a0_2 a1_0 a1_1 a1_2 a1_3 a1_4 a1_5 a1_6 ((a1_7 ++ a2) ++ t317))) else (none))) else (none)
theorem signalbenchref21_search.mono_l : ∀ k, (∀ y0 y1 y2 y3 y4 y5 y6 y7 y8 y9 y10, LeO (signalbenchref21_search.j0 k y0 y1 y2 y3 y4 y5 y6 y7 y8 y9 y10) (signalbenchref21_search.j0 (k + 1) y0 y1 y2 y3 y4 y5 y6 y7 y8 y9 y10))
 | 0 => fun _ _ _ _ _ _ _ _ _ _ _ r h => by simp [signalbenchref21_search.j0] at h
 | k + 1 => by
  have ih0 := signalbenchref21_search.mono_l k
  ·intro y0 y1 y2 y3 y4 y5 y6 y7 y8 y9 y10
   unfold signalbenchref21_search.j0
   repeat' first
   | (with_reducible exact ih0 _ _ _ _ _ _ _ _ _ _ _)
   | (with_reducible exact signalbenchref21_pack.mono _ _)
   | (with_reducible exact signalbenchref21_unpack.mono _ _)
   | (with_reducible exact signalbenchref21_word.mono _ _)
   | (with_reducible exact LeO.refl _)
   | (with_reducible exact LeO.none _)
   | (with_reducible refine LeO.ite ?_ ?_)
   | (with_reducible refine LeO.bind ?_ (fun _ => ?_))
   | exact ih0 _ _ _ _ _ _ _ _ _ _ _
   | exact signalbenchref21_pack.mono _ _
   | exact signalbenchref21_unpack.mono _ _
   | exact signalbenchref21_word.mono _ _
   | exact LeO.none _
   | refine LeO.ite ?_ ?_
   | refine LeO.bind ?_ (fun _ => ?_)
theorem signalbenchref21_search.mono : ∀ a0 a1 a2 a3 a4 a5 a6 a7 a8 a9 a10 a11 a12 k, LeO (signalbenchref21_search.f k a0 a1 a2 a3 a4 a5 a6 a7 a8 a9 a10 a11 a12) (signalbenchref21_search.f (k + 1) a0 a1 a2 a3 a4 a5 a6 a7 a8 a9 a10 a11 a12) := by
 intro a0 a1 a2 a3 a4 a5 a6 a7 a8 a9 a10 a11 a12 k
 have ih0 := signalbenchref21_search.mono_l k
 unfold signalbenchref21_search.f
 repeat' first
   | (with_reducible exact ih0 _ _ _ _ _ _ _ _ _ _ _)
   | (with_reducible exact signalbenchref21_pack.mono _ _)
   | (with_reducible exact signalbenchref21_unpack.mono _ _)
   | (with_reducible exact signalbenchref21_word.mono _ _)
   | (with_reducible exact LeO.refl _)
   | (with_reducible exact LeO.none _)
   | (with_reducible refine LeO.ite ?_ ?_)
   | (with_reducible refine LeO.bind ?_ (fun _ => ?_))
   | exact ih0 _ _ _ _ _ _ _ _ _ _ _
   | exact signalbenchref21_pack.mono _ _
   | exact signalbenchref21_unpack.mono _ _
   | exact signalbenchref21_word.mono _ _
   | exact LeO.none _
   | refine LeO.ite ?_ ?_
   | refine LeO.bind ?_ (fun _ => ?_)
def signalbenchref21_search.T1 : Bool × List (List Nat × List Nat) := (true, [([], []), ([0], [0]), ([], []), ([1, 2], [1, 2]), ([], []), ([4], [4]), ([3, 5], [3, 5]), ([0, 1, 2, 3, 4, 5, 6], []), ([7, 6, 5, 0, 1, 2, 3, 4, 5, 6], [6, 7])])
def signalbenchref21_search.B1 : List Nat := [0, 1, 0, 7, 0, 16, 63, 127, 255]
theorem signalbenchref21_search.tab1 : rtab .any (opsOf Try.f37 1) = signalbenchref21_search.T1 := by kernel_rfl
theorem signalbenchref21_search.bits1 : waitsOk signalbenchref21_search.T1.2 signalbenchref21_search.B1 = true := by kernel_rfl
set_option maxHeartbeats 8000000 in
set_option maxRecDepth 100000 in
theorem signalbenchref21_search.calls (k : Nat) (a0_0 : ByteArray) (a0_1 : Int) (a0_2 : Bool) (a1_0 : Int) (a1_1 : Int) (a1_2 : Int) (a1_3 : Int) (a1_4 : Int) (a1_5 : Int) (a1_6 : Int) (a1_7 : ByteArray) (a2 : ByteArray) (a3 : Int) (r1 : Int) (r2 : Int) (r3 : Int) (r4 : Int) (r5 : Int) (r6 : Int) (r7 : Int) (r8 : ByteArray) (w : World) (h : signalbenchref21_search.f k a0_0 a0_1 a0_2 a1_0 a1_1 a1_2 a1_3 a1_4 a1_5 a1_6 a1_7 a2 a3 = some (r1, r2, r3, r4, r5, r6, r7, r8)) :
  Calls Try.prog 37 #[.agg #[.string a0_0, .int .i64 a0_1, .bool a0_2], .agg #[.int .i64 a1_0, .int .i64 a1_1, .int .i64 a1_2, .int .i64 a1_3, .int .i64 a1_4, .int .i64 a1_5, .int .i64 a1_6, .string a1_7], .string a2, .int .i64 a3] w fun e w' => e = .returned (.agg #[.int .i64 r1, .int .i64 r2, .int .i64 r3, .int .i64 r4, .int .i64 r5, .int .i64 r6, .int .i64 r7, .string r8]) ∧ Below w.heap.size w w' := by
 have hu23 := Try.underlying23; have hu27 := Try.underlying27; have HB := sA (Below.refl w.heap.size w); have H : (if a1_7.size + a2.size ≤ 9223372036854775807 then ((signalbenchref21_pack.f k a3).bind fun t317 => (if (a1_7 ++ a2).size + t317.size ≤ 9223372036854775807 then (if (((a1_7 ++ a2) ++ t317).size : Int) > (wrap64 (7 * (a0_0.size : Int))) then (if 7 ≤ (((a1_7 ++ a2) ++ t317).size : Int) then (signalbenchref21_search.j0 k a0_0 a0_1 a0_2 a1_0 a1_1 a1_2 a1_3 a1_4 a1_5 a1_6 (((a1_7 ++ a2) ++ t317).extract 7 ((a1_7 ++ a2) ++ t317).size)) else (none)) else (signalbenchref21_search.j0 k a0_0 a0_1 a0_2 a1_0 a1_1 a1_2 a1_3 a1_4 a1_5 a1_6 ((a1_7 ++ a2) ++ t317))) else (none))) else (none)) = some (r1, r2, r3, r4, r5, r6, r7, r8) := h; clear h
 by_cases c5 : a1_7.size + a2.size ≤ 9223372036854775807
 ·rw [if_pos c5] at H
  have c5b0 := eq_true c5; have c5b1 : decide (a1_7.size + a2.size ≤ 9223372036854775807) = true := decide_eq_true c5
  try have c5b2 : (9223372036854775807 < a1_7.size + a2.size) = False := eq_false (Nat.not_lt.2 c5)
  replace H := Option.bind_eq_some_iff.mp H; obtain ⟨t317, A60, H⟩ := H; replace H : (if (a1_7 ++ a2).size + t317.size ≤ 9223372036854775807 then (if (((a1_7 ++ a2) ++ t317).size : Int) > (wrap64 (7 * (a0_0.size : Int))) then (if 7 ≤ (((a1_7 ++ a2) ++ t317).size : Int) then (signalbenchref21_search.j0 k a0_0 a0_1 a0_2 a1_0 a1_1 a1_2 a1_3 a1_4 a1_5 a1_6 (((a1_7 ++ a2) ++ t317).extract 7 ((a1_7 ++ a2) ++ t317).size)) else (none)) else (signalbenchref21_search.j0 k a0_0 a0_1 a0_2 a1_0 a1_1 a1_2 a1_3 a1_4 a1_5 a1_6 ((a1_7 ++ a2) ++ t317))) else (none)) = some (r1, r2, r3, r4, r5, r6, r7, r8) := H; have A6 := sA A60; clear A60
  by_cases c7 : (a1_7 ++ a2).size + t317.size ≤ 9223372036854775807
  ·rw [if_pos c7] at H
   have c7b0 := eq_true c7; have c7b1 : decide ((a1_7 ++ a2).size + t317.size ≤ 9223372036854775807) = true := decide_eq_true c7
   try have c7b2 : (9223372036854775807 < (a1_7 ++ a2).size + t317.size) = False := eq_false (Nat.not_lt.2 c7)
   try have c7b3 : (9223372036854775807 < a1_7.size + a2.size + t317.size) = False := by simpa [ByteArray.size_append] using c7
   have HC8 := sA H; clear H
   go_enter Try.func37, Try.ntmps37
   try go_wp2_with (first | ((with_reducible refine gate_dst (N := 4) rfl ?_); refine boxK 4 #[.string a0_0, .int .i64 a0_1, .bool a0_2] 23 ?_; intro gb314 hg w9 hbox hb; have hIS_ := isSome_set; have BK314 := sA hbox; have GW314 := bsz HB hg; have GE314 := bsz HB hg; replace HB := bst HB hb; clear hb hbox hg) | ((with_reducible refine gate_dst (N := 5) rfl ?_); refine boxK 5 #[.int .i64 a1_0, .int .i64 a1_1, .int .i64 a1_2, .int .i64 a1_3, .int .i64 a1_4, .int .i64 a1_5, .int .i64 a1_6, .string a1_7] 27 ?_; intro gb315 hg w10 hbox hb; have hIS_ := isSome_set; have BK315 := sA hbox; have GW315 := bsz HB hg; have GE315 := bsz HB hg; have NB314_315 := bnl BK314 hg; have NB315_314 := bng BK314 hg; replace BK314 := sA (blkb BK314.out hb); replace HB := bst HB hb; clear hb hbox hg) | ((with_reducible refine gate_dst (N := 8) rfl ?_); refine boxK 8 #[.int .i64 0, .int .i64 0, .int .i64 0, .int .i64 0, .int .i64 0, .int .i64 0, .int .i64 0, .string (⟨#[]⟩ : ByteArray)] 27 ?_; intro gb316 hg w11 hbox hb; have hIS_ := isSome_set; have BK316 := sA hbox; have GW316 := bsz HB hg; have GE316 := bsz HB hg; have NB314_316 := bnl BK314 hg; have NB316_314 := bng BK314 hg; have NB315_316 := bnl BK315 hg; have NB316_315 := bng BK315 hg; replace BK314 := sA (blkb BK314.out hb); replace BK315 := sA (blkb BK315.out hb); replace HB := bst HB hb; clear hb hbox hg))
   replace BK314 := sA (blk_drew BK314.out); replace BK315 := sA (blk_drew BK315.out); replace BK316 := sA (blk_drew BK316.out); replace HB := sA (below_drew1 HB.out); refine start_ (n := 9) (S := fun w' => w'.cell? ⟨gb315, 0, none⟩ = some (.int .i64 a1_0) ∧ w'.cell? ⟨gb315, 1, none⟩ = some (.int .i64 a1_1) ∧ w'.cell? ⟨gb315, 2, none⟩ = some (.int .i64 a1_2) ∧ w'.cell? ⟨gb315, 3, none⟩ = some (.int .i64 a1_3) ∧ w'.cell? ⟨gb315, 4, none⟩ = some (.int .i64 a1_4) ∧ w'.cell? ⟨gb315, 5, none⟩ = some (.int .i64 a1_5) ∧ w'.cell? ⟨gb315, 6, none⟩ = some (.int .i64 a1_6) ∧ w'.cell? ⟨gb315, 7, none⟩ = some (.string a1_7)) (ds := [8]) #[N_,N_,N_,N_,N_,N_,N_,N_,N_] (by kernel_rfl) rfl rfl ⟨ck BK315 0, ck BK315 1, ck BK315 2, ck BK315 3, ck BK315 4, ck BK315 5, ck BK315 6, ck BK315 7⟩ (fun hHeld => ?_); refine with_tabW signalbenchref21_search.tab1 signalbenchref21_search.bits1 (fun HT_ HW_ => ?_)
   generalize w11.drew = w12 at BK314 BK315 BK316 HB hHeld ⊢
   refine pstep 0 (some 9) #[Y_,N_,N_,N_,N_,N_,N_,N_,N_] HT_.out ?_; refine pstep 2 (some 11) #[Y_,N_,Y_,N_,N_,N_,N_,N_,N_] HT_.out ?_; refine pstep 4 (some 13) #[Y_,N_,Y_,N_,Y_,N_,N_,N_,N_] HT_.out ?_; refine take_ (i := 1) (N := some 10) (v := ?_) (a' := ?_) #[Y_,Y_,Y_,N_,Y_,N_,N_,N_,N_] rfl rfl (take_ofW HT_.out HW_.out (by kernel_rfl)) (fun _ _ _ h => h) (Or.inl ⟨by rfl, ?_⟩) hHeld ?_ ?_; rotate_left
   ·rintro w' ⟨s0, s1, s2, s3, s4, s5, s6, s7⟩
    go_simp
    with_reducible rfl
   rotate_left
   ·simp only [Act.put, nrm]
    rfl
   refine pstep 3 (some 12) #[Y_,Y_,Y_,Y_,Y_,N_,N_,N_,N_] HT_.out ?_; refine one_ (i := 5) (N := some 14) #[Y_,Y_,Y_,Y_,Y_,Y_,N_,N_,N_] rfl rfl (one_of HT_.out (by kernel_rfl)) (by decide) (fun K hK => ?_); refine goesM Try.func46 #[.int .i64 a3] ?_; (with_reducible refine (signalbenchref21_pack.calls k a3 t317 _ A6.out).mono ?_); rintro e w13 ⟨rfl, hb⟩; refine ⟨_, rfl, ?_⟩; replace BK314 := bkB BK314 hb; replace BK315 := bkB BK315 hb; replace BK316 := bkB BK316 hb; replace HB := bst HB hb; (try clear hb); refine hK.out _ _ ⟨ck BK315 0, ck BK315 1, ck BK315 2, ck BK315 3, ck BK315 4, ck BK315 5, ck BK315 6, ck BK315 7⟩ (fun hHeld => ?_); clear hK K; refine norm_ (a' := ?_) ?_ ?_; rotate_left
   ·show Act.put _ (some 14) _ = _
    simp only [Act.put, nrm]
    rfl
   refine pstep 6 (some 15) #[Y_,Y_,Y_,Y_,Y_,Y_,Y_,N_,N_] HT_.out ?_; refine pstep 7 (some 16) #[Y_,Y_,Y_,Y_,Y_,Y_,Y_,Y_,N_] HT_.out ?_; refine last_ (i := 8) (N := none) #[Y_,Y_,Y_,Y_,Y_,Y_,Y_,Y_,Y_] rfl rfl (one_of HT_.out (by kernel_rfl)) (by decide) (fun K hK => ?_); have hs14 : w13.cell? ⟨gb315, 7, none⟩ = some (.string a1_7) := ck BK315 7; have hfs14 := blk_frozen BK315.out 7; have := NB314_315.out; have := NB316_315.out; have := NB315_314.out; have := NB315_316.out; refine skip_ (w1 := ?_) (by rfl) rfl ?_ ?_; rotate_left
   ·go_simp
    rfl
   refine hK.out _ _ ?_; clear hK K; refine done_ (done_of HT_.out (by kernel_rfl)) ?_; have hnb15 := NB315_314.out; have hnc15 := NB314_315.out; have hnb16 := NB315_316.out; have hnc16 := NB316_315.out; obtain ⟨hcz17_0,hcz17_1,hcz17_2,hcz17_3,hcz17_4,hcz17_5,hcz17_6,hcz17_7,hfz17_0,hfz17_1,hfz17_2,hfz17_3,hfz17_4,hfz17_5,hfz17_6,hfz17_7⟩ := cQ8 BK315; have hnb18 := NB314_316.out; have hnc18 := NB316_314.out; obtain ⟨hcz19_0,hcz19_1,hcz19_2,hfz19_0,hfz19_1,hfz19_2⟩ := cQ3 BK314
   go_upto_if 24 with (fail)
   go_cut [] (fun wc => ∃ (kq : Nat) (x316007_7 : ByteArray), Aside0 (signalbenchref21_search.j0 kq a0_0 a0_1 a0_2 a1_0 a1_1 a1_2 a1_3 a1_4 a1_5 a1_6 x316007_7 = some (r1, r2, r3, r4, r5, r6, r7, r8)) ∧ Aside0 (kq ≤ k) ∧ Aside0 (wc.heap[gb314]? = some (.cells #[.string a0_0, .int .i64 a0_1, .bool a0_2] 23 (0, 0))) ∧ Aside0 (wc.heap[gb315]? = some (.cells #[.int .i64 a1_0, .int .i64 a1_1, .int .i64 a1_2, .int .i64 a1_3, .int .i64 a1_4, .int .i64 a1_5, .int .i64 a1_6, .string x316007_7] 27 (0, 0))) ∧ Aside0 (wc.heap[gb316]? = some (.cells #[.int .i64 0, .int .i64 0, .int .i64 0, .int .i64 0, .int .i64 0, .int .i64 0, .int .i64 0, .string (⟨#[]⟩ : ByteArray)] 27 (0, 0))) ∧ Aside0 (Below w.heap.size w wc))
   case first =>
    have H := HC8.out; clear HC8
    by_cases c20 : (((a1_7 ++ a2) ++ t317).size : Int) > (wrap64 (7 * (a0_0.size : Int)))
    ·rw [if_pos c20] at H
     have c20b0 : decide ((wrap64 (7 * (a0_0.size : Int))) < (((a1_7 ++ a2) ++ t317).size : Int)) = true := decide_eq_true c20; (try (have c20z0 := c20b0; simp only [ByteArray.size_append, Int.natCast_add] at c20z0)); clear c20
     (first | rw [c20b0] | rw [c20z0] | (simp only [i64_w, i32_w]; rw [c20b0]) | skip)
     by_cases c21 : 7 ≤ (((a1_7 ++ a2) ++ t317).size : Int)
     ·rw [if_pos c21] at H
      have c21b0 := eq_true c21; have c21b1 : decide (7 ≤ (((a1_7 ++ a2) ++ t317).size : Int)) = true := decide_eq_true c21; have H' := sA H; clear H; have hnb22 := NB315_314.out; have hnc22 := NB314_315.out; have hnb23 := NB315_316.out; have hnc23 := NB316_315.out; obtain ⟨_,_,_,_,_,_,_,_,_,_,_,_,_,_,_,_⟩ := cQ8 BK315
      go_wp2
      go_meet
      case rel => exact ⟨_, (((a1_7 ++ a2) ++ t317).extract 7 ((a1_7 ++ a2) ++ t317).size), H', ⟨by first | omega | exact Nat.le_refl _⟩, ⟨by (repeat (with_reducible first | refine blk_far ?_ NB314_315.out _ | refine blk_drewN ?_ _ | refine blk_drew ?_ | refine blk_alloc ?_ _)); exact BK314.out⟩, ⟨by (with_reducible repeat (first | refine blk_drewN ?_ _ | refine blk_drew ?_ | refine blk_alloc ?_ _)); refine blk_put (cs := #[.int .i64 a1_0, .int .i64 a1_1, .int .i64 a1_2, .int .i64 a1_3, .int .i64 a1_4, .int .i64 a1_5, .int .i64 a1_6, .string ((a1_7 ++ a2) ++ t317)]) ?_ 7 _ (by first | rfl | simp); (with_reducible repeat (first | refine blk_drewN ?_ _ | refine blk_drew ?_ | refine blk_alloc ?_ _)); refine blk_put (cs := #[.int .i64 a1_0, .int .i64 a1_1, .int .i64 a1_2, .int .i64 a1_3, .int .i64 a1_4, .int .i64 a1_5, .int .i64 a1_6, .string a1_7]) ?_ 7 _ (by first | rfl | simp); (with_reducible repeat (first | refine blk_drewN ?_ _ | refine blk_drew ?_ | refine blk_alloc ?_ _)); exact BK315.out⟩, ⟨by (repeat (with_reducible first | refine blk_far ?_ NB316_315.out _ | refine blk_drewN ?_ _ | refine blk_drew ?_ | refine blk_alloc ?_ _)); exact BK316.out⟩, ⟨hbw HB.out⟩⟩
     ·rw [if_neg c21] at H
      exact absurd H (by simp)
    ·rw [if_neg c20] at H
     have c20b0 : decide ((wrap64 (7 * (a0_0.size : Int))) < (((a1_7 ++ a2) ++ t317).size : Int)) = false := decide_eq_false c20; (try (have c20z0 := c20b0; simp only [ByteArray.size_append, Int.natCast_add] at c20z0)); clear c20
     (first | rw [c20b0] | rw [c20z0] | (simp only [i64_w, i32_w]; rw [c20b0]) | skip)
     have H' := sA H; clear H
     go_wp2
     go_meet
     case rel => exact ⟨_, ((a1_7 ++ a2) ++ t317), H', ⟨by first | omega | exact Nat.le_refl _⟩, ⟨by (with_reducible repeat (first | refine blk_drewN ?_ _ | refine blk_drew ?_ | refine blk_alloc ?_ _)); refine blk_far ?_ NB314_315.out _; (with_reducible repeat (first | refine blk_drewN ?_ _ | refine blk_drew ?_ | refine blk_alloc ?_ _)); exact BK314.out⟩, ⟨by (with_reducible repeat (first | refine blk_drewN ?_ _ | refine blk_drew ?_ | refine blk_alloc ?_ _)); refine blk_put (cs := #[.int .i64 a1_0, .int .i64 a1_1, .int .i64 a1_2, .int .i64 a1_3, .int .i64 a1_4, .int .i64 a1_5, .int .i64 a1_6, .string a1_7]) ?_ 7 _ rfl; (with_reducible repeat (first | refine blk_drewN ?_ _ | refine blk_drew ?_ | refine blk_alloc ?_ _)); exact BK315.out⟩, ⟨by (with_reducible repeat (first | refine blk_drewN ?_ _ | refine blk_drew ?_ | refine blk_alloc ?_ _)); refine blk_far ?_ NB316_315.out _; (with_reducible repeat (first | refine blk_drewN ?_ _ | refine blk_drew ?_ | refine blk_alloc ?_ _)); exact BK316.out⟩, ⟨hbw HB.out⟩⟩
   case rest =>
    clear HC8
    try clear c5
    try clear c5b0
    try clear c5b1
    try clear c5b2
    try clear c7
    try clear c7b0
    try clear c7b1
    try clear c7b2
    try clear hcz17_0
    try clear hcz17_1
    try clear hcz17_2
    try clear hcz17_3
    try clear hcz17_4
    try clear hcz17_5
    try clear hcz17_6
    try clear hcz17_7
    try clear hcz19_0
    try clear hcz19_1
    try clear hcz19_2
    try clear hfz17_0
    try clear hfz17_1
    try clear hfz17_2
    try clear hfz17_3
    try clear hfz17_4
    try clear hfz17_5
    try clear hfz17_6
    try clear hfz17_7
    try clear hfz19_0
    try clear hfz19_1
    try clear hfz19_2
    obtain ⟨kq, x316007_7, HA, HJ7, BK314, BK315, BK316, HB⟩ := hcut
    cases kq with
    | zero => exact absurd HA.out (by simp [signalbenchref21_search.j0])
    | succ kj7 =>
     have H := HA.out; clear HA
     simp only [signalbenchref21_search.j0] at H
     replace H := Option.bind_eq_some_iff.mp H; obtain ⟨t318, A250, H⟩ := H; replace H : (if t318.toList = a0_0.toList then (if 1 ≤ 7 then (if 7 ≤ (x316007_7.size : Int) then ((signalbenchref21_unpack.f kj7 (x316007_7.extract 1 7)).bind fun t319 => (some (1, a1_1, t319, a1_3, a1_4, a1_5, a1_6, (⟨#[]⟩ : ByteArray)))) else (none)) else (none)) else (some (a1_0, a1_1, a1_2, a1_3, a1_4, a1_5, a1_6, x316007_7))) = some (r1, r2, r3, r4, r5, r6, r7, r8) := H; have A25 := sA A250; clear A250
     by_cases c26 : t318.toList = a0_0.toList
     ·rw [if_pos c26] at H
      have c26b0 : (t318.toList == a0_0.toList) = true := beq_iff_eq.mpr c26; have c26b1 : (t318.toList != a0_0.toList) = false := bne_eq_false_iff_eq.mpr c26; clear c26
      by_cases c27 : 1 ≤ 7
      ·rw [if_pos c27] at H
       have c27b0 := eq_true c27; have c27b1 : decide (1 ≤ 7) = true := decide_eq_true c27; clear c27
       by_cases c28 : 7 ≤ (x316007_7.size : Int)
       ·rw [if_pos c28] at H
        have c28b0 := eq_true c28; have c28b1 : decide (7 ≤ (x316007_7.size : Int)) = true := decide_eq_true c28; clear c28; replace H := Option.bind_eq_some_iff.mp H; obtain ⟨t319, A290, H⟩ := H; replace H : (some (1, a1_1, t319, a1_3, a1_4, a1_5, a1_6, (⟨#[]⟩ : ByteArray))) = some (r1, r2, r3, r4, r5, r6, r7, r8) := H; have A29 := sA A290; clear A290
        simp only [Option.some.injEq, Prod.mk.injEq] at H
        obtain ⟨rfl, rfl, rfl, rfl, rfl, rfl, rfl, rfl⟩ := H
        try go_wp2
        replace BK314 := sA (blk_drew BK314.out); replace BK315 := sA (blk_drew BK315.out); replace BK316 := sA (blk_drew BK316.out); replace HB := sA (below_drew1 HB.out); refine start_ (n := 6) (S := fun w' => w'.cell? ⟨gb315, 0, none⟩ = some (.int .i64 a1_0) ∧ w'.cell? ⟨gb315, 1, none⟩ = some (.int .i64 a1_1) ∧ w'.cell? ⟨gb315, 2, none⟩ = some (.int .i64 a1_2) ∧ w'.cell? ⟨gb315, 3, none⟩ = some (.int .i64 a1_3) ∧ w'.cell? ⟨gb315, 4, none⟩ = some (.int .i64 a1_4) ∧ w'.cell? ⟨gb315, 5, none⟩ = some (.int .i64 a1_5) ∧ w'.cell? ⟨gb315, 6, none⟩ = some (.int .i64 a1_6) ∧ w'.cell? ⟨gb315, 7, none⟩ = some (.string x316007_7) ∧ w'.cell? ⟨gb314, 0, none⟩ = some (.string a0_0) ∧ w'.cell? ⟨gb314, 1, none⟩ = some (.int .i64 a0_1) ∧ w'.cell? ⟨gb314, 2, none⟩ = some (.bool a0_2)) (ds := []) #[N_,N_,N_,N_,N_,N_] (by kernel_rfl) rfl rfl ⟨ck BK315 0, ck BK315 1, ck BK315 2, ck BK315 3, ck BK315 4, ck BK315 5, ck BK315 6, ck BK315 7, ck BK314 0, ck BK314 1, ck BK314 2⟩ (fun hHeld => ?_)
        generalize wc.drew = w30 at BK314 BK315 BK316 HB hHeld ⊢
        refine pure_ (i := 0) (N := some 29) (v := ?_) (a' := ?_) #[Y_,N_,N_,N_,N_,N_] rfl rfl (by kernel_rfl) (fun _ _ _ h => h) (Or.inl ⟨by rfl, ?_⟩) ?_ ?_; rotate_left
        ·intro w'
         go_simp
         with_reducible rfl
        rotate_left
        ·simp only [Act.put, nrm]
         rfl
        refine pure_ (i := 3) (N := some 32) (v := ?_) (a' := ?_) #[Y_,N_,N_,Y_,N_,N_] rfl rfl (by kernel_rfl) (fun _ _ _ h => h) (Or.inl ⟨by rfl, ?_⟩) ?_ ?_; rotate_left
        ·intro w'
         go_simp
         with_reducible rfl
        rotate_left
        ·simp only [Act.put, nrm]
         rfl
        refine take_ (i := 1) (N := some 30) (v := ?_) (a' := ?_) #[Y_,Y_,N_,Y_,N_,N_] rfl rfl (by kernel_rfl) (fun _ _ _ h => h) (Or.inl ⟨by rfl, ?_⟩) hHeld ?_ ?_; rotate_left
        ·rintro w' ⟨s0, s1, s2, s3, s4, s5, s6, s7, s8, s9, s10⟩
         go_simp
         with_reducible rfl
        rotate_left
        ·simp only [Act.put, nrm]
         rfl
        refine take_ (i := 4) (N := some 33) (v := ?_) (a' := ?_) #[Y_,Y_,N_,Y_,Y_,N_] rfl rfl (by kernel_rfl) (fun _ _ _ h => h) (Or.inl ⟨by rfl, ?_⟩) hHeld ?_ ?_; rotate_left
        ·rintro w' ⟨s0, s1, s2, s3, s4, s5, s6, s7, s8, s9, s10⟩
         go_simp
         with_reducible rfl
        rotate_left
        ·simp only [Act.put, nrm]
         rfl
        refine one_ (i := 2) (N := some 31) #[Y_,Y_,Y_,Y_,Y_,N_] rfl rfl (by kernel_rfl) (by decide) (fun K hK => ?_); refine goesM Try.func47 #[.string x316007_7] ?_; (with_reducible refine (signalbenchref21_word.calls kj7 x316007_7 t318 _ A25.out).mono ?_); rintro e w31 ⟨rfl, hb⟩; refine ⟨_, rfl, ?_⟩; replace BK314 := bkB BK314 hb; replace BK315 := bkB BK315 hb; replace BK316 := bkB BK316 hb; replace HB := bst HB hb; (try clear hb); refine hK.out _ _ ⟨ck BK315 0, ck BK315 1, ck BK315 2, ck BK315 3, ck BK315 4, ck BK315 5, ck BK315 6, ck BK315 7, ck BK314 0, ck BK314 1, ck BK314 2⟩ (fun hHeld => ?_); clear hK K; refine norm_ (a' := ?_) ?_ ?_; rotate_left
        ·show Act.put _ (some 31) _ = _
         simp only [Act.put, nrm]
         rfl
        refine pure_ (i := 5) (N := some 34) (v := ?_) (a' := ?_) #[Y_,Y_,Y_,Y_,Y_,Y_] rfl rfl (by kernel_rfl) (fun _ _ _ h => h) (Or.inl ⟨by rfl, ?_⟩) ?_ ?_; rotate_left
        ·intro w'
         go_simp
         with_reducible rfl
        rotate_left
        ·simp only [Act.put, nrm]
         rfl
        refine done_ (by kernel_rfl) ?_; have hnb32 := NB315_314.out; have hnc32 := NB314_315.out; have hnb33 := NB315_316.out; have hnc33 := NB316_315.out; obtain ⟨_,_,_,_,_,_,_,_,_,_,_,_,_,_,_,_⟩ := cQ8 BK315
        try go_wp2_with (first | ((with_reducible refine gate_callee (f := 48) rfl ?_); refine goesK (some 38) Try.func48 #[.string (x316007_7.extract 1 7)] ?_; (with_reducible refine (signalbenchref21_unpack.calls kj7 (x316007_7.extract 1 7) t319 _ A29.out).mono ?_); rintro e w' ⟨rfl, ⟨nd, rfl⟩⟩; refine ⟨_, rfl, ?_⟩; (try (rw [drewN_self w31]; generalize hq_ : World.drewN w31 _ = w31; have n0_ : Aside0 (w31.heap[gb314]? = some (.cells #[.string a0_0, .int .i64 a0_1, .bool a0_2] 23 (0, 0))) := ⟨by rw [← hq_]; exact (bkw BK314.out)⟩; have n1_ : Aside0 (w31.heap[gb315]? = some (.cells #[.int .i64 a1_0, .int .i64 a1_1, .int .i64 a1_2, .int .i64 a1_3, .int .i64 a1_4, .int .i64 a1_5, .int .i64 a1_6, .string x316007_7] 27 (0, 0))) := ⟨by rw [← hq_]; exact (bkw BK315.out)⟩; have n2_ : Aside0 (w31.heap[gb316]? = some (.cells #[.int .i64 0, .int .i64 0, .int .i64 0, .int .i64 0, .int .i64 0, .int .i64 0, .int .i64 0, .string (⟨#[]⟩ : ByteArray)] 27 (0, 0))) := ⟨by rw [← hq_]; exact (bkw BK316.out)⟩; have n3_ : Aside0 (Below w.heap.size w w31) := ⟨by rw [← hq_]; exact (hbw HB.out)⟩; clear BK314 BK315 BK316 HB hq_; have BK314 := n0_; have BK315 := n1_; have BK316 := n2_; have HB := n3_; clear n0_ n1_ n2_ n3_; obtain ⟨_,_,_,_,_,_⟩ := cQ3 BK314; obtain ⟨_,_,_,_,_,_,_,_,_,_,_,_,_,_,_,_⟩ := cQ8 BK315; obtain ⟨_,_,_,_,_,_,_,_,_,_,_,_,_,_,_,_⟩ := cQ8 BK316)); have hnb54 := NB316_314.out; have hnc54 := NB314_316.out; obtain ⟨_,_,_,_,_,_,_,_,_,_,_,_,_,_,_,_⟩ := cQ8 BK316))
        refine bodyPost_ret (results_cell_row rfl _ _ gb316 27 #[.int .i64 1, .int .i64 a1_1, .int .i64 t319, .int .i64 a1_3, .int .i64 a1_4, .int .i64 a1_5, .int .i64 a1_6, .string (⟨#[]⟩ : ByteArray)] (0, 0) _ rfl (by (with_reducible repeat (first | refine blk_drewN ?_ _ | refine blk_drew ?_ | refine blk_alloc ?_ _)); refine blk_put8 (.int .i64 0) (.int .i64 0) (.int .i64 0) (.int .i64 0) (.int .i64 0) (.int .i64 0) (.int .i64 0) (.string (⟨#[]⟩ : ByteArray)) ?_; (repeat (with_reducible first | refine blk_far ?_ NB316_315.out _ | refine blk_drewN ?_ _ | refine blk_drew ?_ | refine blk_alloc ?_ _)); exact BK316.out) Try.underlying27 rfl (by kernel_rfl)) rfl ?_
        exact ⟨eW_, hbw HB.out⟩
       ·rw [if_neg c28] at H
        exact absurd H (by simp)
      ·rw [if_neg c27] at H
       exact absurd H (by simp)
     ·rw [if_neg c26] at H
      have c26b0 : (t318.toList == a0_0.toList) = false := beq_eq_false_iff_ne.mpr c26; have c26b1 : (t318.toList != a0_0.toList) = true := bne_iff_ne.mpr c26
      simp only [Option.some.injEq, Prod.mk.injEq] at H
      obtain ⟨rfl, rfl, rfl, rfl, rfl, rfl, rfl, rfl⟩ := H
      try go_wp2
      replace BK314 := sA (blk_drew BK314.out); replace BK315 := sA (blk_drew BK315.out); replace BK316 := sA (blk_drew BK316.out); replace HB := sA (below_drew1 HB.out); refine start_ (n := 6) (S := fun w' => w'.cell? ⟨gb315, 0, none⟩ = some (.int .i64 a1_0) ∧ w'.cell? ⟨gb315, 1, none⟩ = some (.int .i64 a1_1) ∧ w'.cell? ⟨gb315, 2, none⟩ = some (.int .i64 a1_2) ∧ w'.cell? ⟨gb315, 3, none⟩ = some (.int .i64 a1_3) ∧ w'.cell? ⟨gb315, 4, none⟩ = some (.int .i64 a1_4) ∧ w'.cell? ⟨gb315, 5, none⟩ = some (.int .i64 a1_5) ∧ w'.cell? ⟨gb315, 6, none⟩ = some (.int .i64 a1_6) ∧ w'.cell? ⟨gb315, 7, none⟩ = some (.string x316007_7) ∧ w'.cell? ⟨gb314, 0, none⟩ = some (.string a0_0) ∧ w'.cell? ⟨gb314, 1, none⟩ = some (.int .i64 a0_1) ∧ w'.cell? ⟨gb314, 2, none⟩ = some (.bool a0_2)) (ds := []) #[N_,N_,N_,N_,N_,N_] (by kernel_rfl) rfl rfl ⟨ck BK315 0, ck BK315 1, ck BK315 2, ck BK315 3, ck BK315 4, ck BK315 5, ck BK315 6, ck BK315 7, ck BK314 0, ck BK314 1, ck BK314 2⟩ (fun hHeld => ?_)
      generalize wc.drew = w56 at BK314 BK315 BK316 HB hHeld ⊢
      refine pure_ (i := 0) (N := some 29) (v := ?_) (a' := ?_) #[Y_,N_,N_,N_,N_,N_] rfl rfl (by kernel_rfl) (fun _ _ _ h => h) (Or.inl ⟨by rfl, ?_⟩) ?_ ?_; rotate_left
      ·intro w'
       go_simp
       with_reducible rfl
      rotate_left
      ·simp only [Act.put, nrm]
       rfl
      refine pure_ (i := 3) (N := some 32) (v := ?_) (a' := ?_) #[Y_,N_,N_,Y_,N_,N_] rfl rfl (by kernel_rfl) (fun _ _ _ h => h) (Or.inl ⟨by rfl, ?_⟩) ?_ ?_; rotate_left
      ·intro w'
       go_simp
       with_reducible rfl
      rotate_left
      ·simp only [Act.put, nrm]
       rfl
      refine take_ (i := 1) (N := some 30) (v := ?_) (a' := ?_) #[Y_,Y_,N_,Y_,N_,N_] rfl rfl (by kernel_rfl) (fun _ _ _ h => h) (Or.inl ⟨by rfl, ?_⟩) hHeld ?_ ?_; rotate_left
      ·rintro w' ⟨s0, s1, s2, s3, s4, s5, s6, s7, s8, s9, s10⟩
       go_simp
       with_reducible rfl
      rotate_left
      ·simp only [Act.put, nrm]
       rfl
      refine take_ (i := 4) (N := some 33) (v := ?_) (a' := ?_) #[Y_,Y_,N_,Y_,Y_,N_] rfl rfl (by kernel_rfl) (fun _ _ _ h => h) (Or.inl ⟨by rfl, ?_⟩) hHeld ?_ ?_; rotate_left
      ·rintro w' ⟨s0, s1, s2, s3, s4, s5, s6, s7, s8, s9, s10⟩
       go_simp
       with_reducible rfl
      rotate_left
      ·simp only [Act.put, nrm]
       rfl
      refine one_ (i := 2) (N := some 31) #[Y_,Y_,Y_,Y_,Y_,N_] rfl rfl (by kernel_rfl) (by decide) (fun K hK => ?_); refine goesM Try.func47 #[.string x316007_7] ?_; (with_reducible refine (signalbenchref21_word.calls kj7 x316007_7 t318 _ A25.out).mono ?_); rintro e w57 ⟨rfl, hb⟩; refine ⟨_, rfl, ?_⟩; replace BK314 := bkB BK314 hb; replace BK315 := bkB BK315 hb; replace BK316 := bkB BK316 hb; replace HB := bst HB hb; (try clear hb); refine hK.out _ _ ⟨ck BK315 0, ck BK315 1, ck BK315 2, ck BK315 3, ck BK315 4, ck BK315 5, ck BK315 6, ck BK315 7, ck BK314 0, ck BK314 1, ck BK314 2⟩ (fun hHeld => ?_); clear hK K; refine norm_ (a' := ?_) ?_ ?_; rotate_left
      ·show Act.put _ (some 31) _ = _
       simp only [Act.put, nrm]
       rfl
      refine pure_ (i := 5) (N := some 34) (v := ?_) (a' := ?_) #[Y_,Y_,Y_,Y_,Y_,Y_] rfl rfl (by kernel_rfl) (fun _ _ _ h => h) (Or.inl ⟨by rfl, ?_⟩) ?_ ?_; rotate_left
      ·intro w'
       go_simp
       with_reducible rfl
      rotate_left
      ·simp only [Act.put, nrm]
       rfl
      refine done_ (by kernel_rfl) ?_; have hnb58 := NB315_314.out; have hnc58 := NB314_315.out; have hnb59 := NB315_316.out; have hnc59 := NB316_315.out; obtain ⟨_,_,_,_,_,_,_,_,_,_,_,_,_,_,_,_⟩ := cQ8 BK315; have hnb61 := NB316_314.out; have hnc61 := NB314_316.out; obtain ⟨_,_,_,_,_,_,_,_,_,_,_,_,_,_,_,_⟩ := cQ8 BK316
      try go_wp2
      refine bodyPost_ret (results_cell_row rfl _ _ gb316 27 #[.int .i64 a1_0, .int .i64 a1_1, .int .i64 a1_2, .int .i64 a1_3, .int .i64 a1_4, .int .i64 a1_5, .int .i64 a1_6, .string x316007_7] (0, 0) _ rfl (by (with_reducible repeat (first | refine blk_drewN ?_ _ | refine blk_drew ?_ | refine blk_alloc ?_ _)); refine blk_put8 (.int .i64 0) (.int .i64 0) (.int .i64 0) (.int .i64 0) (.int .i64 0) (.int .i64 0) (.int .i64 0) (.string (⟨#[]⟩ : ByteArray)) ?_; (with_reducible repeat (first | refine blk_drewN ?_ _ | refine blk_drew ?_ | refine blk_alloc ?_ _)); exact BK316.out) Try.underlying27 rfl (by kernel_rfl)) rfl ?_
      exact ⟨eW_, hbw HB.out⟩
  ·rw [if_neg c7] at H
   exact absurd H (by simp)
 ·rw [if_neg c5] at H
  exact absurd H (by simp)

/-! ### signalbenchref03_turn: function 52 -/
def signalbenchref03_turn.l0 : Nat → ByteArray → List Int → Int → Option (ByteArray)
 | 0, _, _, _ => none
 | k + 1, x0, x3, x4 => if x4 ≥ 0 then (if 0 ≤ x4 then (if x4 < (x0.size : Int) then (if x3.length < 140737488355328 then (signalbenchref03_turn.l0 k x0 (x3 ++ [bt x0 x4]) (wrap64 (x4 - 1))) else (none)) else (none)) else (none)) else (some (strOfNums x3))
def signalbenchref03_turn.f (k : Nat) (a0 : ByteArray) : Option (ByteArray) := signalbenchref03_turn.l0 k a0 (([] : List Int)) (wrap64 ((a0.size : Int) - 1))
theorem signalbenchref03_turn.mono_l : ∀ k, (∀ y0 y1 y2, LeO (signalbenchref03_turn.l0 k y0 y1 y2) (signalbenchref03_turn.l0 (k + 1) y0 y1 y2))
 | 0 => fun _ _ _ r h => by simp [signalbenchref03_turn.l0] at h
 | k + 1 => by
  have ih0 := signalbenchref03_turn.mono_l k
  ·intro y0 y1 y2
   unfold signalbenchref03_turn.l0
   repeat' first
   | (with_reducible exact ih0 _ _ _)
   | (with_reducible exact LeO.refl _)
   | (with_reducible exact LeO.none _)
   | (with_reducible refine LeO.ite ?_ ?_)
   | (with_reducible refine LeO.bind ?_ (fun _ => ?_))
   | exact ih0 _ _ _
   | exact LeO.none _
   | refine LeO.ite ?_ ?_
   | refine LeO.bind ?_ (fun _ => ?_)
theorem signalbenchref03_turn.mono : ∀ a0 k, LeO (signalbenchref03_turn.f k a0) (signalbenchref03_turn.f (k + 1) a0) := by
 intro a0 k; have ih0 := signalbenchref03_turn.mono_l k
 unfold signalbenchref03_turn.f
 repeat' first
   | (with_reducible exact ih0 _ _ _)
   | (with_reducible exact LeO.refl _)
   | (with_reducible exact LeO.none _)
   | (with_reducible refine LeO.ite ?_ ?_)
   | (with_reducible refine LeO.bind ?_ (fun _ => ?_))
   | exact ih0 _ _ _
   | exact LeO.none _
   | refine LeO.ite ?_ ?_
   | refine LeO.bind ?_ (fun _ => ?_)
set_option maxHeartbeats 8000000 in
set_option maxRecDepth 100000 in
theorem signalbenchref03_turn.calls (k : Nat) (a0 : ByteArray) (r : ByteArray) (w : World) (h : signalbenchref03_turn.f k a0 = some r) :
  Calls Try.prog 52 #[.string a0] w fun e w' => e = .returned (.string r) ∧ Below w.heap.size w w' := by
 have HB := sA (Below.refl w.heap.size w); have H : (signalbenchref03_turn.l0 k a0 (([] : List Int)) (wrap64 ((a0.size : Int) - 1))) = some r := h; clear h; obtain ⟨y320, hy320⟩ : ∃ y_ : List Int, y_ = (([] : List Int)) := ⟨_, rfl⟩
 replace H : (signalbenchref03_turn.l0 k a0 y320 (wrap64 ((a0.size : Int) - 1))) = some r := by first | (rw [hy320]; with_reducible exact H) | (have H2_ := (Option.bind_some _ _).symm.trans H; rw [hy320]; with_reducible exact H2_) | (have H2_ := (Option.bind_some _ _).symm.trans H; with_reducible exact H2_) | with_reducible exact H | (rw [hy320]; exact H) | exact H
 have Ny320 := sA hy320; clear hy320; have H' := sA H; clear H
 go_enter Try.func52, Try.ntmps52
 go_wp2_with (first | ((with_reducible refine gate_dst (N := 5) rfl ?_); refine Kd.R_lit (Kd.int .u8) _ 5 ?hg (N := 5) ?hd (xs := ([] : List Int)) (inner := []) (ok := fun _ => True) (okp := fun _ => True) ?hr ?hp (fun _ hk => hk) trivial (Below.refl _ _) (Nat.le_refl _) (by simp) ?_; (case hd => rfl); (case hg => rfl); (case hr => first | (go_simp; done) | (go_simp; rfl)); (case hp => exact (Reps.none _ _)); intro v321 w2 ho3 hb hg_ hnew_; clear hg_ hnew_; (first | rw [← Ny320.out] at ho3 | (simp only [Int.reduceToNat] at ho3; rw [← Ny320.out] at ho3)); have HO322 := sA (Kd.R_lower ho3 (below_size (hbw HB.out))); replace HB := bst HB hb; clear hb ho3))
 go_loopg [3, 4] k (fun kq v3 v4 w' => ∃ (x3_1 : List Int) (x4_1 : Int), v4 = .int .i64 x4_1 ∧ Aside0 (signalbenchref03_turn.l0 kq a0 x3_1 x4_1 = some r) ∧ Aside0 (kq ≤ k) ∧ Aside0 (Kd.R (Kd.int .u8) 5 w' w.heap.size (fun _ => True) v3 x3_1) ∧ Aside0 (Below w.heap.size w w'))
 case atStart => exact ⟨(y320), (wrap64 ((a0.size : Int) - 1)), (by first | rfl | (simp; done) | (simp [*]; done)), H', ⟨Nat.le_refl _⟩, ⟨by (with_reducible repeat (first | apply Kd.R_alloc | apply Kd.R_drewN | apply Kd.R_drew)); exact HO322.out⟩, ⟨hbw HB.out⟩⟩
 case round =>
  clear H'
  obtain ⟨x3_1, x4_1, rfl, HA, HK1, HO_3, HB⟩ := hrel
  cases gk with
  | zero => exact absurd HA.out (by simp [signalbenchref03_turn.l0])
  | succ k1 =>
   have H := HA.out; clear HA
   simp only [signalbenchref03_turn.l0] at H
   by_cases c4 : x4_1 ≥ 0
   ·rw [if_pos c4] at H
    have c4b0 : decide (0 ≤ x4_1) = true := decide_eq_true c4; clear c4
    by_cases c5 : 0 ≤ x4_1
    ·rw [if_pos c5] at H
     have c5b0 : decide (0 ≤ x4_1) = true := decide_eq_true c5; clear c5
     by_cases c6 : x4_1 < (a0.size : Int)
     ·rw [if_pos c6] at H
      have c6b0 : decide (x4_1 < (a0.size : Int)) = true := decide_eq_true c6; clear c6
      by_cases c8 : x3_1.length < 140737488355328
      ·rw [if_pos c8] at H
       have LMc8 := sA c8; clear c8; obtain ⟨y323, hy323⟩ : ∃ y_ : List Int, y_ = (x3_1 ++ [bt a0 x4_1]) := ⟨_, rfl⟩
       replace H : (signalbenchref03_turn.l0 k1 a0 y323 (wrap64 (x4_1 - 1))) = some r := by first | (rw [hy323]; with_reducible exact H) | (have H2_ := (Option.bind_some _ _).symm.trans H; rw [hy323]; with_reducible exact H2_) | (have H2_ := (Option.bind_some _ _).symm.trans H; with_reducible exact H2_) | with_reducible exact H | (rw [hy323]; exact H) | exact H
       have Ny323 := sA hy323; clear hy323; have H' := sA H; clear H; have p7 : 0 ≤ (x4_1 : Int) := of_decide_eq_true (by first | (with_reducible assumption) | assumption); have q7 : x4_1 < (a0.size : Int) := of_decide_eq_true (by first | (with_reducible assumption) | assumption); have hx7 := bt_at a0 x4_1; replace p7 := eq_true p7; replace q7 := eq_true q7
       go_wp2_with (first | ((with_reducible refine gate_builtin (b := .append) (xs := #[.tmp 13, .tmp 17]) rfl ?_); at_builtin; refine Kd.R_append (Kd.int .u8) (w0 := w) w.heap.size rfl (.tmp 13) (.tmp 17) 53 5 (.int .u8 0) 1 rfl Try.underlying53 info5 rfl (by decide) (by omega) u3 x3_1 (bt a0 x4_1) [.int .u8 (bt a0 x4_1)] (fun _ => True) (fun _ => False) rfl rfl ?aP (fun _ hk => hk.elim) ?aF ?aO ?aB ?aS ?aL ?_; (case aP => exact rfl); (case aB => exact (hbw HB.out)); (case aF => exact (fun _ _ => trivial)); (case aO => exact (rkw HO_3.out)); (case aS => exact (below_size (hbw HB.out))); (case aL => have := LMc8.out; omega); intro v324 w9 ho hb hg hat; rw [← Ny323.out] at ho; have n0_ := sA (hb); have n1_ := sA (ho); clear HB; clear HO_3; have HB := n0_; have HO325 := n1_; clear n0_ n1_; clear ho hb hg hat))
       go_roundg k1
       case measure => have := HK1.out; omega
       case rel => exact ⟨(y323), (wrap64 (x4_1 - 1)), (by first | rfl | (simp; done) | (simp [*]; done)), H', ⟨by have := HK1.out; omega⟩, ⟨by (with_reducible repeat (first | apply Kd.R_alloc | apply Kd.R_drewN | apply Kd.R_drew)); exact HO325.out⟩, ⟨hbw HB.out⟩⟩
      ·rw [if_neg c8] at H
       exact absurd H (by simp)
     ·rw [if_neg c6] at H
      exact absurd H (by simp)
    ·rw [if_neg c5] at H
     exact absurd H (by simp)
   ·rw [if_neg c4] at H
    have c4b0 : decide (0 ≤ x4_1) = false := decide_eq_false c4; clear c4; obtain rfl := Option.some.inj H; have hcv10 := own_string (P := Try.prog) Try.underlying53 Try.underlying5 Try.underlying9 (Kd.own_of_R HO_3.out)
    go_wp2
    go_ret
    exact ⟨eW_, hbw HB.out⟩

end Go.Proofs.Ytbggkaofkohecaa.PSyncDecodes
