-- Written by a program of this session (wip/tools/pr.py), which calls the kit's print with changes of its own.
import Derived.Test.YtpgeomgaphodkaaPStuffDecodesx0
import Derived.Test.YtpgeomgaphodkaaPStuffDecodesx2
import Derived.Test.YtpgeomgaphodkaaPStuffDecodesx3
import Derived.Test.YtpgeomgaphodkaaPStuffDecodesx5
namespace Go.Proofs.Ytpgeomgaphodkaa.PStuffDecodes
open Go.RowKit Go.Proofs.YtpgeomgaphodkaaW.PrintWords Go.Proofs.YtpgeomgaphodkaaW.PrintLast Go.Proofs.YtpgeomgaphodkaaW.PrintMore
attribute [local go_sem] max2_int min2_int max_two min_two max_three min_three max_four min_four   -- for this text's walks alone
set_option linter.unusedVariables false
set_option linter.unusedSimpArgs false

/-! ### stuff_fill: function 30: by hand (a label and its gotos) -/
def stuff_fill.l0 : Nat → Int → Bool → ByteArray → Int → Int → Bool → List Int → Bool → Int → Option (List Int × Int × Int × Bool)
  | 0, _, _, _, _, _, _, _, _, _ => none
  | k + 1, x0, x1, x2, x3, x4, x5, x6, x7, x8 =>
    if x3 = x0 then (if x5 = true then (if x7 = true then (if x6.length < 140737488355328 then ((stuff_count.f k x0 x1 0 x4 (wrap64 (1 - x4))).bind fun bt => (stuff_fill.l0 k x0 x1 x2 bt.1 bt.2 x5 (x6 ++ [(48 + wrap64 (1 - x4)) % 256]) x7 x8)) else none)
        else (if x6.length < 140737488355328 then (stuff_fill.l0 k x0 x1 x2 0 x4 x5 (x6 ++ [(48 + x4) % 256]) true x8) else none))
      else (if x6.length < 140737488355328 then ((stuff_count.f k x0 x1 0 x4 (wrap64 (1 - x4))).bind fun bt => (stuff_fill.l0 k x0 x1 x2 bt.1 bt.2 x5 (x6 ++ [(48 + wrap64 (1 - x4)) % 256]) x7 x8)) else none))
    else (if x8 < (x2.size : Int) then (if 0 ≤ x8 then (if x6.length < 140737488355328 then ((stuff_count.f k x0 x1 x3 x4 (((bt x2 x8) - 48) % 256)).bind fun b_ => (stuff_fill.l0 k x0 x1 x2 b_.1 b_.2 x5 (x6 ++ [bt x2 x8]) x7 (wrap64 (x8 + 1)))) else none) else none)
    else (some (x6, x3, x4, x7)))
def stuff_fill.f (k : Nat) (a0_0 : Int) (a0_1 : Bool) (a1 : ByteArray) (a2 : Int) (a3 : Int) (a4 : Bool) : Option (List Int × Int × Int × Bool) := stuff_fill.l0 k a0_0 a0_1 a1 a2 a3 a4 ([] : List Int) false 0
theorem stuff_fill.mono_l : ∀ k, (∀ y0 y1 y2 y3 y4 y5 y6 y7 y8, LeO (stuff_fill.l0 k y0 y1 y2 y3 y4 y5 y6 y7 y8) (stuff_fill.l0 (k + 1) y0 y1 y2 y3 y4 y5 y6 y7 y8))
  | 0 => fun _ _ _ _ _ _ _ _ _ r h => by simp [stuff_fill.l0] at h
  | k + 1 => by
    have ih0 := stuff_fill.mono_l k
    · intro y0 y1 y2 y3 y4 y5 y6 y7 y8
      unfold stuff_fill.l0
      repeat' first
      | (with_reducible exact ih0 _ _ _ _ _ _ _ _ _)
      | (with_reducible exact stuff_count.mono _ _ _ _ _ _)
      | (with_reducible exact LeO.refl _)
      | (with_reducible exact LeO.none _)
      | (with_reducible refine LeO.ite ?_ ?_)
      | (with_reducible refine LeO.bind ?_ (fun _ => ?_))
      | exact ih0 _ _ _ _ _ _ _ _ _
      | exact stuff_count.mono _ _ _ _ _ _
      | exact LeO.none _
      | refine LeO.ite ?_ ?_
      | refine LeO.bind ?_ (fun _ => ?_)
theorem stuff_fill.mono : ∀ a0 a1 a2 a3 a4 a5 k, LeO (stuff_fill.f k a0 a1 a2 a3 a4 a5) (stuff_fill.f (k + 1) a0 a1 a2 a3 a4 a5) := by
  intro a0 a1 a2 a3 a4 a5 k
  have ih0 := stuff_fill.mono_l k
  unfold stuff_fill.f
  repeat' first
      | (with_reducible exact ih0 _ _ _ _ _ _ _ _ _)
      | (with_reducible exact stuff_count.mono _ _ _ _ _ _)
      | (with_reducible exact LeO.refl _)
      | (with_reducible exact LeO.none _)
      | (with_reducible refine LeO.ite ?_ ?_)
      | (with_reducible refine LeO.bind ?_ (fun _ => ?_))
      | exact ih0 _ _ _ _ _ _ _ _ _
      | exact stuff_count.mono _ _ _ _ _ _
      | exact LeO.none _
      | refine LeO.ite ?_ ?_
      | refine LeO.bind ?_ (fun _ => ?_)
theorem info5F : (Try.prog.info? 5).map (fun i => (i.zero, i.size, i.bytes)) = some (some (.int .u8 0), 1, 1) := by kernel_rfl
set_option maxHeartbeats 8000000 in
set_option maxRecDepth 100000 in
theorem stuff_fill.calls (k : Nat) (a0_0 : Int) (a0_1 : Bool) (a1 : ByteArray) (a2 : Int) (a3 : Int) (a4 : Bool) (r1 : List Int) (r2 : Int) (r3 : Int) (r4 : Bool) (w : World) (h : stuff_fill.f k a0_0 a0_1 a1 a2 a3 a4 = some (r1, r2, r3, r4)) :
    Calls Try.prog 30 #[.agg #[.int .i64 a0_0, .bool a0_1], .string a1, .int .i64 a2, .int .i64 a3, .bool a4] w fun e w' => ∃ v0_ : Value, e = .returned (.tuple #[v0_, .int .i64 r2, .int .i64 r3, .bool r4]) ∧ Kd.R (Kd.int .u8) 5 w' w.heap.size (fun _ => True) v0_ r1 ∧ Below w.heap.size w w' := by
  have hu23 := Try.underlying23; have HB := Aside0.mk (Below.refl w.heap.size w); have H0 := Aside0.mk h; clear h
  go_enter Try.func30, Try.ntmps30
  go_wp2_with (first | ((with_reducible refine gate_dst (N := 5) rfl ?_); refine box_event ?hg (N := 5) ?hd (cs := #[.int .i64 a0_0, .bool a0_1]) (t := 23) ?hr ?_; (case hd => rfl); (case hg => rfl); (case hr => first | (go_simp; done) | (go_simp; rfl)); intro gb101 hg w3 hbox hb; have n0_ := Aside0.mk (below_step (hbw HB.out) hb); have n1_ := Aside0.mk (hbox); have n2_ := bsz HB hg; clear HB; have HB := n0_; have BK := n1_; have GE := n2_; clear n0_ n1_ n2_ hg hbox hb))
  refine wp_scope_ghost2 0 (fun kq a' w' => ∃ (gb : Nat) (n value i : Int) (done : Bool) (out : List Int) (v : Value) (u6 u7 u8 u9 u15 u16 u17 u18 u19 u20 u21 u22 u23 u24 u25 u26 u27 u28 u29 u30 u31 u32 u33 u34 u35 u36 u37 u38 u39 u40 u41 u42 u43 u44 u45 u46 u47 u48 u49 u50 u51 u52 u53 u54 u55 u56 u57 u58 u59 u60 u61 u62 u63 u64 u65 u66 u67 u68 u69 u70 u71 u72 u73 u74 u75 : Value),
      a' = { tmps := #[.agg #[.int .i64 a0_0, .bool a0_1], .string a1, .int .i64 n, .int .i64 value, .bool a4, .pointer (some ⟨gb, 0, none⟩), u6, u7, u8, u9, v, .int .i64 0, .int .i64 0, .bool done, .int .i64 i, u15, u16, u17, u18, u19, u20, u21, u22, u23, u24, u25, u26, u27, u28, u29, u30, u31, u32, u33, u34, u35, u36, u37, u38, u39, u40, u41, u42, u43, u44, u45, u46, u47, u48, u49, u50, u51, u52, u53, u54, u55, u56, u57, u58, u59, u60, u61, u62, u63, u64, u65, u66, u67, u68, u69, u70, u71, u72, u73, u74, u75], defers := [] } ∧
      Aside0 (stuff_fill.l0 kq a0_0 a0_1 a1 n value a4 out done i = some (r1, r2, r3, r4)) ∧ Aside0 (w'.heap[gb]? = some (.cells #[.int .i64 a0_0, .bool a0_1] 23 (0, 0))) ∧ Aside0 (w.heap.size ≤ gb) ∧ Aside0 (Kd.R (Kd.int .u8) 5 w' w.heap.size (fun _ => True) v out) ∧ Aside0 (Below w.heap.size w w')) (by rfl) (fun hpass => ?_) ?_
  · go_wp2
    go_step3
    rename_i hK_
    refine hK_ _ _ (hpass k _ _ ⟨gb101, a2, a3, 0, false, [], .slice none 0 0, _, _, _, _, _, _, _, _, _, _, _, _, _, _, _, _, _, _, _, _, _, _, _, _, _, _, _, _, _, _, _, _, _, _, _, _, _, _, _, _, _, _, _, _, _, _, _, _, _, _, _, _, _, _, _, _, _, _, _, _, _, _, _, _, _, rfl, H0, BK, GE, ⟨Kd.R_nil _ _ _ _ _⟩, HB⟩)
  · rintro kq a' w' ⟨gb, n, value, i, done, out, v, u6, u7, u8, u9, u15, u16, u17, u18, u19, u20, u21, u22, u23, u24, u25, u26, u27, u28, u29, u30, u31, u32, u33, u34, u35, u36, u37, u38, u39, u40, u41, u42, u43, u44, u45, u46, u47, u48, u49, u50, u51, u52, u53, u54, u55, u56, u57, u58, u59, u60, u61, u62, u63, u64, u65, u66, u67, u68, u69, u70, u71, u72, u73, u74, u75, rfl, HA, BK, GE, HO, HB⟩
    have BK := BK; have hcz0 : w'.cell? ⟨gb, 0, none⟩ = some (.int .i64 a0_0) := (blk_cell BK.out 0).trans rfl; have hcz1 : w'.cell? ⟨gb, 1, none⟩ = some (.bool a0_1) := (blk_cell BK.out 1).trans rfl; have hfz0 := blk_frozen BK.out 0; have hfz1 := blk_frozen BK.out 1
    cases kq with
    | zero => exact absurd HA.out (by simp [stuff_fill.l0])
    | succ k1 =>
    have H := HA.out; clear HA
    rw [stuff_fill.l0.eq_2] at H
    by_cases c1 : n = a0_0
    · rw [if_pos c1] at H
      have c1b0 : decide (n = a0_0) = true := decide_eq_true c1
      have c1b1 : (n == a0_0) = true := by simpa using c1
      by_cases c2 : a4 = true
      · rw [if_pos c2] at H
        subst c2
        by_cases c3 : done = true
        · rw [if_pos c3] at H
          subst c3
          by_cases cl : out.length < 140737488355328
          · rw [if_pos cl] at H
            have LM := Aside0.mk cl; obtain ⟨⟨t1, t2⟩, HC', H⟩ := Option.bind_eq_some_iff.mp H; have HC := Aside0.mk HC'; clear HC' cl
            go_wp2_with (first | ((with_reducible refine gate_builtin (b := .append) (xs := #[.tmp 34, .tmp 38]) rfl ?_); at_builtin; refine Kd.R_append (Kd.int .u8) (w0 := w) w.heap.size rfl (.tmp 34) (.tmp 38) 53 5 (.int .u8 0) 1 rfl Try.underlying53 info5F rfl (by decide) (by omega) v out ((48 + wrap64 (1 - value)) % 256) [.int .u8 ((48 + wrap64 (1 - value)) % 256)] (fun _ => True) (fun _ => False) rfl rfl ?aP (fun _ hk => hk.elim) ?aF ?aO ?aB ?aS ?aL ?_; (case aP => exact rfl); (case aB => exact (hbw HB.out)); (case aF => exact (fun _ _ => trivial)); (case aO => exact (rkw HO.out)); (case aS => exact (below_size (hbw HB.out))); (case aL => have := LM.out; omega); intro v9 w9 ho hb hg hat; have n0_ := Aside0.mk (blkg BK.out hg (Kd.R_ne HO.out BK.out (by decide))); have n1_ := Aside0.mk (hb); have n2_ := Aside0.mk (ho); clear BK HB HO; clear hcz0 hcz1 hfz0 hfz1; have BK := n0_; have HB := n1_; have HO := n2_; clear n0_ n1_ n2_; clear ho hb hg hat; have hcz0 : w9.cell? ⟨gb, 0, none⟩ = some (.int .i64 a0_0) := (blk_cell BK.out 0).trans rfl; have hcz1 : w9.cell? ⟨gb, 1, none⟩ = some (.bool a0_1) := (blk_cell BK.out 1).trans rfl; have hfz0 := blk_frozen BK.out 0; have hfz1 := blk_frozen BK.out 1) | ((with_reducible refine gate_callee (f := 25) rfl ?_); refine goesL_ (some 44) rfl rfl Try.func25 (by kernel_rfl) rfl #[.agg #[.int .i64 a0_0, .bool a0_1], .int .i64 0, .int .i64 value, .int .i64 (wrap64 (1 - value))] rfl (by (try simp only [List.map_toArray, List.map_cons, List.map_nil]); first | done | rfl | (simp only [List.length_drop, List.length_take]; rfl)) ?_; (with_reducible refine (stuff_count.calls k1 a0_0 a0_1 0 value (wrap64 (1 - value)) t1 t2 _ HC.out).mono ?_); rintro e w8 ⟨rfl, hb⟩; refine ⟨_, rfl, ?_⟩; have n0_ := Aside0.mk (blkb BK.out hb); have n1_ := Aside0.mk (Kd.R_below (rkw HO.out) hb); have n2_ := Aside0.mk (below_step (hbw HB.out) hb); clear BK HO HB; have BK := n0_; have HO := n1_; have HB := n2_; clear n0_ n1_ n2_ hb))
            go_step3
            exact ⟨rfl, Handed.intro k1 (Nat.lt_succ_self k1) ⟨gb, t1, t2, i, _, (out ++ [(48 + wrap64 (1 - value)) % 256]), v9, _, _, _, _, _, _, _, _, _, _, _, _, _, _, _, _, _, _, _, _, _, _, _, _, _, _, _, _, _, _, _, _, _, _, _, _, _, _, _, _, _, _, _, _, _, _, _, _, _, _, _, _, _, _, _, _, _, _, _, _, _, _, _, _, _, rfl, ⟨H⟩, ⟨by (with_reducible repeat (first | refine blk_drewN ?_ _ | refine blk_drew ?_ | refine blk_alloc ?_ _)); exact BK.out⟩, GE, ⟨rkw HO.out⟩, ⟨hbw HB.out⟩⟩⟩
          · rw [if_neg cl] at H; exact absurd H (by simp)
        · rw [if_neg c3] at H
          obtain rfl : done = false := by simpa using c3
          by_cases cl : out.length < 140737488355328
          · rw [if_pos cl] at H
            have LM := Aside0.mk cl; clear cl
            go_wp2_with (first | ((with_reducible refine gate_builtin (b := .append) (xs := #[.tmp 28, .tmp 32]) rfl ?_); at_builtin; refine Kd.R_append (Kd.int .u8) (w0 := w) w.heap.size rfl (.tmp 28) (.tmp 32) 53 5 (.int .u8 0) 1 rfl Try.underlying53 info5F rfl (by decide) (by omega) v out ((48 + value) % 256) [.int .u8 ((48 + value) % 256)] (fun _ => True) (fun _ => False) rfl rfl ?aP (fun _ hk => hk.elim) ?aF ?aO ?aB ?aS ?aL ?_; (case aP => exact rfl); (case aB => exact (hbw HB.out)); (case aF => exact (fun _ _ => trivial)); (case aO => exact (rkw HO.out)); (case aS => exact (below_size (hbw HB.out))); (case aL => have := LM.out; omega); intro v9 w9 ho hb hg hat; have n0_ := Aside0.mk (blkg BK.out hg (Kd.R_ne HO.out BK.out (by decide))); have n1_ := Aside0.mk (hb); have n2_ := Aside0.mk (ho); clear BK HB HO; clear hcz0 hcz1 hfz0 hfz1; have BK := n0_; have HB := n1_; have HO := n2_; clear n0_ n1_ n2_; clear ho hb hg hat; have hcz0 : w9.cell? ⟨gb, 0, none⟩ = some (.int .i64 a0_0) := (blk_cell BK.out 0).trans rfl; have hcz1 : w9.cell? ⟨gb, 1, none⟩ = some (.bool a0_1) := (blk_cell BK.out 1).trans rfl; have hfz0 := blk_frozen BK.out 0; have hfz1 := blk_frozen BK.out 1))
            go_step3
            exact ⟨rfl, Handed.intro k1 (Nat.lt_succ_self k1) ⟨gb, 0, value, i, true, (out ++ [(48 + value) % 256]), v9, _, _, _, _, _, _, _, _, _, _, _, _, _, _, _, _, _, _, _, _, _, _, _, _, _, _, _, _, _, _, _, _, _, _, _, _, _, _, _, _, _, _, _, _, _, _, _, _, _, _, _, _, _, _, _, _, _, _, _, _, _, _, _, _, _, rfl, ⟨H⟩, ⟨by (with_reducible repeat (first | refine blk_drewN ?_ _ | refine blk_drew ?_ | refine blk_alloc ?_ _)); exact BK.out⟩, GE, ⟨rkw HO.out⟩, ⟨hbw HB.out⟩⟩⟩
          · rw [if_neg cl] at H; exact absurd H (by simp)
      · rw [if_neg c2] at H
        obtain rfl : a4 = false := by simpa using c2
        by_cases cl : out.length < 140737488355328
        · rw [if_pos cl] at H
          have LM := Aside0.mk cl; obtain ⟨⟨t1, t2⟩, HC', H⟩ := Option.bind_eq_some_iff.mp H; have HC := Aside0.mk HC'; clear HC' cl
          go_wp2_with (first | ((with_reducible refine gate_builtin (b := .append) (xs := #[.tmp 34, .tmp 38]) rfl ?_); at_builtin; refine Kd.R_append (Kd.int .u8) (w0 := w) w.heap.size rfl (.tmp 34) (.tmp 38) 53 5 (.int .u8 0) 1 rfl Try.underlying53 info5F rfl (by decide) (by omega) v out ((48 + wrap64 (1 - value)) % 256) [.int .u8 ((48 + wrap64 (1 - value)) % 256)] (fun _ => True) (fun _ => False) rfl rfl ?aP (fun _ hk => hk.elim) ?aF ?aO ?aB ?aS ?aL ?_; (case aP => exact rfl); (case aB => exact (hbw HB.out)); (case aF => exact (fun _ _ => trivial)); (case aO => exact (rkw HO.out)); (case aS => exact (below_size (hbw HB.out))); (case aL => have := LM.out; omega); intro v9 w9 ho hb hg hat; have n0_ := Aside0.mk (blkg BK.out hg (Kd.R_ne HO.out BK.out (by decide))); have n1_ := Aside0.mk (hb); have n2_ := Aside0.mk (ho); clear BK HB HO; clear hcz0 hcz1 hfz0 hfz1; have BK := n0_; have HB := n1_; have HO := n2_; clear n0_ n1_ n2_; clear ho hb hg hat; have hcz0 : w9.cell? ⟨gb, 0, none⟩ = some (.int .i64 a0_0) := (blk_cell BK.out 0).trans rfl; have hcz1 : w9.cell? ⟨gb, 1, none⟩ = some (.bool a0_1) := (blk_cell BK.out 1).trans rfl; have hfz0 := blk_frozen BK.out 0; have hfz1 := blk_frozen BK.out 1) | ((with_reducible refine gate_callee (f := 25) rfl ?_); refine goesL_ (some 44) rfl rfl Try.func25 (by kernel_rfl) rfl #[.agg #[.int .i64 a0_0, .bool a0_1], .int .i64 0, .int .i64 value, .int .i64 (wrap64 (1 - value))] rfl (by (try simp only [List.map_toArray, List.map_cons, List.map_nil]); first | done | rfl | (simp only [List.length_drop, List.length_take]; rfl)) ?_; (with_reducible refine (stuff_count.calls k1 a0_0 a0_1 0 value (wrap64 (1 - value)) t1 t2 _ HC.out).mono ?_); rintro e w8 ⟨rfl, hb⟩; refine ⟨_, rfl, ?_⟩; have n0_ := Aside0.mk (blkb BK.out hb); have n1_ := Aside0.mk (Kd.R_below (rkw HO.out) hb); have n2_ := Aside0.mk (below_step (hbw HB.out) hb); clear BK HO HB; have BK := n0_; have HO := n1_; have HB := n2_; clear n0_ n1_ n2_ hb))
          go_step3
          exact ⟨rfl, Handed.intro k1 (Nat.lt_succ_self k1) ⟨gb, t1, t2, i, _, (out ++ [(48 + wrap64 (1 - value)) % 256]), v9, _, _, _, _, _, _, _, _, _, _, _, _, _, _, _, _, _, _, _, _, _, _, _, _, _, _, _, _, _, _, _, _, _, _, _, _, _, _, _, _, _, _, _, _, _, _, _, _, _, _, _, _, _, _, _, _, _, _, _, _, _, _, _, _, _, rfl, ⟨H⟩, ⟨by (with_reducible repeat (first | refine blk_drewN ?_ _ | refine blk_drew ?_ | refine blk_alloc ?_ _)); exact BK.out⟩, GE, ⟨rkw HO.out⟩, ⟨hbw HB.out⟩⟩⟩
        · rw [if_neg cl] at H; exact absurd H (by simp)
    · rw [if_neg c1] at H
      have c1b0 : decide (n = a0_0) = false := decide_eq_false c1
      have c1b1 : (n == a0_0) = false := by simpa using c1
      by_cases c4 : i < (a1.size : Int)
      · rw [if_pos c4] at H
        have c4b0 : decide (i < (a1.size : Int)) = true := decide_eq_true c4
        by_cases c5 : 0 ≤ i
        · rw [if_pos c5] at H
          have c5b0 : decide (0 ≤ i) = true := decide_eq_true c5
          by_cases cl : out.length < 140737488355328
          · rw [if_pos cl] at H
            have LM := Aside0.mk cl; obtain ⟨⟨t1, t2⟩, HC', H⟩ := Option.bind_eq_some_iff.mp H; have HC := Aside0.mk HC'; clear HC' cl; have hx8 := bt_at a1 i; have p8 := eq_true c5; have q8 := eq_true c4; clear c4 c5
            go_wp2_with (first | ((with_reducible refine gate_builtin (b := .append) (xs := #[.tmp 56, .tmp 60]) rfl ?_); at_builtin; refine Kd.R_append (Kd.int .u8) (w0 := w) w.heap.size rfl (.tmp 56) (.tmp 60) 53 5 (.int .u8 0) 1 rfl Try.underlying53 info5F rfl (by decide) (by omega) v out (bt a1 i) [.int .u8 (bt a1 i)] (fun _ => True) (fun _ => False) rfl rfl ?aP (fun _ hk => hk.elim) ?aF ?aO ?aB ?aS ?aL ?_; (case aP => exact rfl); (case aB => exact (hbw HB.out)); (case aF => exact (fun _ _ => trivial)); (case aO => exact (rkw HO.out)); (case aS => exact (below_size (hbw HB.out))); (case aL => have := LM.out; omega); intro v9 w9 ho hb hg hat; have n0_ := Aside0.mk (blkg BK.out hg (Kd.R_ne HO.out BK.out (by decide))); have n1_ := Aside0.mk (hb); have n2_ := Aside0.mk (ho); clear BK HB HO; clear hcz0 hcz1 hfz0 hfz1; have BK := n0_; have HB := n1_; have HO := n2_; clear n0_ n1_ n2_; clear ho hb hg hat; have hcz0 : w9.cell? ⟨gb, 0, none⟩ = some (.int .i64 a0_0) := (blk_cell BK.out 0).trans rfl; have hcz1 : w9.cell? ⟨gb, 1, none⟩ = some (.bool a0_1) := (blk_cell BK.out 1).trans rfl; have hfz0 := blk_frozen BK.out 0; have hfz1 := blk_frozen BK.out 1) | ((with_reducible refine gate_callee (f := 25) rfl ?_); refine goesL_ (some 67) rfl rfl Try.func25 (by kernel_rfl) rfl #[.agg #[.int .i64 a0_0, .bool a0_1], .int .i64 n, .int .i64 value, .int .i64 ((bt a1 i - 48) % 256)] rfl (by (try simp only [List.map_toArray, List.map_cons, List.map_nil]); first | done | rfl | (simp only [List.length_drop, List.length_take]; rfl)) ?_; (with_reducible refine (stuff_count.calls k1 a0_0 a0_1 n value ((bt a1 i - 48) % 256) t1 t2 _ HC.out).mono ?_); rintro e w8 ⟨rfl, hb⟩; refine ⟨_, rfl, ?_⟩; have n0_ := Aside0.mk (blkb BK.out hb); have n1_ := Aside0.mk (Kd.R_below (rkw HO.out) hb); have n2_ := Aside0.mk (below_step (hbw HB.out) hb); clear BK HO HB; have BK := n0_; have HO := n1_; have HB := n2_; clear n0_ n1_ n2_ hb))
            go_step3
            exact ⟨rfl, Handed.intro k1 (Nat.lt_succ_self k1) ⟨gb, t1, t2, (wrap64 (i + 1)), done, (out ++ [bt a1 i]), v9, _, _, _, _, _, _, _, _, _, _, _, _, _, _, _, _, _, _, _, _, _, _, _, _, _, _, _, _, _, _, _, _, _, _, _, _, _, _, _, _, _, _, _, _, _, _, _, _, _, _, _, _, _, _, _, _, _, _, _, _, _, _, _, _, _, rfl, ⟨H⟩, ⟨by (with_reducible repeat (first | refine blk_drewN ?_ _ | refine blk_drew ?_ | refine blk_alloc ?_ _)); exact BK.out⟩, GE, ⟨rkw HO.out⟩, ⟨hbw HB.out⟩⟩⟩
          · rw [if_neg cl] at H; exact absurd H (by simp)
        · rw [if_neg c5] at H; exact absurd H (by simp)
      · rw [if_neg c4] at H
        have c4b0 : decide (i < (a1.size : Int)) = false := decide_eq_false c4
        obtain ⟨rfl, rfl, rfl, rfl⟩ : out = r1 ∧ n = r2 ∧ value = r3 ∧ done = r4 := by simpa using Option.some.inj H
        clear H
        go_wp2
        simp only [Exit.jump]
        (try simp only [Exit.inBlock, Exit.then]); refine bodyPost_ret (results_tmp4 rfl _ _ _) rfl ?_
        exact ⟨_, rfl, rkw HO.out, hbw HB.out⟩

/-! ### stuff_Encode: function 21 -/
mutual
def stuff_Encode.j0 : Nat → List (S45) → Int → Bool → Option ((List (S45)) × Int)
 | 0, _, _, _ => none
 | k + 1, x1, x168000, x168001 => if (x1.length : Int) > 1024 then (some (([] : List (S45)), 6)) else (stuff_Encode.j1 k x1 x168000 x168001)
def stuff_Encode.j1 : Nat → List (S45) → Int → Bool → Option ((List (S45)) × Int)
 | 0, _, _, _ => none
 | k + 1, x1, x168000, x168001 => if 0 ≤ (x1.length : Int) then (if ((x1.length : Int) : Int).toNat ≤ 5864062014805 then (stuff_Encode.l0 k 0 0 (List.replicate 0 z45) x1 (x1.length : Int) 0 x168000 x168001) else (none)) else (none)
def stuff_Encode.l0 : Nat → Int → Int → List (S45) → List (S45) → Int → Int → Int → Bool → Option ((List (S45)) × Int)
 | 0, _, _, _, _, _, _, _, _ => none
 | k + 1, x7, x8, x9, x28, x29, x30, x168000, x168001 => if x30 < x29 then (stuff_Encode.j3 k x7 x8 x9 x28 x29 x30 x168000 x168001) else (some (x9, 0))
def stuff_Encode.j3 : Nat → Int → Int → List (S45) → List (S45) → Int → Int → Int → Bool → Option ((List (S45)) × Int)
 | 0, _, _, _, _, _, _, _, _ => none
 | k + 1, x7, x8, x9, x28, x29, x30, x168000, x168001 => if 0 ≤ x30 then (if x30 < (x28.length : Int) then ((stuff_check.f k ((rd_T45 x28 x30).f0) ((rd_T45 x28 x30).f1) ((rd_T45 x28 x30).f2) ((rd_T45 x28 x30).f3) ((rd_T45 x28 x30).f4)).bind fun t174 => (if t174 = 0 then ((stuff_fill.f k x168000 x168001 ((rd_T45 x28 x30).f3) x7 x8 (((rd_T45 x28 x30).f4) == 4)).bind fun bt175 => (if ((rd_T45 x28 x30).f4) = 4 then (stuff_Encode.j4 k x9 bt175.1 bt175.2.1 bt175.2.2.1 x28 x29 x30 (!bt175.2.2.2) x168000 x168001 ((rd_T45 x28 x30).f0) ((rd_T45 x28 x30).f1) ((rd_T45 x28 x30).f2) ((rd_T45 x28 x30).f3) ((rd_T45 x28 x30).f4)) else (stuff_Encode.j4 k x9 bt175.1 bt175.2.1 bt175.2.2.1 x28 x29 x30 false x168000 x168001 ((rd_T45 x28 x30).f0) ((rd_T45 x28 x30).f1) ((rd_T45 x28 x30).f2) ((rd_T45 x28 x30).f3) ((rd_T45 x28 x30).f4)))) else (some (([] : List (S45)), t174)))) else (none)) else (none)
def stuff_Encode.j4 : Nat → List (S45) → List Int → Int → Int → List (S45) → Int → Int → Bool → Int → Bool → Int → Int → Int → ByteArray → Int → Option ((List (S45)) × Int)
 | 0, _, _, _, _, _, _, _, _, _, _, _, _, _, _, _ => none
 | k + 1, x9, x13, x14, x15, x28, x29, x30, x53, x168000, x168001, x174000, x174001, x174002, x174003, x174004 => if x53 = true then (some (([] : List (S45)), 17)) else (if (x13.length : Int) > 4096 then (some (([] : List (S45)), 6)) else (if x174001 = 0 then (if x174002 = 0 then (if x9.length < 2932031007402 then (stuff_Encode.l0 k x14 x15 (x9 ++ [(⟨x174000, 0, 0, strOfNums x13, 0⟩ : S45)]) x28 x29 (wrap64 (x30 + 1)) x168000 x168001) else (none)) else (some (([] : List (S45)), 1))) else (some (([] : List (S45)), 1))))
end
def stuff_Encode.f (k : Nat) (a0_0 : Int) (a0_1 : Bool) (l1 : List (S45)) : Option ((List (S45)) × Int) := (stuff_Check.f a0_0 a0_1).bind fun t168 => (if t168 = 0 then (stuff_Encode.j0 k l1 a0_0 a0_1) else (some (([] : List (S45)), t168)))
theorem stuff_Encode.mono_l : ∀ k, (∀ y0 y1 y2, LeO (stuff_Encode.j0 k y0 y1 y2) (stuff_Encode.j0 (k + 1) y0 y1 y2)) ∧ (∀ y0 y1 y2, LeO (stuff_Encode.j1 k y0 y1 y2) (stuff_Encode.j1 (k + 1) y0 y1 y2)) ∧ (∀ y0 y1 y2 y3 y4 y5 y6 y7, LeO (stuff_Encode.l0 k y0 y1 y2 y3 y4 y5 y6 y7) (stuff_Encode.l0 (k + 1) y0 y1 y2 y3 y4 y5 y6 y7)) ∧ (∀ y0 y1 y2 y3 y4 y5 y6 y7, LeO (stuff_Encode.j3 k y0 y1 y2 y3 y4 y5 y6 y7) (stuff_Encode.j3 (k + 1) y0 y1 y2 y3 y4 y5 y6 y7)) ∧ (∀ y0 y1 y2 y3 y4 y5 y6 y7 y8 y9 y10 y11 y12 y13 y14, LeO (stuff_Encode.j4 k y0 y1 y2 y3 y4 y5 y6 y7 y8 y9 y10 y11 y12 y13 y14) (stuff_Encode.j4 (k + 1) y0 y1 y2 y3 y4 y5 y6 y7 y8 y9 y10 y11 y12 y13 y14))
 | 0 => ⟨fun _ _ _ r h => by simp [stuff_Encode.j0] at h, fun _ _ _ r h => by simp [stuff_Encode.j1] at h, fun _ _ _ _ _ _ _ _ r h => by simp [stuff_Encode.l0] at h, fun _ _ _ _ _ _ _ _ r h => by simp [stuff_Encode.j3] at h, fun _ _ _ _ _ _ _ _ _ _ _ _ _ _ _ r h => by simp [stuff_Encode.j4] at h⟩
 | k + 1 => by
  obtain ⟨ih0, ih1, ih2, ih3, ih4⟩ := stuff_Encode.mono_l k; refine ⟨?_, ?_, ?_, ?_, ?_⟩
  ·intro y0 y1 y2
   unfold stuff_Encode.j0
   repeat' first
   | (with_reducible exact ih0 _ _ _)
   | (with_reducible exact ih1 _ _ _)
   | (with_reducible exact ih2 _ _ _ _ _ _ _ _)
   | (with_reducible exact ih3 _ _ _ _ _ _ _ _)
   | (with_reducible exact ih4 _ _ _ _ _ _ _ _ _ _ _ _ _ _ _)
   | (with_reducible exact stuff_check.mono _ _ _ _ _ _)
   | (with_reducible exact stuff_fill.mono _ _ _ _ _ _ _)
   | (with_reducible exact LeO.refl _)
   | (with_reducible exact LeO.none _)
   | (with_reducible refine LeO.ite ?_ ?_)
   | (with_reducible refine LeO.bind ?_ (fun _ => ?_))
   | exact ih0 _ _ _
   | exact ih1 _ _ _
   | exact ih2 _ _ _ _ _ _ _ _
   | exact ih3 _ _ _ _ _ _ _ _
   | exact ih4 _ _ _ _ _ _ _ _ _ _ _ _ _ _ _
   | exact stuff_check.mono _ _ _ _ _ _
   | exact stuff_fill.mono _ _ _ _ _ _ _
   | exact LeO.none _
   | refine LeO.ite ?_ ?_
   | refine LeO.bind ?_ (fun _ => ?_)
  ·intro y0 y1 y2
   unfold stuff_Encode.j1
   repeat' first
   | (with_reducible exact ih0 _ _ _)
   | (with_reducible exact ih1 _ _ _)
   | (with_reducible exact ih2 _ _ _ _ _ _ _ _)
   | (with_reducible exact ih3 _ _ _ _ _ _ _ _)
   | (with_reducible exact ih4 _ _ _ _ _ _ _ _ _ _ _ _ _ _ _)
   | (with_reducible exact stuff_check.mono _ _ _ _ _ _)
   | (with_reducible exact stuff_fill.mono _ _ _ _ _ _ _)
   | (with_reducible exact LeO.refl _)
   | (with_reducible exact LeO.none _)
   | (with_reducible refine LeO.ite ?_ ?_)
   | (with_reducible refine LeO.bind ?_ (fun _ => ?_))
   | exact ih0 _ _ _
   | exact ih1 _ _ _
   | exact ih2 _ _ _ _ _ _ _ _
   | exact ih3 _ _ _ _ _ _ _ _
   | exact ih4 _ _ _ _ _ _ _ _ _ _ _ _ _ _ _
   | exact stuff_check.mono _ _ _ _ _ _
   | exact stuff_fill.mono _ _ _ _ _ _ _
   | exact LeO.none _
   | refine LeO.ite ?_ ?_
   | refine LeO.bind ?_ (fun _ => ?_)
  ·intro y0 y1 y2 y3 y4 y5 y6 y7
   unfold stuff_Encode.l0
   repeat' first
   | (with_reducible exact ih0 _ _ _)
   | (with_reducible exact ih1 _ _ _)
   | (with_reducible exact ih2 _ _ _ _ _ _ _ _)
   | (with_reducible exact ih3 _ _ _ _ _ _ _ _)
   | (with_reducible exact ih4 _ _ _ _ _ _ _ _ _ _ _ _ _ _ _)
   | (with_reducible exact stuff_check.mono _ _ _ _ _ _)
   | (with_reducible exact stuff_fill.mono _ _ _ _ _ _ _)
   | (with_reducible exact LeO.refl _)
   | (with_reducible exact LeO.none _)
   | (with_reducible refine LeO.ite ?_ ?_)
   | (with_reducible refine LeO.bind ?_ (fun _ => ?_))
   | exact ih0 _ _ _
   | exact ih1 _ _ _
   | exact ih2 _ _ _ _ _ _ _ _
   | exact ih3 _ _ _ _ _ _ _ _
   | exact ih4 _ _ _ _ _ _ _ _ _ _ _ _ _ _ _
   | exact stuff_check.mono _ _ _ _ _ _
   | exact stuff_fill.mono _ _ _ _ _ _ _
   | exact LeO.none _
   | refine LeO.ite ?_ ?_
   | refine LeO.bind ?_ (fun _ => ?_)
  ·intro y0 y1 y2 y3 y4 y5 y6 y7
   unfold stuff_Encode.j3
   repeat' first
   | (with_reducible exact ih0 _ _ _)
   | (with_reducible exact ih1 _ _ _)
   | (with_reducible exact ih2 _ _ _ _ _ _ _ _)
   | (with_reducible exact ih3 _ _ _ _ _ _ _ _)
   | (with_reducible exact ih4 _ _ _ _ _ _ _ _ _ _ _ _ _ _ _)
   | (with_reducible exact stuff_check.mono _ _ _ _ _ _)
   | (with_reducible exact stuff_fill.mono _ _ _ _ _ _ _)
   | (with_reducible exact LeO.refl _)
   | (with_reducible exact LeO.none _)
   | (with_reducible refine LeO.ite ?_ ?_)
   | (with_reducible refine LeO.bind ?_ (fun _ => ?_))
   | exact ih0 _ _ _
   | exact ih1 _ _ _
   | exact ih2 _ _ _ _ _ _ _ _
   | exact ih3 _ _ _ _ _ _ _ _
   | exact ih4 _ _ _ _ _ _ _ _ _ _ _ _ _ _ _
   | exact stuff_check.mono _ _ _ _ _ _
   | exact stuff_fill.mono _ _ _ _ _ _ _
   | exact LeO.none _
   | refine LeO.ite ?_ ?_
   | refine LeO.bind ?_ (fun _ => ?_)
  ·intro y0 y1 y2 y3 y4 y5 y6 y7 y8 y9 y10 y11 y12 y13 y14
   unfold stuff_Encode.j4
   repeat' first
   | (with_reducible exact ih0 _ _ _)
   | (with_reducible exact ih1 _ _ _)
   | (with_reducible exact ih2 _ _ _ _ _ _ _ _)
   | (with_reducible exact ih3 _ _ _ _ _ _ _ _)
   | (with_reducible exact ih4 _ _ _ _ _ _ _ _ _ _ _ _ _ _ _)
   | (with_reducible exact stuff_check.mono _ _ _ _ _ _)
   | (with_reducible exact stuff_fill.mono _ _ _ _ _ _ _)
   | (with_reducible exact LeO.refl _)
   | (with_reducible exact LeO.none _)
   | (with_reducible refine LeO.ite ?_ ?_)
   | (with_reducible refine LeO.bind ?_ (fun _ => ?_))
   | exact ih0 _ _ _
   | exact ih1 _ _ _
   | exact ih2 _ _ _ _ _ _ _ _
   | exact ih3 _ _ _ _ _ _ _ _
   | exact ih4 _ _ _ _ _ _ _ _ _ _ _ _ _ _ _
   | exact stuff_check.mono _ _ _ _ _ _
   | exact stuff_fill.mono _ _ _ _ _ _ _
   | exact LeO.none _
   | refine LeO.ite ?_ ?_
   | refine LeO.bind ?_ (fun _ => ?_)
theorem stuff_Encode.mono : ∀ a0 a1 a2 k, LeO (stuff_Encode.f k a0 a1 a2) (stuff_Encode.f (k + 1) a0 a1 a2) := by
 intro a0 a1 a2 k; obtain ⟨ih0, ih1, ih2, ih3, ih4⟩ := stuff_Encode.mono_l k
 unfold stuff_Encode.f
 repeat' first
   | (with_reducible exact ih0 _ _ _)
   | (with_reducible exact ih1 _ _ _)
   | (with_reducible exact ih2 _ _ _ _ _ _ _ _)
   | (with_reducible exact ih3 _ _ _ _ _ _ _ _)
   | (with_reducible exact ih4 _ _ _ _ _ _ _ _ _ _ _ _ _ _ _)
   | (with_reducible exact stuff_check.mono _ _ _ _ _ _)
   | (with_reducible exact stuff_fill.mono _ _ _ _ _ _ _)
   | (with_reducible exact LeO.refl _)
   | (with_reducible exact LeO.none _)
   | (with_reducible refine LeO.ite ?_ ?_)
   | (with_reducible refine LeO.bind ?_ (fun _ => ?_))
   | exact ih0 _ _ _
   | exact ih1 _ _ _
   | exact ih2 _ _ _ _ _ _ _ _
   | exact ih3 _ _ _ _ _ _ _ _
   | exact ih4 _ _ _ _ _ _ _ _ _ _ _ _ _ _ _
   | exact stuff_check.mono _ _ _ _ _ _
   | exact stuff_fill.mono _ _ _ _ _ _ _
   | exact LeO.none _
   | refine LeO.ite ?_ ?_
   | refine LeO.bind ?_ (fun _ => ?_)
set_option maxHeartbeats 8000000 in
set_option maxRecDepth 100000 in
theorem stuff_Encode.calls (k : Nat) (a0_0 : Int) (a0_1 : Bool) (A1 : Option Addr) (c1 : Nat) (l1 : List (S45)) (r1 : List (S45)) (r2 : Int) (w : World) (hr1 : Kd.C k45 w A1 l1.length l1) (hc1 : l1.length ≤ c1) (h : stuff_Encode.f k a0_0 a0_1 l1 = some (r1, r2)) :
  Calls Try.prog 21 #[.agg #[.int .i64 a0_0, .bool a0_1], .slice A1 l1.length c1] w fun e w' => ∃ v0_ : Value, e = .returned (.tuple #[v0_, .int .i64 r2]) ∧ Kd.R k45 45 w' w.heap.size (fun _ => True) v0_ r1 ∧ Below w.heap.size w w' := by
 have hu23 := Try.underlying23; have hu45 := Try.underlying45; have HR1 := Aside0.mk hr1; have HC1 := Aside0.mk hc1; clear hr1 hc1; have HB := Aside0.mk (Below.refl w.heap.size w); have H : ((stuff_Check.f a0_0 a0_1).bind fun t168 => (if t168 = 0 then (stuff_Encode.j0 k l1 a0_0 a0_1) else (some (([] : List (S45)), t168)))) = some (r1, r2) := h; clear h; replace H := Option.bind_eq_some_iff.mp H; obtain ⟨t168, A30, H⟩ := H; replace H : (if t168 = 0 then (stuff_Encode.j0 k l1 a0_0 a0_1) else (some (([] : List (S45)), t168))) = some (r1, r2) := H; have A3 := Aside0.mk A30; clear A30; have HC4 := Aside0.mk H; clear H
 go_enter Try.func21, Try.ntmps21
 go_upto_if 20 with (first | ((with_reducible refine gate_dst (N := 2) rfl ?_); refine box_event ?hg (N := 2) ?hd (cs := #[.int .i64 a0_0, .bool a0_1]) (t := 23) ?hr ?_; (case hd => rfl); (case hg => rfl); (case hr => first | (go_simp; done) | (go_simp; rfl)); intro gb167 hg w5 hbox hb; have n0_ := Aside0.mk (below_step (hbw HB.out) hb); have n1_ := Aside0.mk (hbox); have n2_ := bsz HB hg; have n3_ := bsz HB hg; clear HB; have HB := n0_; have BK167 := n1_; have GW167 := n2_; have GE167 := n3_; clear n0_ n1_ n2_ n3_; clear hb hbox hg; have hcz6_0 : w5.cell? ⟨gb167, 0, none⟩ = some (.int .i64 a0_0) := ck BK167 0; have hcz6_1 : w5.cell? ⟨gb167, 1, none⟩ = some (.bool a0_1) := ck BK167 1; have hfz6_0 := blk_frozen BK167.out 0; have hfz6_1 := blk_frozen BK167.out 1) | ((with_reducible refine gate_callee (f := 15) rfl ?_); refine goesL_ (some 18) rfl rfl Try.func15 (by kernel_rfl) rfl #[.agg #[.int .i64 a0_0, .bool a0_1]] rfl (by (try simp only [List.map_toArray, List.map_cons, List.map_nil]); first | done | rfl | (simp only [List.length_drop, List.length_take]; rfl)) ?_; (with_reducible refine (stuff_Check.calls a0_0 a0_1 t168 _ A3.out).mono ?_); rintro e w7 ⟨rfl, hb⟩; refine ⟨_, rfl, ?_⟩; have n0_ := Aside0.mk (blkb BK167.out hb); have n1_ := Aside0.mk (below_step (hbw HB.out) hb); clear BK167; clear HB; have BK167 := n0_; have HB := n1_; clear n0_ n1_; (try clear hb); (try clear hb2); (try clear hk); (try clear hi)))
 (try simp only [Act.put, List.setIfInBounds_toArray, List.set_cons_zero, List.set_cons_succ])
 go_cut [] (fun wc => ∃ (kq : Nat), Aside0 (stuff_Encode.j0 kq l1 a0_0 a0_1 = some (r1, r2)) ∧ Aside0 (kq ≤ k) ∧ Aside0 (wc.heap[gb167]? = some (.cells #[.int .i64 a0_0, .bool a0_1] 23 (0, 0))) ∧ Aside0 (Below w.heap.size w wc))
 case first =>
  have H := HC4.out; clear HC4
  by_cases c8 : t168 = 0
  ·rw [if_pos c8] at H
   have c8b0 : (t168 == 0) = true := beq_iff_eq.mpr c8; have c8b1 : (t168 != 0) = false := bne_eq_false_iff_eq.mpr c8; clear c8
   (first | rw [c8b0] | (simp only [i64_w, i32_w]; rw [c8b0]) | skip)
   have H' := Aside0.mk H; clear H
   go_wp2
   go_meet
   case rel => exact ⟨_, H', ⟨by first | omega | exact Nat.le_refl _⟩, ⟨by (with_reducible repeat (first | refine blk_drewN ?_ _ | refine blk_drew ?_ | refine blk_alloc ?_ _)); exact BK167.out⟩, ⟨by repeat (first | (with_reducible first | exact HB.out | apply below_alloc | apply pw_below_drewN | apply below_drew1 | refine below_set ?_ GE167.out) | exact HB.out)⟩⟩
  ·rw [if_neg c8] at H
   have c8b0 : (t168 == 0) = false := beq_eq_false_iff_ne.mpr c8; have c8b1 : (t168 != 0) = true := bne_iff_ne.mpr c8
   (first | rw [c8b0] | (simp only [i64_w, i32_w]; rw [c8b0]) | skip)
   simp only [Option.some.injEq, Prod.mk.injEq] at H
   obtain ⟨rfl, rfl⟩ := H
   go_wp2
   go_ret2
   exact ⟨_, by first | rfl | (simp [errW_none, errW_some] <;> rfl) | (simp [*, errW_none, errW_some] <;> rfl), by first | exact Kd.R_nil _ _ _ _ _ | exact Kd.N_nil _ _ _ _ _ | exact Kd.V_nil _ _ _ _ _ | exact Kd.Q_nil _ _ _ _ _ | exact Kd.S_nil _ _ _ _ _, by repeat (first | (with_reducible first | exact HB.out | apply below_alloc | apply pw_below_drewN | apply below_drew1 | refine below_set ?_ GE167.out) | exact HB.out)⟩
 case rest =>
  clear HC4
  try clear c1
  try clear c2
  try clear p2
  try clear c8
  try clear c8b0
  try clear c8b1
  try clear hcz6_0
  try clear hcz6_1
  try clear hfz6_0
  try clear hfz6_1
  obtain ⟨kq, HA, HJ3, BK167, HB⟩ := hcut
  cases kq with
  | zero => exact absurd HA.out (by simp [stuff_Encode.j0])
  | succ kj3 =>
   have H := HA.out; clear HA
   simp only [stuff_Encode.j0] at H
   have HC9 := Aside0.mk H; clear H
   go_upto_if 24 with (fail)
   go_cut [] (fun wc => ∃ (kq : Nat), Aside0 (stuff_Encode.j1 kq l1 a0_0 a0_1 = some (r1, r2)) ∧ Aside0 (kq ≤ kj3) ∧ Aside0 (wc.heap[gb167]? = some (.cells #[.int .i64 a0_0, .bool a0_1] 23 (0, 0))) ∧ Aside0 (Below w.heap.size w wc))
   case first =>
    have H := HC9.out; clear HC9
    by_cases c10 : (l1.length : Int) > 1024
    ·rw [if_pos c10] at H
     have c10b0 : decide (1024 < (l1.length : Int)) = true := decide_eq_true c10; have c10b1 : decide (1024 < l1.length) = true := decide_eq_true (by omega); clear c10
     (first | rw [c10b0] | (simp only [i64_w, i32_w]; rw [c10b0]) | skip)
     simp only [Option.some.injEq, Prod.mk.injEq] at H
     obtain ⟨rfl, rfl⟩ := H
     go_wp2
     go_ret2
     exact ⟨_, by first | rfl | (simp [errW_none, errW_some] <;> rfl) | (simp [*, errW_none, errW_some] <;> rfl), by first | exact Kd.R_nil _ _ _ _ _ | exact Kd.N_nil _ _ _ _ _ | exact Kd.V_nil _ _ _ _ _ | exact Kd.Q_nil _ _ _ _ _ | exact Kd.S_nil _ _ _ _ _, by repeat (first | (with_reducible first | exact HB.out | apply below_alloc | apply pw_below_drewN | apply below_drew1 | refine below_set ?_ GE167.out) | exact HB.out)⟩
    ·rw [if_neg c10] at H
     have c10b0 : decide (1024 < (l1.length : Int)) = false := decide_eq_false c10; have c10b1 : decide (1024 < l1.length) = false := decide_eq_false (by omega); clear c10
     (first | rw [c10b0] | (simp only [i64_w, i32_w]; rw [c10b0]) | skip)
     have H' := Aside0.mk H; clear H
     go_wp2
     go_meet
     case rel => exact ⟨_, H', ⟨by have := HJ3.out; first | omega | exact Nat.le_refl _⟩, ⟨by (with_reducible repeat (first | refine blk_drewN ?_ _ | refine blk_drew ?_ | refine blk_alloc ?_ _)); exact BK167.out⟩, ⟨by repeat (first | (with_reducible first | exact HB.out | apply below_alloc | apply pw_below_drewN | apply below_drew1 | refine below_set ?_ GE167.out) | exact HB.out)⟩⟩
   case rest =>
    clear HC9
    try clear c1
    try clear c2
    try clear p2
    try clear c8
    try clear c8b0
    try clear c8b1
    try clear c10
    try clear c10b0
    try clear c10b1
    try clear hcz6_0
    try clear hcz6_1
    try clear hfz6_0
    try clear hfz6_1
    try clear p2
    obtain ⟨kq, HA, HJ8, BK167, HB⟩ := hcut
    cases kq with
    | zero => exact absurd HA.out (by simp [stuff_Encode.j1])
    | succ kj8 =>
     have H := HA.out; clear HA
     simp only [stuff_Encode.j1] at H
     by_cases c11 : 0 ≤ (l1.length : Int)
     ·rw [if_pos c11] at H
      have c11b0 := eq_true c11; have c11b1 : decide (0 ≤ (l1.length : Int)) = true := decide_eq_true c11; clear c11
      by_cases c12 : ((l1.length : Int) : Int).toNat ≤ 5864062014805
      ·rw [if_pos c12] at H
       have c12b0 := eq_true c12; have c12b1 : decide (((l1.length : Int) : Int).toNat ≤ 5864062014805) = true := decide_eq_true c12; clear c12; obtain ⟨y169, hy169⟩ : ∃ y_ : List (S45), y_ = (List.replicate 0 z45) := ⟨_, rfl⟩
       replace H : (stuff_Encode.l0 kj8 0 0 y169 l1 (l1.length : Int) 0 a0_0 a0_1) = some (r1, r2) := by first | (rw [hy169]; with_reducible exact H) | (have H2_ := (Option.bind_some _ _).symm.trans H; rw [hy169]; with_reducible exact H2_) | (have H2_ := (Option.bind_some _ _).symm.trans H; with_reducible exact H2_) | with_reducible exact H | (rw [hy169]; exact H) | exact H
       have Ny169 := Aside0.mk hy169; clear hy169; have H' := Aside0.mk H; clear H
       go_wp2_with (first | ((with_reducible refine gate_dst (N := 27) rfl ?_); refine Kd.R_makeC k45 _ 45 rfl (N := 27) rfl 40 _ _ rfl 0 (l1.length : Int) rfl rfl Try.underlying40 (.agg #[(.int .i64 0), (.int .i64 0), (.int .i64 0), (.string ⟨#[]⟩), (.int .i64 0)]) 48 info45 rfl (by decide) (by omega) z45 (ok := fun _ => True) (okp := fun _ => True) (k45_mkM _ _ _ z45 ) (fun _ hk => hk) trivial (Int.le_refl 0) (of_decide_eq_true (by first | (with_reducible assumption) | assumption)) (Nat.le_trans (Nat.mul_le_mul_right _ (of_decide_eq_true (by first | (with_reducible assumption) | assumption) : (l1.length : Int).toNat ≤ 5864062014805)) (by omega)) (Below.refl _ _) (Nat.le_refl _) ?_; intro v170 w13 ho14 hb hg_ hnew_; clear hg_ hnew_; (first | rw [← Ny169.out] at ho14 | (simp only [Int.reduceToNat] at ho14; rw [← Ny169.out] at ho14)); have n0_ := Aside0.mk (Kd.R_lower ho14 (below_size (hbw HB.out))); have n1_ := Aside0.mk (blkb BK167.out hb); have n2_ := Aside0.mk (below_step (hbw HB.out) hb); clear BK167; clear HB; have HO171 := n0_; have BK167 := n1_; have HB := n2_; clear n0_ n1_ n2_; clear hb ho14))
       go_loopg [7, 8, 9, 30] kj8 (fun kq v7 v8 v9 v30 w' => ∃ (x7_3 : Int) (x8_3 : Int) (x9_3 : List (S45)) (x30_3 : Int), v7 = .int .i64 x7_3 ∧ v8 = .int .i64 x8_3 ∧ v30 = .int .i64 x30_3 ∧ Aside0 (stuff_Encode.l0 kq x7_3 x8_3 x9_3 l1 (l1.length : Int) x30_3 a0_0 a0_1 = some (r1, r2)) ∧ Aside0 (kq ≤ kj8) ∧ Aside0 (Kd.R k45 45 w' w.heap.size (fun _ => True) v9 x9_3) ∧ Aside0 (w'.heap[gb167]? = some (.cells #[.int .i64 a0_0, .bool a0_1] 23 (0, 0))) ∧ Aside0 (Below w.heap.size w w'))
       case atStart => exact ⟨(0), (0), (y169), (0), (by first | rfl | (simp; done) | (simp [*]; done)), (by first | rfl | (simp; done) | (simp [*]; done)), (by first | rfl | (simp; done) | (simp [*]; done)), H', ⟨Nat.le_refl _⟩, ⟨by (with_reducible repeat (first | apply Kd.R_alloc | apply Kd.R_drewN | apply Kd.R_drew)); exact HO171.out⟩, ⟨by (with_reducible repeat (first | refine blk_drewN ?_ _ | refine blk_drew ?_ | refine blk_alloc ?_ _)); exact BK167.out⟩, ⟨by repeat (first | (with_reducible first | exact HB.out | apply below_alloc | apply pw_below_drewN | apply below_drew1 | refine below_set ?_ GE167.out) | exact HB.out)⟩⟩
       case round =>
        clear H'
        try clear c1
        try clear c2
        try clear p2
        try clear c8
        try clear c8b0
        try clear c8b1
        try clear c10
        try clear c10b0
        try clear c10b1
        try clear c11
        try clear c11b0
        try clear c11b1
        try clear c12
        try clear c12b0
        try clear c12b1
        try clear hcz6_0
        try clear hcz6_1
        try clear hfz6_0
        try clear hfz6_1
        try clear p2
        obtain ⟨x7_3, x8_3, x9_3, x30_3, rfl, rfl, rfl, HA, HK3, HO_9, BK167, HB⟩ := hrel
        cases gk with
        | zero => exact absurd HA.out (by simp [stuff_Encode.l0])
        | succ k3 =>
         have H := HA.out; clear HA
         simp only [stuff_Encode.l0] at H
         have HC15 := Aside0.mk H; clear H
         go_upto_if 31 with (fail)
         go_cut [] (fun wc => ∃ (kq : Nat), Aside0 (stuff_Encode.j3 kq x7_3 x8_3 x9_3 l1 (l1.length : Int) x30_3 a0_0 a0_1 = some (r1, r2)) ∧ Aside0 (kq ≤ k3) ∧ Aside0 (Kd.R k45 45 wc w.heap.size (fun _ => True) u9 x9_3) ∧ Aside0 (wc.heap[gb167]? = some (.cells #[.int .i64 a0_0, .bool a0_1] 23 (0, 0))) ∧ Aside0 (Below w.heap.size w wc))
         case first =>
          have H := HC15.out; clear HC15
          by_cases c16 : x30_3 < (l1.length : Int)
          ·rw [if_pos c16] at H
           have c16b0 : decide (x30_3 < (l1.length : Int)) = true := decide_eq_true c16; clear c16
           (first | rw [c16b0] | (simp only [i64_w, i32_w]; rw [c16b0]) | skip)
           have H' := Aside0.mk H; clear H
           go_wp2
           go_meet
           case rel => exact ⟨_, H', ⟨by have := HJ3.out; have := HJ8.out; have := HK3.out; first | omega | exact Nat.le_refl _⟩, ⟨by (with_reducible repeat (first | apply Kd.R_alloc | apply Kd.R_drewN | apply Kd.R_drew)); exact HO_9.out⟩, ⟨by (with_reducible repeat (first | refine blk_drewN ?_ _ | refine blk_drew ?_ | refine blk_alloc ?_ _)); exact BK167.out⟩, ⟨by repeat (first | (with_reducible first | exact HB.out | apply below_alloc | apply pw_below_drewN | apply below_drew1 | refine below_set ?_ GE167.out) | exact HB.out)⟩⟩
          ·rw [if_neg c16] at H
           have c16b0 : decide (x30_3 < (l1.length : Int)) = false := decide_eq_false c16; clear c16
           (first | rw [c16b0] | (simp only [i64_w, i32_w]; rw [c16b0]) | skip)
           simp only [Option.some.injEq, Prod.mk.injEq] at H
           obtain ⟨rfl, rfl⟩ := H
           go_wp2
           go_ret2
           exact ⟨_, by first | rfl | (simp [errW_none, errW_some] <;> rfl) | (simp [*, errW_none, errW_some] <;> rfl), by (with_reducible repeat (first | apply Kd.R_alloc | apply Kd.R_drewN | apply Kd.R_drew)); exact HO_9.out, by repeat (first | (with_reducible first | exact HB.out | apply below_alloc | apply pw_below_drewN | apply below_drew1 | refine below_set ?_ GE167.out) | exact HB.out)⟩
         case rest =>
          clear HC15
          try clear c1
          try clear c2
          try clear p2
          try clear c8
          try clear c8b0
          try clear c8b1
          try clear c10
          try clear c10b0
          try clear c10b1
          try clear c11
          try clear c11b0
          try clear c11b1
          try clear c12
          try clear c12b0
          try clear c12b1
          try clear c15
          try clear c16
          try clear c16b0
          try clear hcz6_0
          try clear hcz6_1
          try clear hfz6_0
          try clear hfz6_1
          try clear p2
          obtain ⟨kq, HA, HJ14, HO_9, BK167, HB⟩ := hcut
          cases kq with
          | zero => exact absurd HA.out (by simp [stuff_Encode.j3])
          | succ kj14 =>
           have H := HA.out; clear HA
           simp only [stuff_Encode.j3] at H
           by_cases c17 : 0 ≤ x30_3
           ·rw [if_pos c17] at H
            have c17b0 : decide (0 ≤ x30_3) = true := decide_eq_true c17; clear c17
            by_cases c18 : x30_3 < (l1.length : Int)
            ·rw [if_pos c18] at H
             have c18b0 : decide (x30_3 < (l1.length : Int)) = true := decide_eq_true c18; clear c18; replace H := Option.bind_eq_some_iff.mp H; obtain ⟨t174, A190, H⟩ := H; replace H : (if t174 = 0 then ((stuff_fill.f kj14 a0_0 a0_1 ((rd_T45 l1 x30_3).f3) x7_3 x8_3 (((rd_T45 l1 x30_3).f4) == 4)).bind fun bt175 => (if ((rd_T45 l1 x30_3).f4) = 4 then (stuff_Encode.j4 kj14 x9_3 bt175.1 bt175.2.1 bt175.2.2.1 l1 (l1.length : Int) x30_3 (!bt175.2.2.2) a0_0 a0_1 ((rd_T45 l1 x30_3).f0) ((rd_T45 l1 x30_3).f1) ((rd_T45 l1 x30_3).f2) ((rd_T45 l1 x30_3).f3) ((rd_T45 l1 x30_3).f4)) else (stuff_Encode.j4 kj14 x9_3 bt175.1 bt175.2.1 bt175.2.2.1 l1 (l1.length : Int) x30_3 false a0_0 a0_1 ((rd_T45 l1 x30_3).f0) ((rd_T45 l1 x30_3).f1) ((rd_T45 l1 x30_3).f2) ((rd_T45 l1 x30_3).f3) ((rd_T45 l1 x30_3).f4)))) else (some (([] : List (S45)), t174))) = some (r1, r2) := H; have A19 := Aside0.mk A190; clear A190
             by_cases c20 : t174 = 0
             ·rw [if_pos c20] at H
              have c20b0 : (t174 == 0) = true := beq_iff_eq.mpr c20; have c20b1 : (t174 != 0) = false := bne_eq_false_iff_eq.mpr c20; clear c20; replace H := Option.bind_eq_some_iff.mp H; obtain ⟨⟨t175, t178, t179, t180⟩, A210, H⟩ := H; replace H : (if ((rd_T45 l1 x30_3).f4) = 4 then (stuff_Encode.j4 kj14 x9_3 t175 t178 t179 l1 (l1.length : Int) x30_3 (!t180) a0_0 a0_1 ((rd_T45 l1 x30_3).f0) ((rd_T45 l1 x30_3).f1) ((rd_T45 l1 x30_3).f2) ((rd_T45 l1 x30_3).f3) ((rd_T45 l1 x30_3).f4)) else (stuff_Encode.j4 kj14 x9_3 t175 t178 t179 l1 (l1.length : Int) x30_3 false a0_0 a0_1 ((rd_T45 l1 x30_3).f0) ((rd_T45 l1 x30_3).f1) ((rd_T45 l1 x30_3).f2) ((rd_T45 l1 x30_3).f3) ((rd_T45 l1 x30_3).f4))) = some (r1, r2) := H; have A21 := Aside0.mk A210; clear A210; have HC22 := Aside0.mk H; clear H; have p172 : 0 ≤ (x30_3 : Int) := of_decide_eq_true (by first | (with_reducible assumption) | assumption); have q172 : x30_3 < (l1.length : Int) := of_decide_eq_true (by first | (with_reducible assumption) | assumption); obtain ⟨ad172, e172, hx172_0, hx172_1, hx172_2, hx172_3, hx172_4⟩ := at_T45 HR1.out x30_3 p172 q172
              cases e172
              replace hx172_0 := (HB.out.cell (World.block_lt_of_cell? w _ hx172_0)).trans hx172_0; replace hx172_1 := (HB.out.cell (World.block_lt_of_cell? w _ hx172_1)).trans hx172_1; replace hx172_2 := (HB.out.cell (World.block_lt_of_cell? w _ hx172_2)).trans hx172_2; replace hx172_3 := (HB.out.cell (World.block_lt_of_cell? w _ hx172_3)).trans hx172_3; replace hx172_4 := (HB.out.cell (World.block_lt_of_cell? w _ hx172_4)).trans hx172_4; replace p172 := eq_true p172; replace q172 := eq_true q172
              go_upto_region 15 with (first | ((with_reducible refine gate_dst (N := 11) rfl ?_); refine box_event ?hg (N := 11) ?hd (cs := #[.int .i64 0, .int .i64 0, .int .i64 0, .string (⟨#[]⟩ : ByteArray), .int .i64 0]) (t := 45) ?hr ?_; (case hd => rfl); (case hg => rfl); (case hr => first | (go_simp; done) | (go_simp; rfl)); intro gb173 hg w23 hbox hb; have n0_ := Aside0.mk (Kd.R_below (Kd.R_elderB (rkw HO_9.out) gb173 (Nat.le_of_eq hg.symm)) hb); have n1_ := Aside0.mk (blkb BK167.out hb); have n2_ := Aside0.mk (below_step (hbw HB.out) hb); have n3_ := Aside0.mk (hbox); have n4_ := bsz HB hg; have n5_ := bsz HB hg; have n6_ := bnl BK167 hg; have n7_ := bng BK167 hg; clear HO_9; clear BK167; clear HB; have HO_9 := n0_; have BK167 := n1_; have HB := n2_; have BK173 := n3_; have GW173 := n4_; have GE173 := n5_; have NB167_173 := n6_; have NB173_167 := n7_; clear n0_ n1_ n2_ n3_ n4_ n5_ n6_ n7_; clear hb hbox hg; have hnb24 := NB173_167.out; have hnc24 := NB167_173.out; have hcz25_0 : w23.cell? ⟨gb173, 0, none⟩ = some (.int .i64 0) := ck BK173 0; have hcz25_1 : w23.cell? ⟨gb173, 1, none⟩ = some (.int .i64 0) := ck BK173 1; have hcz25_2 : w23.cell? ⟨gb173, 2, none⟩ = some (.int .i64 0) := ck BK173 2; have hcz25_3 : w23.cell? ⟨gb173, 3, none⟩ = some (.string (⟨#[]⟩ : ByteArray)) := ck BK173 3; have hcz25_4 : w23.cell? ⟨gb173, 4, none⟩ = some (.int .i64 0) := ck BK173 4; have hfz25_0 := blk_frozen BK173.out 0; have hfz25_1 := blk_frozen BK173.out 1; have hfz25_2 := blk_frozen BK173.out 2; have hfz25_3 := blk_frozen BK173.out 3; have hfz25_4 := blk_frozen BK173.out 4) | ((with_reducible refine gate_callee (f := 29) rfl ?_); refine goesL_ (some 35) rfl rfl Try.func29 (by kernel_rfl) rfl #[.agg #[.int .i64 ((rd_T45 l1 x30_3).f0), .int .i64 ((rd_T45 l1 x30_3).f1), .int .i64 ((rd_T45 l1 x30_3).f2), .string ((rd_T45 l1 x30_3).f3), .int .i64 ((rd_T45 l1 x30_3).f4)]] rfl (by (try simp only [List.map_toArray, List.map_cons, List.map_nil]); first | done | rfl | (simp only [List.length_drop, List.length_take]; rfl)) ?_; (with_reducible refine (stuff_check.calls kj14 ((rd_T45 l1 x30_3).f0) ((rd_T45 l1 x30_3).f1) ((rd_T45 l1 x30_3).f2) ((rd_T45 l1 x30_3).f3) ((rd_T45 l1 x30_3).f4) t174 _ A19.out).mono ?_); rintro e w26 ⟨rfl, hb⟩; refine ⟨_, rfl, ?_⟩; have n0_ := Aside0.mk (Kd.R_below (by (with_reducible repeat (first | apply Kd.R_alloc | apply Kd.R_drewN | apply Kd.R_drew)); exact (Kd.R_mono (Kd.R_far (p := ⟨gb173, 4, none⟩) (Kd.R_far (p := ⟨gb173, 3, none⟩) (Kd.R_far (p := ⟨gb173, 2, none⟩) (Kd.R_far (p := ⟨gb173, 1, none⟩) (Kd.R_far (p := ⟨gb173, 0, none⟩) (Kd.R_mono HO_9.out (fun k_ hk => (⟨hk, hk.2⟩ : _ ∧ k_ ≠ gb173))) (fun _ hk => hk.2) (.int .i64 ((rd_T45 l1 x30_3).f0))) (fun _ hk => hk.2) (.int .i64 ((rd_T45 l1 x30_3).f1))) (fun _ hk => hk.2) (.int .i64 ((rd_T45 l1 x30_3).f2))) (fun _ hk => hk.2) (.string ((rd_T45 l1 x30_3).f3))) (fun _ hk => hk.2) (.int .i64 ((rd_T45 l1 x30_3).f4))) (fun _ h_ => h_.1))) hb); have n1_ := Aside0.mk (blk_below (g := gb167) (o := .cells #[.int .i64 a0_0, .bool a0_1] 23 (0, 0)) (by (repeat (with_reducible first | refine blk_far ?_ NB167_173.out _ | refine blk_drewN ?_ _ | refine blk_drew ?_ | refine blk_alloc ?_ _)); exact BK167.out) hb); have n2_ := Aside0.mk (blk_below (g := gb173) (o := .cells #[.int .i64 ((rd_T45 l1 x30_3).f0), .int .i64 ((rd_T45 l1 x30_3).f1), .int .i64 ((rd_T45 l1 x30_3).f2), .string ((rd_T45 l1 x30_3).f3), .int .i64 ((rd_T45 l1 x30_3).f4)] 45 (0, 0)) (by (with_reducible repeat (first | refine blk_drewN ?_ _ | refine blk_drew ?_ | refine blk_alloc ?_ _)); refine blk_put (cs := #[.int .i64 ((rd_T45 l1 x30_3).f0), .int .i64 ((rd_T45 l1 x30_3).f1), .int .i64 ((rd_T45 l1 x30_3).f2), .string ((rd_T45 l1 x30_3).f3), .int .i64 0]) ?_ 4 _ rfl; (with_reducible repeat (first | refine blk_drewN ?_ _ | refine blk_drew ?_ | refine blk_alloc ?_ _)); refine blk_put (cs := #[.int .i64 ((rd_T45 l1 x30_3).f0), .int .i64 ((rd_T45 l1 x30_3).f1), .int .i64 ((rd_T45 l1 x30_3).f2), .string (⟨#[]⟩ : ByteArray), .int .i64 0]) ?_ 3 _ rfl; (with_reducible repeat (first | refine blk_drewN ?_ _ | refine blk_drew ?_ | refine blk_alloc ?_ _)); refine blk_put (cs := #[.int .i64 ((rd_T45 l1 x30_3).f0), .int .i64 ((rd_T45 l1 x30_3).f1), .int .i64 0, .string (⟨#[]⟩ : ByteArray), .int .i64 0]) ?_ 2 _ rfl; (with_reducible repeat (first | refine blk_drewN ?_ _ | refine blk_drew ?_ | refine blk_alloc ?_ _)); refine blk_put (cs := #[.int .i64 ((rd_T45 l1 x30_3).f0), .int .i64 0, .int .i64 0, .string (⟨#[]⟩ : ByteArray), .int .i64 0]) ?_ 1 _ rfl; (with_reducible repeat (first | refine blk_drewN ?_ _ | refine blk_drew ?_ | refine blk_alloc ?_ _)); refine blk_put (cs := #[.int .i64 0, .int .i64 0, .int .i64 0, .string (⟨#[]⟩ : ByteArray), .int .i64 0]) ?_ 0 _ rfl; (with_reducible repeat (first | refine blk_drewN ?_ _ | refine blk_drew ?_ | refine blk_alloc ?_ _)); exact BK173.out) hb); have n3_ := Aside0.mk (below_step (hbw HB.out) hb); clear HO_9; clear BK167; clear BK173; clear HB; have HO_9 := n0_; have BK167 := n1_; have BK173 := n2_; have HB := n3_; clear n0_ n1_ n2_ n3_; (try clear hb); (try clear hb2); (try clear hk); (try clear hi); have hcz27_0 : w26.cell? ⟨gb167, 0, none⟩ = some (.int .i64 a0_0) := ck BK167 0; have hcz27_1 : w26.cell? ⟨gb167, 1, none⟩ = some (.bool a0_1) := ck BK167 1; have hfz27_0 := blk_frozen BK167.out 0; have hfz27_1 := blk_frozen BK167.out 1; have hcz28_0 : w26.cell? ⟨gb173, 0, none⟩ = some (.int .i64 ((rd_T45 l1 x30_3).f0)) := ck BK173 0; have hcz28_1 : w26.cell? ⟨gb173, 1, none⟩ = some (.int .i64 ((rd_T45 l1 x30_3).f1)) := ck BK173 1; have hcz28_2 : w26.cell? ⟨gb173, 2, none⟩ = some (.int .i64 ((rd_T45 l1 x30_3).f2)) := ck BK173 2; have hcz28_3 : w26.cell? ⟨gb173, 3, none⟩ = some (.string ((rd_T45 l1 x30_3).f3)) := ck BK173 3; have hcz28_4 : w26.cell? ⟨gb173, 4, none⟩ = some (.int .i64 ((rd_T45 l1 x30_3).f4)) := ck BK173 4; have hfz28_0 := blk_frozen BK173.out 0; have hfz28_1 := blk_frozen BK173.out 1; have hfz28_2 := blk_frozen BK173.out 2; have hfz28_3 := blk_frozen BK173.out 3; have hfz28_4 := blk_frozen BK173.out 4) | ((with_reducible refine gate_callee (f := 30) rfl ?_); refine goesL_ (some 48) rfl rfl Try.func30 (by kernel_rfl) rfl #[.agg #[.int .i64 a0_0, .bool a0_1], .string ((rd_T45 l1 x30_3).f3), .int .i64 x7_3, .int .i64 x8_3, .bool (((rd_T45 l1 x30_3).f4) == 4)] rfl (by (try simp only [List.map_toArray, List.map_cons, List.map_nil]); first | done | rfl | (simp only [List.length_drop, List.length_take]; rfl)) ?_; (with_reducible refine (stuff_fill.calls kj14 a0_0 a0_1 ((rd_T45 l1 x30_3).f3) x7_3 x8_3 (((rd_T45 l1 x30_3).f4) == 4) t175 t178 t179 t180 _ A21.out).mono ?_); rintro e w29 ⟨v176, rfl, ho0, hb⟩; refine ⟨_, rfl, ?_⟩; have n0_ := Aside0.mk (Kd.R_below (rkw HO_9.out) hb); have n1_ := Aside0.mk (Kd.R_lower ho0 (below_size (hbw HB.out))); have n2_ := Aside0.mk (blkb BK167.out hb); have n3_ := Aside0.mk (blkb BK173.out hb); have n4_ := Aside0.mk (below_step (hbw HB.out) hb); clear HO_9; clear BK167; clear BK173; clear HB; have HO_9 := n0_; have HO177 := n1_; have BK167 := n2_; have BK173 := n3_; have HB := n4_; clear n0_ n1_ n2_ n3_ n4_; (try clear hb); (try clear hb2); (try clear hk); (try clear hi); (try clear ho0)))
              (try simp only [Act.put, List.setIfInBounds_toArray, List.set_cons_zero, List.set_cons_succ])
              go_cut [53] (fun v53 wc => ∃ (kq : Nat) (x53_21 : Bool), v53 = .bool x53_21 ∧ Aside0 (stuff_Encode.j4 kq x9_3 t175 t178 t179 l1 (l1.length : Int) x30_3 x53_21 a0_0 a0_1 ((rd_T45 l1 x30_3).f0) ((rd_T45 l1 x30_3).f1) ((rd_T45 l1 x30_3).f2) ((rd_T45 l1 x30_3).f3) ((rd_T45 l1 x30_3).f4) = some (r1, r2)) ∧ Aside0 (kq ≤ kj14) ∧ Aside0 (Kd.R k45 45 wc w.heap.size (fun k_ => k_ ≠ gb173) u9 x9_3) ∧ Aside0 (Kd.R (Kd.int .u8) 5 wc w.heap.size (fun _ => True) v176 t175) ∧ Aside0 (wc.heap[gb167]? = some (.cells #[.int .i64 a0_0, .bool a0_1] 23 (0, 0))) ∧ Aside0 (wc.heap[gb173]? = some (.cells #[.int .i64 ((rd_T45 l1 x30_3).f0), .int .i64 ((rd_T45 l1 x30_3).f1), .int .i64 ((rd_T45 l1 x30_3).f2), .string ((rd_T45 l1 x30_3).f3), .int .i64 ((rd_T45 l1 x30_3).f4)] 45 (0, 0))) ∧ Aside0 (Below w.heap.size w wc))
              case first =>
               have H := HC22.out; clear HC22
               by_cases c30 : ((rd_T45 l1 x30_3).f4) = 4
               ·rw [if_pos c30] at H
                have c30b0 : (((rd_T45 l1 x30_3).f4) == 4) = true := beq_iff_eq.mpr c30; have c30b1 : (((rd_T45 l1 x30_3).f4) != 4) = false := bne_eq_false_iff_eq.mpr c30; clear c30
                (first | rw [c30b0] | (simp only [i64_w, i32_w]; rw [c30b0]) | skip)
                have H' := Aside0.mk H; clear H; have hnb31 := NB173_167.out; have hnc31 := NB167_173.out; have hcz32_0 : w29.cell? ⟨gb173, 0, none⟩ = some (.int .i64 ((rd_T45 l1 x30_3).f0)) := ck BK173 0; have hcz32_1 : w29.cell? ⟨gb173, 1, none⟩ = some (.int .i64 ((rd_T45 l1 x30_3).f1)) := ck BK173 1; have hcz32_2 : w29.cell? ⟨gb173, 2, none⟩ = some (.int .i64 ((rd_T45 l1 x30_3).f2)) := ck BK173 2; have hcz32_3 : w29.cell? ⟨gb173, 3, none⟩ = some (.string ((rd_T45 l1 x30_3).f3)) := ck BK173 3; have hcz32_4 : w29.cell? ⟨gb173, 4, none⟩ = some (.int .i64 ((rd_T45 l1 x30_3).f4)) := ck BK173 4; have hfz32_0 := blk_frozen BK173.out 0; have hfz32_1 := blk_frozen BK173.out 1; have hfz32_2 := blk_frozen BK173.out 2; have hfz32_3 := blk_frozen BK173.out 3; have hfz32_4 := blk_frozen BK173.out 4
                go_wp2
                go_meet
                case rel => exact ⟨_, (!t180), (by first | rfl | (simp; done) | (simp [*]; done)), H', ⟨by have := HJ3.out; have := HJ8.out; have := HK3.out; have := HJ14.out; first | omega | exact Nat.le_refl _⟩, ⟨by (with_reducible repeat (first | apply Kd.R_alloc | apply Kd.R_drewN | apply Kd.R_drew)); exact Kd.R_mono HO_9.out (fun _ hk => hk.2)⟩, ⟨by (with_reducible repeat (first | apply Kd.R_alloc | apply Kd.R_drewN | apply Kd.R_drew)); exact HO177.out⟩, ⟨by (with_reducible repeat (first | refine blk_drewN ?_ _ | refine blk_drew ?_ | refine blk_alloc ?_ _)); exact BK167.out⟩, ⟨by (with_reducible repeat (first | refine blk_drewN ?_ _ | refine blk_drew ?_ | refine blk_alloc ?_ _)); exact BK173.out⟩, ⟨by repeat (first | (with_reducible first | exact HB.out | apply below_alloc | apply pw_below_drewN | apply below_drew1 | refine below_set ?_ GE167.out | refine below_set ?_ GE173.out) | exact HB.out)⟩⟩
               ·rw [if_neg c30] at H
                have c30b0 : (((rd_T45 l1 x30_3).f4) == 4) = false := beq_eq_false_iff_ne.mpr c30; have c30b1 : (((rd_T45 l1 x30_3).f4) != 4) = true := bne_iff_ne.mpr c30
                (first | rw [c30b0] | (simp only [i64_w, i32_w]; rw [c30b0]) | skip)
                have H' := Aside0.mk H; clear H; have hnb33 := NB173_167.out; have hnc33 := NB167_173.out; have hcz34_0 : w29.cell? ⟨gb173, 0, none⟩ = some (.int .i64 ((rd_T45 l1 x30_3).f0)) := ck BK173 0; have hcz34_1 : w29.cell? ⟨gb173, 1, none⟩ = some (.int .i64 ((rd_T45 l1 x30_3).f1)) := ck BK173 1; have hcz34_2 : w29.cell? ⟨gb173, 2, none⟩ = some (.int .i64 ((rd_T45 l1 x30_3).f2)) := ck BK173 2; have hcz34_3 : w29.cell? ⟨gb173, 3, none⟩ = some (.string ((rd_T45 l1 x30_3).f3)) := ck BK173 3; have hcz34_4 : w29.cell? ⟨gb173, 4, none⟩ = some (.int .i64 ((rd_T45 l1 x30_3).f4)) := ck BK173 4; have hfz34_0 := blk_frozen BK173.out 0; have hfz34_1 := blk_frozen BK173.out 1; have hfz34_2 := blk_frozen BK173.out 2; have hfz34_3 := blk_frozen BK173.out 3; have hfz34_4 := blk_frozen BK173.out 4
                go_wp2
                go_meet
                case rel => exact ⟨_, (false), (by first | rfl | (simp; done) | (simp [*]; done)), H', ⟨by have := HJ3.out; have := HJ8.out; have := HK3.out; have := HJ14.out; first | omega | exact Nat.le_refl _⟩, ⟨by (with_reducible repeat (first | apply Kd.R_alloc | apply Kd.R_drewN | apply Kd.R_drew)); exact Kd.R_mono HO_9.out (fun _ hk => hk.2)⟩, ⟨by (with_reducible repeat (first | apply Kd.R_alloc | apply Kd.R_drewN | apply Kd.R_drew)); exact HO177.out⟩, ⟨by (with_reducible repeat (first | refine blk_drewN ?_ _ | refine blk_drew ?_ | refine blk_alloc ?_ _)); exact BK167.out⟩, ⟨by (with_reducible repeat (first | refine blk_drewN ?_ _ | refine blk_drew ?_ | refine blk_alloc ?_ _)); exact BK173.out⟩, ⟨by repeat (first | (with_reducible first | exact HB.out | apply below_alloc | apply pw_below_drewN | apply below_drew1 | refine below_set ?_ GE167.out | refine below_set ?_ GE173.out) | exact HB.out)⟩⟩
              case rest =>
               clear HC22
               try clear c1
               try clear p1
               try clear q1
               try clear hx1
               try clear c2
               try clear p2
               try clear c3
               try clear c8
               try clear c8b0
               try clear c8b1
               try clear c10
               try clear c10b0
               try clear c10b1
               try clear c11
               try clear c11b0
               try clear c11b1
               try clear c12
               try clear c12b0
               try clear c12b1
               try clear c15
               try clear c16
               try clear c16b0
               try clear c17
               try clear c17b0
               try clear p17
               try clear q17
               try clear hx17
               try clear c18
               try clear c18b0
               try clear c20
               try clear c20b0
               try clear c20b1
               try clear c21
               try clear c24
               try clear c29
               try clear c30
               try clear c30b0
               try clear c30b1
               try clear c31
               try clear c33
               try clear hcz25_0
               try clear hcz25_1
               try clear hcz25_2
               try clear hcz25_3
               try clear hcz25_4
               try clear hcz27_0
               try clear hcz27_1
               try clear hcz28_0
               try clear hcz28_1
               try clear hcz28_2
               try clear hcz28_3
               try clear hcz28_4
               try clear hcz32_0
               try clear hcz32_1
               try clear hcz32_2
               try clear hcz32_3
               try clear hcz32_4
               try clear hcz34_0
               try clear hcz34_1
               try clear hcz34_2
               try clear hcz34_3
               try clear hcz34_4
               try clear hcz6_0
               try clear hcz6_1
               try clear hfz25_0
               try clear hfz25_1
               try clear hfz25_2
               try clear hfz25_3
               try clear hfz25_4
               try clear hfz27_0
               try clear hfz27_1
               try clear hfz28_0
               try clear hfz28_1
               try clear hfz28_2
               try clear hfz28_3
               try clear hfz28_4
               try clear hfz32_0
               try clear hfz32_1
               try clear hfz32_2
               try clear hfz32_3
               try clear hfz32_4
               try clear hfz34_0
               try clear hfz34_1
               try clear hfz34_2
               try clear hfz34_3
               try clear hfz34_4
               try clear hfz6_0
               try clear hfz6_1
               try clear hx172_0
               try clear hx172_1
               try clear hx172_2
               try clear hx172_3
               try clear hx172_4
               try clear p172
               try clear p2
               try clear q172
               obtain ⟨kq, x53_21, rfl, HA, HJ21, HO_9, HO_13, BK167, BK173, HB⟩ := hcut
               cases kq with
               | zero => exact absurd HA.out (by simp [stuff_Encode.j4])
               | succ kj21 =>
                have H := HA.out; clear HA
                simp only [stuff_Encode.j4] at H
                by_cases c35 : x53_21 = true
                ·subst c35
                 have H1 : (some (([] : List (S45)), 17)) = some (r1, r2) := by rw [if_pos rfl] at H; exact H
                 clear H; have H := H1; clear H1
                 simp only [Option.some.injEq, Prod.mk.injEq] at H
                 obtain ⟨rfl, rfl⟩ := H
                 go_wp2
                 go_ret2
                 exact ⟨_, by first | rfl | (simp [errW_none, errW_some] <;> rfl) | (simp [*, errW_none, errW_some] <;> rfl), by first | exact Kd.R_nil _ _ _ _ _ | exact Kd.N_nil _ _ _ _ _ | exact Kd.V_nil _ _ _ _ _ | exact Kd.Q_nil _ _ _ _ _ | exact Kd.S_nil _ _ _ _ _, by repeat (first | (with_reducible first | exact HB.out | apply below_alloc | apply pw_below_drewN | apply below_drew1 | refine below_set ?_ GE167.out | refine below_set ?_ GE173.out) | exact HB.out)⟩
                ·replace c35 := Bool.eq_false_iff.mpr c35
                 subst c35
                 have H1 : (if (t175.length : Int) > 4096 then (some (([] : List (S45)), 6)) else (if ((rd_T45 l1 x30_3).f1) = 0 then (if ((rd_T45 l1 x30_3).f2) = 0 then (if x9_3.length < 2932031007402 then (stuff_Encode.l0 kj21 t178 t179 (x9_3 ++ [(⟨((rd_T45 l1 x30_3).f0), 0, 0, strOfNums t175, 0⟩ : S45)]) l1 (l1.length : Int) (wrap64 (x30_3 + 1)) a0_0 a0_1) else (none)) else (some (([] : List (S45)), 1))) else (some (([] : List (S45)), 1)))) = some (r1, r2) := by rw [if_neg (show ¬ (false = true) by decide)] at H; exact H
                 clear H; have H := H1; clear H1
                 by_cases c36 : (t175.length : Int) > 4096
                 ·rw [if_pos c36] at H
                  have c36b0 : decide (4096 < (t175.length : Int)) = true := decide_eq_true c36; have c36b1 : decide (4096 < t175.length) = true := decide_eq_true (by omega); clear c36
                  simp only [Option.some.injEq, Prod.mk.injEq] at H
                  obtain ⟨rfl, rfl⟩ := H; obtain ⟨Ao37, co37, eo37⟩ := Kd.R_slice HO_13.out; subst eo37
                  go_wp2
                  go_ret2
                  exact ⟨_, by first | rfl | (simp [errW_none, errW_some] <;> rfl) | (simp [*, errW_none, errW_some] <;> rfl), by first | exact Kd.R_nil _ _ _ _ _ | exact Kd.N_nil _ _ _ _ _ | exact Kd.V_nil _ _ _ _ _ | exact Kd.Q_nil _ _ _ _ _ | exact Kd.S_nil _ _ _ _ _, by repeat (first | (with_reducible first | exact HB.out | apply below_alloc | apply pw_below_drewN | apply below_drew1 | refine below_set ?_ GE167.out | refine below_set ?_ GE173.out) | exact HB.out)⟩
                 ·rw [if_neg c36] at H
                  have c36b0 : decide (4096 < (t175.length : Int)) = false := decide_eq_false c36; have c36b1 : decide (4096 < t175.length) = false := decide_eq_false (by omega); clear c36
                  by_cases c38 : ((rd_T45 l1 x30_3).f1) = 0
                  ·rw [if_pos c38] at H
                   have c38b0 : (((rd_T45 l1 x30_3).f1) == 0) = true := beq_iff_eq.mpr c38; have c38b1 : (((rd_T45 l1 x30_3).f1) != 0) = false := bne_eq_false_iff_eq.mpr c38; clear c38
                   by_cases c39 : ((rd_T45 l1 x30_3).f2) = 0
                   ·rw [if_pos c39] at H
                    have c39b0 : (((rd_T45 l1 x30_3).f2) == 0) = true := beq_iff_eq.mpr c39; have c39b1 : (((rd_T45 l1 x30_3).f2) != 0) = false := bne_eq_false_iff_eq.mpr c39; clear c39
                    by_cases c40 : x9_3.length < 2932031007402
                    ·rw [if_pos c40] at H
                     have LMc40 := Aside0.mk c40; clear c40; obtain ⟨y181, hy181⟩ : ∃ y_ : List (S45), y_ = (x9_3 ++ [(⟨((rd_T45 l1 x30_3).f0), 0, 0, strOfNums t175, 0⟩ : S45)]) := ⟨_, rfl⟩
                     replace H : (stuff_Encode.l0 kj21 t178 t179 y181 l1 (l1.length : Int) (wrap64 (x30_3 + 1)) a0_0 a0_1) = some (r1, r2) := by first | (rw [hy181]; with_reducible exact H) | (have H2_ := (Option.bind_some _ _).symm.trans H; rw [hy181]; with_reducible exact H2_) | (have H2_ := (Option.bind_some _ _).symm.trans H; with_reducible exact H2_) | with_reducible exact H | (rw [hy181]; exact H) | exact H
                     have Ny181 := Aside0.mk hy181; clear hy181; have H' := Aside0.mk H; clear H; obtain ⟨Ao41, co41, eo41⟩ := Kd.R_slice HO_13.out; subst eo41; have hnb42 := NB173_167.out; have hnc42 := NB167_173.out; have hcz43_0 : wc.cell? ⟨gb173, 0, none⟩ = some (.int .i64 ((rd_T45 l1 x30_3).f0)) := ck BK173 0; have hcz43_1 : wc.cell? ⟨gb173, 1, none⟩ = some (.int .i64 ((rd_T45 l1 x30_3).f1)) := ck BK173 1; have hcz43_2 : wc.cell? ⟨gb173, 2, none⟩ = some (.int .i64 ((rd_T45 l1 x30_3).f2)) := ck BK173 2; have hcz43_3 : wc.cell? ⟨gb173, 3, none⟩ = some (.string ((rd_T45 l1 x30_3).f3)) := ck BK173 3; have hcz43_4 : wc.cell? ⟨gb173, 4, none⟩ = some (.int .i64 ((rd_T45 l1 x30_3).f4)) := ck BK173 4; have hfz43_0 := blk_frozen BK173.out 0; have hfz43_1 := blk_frozen BK173.out 1; have hfz43_2 := blk_frozen BK173.out 2; have hfz43_3 := blk_frozen BK173.out 3; have hfz43_4 := blk_frozen BK173.out 4; have hcv44 := own_string (P := Try.prog) Try.underlying53 Try.underlying5 Try.underlying9 (Kd.own_of_R HO_13.out)
                     go_wp2_with (first | ((with_reducible refine gate_builtin (b := .append) (xs := #[.tmp 76, .tmp 82]) rfl ?_); at_builtin; refine Kd.R_append k45 (w0 := w) w.heap.size rfl (.tmp 76) (.tmp 82) 40 45 (.agg #[(.int .i64 0), (.int .i64 0), (.int .i64 0), (.string ⟨#[]⟩), (.int .i64 0)]) 48 rfl Try.underlying40 info45 rfl (by decide) (by omega) u9 x9_3 (⟨((rd_T45 l1 x30_3).f0), 0, 0, strOfNums t175, 0⟩ : S45) [.int .i64 ((rd_T45 l1 x30_3).f0), .int .i64 0, .int .i64 0, .string (strOfNums t175), .int .i64 0] (fun k_ => k_ ≠ gb173) (fun _ => False) rfl rfl ?aP (fun _ hk => hk.elim) ?aF ?aO ?aB ?aS ?aL ?_; (case aP => exact k45_mkM _ _ _ (⟨((rd_T45 l1 x30_3).f0), 0, 0, strOfNums t175, 0⟩ : S45)); (case aB => exact (hbw HB.out)); (case aF => exact (fun k_ hk => Kd.freshB (g := gb173) (o := .cells #[.int .i64 ((rd_T45 l1 x30_3).f0), .int .i64 ((rd_T45 l1 x30_3).f1), .int .i64 ((rd_T45 l1 x30_3).f2), .string ((rd_T45 l1 x30_3).f3), .int .i64 ((rd_T45 l1 x30_3).f4)] 45 (0, 0)) (bkw BK173.out) k_ hk)); (case aO => exact (rkw HO_9.out)); (case aS => exact (below_size (hbw HB.out))); (case aL => have := LMc40.out; omega); intro v182 w45 ho hb hg hat; rw [← Ny181.out] at ho; have n0_ := Aside0.mk (Kd.R_over' (rkw HO_13.out) (Kd.R_typed (rkw HO_9.out)) (by decide) hg); have n1_ := Aside0.mk (blkg BK167.out hg (Kd.R_ne HO_9.out BK167.out (by decide))); have n2_ := Aside0.mk (blkg BK173.out hg (Kd.R_away HO_9.out (fun _ hk => hk))); have n3_ := Aside0.mk (hb); have n4_ := Aside0.mk (ho); clear HO_13; clear BK167; clear BK173; clear HB; clear HO_9; have HO_13 := n0_; have BK167 := n1_; have BK173 := n2_; have HB := n3_; have HO183 := n4_; clear n0_ n1_ n2_ n3_ n4_; clear ho hb hg hat))
                     go_roundg kj21
                     case measure => have := HJ3.out; have := HJ8.out; have := HK3.out; have := HJ14.out; have := HJ21.out; omega
                     case rel => exact ⟨(t178), (t179), (y181), (wrap64 (x30_3 + 1)), (by first | rfl | (simp; done) | (simp [*]; done)), (by first | rfl | (simp; done) | (simp [*]; done)), (by first | rfl | (simp; done) | (simp [*]; done)), H', ⟨by have := HJ3.out; have := HJ8.out; have := HK3.out; have := HJ14.out; have := HJ21.out; omega⟩, ⟨by (with_reducible repeat (first | apply Kd.R_alloc | apply Kd.R_drewN | apply Kd.R_drew)); exact Kd.R_mono HO183.out (fun _ hk => trivial)⟩, ⟨by (with_reducible repeat (first | refine blk_drewN ?_ _ | refine blk_drew ?_ | refine blk_alloc ?_ _)); exact BK167.out⟩, ⟨by repeat (first | (with_reducible first | exact HB.out | apply below_alloc | apply pw_below_drewN | apply below_drew1 | refine below_set ?_ GE167.out | refine below_set ?_ GE173.out) | exact HB.out)⟩⟩
                    ·rw [if_neg c40] at H
                     exact absurd H (by simp)
                   ·rw [if_neg c39] at H
                    have c39b0 : (((rd_T45 l1 x30_3).f2) == 0) = false := beq_eq_false_iff_ne.mpr c39; have c39b1 : (((rd_T45 l1 x30_3).f2) != 0) = true := bne_iff_ne.mpr c39
                    simp only [Option.some.injEq, Prod.mk.injEq] at H
                    obtain ⟨rfl, rfl⟩ := H; obtain ⟨Ao46, co46, eo46⟩ := Kd.R_slice HO_13.out; subst eo46; have hnb47 := NB173_167.out; have hnc47 := NB167_173.out; have hcz48_0 : wc.cell? ⟨gb173, 0, none⟩ = some (.int .i64 ((rd_T45 l1 x30_3).f0)) := ck BK173 0; have hcz48_1 : wc.cell? ⟨gb173, 1, none⟩ = some (.int .i64 ((rd_T45 l1 x30_3).f1)) := ck BK173 1; have hcz48_2 : wc.cell? ⟨gb173, 2, none⟩ = some (.int .i64 ((rd_T45 l1 x30_3).f2)) := ck BK173 2; have hcz48_3 : wc.cell? ⟨gb173, 3, none⟩ = some (.string ((rd_T45 l1 x30_3).f3)) := ck BK173 3; have hcz48_4 : wc.cell? ⟨gb173, 4, none⟩ = some (.int .i64 ((rd_T45 l1 x30_3).f4)) := ck BK173 4; have hfz48_0 := blk_frozen BK173.out 0; have hfz48_1 := blk_frozen BK173.out 1; have hfz48_2 := blk_frozen BK173.out 2; have hfz48_3 := blk_frozen BK173.out 3; have hfz48_4 := blk_frozen BK173.out 4
                    go_wp2
                    go_ret2
                    exact ⟨_, by first | rfl | (simp [errW_none, errW_some] <;> rfl) | (simp [*, errW_none, errW_some] <;> rfl), by first | exact Kd.R_nil _ _ _ _ _ | exact Kd.N_nil _ _ _ _ _ | exact Kd.V_nil _ _ _ _ _ | exact Kd.Q_nil _ _ _ _ _ | exact Kd.S_nil _ _ _ _ _, by repeat (first | (with_reducible first | exact HB.out | apply below_alloc | apply pw_below_drewN | apply below_drew1 | refine below_set ?_ GE167.out | refine below_set ?_ GE173.out) | exact HB.out)⟩
                  ·rw [if_neg c38] at H
                   have c38b0 : (((rd_T45 l1 x30_3).f1) == 0) = false := beq_eq_false_iff_ne.mpr c38; have c38b1 : (((rd_T45 l1 x30_3).f1) != 0) = true := bne_iff_ne.mpr c38
                   simp only [Option.some.injEq, Prod.mk.injEq] at H
                   obtain ⟨rfl, rfl⟩ := H; obtain ⟨Ao49, co49, eo49⟩ := Kd.R_slice HO_13.out; subst eo49; have hnb50 := NB173_167.out; have hnc50 := NB167_173.out; have hcz51_0 : wc.cell? ⟨gb173, 0, none⟩ = some (.int .i64 ((rd_T45 l1 x30_3).f0)) := ck BK173 0; have hcz51_1 : wc.cell? ⟨gb173, 1, none⟩ = some (.int .i64 ((rd_T45 l1 x30_3).f1)) := ck BK173 1; have hcz51_2 : wc.cell? ⟨gb173, 2, none⟩ = some (.int .i64 ((rd_T45 l1 x30_3).f2)) := ck BK173 2; have hcz51_3 : wc.cell? ⟨gb173, 3, none⟩ = some (.string ((rd_T45 l1 x30_3).f3)) := ck BK173 3; have hcz51_4 : wc.cell? ⟨gb173, 4, none⟩ = some (.int .i64 ((rd_T45 l1 x30_3).f4)) := ck BK173 4; have hfz51_0 := blk_frozen BK173.out 0; have hfz51_1 := blk_frozen BK173.out 1; have hfz51_2 := blk_frozen BK173.out 2; have hfz51_3 := blk_frozen BK173.out 3; have hfz51_4 := blk_frozen BK173.out 4
                   go_wp2
                   go_ret2
                   exact ⟨_, by first | rfl | (simp [errW_none, errW_some] <;> rfl) | (simp [*, errW_none, errW_some] <;> rfl), by first | exact Kd.R_nil _ _ _ _ _ | exact Kd.N_nil _ _ _ _ _ | exact Kd.V_nil _ _ _ _ _ | exact Kd.Q_nil _ _ _ _ _ | exact Kd.S_nil _ _ _ _ _, by repeat (first | (with_reducible first | exact HB.out | apply below_alloc | apply pw_below_drewN | apply below_drew1 | refine below_set ?_ GE167.out | refine below_set ?_ GE173.out) | exact HB.out)⟩
             ·rw [if_neg c20] at H
              have c20b0 : (t174 == 0) = false := beq_eq_false_iff_ne.mpr c20; have c20b1 : (t174 != 0) = true := bne_iff_ne.mpr c20
              simp only [Option.some.injEq, Prod.mk.injEq] at H
              obtain ⟨rfl, rfl⟩ := H; have p172 : 0 ≤ (x30_3 : Int) := of_decide_eq_true (by first | (with_reducible assumption) | assumption); have q172 : x30_3 < (l1.length : Int) := of_decide_eq_true (by first | (with_reducible assumption) | assumption); obtain ⟨ad172, e172, hx172_0, hx172_1, hx172_2, hx172_3, hx172_4⟩ := at_T45 HR1.out x30_3 p172 q172
              cases e172
              replace hx172_0 := (HB.out.cell (World.block_lt_of_cell? w _ hx172_0)).trans hx172_0; replace hx172_1 := (HB.out.cell (World.block_lt_of_cell? w _ hx172_1)).trans hx172_1; replace hx172_2 := (HB.out.cell (World.block_lt_of_cell? w _ hx172_2)).trans hx172_2; replace hx172_3 := (HB.out.cell (World.block_lt_of_cell? w _ hx172_3)).trans hx172_3; replace hx172_4 := (HB.out.cell (World.block_lt_of_cell? w _ hx172_4)).trans hx172_4; replace p172 := eq_true p172; replace q172 := eq_true q172
              go_wp2_with (first | ((with_reducible refine gate_dst (N := 11) rfl ?_); refine box_event ?hg (N := 11) ?hd (cs := #[.int .i64 0, .int .i64 0, .int .i64 0, .string (⟨#[]⟩ : ByteArray), .int .i64 0]) (t := 45) ?hr ?_; (case hd => rfl); (case hg => rfl); (case hr => first | (go_simp; done) | (go_simp; rfl)); intro gb173 hg w52 hbox hb; have n0_ := Aside0.mk (Kd.R_below (Kd.R_elderB (rkw HO_9.out) gb173 (Nat.le_of_eq hg.symm)) hb); have n1_ := Aside0.mk (blkb BK167.out hb); have n2_ := Aside0.mk (below_step (hbw HB.out) hb); have n3_ := Aside0.mk (hbox); have n4_ := bsz HB hg; have n5_ := bsz HB hg; have n6_ := bnl BK167 hg; have n7_ := bng BK167 hg; clear HO_9; clear BK167; clear HB; have HO_9 := n0_; have BK167 := n1_; have HB := n2_; have BK173 := n3_; have GW173 := n4_; have GE173 := n5_; have NB167_173 := n6_; have NB173_167 := n7_; clear n0_ n1_ n2_ n3_ n4_ n5_ n6_ n7_; clear hb hbox hg; have hnb53 := NB173_167.out; have hnc53 := NB167_173.out; have hcz54_0 : w52.cell? ⟨gb173, 0, none⟩ = some (.int .i64 0) := ck BK173 0; have hcz54_1 : w52.cell? ⟨gb173, 1, none⟩ = some (.int .i64 0) := ck BK173 1; have hcz54_2 : w52.cell? ⟨gb173, 2, none⟩ = some (.int .i64 0) := ck BK173 2; have hcz54_3 : w52.cell? ⟨gb173, 3, none⟩ = some (.string (⟨#[]⟩ : ByteArray)) := ck BK173 3; have hcz54_4 : w52.cell? ⟨gb173, 4, none⟩ = some (.int .i64 0) := ck BK173 4; have hfz54_0 := blk_frozen BK173.out 0; have hfz54_1 := blk_frozen BK173.out 1; have hfz54_2 := blk_frozen BK173.out 2; have hfz54_3 := blk_frozen BK173.out 3; have hfz54_4 := blk_frozen BK173.out 4) | ((with_reducible refine gate_callee (f := 29) rfl ?_); refine goesL_ (some 35) rfl rfl Try.func29 (by kernel_rfl) rfl #[.agg #[.int .i64 ((rd_T45 l1 x30_3).f0), .int .i64 ((rd_T45 l1 x30_3).f1), .int .i64 ((rd_T45 l1 x30_3).f2), .string ((rd_T45 l1 x30_3).f3), .int .i64 ((rd_T45 l1 x30_3).f4)]] rfl (by (try simp only [List.map_toArray, List.map_cons, List.map_nil]); first | done | rfl | (simp only [List.length_drop, List.length_take]; rfl)) ?_; (with_reducible refine (stuff_check.calls kj14 ((rd_T45 l1 x30_3).f0) ((rd_T45 l1 x30_3).f1) ((rd_T45 l1 x30_3).f2) ((rd_T45 l1 x30_3).f3) ((rd_T45 l1 x30_3).f4) t174 _ A19.out).mono ?_); rintro e w55 ⟨rfl, hb⟩; refine ⟨_, rfl, ?_⟩; have n0_ := Aside0.mk (Kd.R_below (by (with_reducible repeat (first | apply Kd.R_alloc | apply Kd.R_drewN | apply Kd.R_drew)); exact (Kd.R_mono (Kd.R_far (p := ⟨gb173, 4, none⟩) (Kd.R_far (p := ⟨gb173, 3, none⟩) (Kd.R_far (p := ⟨gb173, 2, none⟩) (Kd.R_far (p := ⟨gb173, 1, none⟩) (Kd.R_far (p := ⟨gb173, 0, none⟩) (Kd.R_mono HO_9.out (fun k_ hk => (⟨hk, hk.2⟩ : _ ∧ k_ ≠ gb173))) (fun _ hk => hk.2) (.int .i64 ((rd_T45 l1 x30_3).f0))) (fun _ hk => hk.2) (.int .i64 ((rd_T45 l1 x30_3).f1))) (fun _ hk => hk.2) (.int .i64 ((rd_T45 l1 x30_3).f2))) (fun _ hk => hk.2) (.string ((rd_T45 l1 x30_3).f3))) (fun _ hk => hk.2) (.int .i64 ((rd_T45 l1 x30_3).f4))) (fun _ h_ => h_.1))) hb); have n1_ := Aside0.mk (blk_below (g := gb167) (o := .cells #[.int .i64 a0_0, .bool a0_1] 23 (0, 0)) (by (repeat (with_reducible first | refine blk_far ?_ NB167_173.out _ | refine blk_drewN ?_ _ | refine blk_drew ?_ | refine blk_alloc ?_ _)); exact BK167.out) hb); have n2_ := Aside0.mk (blk_below (g := gb173) (o := .cells #[.int .i64 ((rd_T45 l1 x30_3).f0), .int .i64 ((rd_T45 l1 x30_3).f1), .int .i64 ((rd_T45 l1 x30_3).f2), .string ((rd_T45 l1 x30_3).f3), .int .i64 ((rd_T45 l1 x30_3).f4)] 45 (0, 0)) (by (with_reducible repeat (first | refine blk_drewN ?_ _ | refine blk_drew ?_ | refine blk_alloc ?_ _)); refine blk_put (cs := #[.int .i64 ((rd_T45 l1 x30_3).f0), .int .i64 ((rd_T45 l1 x30_3).f1), .int .i64 ((rd_T45 l1 x30_3).f2), .string ((rd_T45 l1 x30_3).f3), .int .i64 0]) ?_ 4 _ rfl; (with_reducible repeat (first | refine blk_drewN ?_ _ | refine blk_drew ?_ | refine blk_alloc ?_ _)); refine blk_put (cs := #[.int .i64 ((rd_T45 l1 x30_3).f0), .int .i64 ((rd_T45 l1 x30_3).f1), .int .i64 ((rd_T45 l1 x30_3).f2), .string (⟨#[]⟩ : ByteArray), .int .i64 0]) ?_ 3 _ rfl; (with_reducible repeat (first | refine blk_drewN ?_ _ | refine blk_drew ?_ | refine blk_alloc ?_ _)); refine blk_put (cs := #[.int .i64 ((rd_T45 l1 x30_3).f0), .int .i64 ((rd_T45 l1 x30_3).f1), .int .i64 0, .string (⟨#[]⟩ : ByteArray), .int .i64 0]) ?_ 2 _ rfl; (with_reducible repeat (first | refine blk_drewN ?_ _ | refine blk_drew ?_ | refine blk_alloc ?_ _)); refine blk_put (cs := #[.int .i64 ((rd_T45 l1 x30_3).f0), .int .i64 0, .int .i64 0, .string (⟨#[]⟩ : ByteArray), .int .i64 0]) ?_ 1 _ rfl; (with_reducible repeat (first | refine blk_drewN ?_ _ | refine blk_drew ?_ | refine blk_alloc ?_ _)); refine blk_put (cs := #[.int .i64 0, .int .i64 0, .int .i64 0, .string (⟨#[]⟩ : ByteArray), .int .i64 0]) ?_ 0 _ rfl; (with_reducible repeat (first | refine blk_drewN ?_ _ | refine blk_drew ?_ | refine blk_alloc ?_ _)); exact BK173.out) hb); have n3_ := Aside0.mk (below_step (hbw HB.out) hb); clear HO_9; clear BK167; clear BK173; clear HB; have HO_9 := n0_; have BK167 := n1_; have BK173 := n2_; have HB := n3_; clear n0_ n1_ n2_ n3_; (try clear hb); (try clear hb2); (try clear hk); (try clear hi)))
              go_ret2
              exact ⟨_, by first | rfl | (simp [errW_none, errW_some] <;> rfl) | (simp [*, errW_none, errW_some] <;> rfl), by first | exact Kd.R_nil _ _ _ _ _ | exact Kd.N_nil _ _ _ _ _ | exact Kd.V_nil _ _ _ _ _ | exact Kd.Q_nil _ _ _ _ _ | exact Kd.S_nil _ _ _ _ _, by repeat (first | (with_reducible first | exact HB.out | apply below_alloc | apply pw_below_drewN | apply below_drew1 | refine below_set ?_ GE167.out | refine below_set ?_ GE173.out) | exact HB.out)⟩
            ·rw [if_neg c18] at H
             exact absurd H (by simp)
           ·rw [if_neg c17] at H
            exact absurd H (by simp)
      ·rw [if_neg c12] at H
       exact absurd H (by simp)
     ·rw [if_neg c11] at H
      exact absurd H (by simp)

end Go.Proofs.Ytpgeomgaphodkaa.PStuffDecodes
