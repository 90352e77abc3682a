/- The law StuffEncodes holds as a statement on numbers and lists: the sender makes of any items what the reference makes, or tells the same error. No condition beyond those of the statement. -/
import Derived.Test.YtpgeomgaphodkaaPStuffEncodesx12
import Derived.Test.YtpgeomgaphodkaaSpecBytes
namespace Go.Proofs.Ytpgeomgaphodkaa.Pure
open Go.RowKit Go.Proofs.Ytpgeomgaphodkaa.PStuffEncodes Go.Proofs.YtpgeomgaphodkaaW.PrintWords Go.Proofs.YtpgeomgaphodkaaW.PrintLast Go.Proofs.Ytpgeomgaphodkaa.Aid
set_option linter.unusedVariables false
set_option linter.unusedSimpArgs false
namespace StuffEncodes_
theorem ev_bits_Valid_l0 (s : ByteArray) (hs : s.size ≤ 65536) : ∀ (d i : Nat), i + d = s.size → Ev (fun k => bits_Valid.l0 k s (s.size : Int) (i : Int)) (((bytesOf s).drop i).all isB) := by
  intro d
  induction d with
  | zero =>
    intro i h
    refine Ev.stop fun k => ?_
    simp only [bits_Valid.l0]
    rw [if_neg (by omega), drop_end s i (by omega)]; rfl
  | succ d ih =>
    intro i h
    have e : wrap64 ((i : Int) + 1) = ((i + 1 : Nat) : Int) := by rw [w64 (by omega) (by omega)]; rfl
    rw [drop_cons s i (by omega), List.all_cons]
    by_cases h48 : bt s i = 48
    · have e2 : isB (bt s i) = true := isB_iff.mpr (.inl h48)
      rw [e2, Bool.true_and]
      refine Ev.step (fun k => ?_) (ih (i + 1) (by omega))
      simp only [bits_Valid.l0]
      rw [if_pos (by omega), if_pos (by omega), if_pos (by omega), if_pos h48, e]
    · by_cases h49 : bt s i = 49
      · have e2 : isB (bt s i) = true := isB_iff.mpr (.inr h49)
        rw [e2, Bool.true_and]
        refine Ev.step (fun k => ?_) (ih (i + 1) (by omega))
        simp only [bits_Valid.l0]
        rw [if_pos (by omega), if_pos (by omega), if_pos (by omega), if_neg h48, if_pos h49, e]
      · have e2 : isB (bt s i) = false := by simp [isB, h48, h49]
        rw [e2, Bool.false_and]
        refine Ev.stop fun k => ?_
        simp only [bits_Valid.l0]
        rw [if_pos (by omega), if_pos (by omega), if_pos (by omega), if_neg h48, if_neg h49]
theorem ev_bits_Valid (s : ByteArray) : Ev (fun k => bits_Valid.f k s) (vB s) := by
  unfold bits_Valid.f vB
  by_cases h : s.size ≤ 65536
  · rw [decide_eq_true h, Bool.true_and]
    refine Ev.congr (fun k => by rw [if_neg (by omega)]) ?_
    exact Ev.step (fun k => by simp only [bits_Valid.j0]; rfl) (ev_bits_Valid_l0 s h s.size 0 (by omega))
  · rw [decide_eq_false h, Bool.false_and]
    refine Ev.now' fun k => ?_
    rw [if_pos (by omega)]
theorem ev_ref_Valid_l0 (s : ByteArray) (hs : s.size ≤ 65536) : ∀ (d i : Nat), i + d = s.size → Ev (fun k => signalbenchref03_Valid.l0 k s (i : Int)) (((bytesOf s).drop i).all isB) := by
  intro d
  induction d with
  | zero =>
    intro i h
    refine Ev.stop fun k => ?_
    simp only [signalbenchref03_Valid.l0]
    rw [if_neg (by omega), drop_end s i (by omega)]; rfl
  | succ d ih =>
    intro i h
    have e : wrap64 ((i : Int) + 1) = ((i + 1 : Nat) : Int) := by rw [w64 (by omega) (by omega)]; rfl
    rw [drop_cons s i (by omega), List.all_cons]
    by_cases h48 : bt s i = 48
    · have e2 : isB (bt s i) = true := isB_iff.mpr (.inl h48)
      rw [e2, Bool.true_and]
      refine Ev.step (fun k => ?_) (ih (i + 1) (by omega))
      simp only [signalbenchref03_Valid.l0]
      rw [if_pos (by omega), if_pos (by omega), if_pos h48, e]
    · by_cases h49 : bt s i = 49
      · have e2 : isB (bt s i) = true := isB_iff.mpr (.inr h49)
        rw [e2, Bool.true_and]
        refine Ev.step (fun k => ?_) (ih (i + 1) (by omega))
        simp only [signalbenchref03_Valid.l0]
        rw [if_pos (by omega), if_pos (by omega), if_neg h48, if_pos h49, e]
      · have e2 : isB (bt s i) = false := by simp [isB, h48, h49]
        rw [e2, Bool.false_and]
        refine Ev.stop fun k => ?_
        simp only [signalbenchref03_Valid.l0]
        rw [if_pos (by omega), if_pos (by omega), if_neg h48, if_neg h49]
theorem ev_ref_Valid (s : ByteArray) : Ev (fun k => signalbenchref03_Valid.f k s) (vB s) := by
  unfold signalbenchref03_Valid.f vB
  by_cases h : s.size ≤ 65536
  · rw [decide_eq_true h, Bool.true_and]
    refine Ev.neg (by omega) ?_
    refine Ev.step (fun k => signalbenchref03_Valid.j0.eq_2 ..) ?_
    exact ev_ref_Valid_l0 s h s.size 0 (by omega)
  · rw [decide_eq_false h, Bool.false_and]
    refine Ev.now' fun k => ?_
    rw [if_pos (by omega)]
theorem rdI_mid (pre : List S45) (x : S45) (post : List S45) (i : Nat) (h : i = pre.length) : rd_T45 (pre ++ x :: post) (i : Int) = x := by
  subst h; simp [rd_T45]
theorem rdE_mid (pre : List S33) (x : S33) (post : List S33) (i : Nat) (h : i = pre.length) : rd_T33 (pre ++ x :: post) (i : Int) = x := by
  subst h; simp [rd_T33]
/-- The counter behind a bit. -/
def cntS (o : Bool) (n v b : Int) : Int × Int := if o = true then (if b = 0 then (0, 0) else (n + 1, b)) else if n > 0 ∧ b = v then (n + 1, b) else (1, b)
theorem cntS_rng (o : Bool) {n v b R : Int} (h0 : 0 ≤ n) (h1 : n < R) (hR : 2 ≤ R) (hb : b = 0 ∨ b = 1) : 0 ≤ (cntS o n v b).1 ∧ (cntS o n v b).1 ≤ R ∧ ((cntS o n v b).2 = 0 ∨ (cntS o n v b).2 = 1) := by
  unfold cntS
  repeat' split
  all_goals (refine ⟨?_, ?_, ?_⟩ <;> dsimp only <;> first | omega | simp)
theorem cntS_new (o : Bool) {v b R : Int} (hR : 2 ≤ R) (hb : b = 0 ∨ b = 1) : 0 ≤ (cntS o 0 v b).1 ∧ (cntS o 0 v b).1 < R ∧ ((cntS o 0 v b).2 = 0 ∨ (cntS o 0 v b).2 = 1) := by
  unfold cntS
  repeat' split
  all_goals (refine ⟨?_, ?_, ?_⟩ <;> dsimp only <;> first | omega | simp)
theorem ev_count (R : Int) (o : Bool) (n v b : Int) (h0 : 0 ≤ n) (h1 : n < 100) (hb : b = 0 ∨ b = 1) : Ev (fun k => stuff_count.f k R o n v b) (cntS o n v b) := by
  refine ⟨2, fun k hk => ?_⟩
  obtain ⟨m, rfl⟩ : ∃ m, k = m + 1 := ⟨k - 1, by omega⟩
  simp only [stuff_count.f, stuff_count.j0, cntS, w64 (x := n + 1) (by omega) (by omega)]
  cases o
  · simp only [Bool.false_eq_true, ↓reduceIte]
    repeat' split
    all_goals first | rfl | (exfalso; omega)
  · simp only [↓reduceIte]
    repeat' split
    all_goals first | rfl | (exfalso; simp_all; done) | (exfalso; simp_all; omega)
def consS (p : List Int) (r : List Int × Int × Int × Bool) : List Int × Int × Int × Bool := (p ++ r.1, r.2)
/-- What is sent for the bits of an item: the bits, the counter behind them, whether one was made faulty. -/
def fillS (R : Int) (o f : Bool) : List Int → Int → Int → Bool → List Int × Int × Int × Bool
  | [], n, v, d => ([], n, v, d)
  | b :: l, n, v, d =>
    if (cntS o n v (b - 48)).1 = R then
      (if f = true ∧ d = false then consS [b, 48 + (cntS o n v (b - 48)).2] (fillS R o f l 0 (cntS o n v (b - 48)).2 true)
      else consS [b, 49 - (cntS o n v (b - 48)).2] (fillS R o f l (cntS o 0 (cntS o n v (b - 48)).2 (1 - (cntS o n v (b - 48)).2)).1 (cntS o 0 (cntS o n v (b - 48)).2 (1 - (cntS o n v (b - 48)).2)).2 d))
    else consS [b] (fillS R o f l (cntS o n v (b - 48)).1 (cntS o n v (b - 48)).2 d)
theorem fillS_len (R : Int) (o f : Bool) : ∀ (l : List Int) (n v : Int) (d : Bool), (fillS R o f l n v d).1.length ≤ 2 * l.length
  | [], _, _, _ => by simp [fillS]
  | b :: l, n, v, d => by
    unfold fillS consS
    split
    · split <;> (simp only [List.length_append, List.length_cons, List.length_nil]; refine Nat.le_trans (Nat.add_le_add_left (fillS_len R o f l _ _ _) _) (by omega))
    · simp only [List.length_append, List.length_cons, List.length_nil]; refine Nat.le_trans (Nat.add_le_add_left (fillS_len R o f l _ _ _) _) (by omega)
theorem fillS_bits (R : Int) (o f : Bool) (hR : 2 ≤ R) : ∀ (l : List Int) (n v : Int) (d : Bool), AllB l → 0 ≤ n → n < R → AllB (fillS R o f l n v d).1
  | [], _, _, _, _, _, _ => AllB.nil
  | b :: l, n, v, d, h, h0, h1 => by
    obtain ⟨hb, h⟩ := AllB.cons_iff.mp h
    have hc := cntS_rng o (n := n) (v := v) (b := b - 48) (R := R) h0 h1 hR (by omega)
    have hn := cntS_new o (v := (cntS o n v (b - 48)).2) (b := 1 - (cntS o n v (b - 48)).2) (R := R) hR (by omega)
    unfold fillS consS
    split
    · split
      · exact AllB.append_iff.mpr ⟨AllB.cons_iff.mpr ⟨hb, AllB.cons_iff.mpr ⟨by omega, AllB.nil⟩⟩, fillS_bits R o f hR l _ _ _ h (by omega) (by omega)⟩
      · exact AllB.append_iff.mpr ⟨AllB.cons_iff.mpr ⟨hb, AllB.cons_iff.mpr ⟨by omega, AllB.nil⟩⟩, fillS_bits R o f hR l _ _ _ h hn.1 hn.2.1⟩
    · exact AllB.append_iff.mpr ⟨AllB.cons_iff.mpr ⟨hb, AllB.nil⟩, fillS_bits R o f hR l _ _ _ h hc.1 (by omega)⟩
/-- The counter behind an item. -/
theorem fillS_rng (R : Int) (o f : Bool) (hR : 2 ≤ R) : ∀ (l : List Int) (n v : Int) (d : Bool), AllB l → 0 ≤ n → n < R → (v = 0 ∨ v = 1) → 0 ≤ (fillS R o f l n v d).2.1 ∧ (fillS R o f l n v d).2.1 < R ∧ ((fillS R o f l n v d).2.2.1 = 0 ∨ (fillS R o f l n v d).2.2.1 = 1)
  | [], _, _, _, _, h0, h1, hv => ⟨h0, h1, hv⟩
  | b :: l, n, v, d, h, h0, h1, hv => by
    obtain ⟨hb, h⟩ := AllB.cons_iff.mp h
    have hc := cntS_rng o (n := n) (v := v) (b := b - 48) (R := R) h0 h1 hR (by omega)
    have hn := cntS_new o (v := (cntS o n v (b - 48)).2) (b := 1 - (cntS o n v (b - 48)).2) (R := R) hR (by omega)
    unfold fillS consS
    split
    · split
      · exact fillS_rng R o f hR l _ _ _ h (by omega) (by omega) hc.2.2
      · exact fillS_rng R o f hR l _ _ _ h hn.1 hn.2.1 hn.2.2
    · exact fillS_rng R o f hR l _ _ _ h hc.1 (by omega) hc.2.2
theorem ev_fill_l0 (R : Int) (o f : Bool) (s : ByteArray) (hR : 2 ≤ R) (hR2 : R ≤ 16) (hs : s.size ≤ 4096) : ∀ (l pre : List Int) (n v : Int) (d : Bool) (out : List Int) (i : Nat), bytesOf s = pre ++ l → i = pre.length → AllB l → 0 ≤ n → n < R → (v = 0 ∨ v = 1) → out.length ≤ 2 * i →
    Ev (fun k => stuff_fill.l0 k R o s n v f out d (i : Int)) (out ++ (fillS R o f l n v d).1, (fillS R o f l n v d).2.1, (fillS R o f l n v d).2.2.1, (fillS R o f l n v d).2.2.2) := by
  have hlen := len_bytes s
  intro l
  induction l with
  | nil =>
    intro pre n v d out i he hi hb h0 h1 hv ho
    rw [List.append_nil] at he
    rw [he] at hlen
    refine Ev.step (fun k => stuff_fill.l0.eq_2 ..) ?_
    rw [fillS, List.append_nil]
    exact Ev.neg (by omega) (Ev.neg (by omega) (Ev.now _))
  | cons b l ih =>
    intro pre n v d out i he hi hb h0 h1 hv ho
    obtain ⟨hb1, hb⟩ := AllB.cons_iff.mp hb
    have hl : s.size = i + (l.length + 1) := by rw [← hlen, he, hi, List.length_append, List.length_cons]
    have hbt : bt s (i : Int) = b := by rw [bt_get s i (by omega)]; simp [he, hi]
    have hc := cntS_rng o (n := n) (v := v) (b := b - 48) (R := R) h0 h1 hR (by omega)
    have hn := cntS_new o (v := (cntS o n v (b - 48)).2) (b := 1 - (cntS o n v (b - 48)).2) (R := R) hR (by omega)
    have hcnt := ev_count R o n v (b - 48) h0 (by omega) (by omega)
    have hnew := ev_count R o 0 (cntS o n v (b - 48)).2 (1 - (cntS o n v (b - 48)).2) (by omega) (by omega) (by omega)
    have ih2 := fun n' v' d' out' => ih (pre ++ [b]) n' v' d' out' (i + 1) (by rw [he]; simp) (by simp [hi]) hb
    clear ih he
    refine Ev.step (fun k => stuff_fill.l0.eq_2 ..) ?_
    rw [hbt, wnat (by omega), show (b - 48) % 256 = b - 48 by omega]
    refine Ev.neg (by omega) (Ev.pos (by omega) (Ev.pos (by omega) (Ev.pos (by omega) (Ev.bind hcnt ?_))))
    rw [fillS]
    generalize hce : cntS o n v (b - 48) = c at *
    obtain ⟨n1, v1⟩ := c
    simp only [] at hc hn hnew ⊢
    have ew : wrap64 (1 - v1) = 1 - v1 := w64 (by omega) (by omega)
    have e1 : (48 + (1 - v1)) % 256 = 49 - v1 := by omega
    have e2 : (48 + v1) % 256 = 48 + v1 := by omega
    by_cases hn1 : n1 = R
    · rw [if_pos hn1]
      have hins : Ev (fun k => (stuff_count.f k R o 0 v1 (wrap64 (1 - v1))).bind fun bt => stuff_fill.l0 k R o s bt.1 bt.2 f (out ++ [b] ++ [(48 + wrap64 (1 - v1)) % 256]) d ((i + 1 : Nat) : Int)) (out ++ (consS [b, 49 - v1] (fillS R o f l (cntS o 0 v1 (1 - v1)).1 (cntS o 0 v1 (1 - v1)).2 d)).1, (consS [b, 49 - v1] (fillS R o f l (cntS o 0 v1 (1 - v1)).1 (cntS o 0 v1 (1 - v1)).2 d)).2.1, (consS [b, 49 - v1] (fillS R o f l (cntS o 0 v1 (1 - v1)).1 (cntS o 0 v1 (1 - v1)).2 d)).2.2.1, (consS [b, 49 - v1] (fillS R o f l (cntS o 0 v1 (1 - v1)).1 (cntS o 0 v1 (1 - v1)).2 d)).2.2.2) := by
        rw [ew, e1]
        refine Ev.bind hnew ?_
        have := ih2 (cntS o 0 v1 (1 - v1)).1 (cntS o 0 v1 (1 - v1)).2 d (out ++ [b] ++ [49 - v1]) hn.1 hn.2.1 hn.2.2 (by simp only [List.length_append, List.length_cons, List.length_nil]; omega)
        simpa [consS] using this
      have hsz : (out ++ [b]).length < 140737488355328 := by simp only [List.length_append, List.length_cons, List.length_nil]; omega
      refine Ev.step (fun k => stuff_fill.l0.eq_2 ..) ?_
      refine Ev.pos hn1 ?_
      cases f
      · rw [if_neg (by simp)]
        exact Ev.neg (by decide) (Ev.pos hsz hins)
      · refine Ev.pos rfl ?_
        cases d
        · rw [if_pos ⟨rfl, rfl⟩, e2]
          refine Ev.neg (by decide) (Ev.pos hsz ?_)
          have := ih2 0 v1 true (out ++ [b] ++ [48 + v1]) (by omega) (by omega) hc.2.2 (by simp only [List.length_append, List.length_cons, List.length_nil]; omega)
          simpa [consS] using this
        · rw [if_neg (by simp)]
          exact Ev.pos rfl (Ev.pos hsz hins)
    · rw [if_neg hn1]
      have := ih2 n1 v1 d (out ++ [b]) hc.1 (by omega) hc.2.2 (by simp only [List.length_append, List.length_cons, List.length_nil]; omega)
      simpa [consS] using this
theorem ev_fill (R : Int) (o f : Bool) (s : ByteArray) (hR : 2 ≤ R) (hR2 : R ≤ 16) (hs : s.size ≤ 4096) (n v : Int) (hb : AllB (bytesOf s)) (h0 : 0 ≤ n) (h1 : n < R) (hv : v = 0 ∨ v = 1) :
    Ev (fun k => stuff_fill.f k R o s n v f) (fillS R o f (bytesOf s) n v false) := by
  have := ev_fill_l0 R o f s hR hR2 hs (bytesOf s) [] n v false [] 0 rfl rfl hb h0 h1 hv (by simp)
  rw [List.nil_append] at this
  exact this
def chkS (R : Int) : Int := if R < 2 ∨ R > 16 then 2 else 0
theorem ev_stuff_Check (R : Int) (o : Bool) : Ev (fun k => stuff_Check.f R o) (chkS R) := by
  refine Ev.now' fun _ => ?_
  unfold stuff_Check.f chkS
  repeat' split
  all_goals first | rfl | omega
theorem chkS_ok {R : Int} (h : chkS R = 0) : 2 ≤ R ∧ R ≤ 16 := by unfold chkS at h; split at h <;> omega
def itS (x : S45) : Int := if x.f0 < 0 ∨ x.f0 > 1048576 then 1 else if x.f3.size > 4096 then 6 else if vB x.f3 = true then (if x.f4 = 0 ∨ x.f4 = 4 then 0 else 1) else 4
theorem itS_ok {x : S45} (h : itS x = 0) : 0 ≤ x.f0 ∧ x.f0 ≤ 1048576 ∧ x.f3.size ≤ 4096 ∧ AllB (bytesOf x.f3) ∧ (x.f4 = 0 ∨ x.f4 = 4) := by
  unfold itS at h
  split at h
  · omega
  · split at h
    · omega
    · split at h
      · rename_i hv
        split at h
        · rename_i h1 h2 h4; exact ⟨by omega, by omega, by omega, (vB_iff.mp hv).2, h4⟩
        · omega
      · omega
theorem ev_stuff_check (x : S45) : Ev (fun k => stuff_check.f k x.f0 x.f1 x.f2 x.f3 x.f4) (itS x) := by
  have hyes : itS x = 1 → Ev (fun k => stuff_check.j0 k true x.f0 x.f1 x.f2 x.f3 x.f4) (itS x) := by
    intro h
    rw [h]
    refine Ev.step (fun k => stuff_check.j0.eq_2 ..) ?_
    exact Ev.pos rfl (Ev.now _)
  unfold stuff_check.f
  refine Ev.ite (fun h0 => hyes (by unfold itS; rw [if_pos (.inl h0)])) (fun h0 => ?_)
  by_cases h1 : x.f0 > 1048576
  · rw [decide_eq_true h1]; exact hyes (by unfold itS; rw [if_pos (.inr h1)])
  rw [decide_eq_false h1]
  have hor : ¬ (x.f0 < 0 ∨ x.f0 > 1048576) := by omega
  clear hyes
  refine Ev.step (fun k => stuff_check.j0.eq_2 ..) ?_
  refine Ev.neg (by decide) ?_
  by_cases h2 : x.f3.size > 4096
  · rw [show itS x = 6 by unfold itS; rw [if_neg hor, if_pos h2]]
    exact Ev.pos (by omega) (Ev.now _)
  unfold itS
  rw [if_neg hor, if_neg h2]
  refine Ev.neg (by omega) (Ev.bind (ev_bits_Valid x.f3) (Ev.ite (fun hv => ?_) (fun hv => ?_)))
  · rw [if_pos hv]
    refine Ev.now' fun _ => ?_
    repeat' split
    all_goals first | rfl | omega
  · rw [if_neg hv]; exact Ev.now _
/-- What is sent for an item, behind a counter. -/
def itemS (R : Int) (o : Bool) (n v : Int) (x : S45) : List Int × Int × Int × Bool := fillS R o (x.f4 == 4) (bytesOf x.f3) n v false
def errS (R : Int) (o : Bool) : Int → Int → List S45 → Int
  | _, _, [] => 0
  | n, v, x :: l => if itS x = 0 then (if x.f4 = 4 ∧ (itemS R o n v x).2.2.2 = false then 17 else if (itemS R o n v x).1.length > 4096 then 6 else if x.f1 = 0 ∧ x.f2 = 0 then errS R o (itemS R o n v x).2.1 (itemS R o n v x).2.2.1 l else 1) else itS x
def outS (R : Int) (o : Bool) : Int → Int → List S45 → List S45
  | _, _, [] => []
  | n, v, x :: l => ⟨x.f0, 0, 0, strOfNums (itemS R o n v x).1, 0⟩ :: outS R o (itemS R o n v x).2.1 (itemS R o n v x).2.2.1 l
theorem outS_len (R : Int) (o : Bool) : ∀ (l : List S45) (n v : Int), (outS R o n v l).length = l.length
  | [], _, _ => rfl
  | x :: l, n, v => by simp [outS, outS_len R o l]
theorem errS_ok {R : Int} {o : Bool} {n v : Int} {x : S45} {l : List S45} (h : errS R o n v (x :: l) = 0) : itS x = 0 ∧ ¬ (x.f4 = 4 ∧ (itemS R o n v x).2.2.2 = false) ∧ (itemS R o n v x).1.length ≤ 4096 ∧ errS R o (itemS R o n v x).2.1 (itemS R o n v x).2.2.1 l = 0 := by
  unfold errS at h
  split at h
  · rename_i h0
    split at h
    · omega
    · split at h
      · omega
      · split at h
        · rename_i h1 h2 h3; exact ⟨h0, h1, by omega, h⟩
        · omega
  · omega
def encodeS (R : Int) (o : Bool) (l : List S45) : List S45 × Int := if chkS R = 0 then (if l.length > 1024 then ([], 6) else if errS R o 0 0 l = 0 then (outS R o 0 0 l, 0) else ([], errS R o 0 0 l)) else ([], chkS R)
theorem encodeS_len (R : Int) (o : Bool) (l : List S45) : (encodeS R o l).1.length ≤ 1024 := by
  unfold encodeS
  split
  · split
    · simp
    · split
      · simp only [outS_len]; omega
      · simp
  · simp
theorem ev_stuff_Encode (R : Int) (o : Bool) (l : List S45) : Ev (fun k => stuff_Encode.f k R o l) (encodeS R o l) := by
  unfold stuff_Encode.f encodeS
  refine Ev.bind (ev_stuff_Check R o) (Ev.ite (fun hc => ?_) (fun hc => ?_))
  case refine_2 => rw [if_neg hc]; exact Ev.now _
  rw [if_pos hc]
  obtain ⟨hR, hR2⟩ := chkS_ok hc
  refine Ev.step (fun k => stuff_Encode.j0.eq_2 ..) ?_
  refine Ev.ite (fun hl => ?_) (fun hl => ?_)
  · rw [if_pos (by omega)]; exact Ev.now _
  rw [if_neg (by omega)]
  refine Ev.step (fun k => stuff_Encode.j1.eq_2 ..) ?_
  refine Ev.pos (by omega) (Ev.pos (by omega) ?_)
  have key : ∀ (q pre out : List S45) (n v : Int) (i : Nat), l = pre ++ q → i = pre.length → out.length = i → 0 ≤ n → n < R → (v = 0 ∨ v = 1) → Ev (fun k => stuff_Encode.l0 k n v out l (l.length : Int) (i : Int) R o) (if errS R o n v q = 0 then (out ++ outS R o n v q, 0) else ([], errS R o n v q)) := by
    intro q
    induction q with
    | nil =>
      intro pre out n v i he hi ho h0 h1 hv
      rw [List.append_nil] at he
      have hi' : i = l.length := by rw [hi, he]
      clear he
      refine Ev.step (fun k => stuff_Encode.l0.eq_2 ..) ?_
      rw [if_pos (show errS R o n v [] = 0 from rfl), outS, List.append_nil]
      exact Ev.neg (by omega) (Ev.now _)
    | cons x q ih =>
      intro pre out n v i he hi ho h0 h1 hv
      have hlen : l.length = i + (q.length + 1) := by rw [he, hi, List.length_append, List.length_cons]
      have hx : rd_T45 l (i : Int) = x := by rw [he]; exact rdI_mid pre x q i hi
      have ih2 := fun n' v' out' ho' => ih (pre ++ [x]) out' n' v' (i + 1) (by rw [he]; simp) (by simp [hi]) ho'
      clear ih he
      refine Ev.step (fun k => stuff_Encode.l0.eq_2 ..) ?_
      refine Ev.pos (by omega) ?_
      refine Ev.step (fun k => stuff_Encode.j3.eq_2 ..) ?_
      rw [hx]
      refine Ev.pos (by omega) (Ev.pos (by omega) (Ev.bind (ev_stuff_check x) (Ev.ite (fun hx0 => ?_) (fun hx0 => ?_))))
      case refine_2 =>
        have e : errS R o n v (x :: q) = itS x := by rw [errS, if_neg hx0]
        rw [e, if_neg hx0]
        exact Ev.now _
      obtain ⟨_, _, hxs, hxb, hx4⟩ := itS_ok hx0
      refine Ev.bind (ev_fill R o (x.f4 == 4) x.f3 hR hR2 hxs n v hxb h0 h1 hv) ?_
      have hr := fillS_rng R o (x.f4 == 4) hR (bytesOf x.f3) n v false hxb h0 h1 hv
      have hE : errS R o n v (x :: q) = (if x.f4 = 4 ∧ (itemS R o n v x).2.2.2 = false then 17 else if (itemS R o n v x).1.length > 4096 then 6 else if x.f1 = 0 ∧ x.f2 = 0 then errS R o (itemS R o n v x).2.1 (itemS R o n v x).2.2.1 q else 1) := by rw [errS, if_pos hx0]
      rw [hE, outS]
      change Ev (fun k => if x.f4 = 4 then stuff_Encode.j4 k out (itemS R o n v x).1 (itemS R o n v x).2.1 (itemS R o n v x).2.2.1 l (l.length : Int) (i : Int) (!(itemS R o n v x).2.2.2) R o x.f0 x.f1 x.f2 x.f3 x.f4 else stuff_Encode.j4 k out (itemS R o n v x).1 (itemS R o n v x).2.1 (itemS R o n v x).2.2.1 l (l.length : Int) (i : Int) false R o x.f0 x.f1 x.f2 x.f3 x.f4) _
      change 0 ≤ (itemS R o n v x).2.1 ∧ (itemS R o n v x).2.1 < R ∧ ((itemS R o n v x).2.2.1 = 0 ∨ (itemS R o n v x).2.2.1 = 1) at hr
      generalize itemS R o n v x = r at *
      obtain ⟨b, n', v', d'⟩ := r
      simp only [] at hr ⊢
      have hgo : Ev (fun k => stuff_Encode.j4 k out b n' v' l (l.length : Int) (i : Int) false R o x.f0 x.f1 x.f2 x.f3 x.f4) (if (if b.length > 4096 then 6 else if x.f1 = 0 ∧ x.f2 = 0 then errS R o n' v' q else 1) = 0 then (out ++ ⟨x.f0, 0, 0, strOfNums b, 0⟩ :: outS R o n' v' q, 0) else ([], if b.length > 4096 then 6 else if x.f1 = 0 ∧ x.f2 = 0 then errS R o n' v' q else 1)) := by
        refine Ev.step (fun k => stuff_Encode.j4.eq_2 ..) ?_
        rw [wnat (by omega)]
        refine Ev.neg (by decide) (Ev.ite (fun hbl => ?_) (fun hbl => ?_))
        · rw [if_pos (show b.length > 4096 by omega), if_neg (by omega)]; exact Ev.now _
        · rw [if_neg (show ¬ b.length > 4096 by omega)]
          refine Ev.ite (fun h5 => Ev.ite (fun h6 => ?_) (fun h6 => ?_)) (fun h5 => ?_)
          · rw [if_pos (show x.f1 = 0 ∧ x.f2 = 0 from ⟨h5, h6⟩)]
            refine Ev.pos (by omega) ?_
            have := ih2 n' v' (out ++ [⟨x.f0, 0, 0, strOfNums b, 0⟩]) (by simp [ho]) hr.1 hr.2.1 hr.2.2
            rw [List.append_assoc] at this
            exact this
          · rw [if_neg (show ¬ (x.f1 = 0 ∧ x.f2 = 0) from fun h => h6 h.2), if_neg (by omega)]; exact Ev.now _
          · rw [if_neg (show ¬ (x.f1 = 0 ∧ x.f2 = 0) from fun h => h5 h.1), if_neg (by omega)]; exact Ev.now _
      refine Ev.ite (fun h4 => ?_) (fun h4 => ?_)
      · cases d'
        · rw [if_pos (show x.f4 = 4 ∧ false = false from ⟨h4, rfl⟩), if_neg (by omega)]
          refine Ev.step (fun k => stuff_Encode.j4.eq_2 ..) ?_
          exact Ev.pos rfl (Ev.now _)
        · rw [if_neg (show ¬ (x.f4 = 4 ∧ true = false) from fun h => by simp at h)]
          exact hgo
      · rw [if_neg (show ¬ (x.f4 = 4 ∧ d' = false) from fun h => h4 h.1)]
        exact hgo
  have := key l [] [] 0 0 0 rfl rfl rfl (by omega) (by omega) (.inl rfl)
  rw [List.nil_append] at this
  exact this
theorem ev_ref_Check (R : Int) (o : Bool) : Ev (fun k => signalbenchref19_Check.f R o) (chkS R) := by
  refine Ev.now' fun _ => ?_
  unfold signalbenchref19_Check.f chkS
  repeat' split
  all_goals first | rfl | omega
theorem ev_ref_wrong (x : S45) : Ev (fun k => signalbenchref19_wrong.f k x.f0 x.f1 x.f2 x.f3 x.f4) (itS x) := by
  have hyes : itS x = 1 → Ev (fun k => signalbenchref19_wrong.j0 k true x.f0 x.f1 x.f2 x.f3 x.f4) (itS x) := by
    intro h
    rw [h]
    refine Ev.step (fun k => signalbenchref19_wrong.j0.eq_2 ..) ?_
    exact Ev.pos rfl (Ev.now _)
  unfold signalbenchref19_wrong.f
  refine Ev.ite (fun h0 => hyes (by unfold itS; rw [if_pos (.inl h0)])) (fun h0 => ?_)
  by_cases h1 : x.f0 > 1048576
  · rw [decide_eq_true h1]; exact hyes (by unfold itS; rw [if_pos (.inr h1)])
  rw [decide_eq_false h1]
  have hor : ¬ (x.f0 < 0 ∨ x.f0 > 1048576) := by omega
  clear hyes
  refine Ev.step (fun k => signalbenchref19_wrong.j0.eq_2 ..) ?_
  refine Ev.neg (by decide) ?_
  by_cases h2 : x.f3.size > 4096
  · rw [show itS x = 6 by unfold itS; rw [if_neg hor, if_pos h2]]
    exact Ev.pos (by omega) (Ev.now _)
  unfold itS
  rw [if_neg hor, if_neg h2]
  refine Ev.neg (by omega) (Ev.bind (ev_ref_Valid x.f3) (Ev.ite (fun hv => ?_) (fun hv => ?_)))
  · rw [if_pos hv]
    refine Ev.now' fun _ => ?_
    repeat' split
    all_goals first | rfl | omega
  · rw [if_neg hv]; exact Ev.now _
theorem ref_bit {b : Int} (hb : b = 0 ∨ b = 1) : signalbenchref19_bit.f b = some (strOfNums [48 + b]) := by
  unfold signalbenchref19_bit.f
  rcases hb with rfl | rfl
  · rw [if_neg (by omega)]; rfl
  · rw [if_pos rfl]; rfl
/-- The reference's counter: the same, but for what it remembers where ones alone are counted. -/
theorem ref_counted (R : Int) (o : Bool) {n v p b : Int} (h0 : 0 ≤ n) (h1 : n < 100) (hb : b = 0 ∨ b = 1) (h : o = false → p = v) : ∃ p', signalbenchref19_counted.f R o n p b = some ((cntS o n v b).1, p') ∧ (o = false → p' = (cntS o n v b).2) ∧ (o = true → p' = 1) ∧ (p' = 0 ∨ p' = 1 ∨ p' = p) := by
  unfold signalbenchref19_counted.f cntS
  rw [w64 (x := n + 1) (by omega) (by omega)]
  cases o
  · obtain rfl := h rfl
    simp only [Bool.false_eq_true, ↓reduceIte]
    by_cases hc : n > 0 ∧ b = p
    · rw [if_pos hc.1, if_pos hc.2, if_pos hc]; exact ⟨_, rfl, fun _ => hc.2.symm, fun h => absurd h (by decide), by omega⟩
    · rw [if_neg hc]
      by_cases h2 : n > 0
      · rw [if_pos h2, if_neg (fun h => hc ⟨h2, h⟩)]; exact ⟨_, rfl, fun _ => rfl, fun h => absurd h (by decide), by omega⟩
      · rw [if_neg h2]; exact ⟨_, rfl, fun _ => rfl, fun h => absurd h (by decide), by omega⟩
  · simp only [↓reduceIte]
    rcases hb with rfl | rfl
    · rw [if_neg (by omega), if_pos rfl]; exact ⟨_, rfl, fun h => absurd h (by decide), fun _ => rfl, by omega⟩
    · rw [if_pos rfl, if_neg (by omega)]; exact ⟨_, rfl, fun h => absurd h (by decide), fun _ => rfl, by omega⟩
theorem ref_counted0 (R : Int) (o : Bool) {v b : Int} (hb : b = 0 ∨ b = 1) : ∃ p', signalbenchref19_counted.f R o 0 0 b = some ((cntS o 0 v b).1, p') ∧ (o = false → p' = (cntS o 0 v b).2) := by
  unfold signalbenchref19_counted.f cntS
  rw [w64 (x := 0 + 1) (by omega) (by omega)]
  cases o
  · simp only [Bool.false_eq_true, ↓reduceIte]
    rw [if_neg (by omega), if_neg (by omega)]; exact ⟨_, rfl, fun _ => rfl⟩
  · simp only [↓reduceIte]
    rcases hb with rfl | rfl
    · rw [if_neg (by omega), if_pos rfl]; exact ⟨_, rfl, fun h => absurd h (by decide)⟩
    · rw [if_pos rfl, if_neg (by omega)]; exact ⟨_, rfl, fun h => absurd h (by decide)⟩
theorem cnt_full {o : Bool} {n v b R : Int} (hR : 2 ≤ R) (h : (cntS o n v b).1 = R) (ho : o = true) (hb : b = 0 ∨ b = 1) : (cntS o n v b).2 = 1 := by
  subst ho
  unfold cntS at h ⊢
  simp only [↓reduceIte] at h ⊢
  rcases hb with rfl | rfl
  · rw [if_pos rfl] at h; dsimp only at h; omega
  · rw [if_neg (by omega)]
theorem ev_ref_Insert_l0 (R : Int) (o f : Bool) (s : ByteArray) (hR : 2 ≤ R) (hR2 : R ≤ 16) (hs : s.size ≤ 4096) : ∀ (l pre : List Int) (n v p : Int) (d a : Bool) (out : List Int) (i : Nat), bytesOf s = pre ++ l → i = pre.length → AllB l → 0 ≤ n → n < R → (v = 0 ∨ v = 1) → (o = false → p = v) → (f = true → a = d) → out.length ≤ 2 * i →
    ∃ p' a', Ev (fun k => signalbenchref19_Insert.l0 k s f (strOfNums out) a (i : Int) R o n p) (strOfNums (out ++ (fillS R o f l n v d).1), (fillS R o f l n v d).2.1, p', a') ∧ (o = false → p' = (fillS R o f l n v d).2.2.1) ∧ (f = true → a' = (fillS R o f l n v d).2.2.2) := by
  have hlen := len_bytes s
  intro l
  induction l with
  | nil =>
    intro pre n v p d a out i he hi hb h0 h1 hv hp ha ho
    rw [List.append_nil] at he
    rw [he] at hlen
    refine ⟨p, a, ?_, hp, ha⟩
    refine Ev.step (fun k => signalbenchref19_Insert.l0.eq_2 ..) ?_
    rw [fillS, List.append_nil]
    exact Ev.neg (by omega) (Ev.now _)
  | cons b l ih =>
    intro pre n v p d a out i he hi hb h0 h1 hv hp ha ho
    obtain ⟨hb1, hb⟩ := AllB.cons_iff.mp hb
    have hl : s.size = i + (l.length + 1) := by rw [← hlen, he, hi, List.length_append, List.length_cons]
    have hbt : bt s (i : Int) = b := by rw [bt_get s i (by omega)]; simp [he, hi]
    have hc := cntS_rng o (n := n) (v := v) (b := b - 48) (R := R) h0 h1 hR (by omega)
    have hn := cntS_new o (v := (cntS o n v (b - 48)).2) (b := 1 - (cntS o n v (b - 48)).2) (R := R) hR (by omega)
    obtain ⟨p1, e1, e2, e3, _⟩ := ref_counted R o (n := n) (v := v) (p := p) (b := b - 48) h0 (by omega) (by omega) hp
    have hfull := fun h ho => cnt_full (o := o) (n := n) (v := v) (b := b - 48) hR h ho (by omega)
    have ih2 := fun n' v' p' d' a' out' => ih (pre ++ [b]) n' v' p' d' a' out' (i + 1) (by rw [he]; simp) (by simp [hi]) hb
    clear ih he
    have hsz := size_str out
    have step : ∀ (res : ByteArray × Int × Int × Bool), Ev (fun k => if (cntS o n v (b - 48)).1 = R then (if f = true then signalbenchref19_Insert.j2 k s f (strOfNums (out ++ [b])) (i : Int) (!a) R o (cntS o n v (b - 48)).1 p1 else signalbenchref19_Insert.j2 k s f (strOfNums (out ++ [b])) (i : Int) false R o (cntS o n v (b - 48)).1 p1) else signalbenchref19_Insert.l0 k s f (strOfNums (out ++ [b])) a ((i + 1 : Nat) : Int) R o (cntS o n v (b - 48)).1 p1) res → Ev (fun k => signalbenchref19_Insert.l0 k s f (strOfNums out) a (i : Int) R o n p) res := by
      intro res h
      refine Ev.step (fun k => signalbenchref19_Insert.l0.eq_2 ..) ?_
      refine Ev.pos (by omega) ?_
      refine Ev.step (fun k => signalbenchref19_Insert.j1.eq_2 ..) ?_
      rw [hbt, show (b - 48) % 256 = b - 48 by omega, ref_bit (b := b - 48) (by omega), show (48 : Int) + (b - 48) = b by omega, wnat (by omega), e1]
      refine Ev.pos (by omega) (Ev.pos (by omega) (Ev.sbind (Ev.pos (by rw [size_str, size_str, List.length_singleton]; omega) (Ev.sbind ?_))))
      rw [str_append]
      exact h
    rw [fillS]
    generalize cntS o n v (b - 48) = c at *
    obtain ⟨n1, v1⟩ := c
    simp only [] at hc hn e1 e2 e3 hfull step ⊢
    by_cases hn1 : n1 = R
    · rw [if_pos hn1]
      replace step := fun res h => step res (Ev.pos hn1 h)
      have hpv : p1 = v1 := by
        cases o
        · exact e2 rfl
        · rw [e3 rfl, hfull hn1 rfl]
      subst hpv
      obtain ⟨p2, g1, g2⟩ := ref_counted0 R o (v := p1) (b := 1 - p1) (by omega)
      have ew : wrap64 (1 - p1) = 1 - p1 := w64 (by omega) (by omega)
      have hins : (f = true → d = true) → ∃ p' a', Ev (fun k => signalbenchref19_Insert.j2 k s f (strOfNums (out ++ [b])) (i : Int) false R o n1 p1) (strOfNums (out ++ (consS [b, 49 - p1] (fillS R o f l (cntS o 0 p1 (1 - p1)).1 (cntS o 0 p1 (1 - p1)).2 d)).1), (consS [b, 49 - p1] (fillS R o f l (cntS o 0 p1 (1 - p1)).1 (cntS o 0 p1 (1 - p1)).2 d)).2.1, p', a') ∧ (o = false → p' = (consS [b, 49 - p1] (fillS R o f l (cntS o 0 p1 (1 - p1)).1 (cntS o 0 p1 (1 - p1)).2 d)).2.2.1) ∧ (f = true → a' = (consS [b, 49 - p1] (fillS R o f l (cntS o 0 p1 (1 - p1)).1 (cntS o 0 p1 (1 - p1)).2 d)).2.2.2) := by
        intro hfd
        · obtain ⟨p', a', q1, q2, q3⟩ := ih2 (cntS o 0 p1 (1 - p1)).1 (cntS o 0 p1 (1 - p1)).2 p2 d true (out ++ [b, 49 - p1]) hn.1 hn.2.1 hn.2.2 g2 (fun hf => (hfd hf).symm) (by simp only [List.length_append, List.length_cons, List.length_nil]; omega)
          refine ⟨p', a', ?_, q2, q3⟩
          refine Ev.step (fun k => signalbenchref19_Insert.j2.eq_2 ..) ?_
          rw [ew, ref_bit (b := 1 - p1) (by omega), g1, show (48 : Int) + (1 - p1) = 49 - p1 by omega, wnat (by omega)]
          refine Ev.neg (by decide) (Ev.sbind (Ev.pos (by rw [size_str, size_str]; simp only [List.length_append, List.length_cons, List.length_nil]; omega) (Ev.sbind ?_)))
          rw [str_append, List.append_assoc]
          simpa [consS] using q1
      have hspoil : f = true → d = false → ∃ p' a', Ev (fun k => signalbenchref19_Insert.j2 k s f (strOfNums (out ++ [b])) (i : Int) true R o n1 p1) (strOfNums (out ++ (consS [b, 48 + p1] (fillS R o f l 0 p1 true)).1), (consS [b, 48 + p1] (fillS R o f l 0 p1 true)).2.1, p', a') ∧ (o = false → p' = (consS [b, 48 + p1] (fillS R o f l 0 p1 true)).2.2.1) ∧ (f = true → a' = (consS [b, 48 + p1] (fillS R o f l 0 p1 true)).2.2.2) := by
        intro hf hd
        obtain ⟨p', a', q1, q2, q3⟩ := ih2 0 p1 p1 true true (out ++ [b, 48 + p1]) (by omega) (by omega) hc.2.2 (fun _ => rfl) (fun _ => rfl) (by simp only [List.length_append, List.length_cons, List.length_nil]; omega)
        refine ⟨p', a', ?_, q2, q3⟩
        refine Ev.step (fun k => signalbenchref19_Insert.j2.eq_2 ..) ?_
        rw [ref_bit (b := p1) hc.2.2, wnat (by omega)]
        refine Ev.pos rfl (Ev.sbind (Ev.pos (by rw [size_str, size_str]; simp only [List.length_append, List.length_cons, List.length_nil]; omega) ?_))
        rw [str_append, List.append_assoc]
        simpa [consS] using q1
      by_cases hs2 : f = true ∧ d = false
      · rw [if_pos hs2]
        obtain ⟨p', a', q1, q2, q3⟩ := hspoil hs2.1 hs2.2
        refine ⟨p', a', step _ (Ev.pos hs2.1 ?_), q2, q3⟩
        have : a = false := by rw [ha hs2.1]; exact hs2.2
        rw [this]
        exact q1
      · rw [if_neg hs2]
        have hfd : f = true → d = true := fun hf => by
          cases hd : d
          · exact absurd ⟨hf, hd⟩ hs2
          · rfl
        obtain ⟨p', a', q1, q2, q3⟩ := hins hfd
        refine ⟨p', a', step _ ?_, q2, q3⟩
        refine Ev.ite (fun hf => ?_) (fun hf => q1)
        have : a = true := by rw [ha hf]; exact hfd hf
        rw [this]
        exact q1
    · rw [if_neg hn1]
      replace step := fun res h => step res (Ev.neg hn1 h)
      obtain ⟨p', a', q1, q2, q3⟩ := ih2 n1 v1 p1 d a (out ++ [b]) hc.1 (by omega) hc.2.2 e2 ha (by simp only [List.length_append, List.length_cons, List.length_nil]; omega)
      refine ⟨p', a', step _ ?_, q2, q3⟩
      simpa [consS] using q1
theorem ev_ref_Insert (R : Int) (o f : Bool) (s : ByteArray) (hR : 2 ≤ R) (hR2 : R ≤ 16) (hs : s.size ≤ 4096) (n v p : Int) (hb : AllB (bytesOf s)) (h0 : 0 ≤ n) (h1 : n < R) (hv : v = 0 ∨ v = 1) (hp : o = false → p = v) :
    ∃ p' a', Ev (fun k => signalbenchref19_Insert.f k R o n p s f) (strOfNums (fillS R o f (bytesOf s) n v false).1, (fillS R o f (bytesOf s) n v false).2.1, p', a') ∧ (o = false → p' = (fillS R o f (bytesOf s) n v false).2.2.1) ∧ (f = true → a' = (fillS R o f (bytesOf s) n v false).2.2.2) :=
  ev_ref_Insert_l0 R o f s hR hR2 hs (bytesOf s) [] n v p false false [] 0 rfl rfl hb h0 h1 hv hp (fun _ => rfl) (by simp)
theorem ev_ref_Encode (R : Int) (o : Bool) (l : List S45) : Ev (fun k => signalbenchref19_Encode.f k R o l) (encodeS R o l) := by
  unfold signalbenchref19_Encode.f encodeS
  refine Ev.bind (ev_ref_Check R o) (Ev.ite (fun hc => ?_) (fun hc => ?_))
  case refine_2 => rw [if_neg hc]; exact Ev.now _
  rw [if_pos hc]
  obtain ⟨hR, hR2⟩ := chkS_ok hc
  refine Ev.step (fun k => signalbenchref19_Encode.j0.eq_2 ..) ?_
  refine Ev.ite (fun hl => ?_) (fun hl => ?_)
  · rw [if_pos (by omega)]; exact Ev.now _
  rw [if_neg (by omega)]
  refine Ev.step (fun k => signalbenchref19_Encode.j1.eq_2 ..) ?_
  have key : ∀ (q pre out : List S45) (n v p : Int) (i : Nat), l = pre ++ q → i = pre.length → out.length = i → 0 ≤ n → n < R → (v = 0 ∨ v = 1) → (o = false → p = v) → Ev (fun k => signalbenchref19_Encode.l0 k l out (i : Int) R o n p) (if errS R o n v q = 0 then (out ++ outS R o n v q, 0) else ([], errS R o n v q)) := by
    intro q
    induction q with
    | nil =>
      intro pre out n v p i he hi ho h0 h1 hv hp
      rw [List.append_nil] at he
      have hi' : i = l.length := by rw [hi, he]
      clear he
      refine Ev.step (fun k => signalbenchref19_Encode.l0.eq_2 ..) ?_
      rw [if_pos (show errS R o n v [] = 0 from rfl), outS, List.append_nil]
      exact Ev.neg (by omega) (Ev.now _)
    | cons x q ih =>
      intro pre out n v p i he hi ho h0 h1 hv hp
      have hlen : l.length = i + (q.length + 1) := by rw [he, hi, List.length_append, List.length_cons]
      have hx : rd_T45 l (i : Int) = x := by rw [he]; exact rdI_mid pre x q i hi
      have ih2 := fun n' v' p' out' ho' => ih (pre ++ [x]) out' n' v' p' (i + 1) (by rw [he]; simp) (by simp [hi]) ho'
      clear ih he
      refine Ev.step (fun k => signalbenchref19_Encode.l0.eq_2 ..) ?_
      refine Ev.pos (by omega) ?_
      refine Ev.step (fun k => signalbenchref19_Encode.j3.eq_2 ..) ?_
      rw [hx]
      refine Ev.pos (by omega) (Ev.pos (by omega) (Ev.bind (ev_ref_wrong x) (Ev.ite (fun hx0 => ?_) (fun hx0 => ?_))))
      case refine_2 =>
        have e : errS R o n v (x :: q) = itS x := by rw [errS, if_neg hx0]
        rw [e, if_neg hx0]
        exact Ev.now _
      obtain ⟨_, _, hxs, hxb, hx4⟩ := itS_ok hx0
      obtain ⟨p', a', hI, hp', ha'⟩ := ev_ref_Insert R o (x.f4 == 4) x.f3 hR hR2 hxs n v p hxb h0 h1 hv hp
      refine Ev.bind hI ?_
      have hr := fillS_rng R o (x.f4 == 4) hR (bytesOf x.f3) n v false hxb h0 h1 hv
      have hE : errS R o n v (x :: q) = (if x.f4 = 4 ∧ (itemS R o n v x).2.2.2 = false then 17 else if (itemS R o n v x).1.length > 4096 then 6 else if x.f1 = 0 ∧ x.f2 = 0 then errS R o (itemS R o n v x).2.1 (itemS R o n v x).2.2.1 q else 1) := by rw [errS, if_pos hx0]
      rw [hE, outS]
      change o = false → p' = (itemS R o n v x).2.2.1 at hp'
      change (x.f4 == 4) = true → a' = (itemS R o n v x).2.2.2 at ha'
      change Ev (fun k => if x.f4 = 4 then signalbenchref19_Encode.j4 k l out (i : Int) (strOfNums (itemS R o n v x).1) (!a') R o (itemS R o n v x).2.1 p' else signalbenchref19_Encode.j4 k l out (i : Int) (strOfNums (itemS R o n v x).1) false R o (itemS R o n v x).2.1 p') _
      change 0 ≤ (itemS R o n v x).2.1 ∧ (itemS R o n v x).2.1 < R ∧ ((itemS R o n v x).2.2.1 = 0 ∨ (itemS R o n v x).2.2.1 = 1) at hr
      clear hI
      generalize itemS R o n v x = r at *
      obtain ⟨b, n', v', d'⟩ := r
      simp only [] at hr hp' ha' ⊢
      have hbs := size_str b
      have hgo : Ev (fun k => signalbenchref19_Encode.j4 k l out (i : Int) (strOfNums b) false R o n' p') (if (if b.length > 4096 then 6 else if x.f1 = 0 ∧ x.f2 = 0 then errS R o n' v' q else 1) = 0 then (out ++ ⟨x.f0, 0, 0, strOfNums b, 0⟩ :: outS R o n' v' q, 0) else ([], if b.length > 4096 then 6 else if x.f1 = 0 ∧ x.f2 = 0 then errS R o n' v' q else 1)) := by
        refine Ev.step (fun k => signalbenchref19_Encode.j4.eq_2 ..) ?_
        rw [hx, wnat (by omega)]
        refine Ev.neg (by decide) (Ev.ite (fun hbl => ?_) (fun hbl => ?_))
        · rw [if_pos (show b.length > 4096 by omega), if_neg (by omega)]; exact Ev.now _
        · rw [if_neg (show ¬ b.length > 4096 by omega)]
          refine Ev.pos (by omega) (Ev.pos (by omega) (Ev.ite (fun h5 => Ev.ite (fun h6 => ?_) (fun h6 => ?_)) (fun h5 => ?_)))
          · rw [if_pos (show x.f1 = 0 ∧ x.f2 = 0 from ⟨h5, h6⟩)]
            refine Ev.pos (by omega) ?_
            have := ih2 n' v' p' (out ++ [⟨x.f0, 0, 0, strOfNums b, 0⟩]) (by simp [ho]) hr.1 hr.2.1 hr.2.2 hp'
            rw [List.append_assoc] at this
            exact this
          · rw [if_neg (show ¬ (x.f1 = 0 ∧ x.f2 = 0) from fun h => h6 h.2), if_neg (by omega)]; exact Ev.now _
          · rw [if_neg (show ¬ (x.f1 = 0 ∧ x.f2 = 0) from fun h => h5 h.1), if_neg (by omega)]; exact Ev.now _
      refine Ev.ite (fun h4 => ?_) (fun h4 => ?_)
      · obtain rfl := ha' (by simpa using h4)
        cases a'
        · rw [if_pos (show x.f4 = 4 ∧ false = false from ⟨h4, rfl⟩), if_neg (by omega)]
          refine Ev.step (fun k => signalbenchref19_Encode.j4.eq_2 ..) ?_
          exact Ev.pos rfl (Ev.now _)
        · rw [if_neg (show ¬ (x.f4 = 4 ∧ true = false) from fun h => by simp at h)]
          exact hgo
      · rw [if_neg (show ¬ (x.f4 = 4 ∧ d' = false) from fun h => h4 h.1)]
        exact hgo
  have := key l [] [] 0 0 0 0 rfl rfl rfl (by omega) (by omega) (.inl rfl) (fun _ => rfl)
  rw [List.nil_append] at this
  exact this
theorem ev_awake : Ev (fun k => signalbenchlaw19_awake.f k) true := by
  refine Ev.of (fun k => signalbenchlaw19_awake.mono k) (k := 80) ?_
  decide +kernel
def tinyI (l : List S45) : Bool := decide (l.length ≤ 20) && l.all fun x => decide (x.f3.size ≤ 200)
theorem ev_tiny (l : List S45) : Ev (fun k => signalbenchlaw19_tiny.f k l) (tinyI l) := by
  unfold signalbenchlaw19_tiny.f tinyI
  refine Ev.ite (fun h => ?_) (fun h => ?_)
  · rw [decide_eq_false (by omega), Bool.false_and]; exact Ev.now _
  rw [decide_eq_true (show l.length ≤ 20 by omega), Bool.true_and]
  refine Ev.step (fun k => signalbenchlaw19_tiny.j0.eq_2 ..) ?_
  have key : ∀ (m pre : List S45) (i : Nat), l = pre ++ m → i = pre.length → Ev (fun k => signalbenchlaw19_tiny.l0 k l (i : Int)) (m.all fun x => decide (x.f3.size ≤ 200)) := by
    intro m
    induction m with
    | nil =>
      intro pre i he hi
      rw [List.append_nil] at he
      refine Ev.step (fun k => signalbenchlaw19_tiny.l0.eq_2 ..) ?_
      exact Ev.neg (by rw [he]; omega) (Ev.now _)
    | cons x m ih =>
      intro pre i he hi
      have hlen : l.length = i + (m.length + 1) := by rw [he, hi, List.length_append, List.length_cons]
      have hx : rd_T45 l (i : Int) = x := by rw [he]; exact rdI_mid pre x m i hi
      have ih2 := ih (pre ++ [x]) (i + 1) (by rw [he]; simp) (by simp [hi])
      clear ih he
      refine Ev.step (fun k => signalbenchlaw19_tiny.l0.eq_2 ..) ?_
      rw [hx, wnat (by omega), List.all_cons]
      refine Ev.pos (by omega) (Ev.pos (by omega) (Ev.ite (fun hb => ?_) (fun hb => ?_)))
      · rw [decide_eq_false (by omega), Bool.false_and]; exact Ev.now _
      · rw [decide_eq_true (show x.f3.size ≤ 200 by omega), Bool.true_and]; exact ih2
  exact key l [] 0 rfl rfl
theorem main : signalbenchlaw19_StuffEncodes.Pure := by
  intro R o l _ _ _ hl
  refine Ev.rounds (g := fun k => signalbenchlaw19_StuffEncodes.f k R o l) ?_
  unfold signalbenchlaw19_StuffEncodes.f
  have haw : Ev (fun k => (signalbenchlaw19_awake.f k).bind fun t => some t) true := Ev.bind ev_awake (Ev.now true)
  refine Ev.bind (ev_tiny l) (Ev.ite (fun ht => ?_) (fun ht => haw))
  have hlen := encodeS_len R o l
  refine Ev.step (fun k => signalbenchlaw19_StuffEncodes.j0.eq_2 ..) ?_
  refine Ev.bind (ev_stuff_Encode R o l) (Ev.bind (ev_ref_Encode R o l) (Ev.pos rfl ?_))
  generalize (encodeS R o l).1 = ys at *
  rw [show ((ys.length : Int) != (ys.length : Int)) = false by simp]
  refine Ev.step (fun k => signalbenchlaw19_StuffEncodes.j1.eq_2 ..) ?_
  refine Ev.neg (by decide) ?_
  refine Ev.step (fun k => signalbenchlaw19_StuffEncodes.j2.eq_2 ..) ?_
  have key : ∀ (d i : Nat), i + d = ys.length → Ev (fun k => signalbenchlaw19_StuffEncodes.l0 k ys ys (i : Int)) true := by
    intro d
    induction d with
    | zero =>
      intro i h
      refine Ev.step (fun k => signalbenchlaw19_StuffEncodes.l0.eq_2 ..) ?_
      exact Ev.neg (by omega) haw
    | succ d ih =>
      intro i h
      refine Ev.step (fun k => signalbenchlaw19_StuffEncodes.l0.eq_2 ..) ?_
      rw [wnat (by omega)]
      exact Ev.pos (by omega) (Ev.pos (by omega) (Ev.pos (by omega) (Ev.neg (by simp) (ih (i + 1) (by omega)))))
  exact key ys.length 0 (by omega)
end StuffEncodes_
theorem StuffEncodes : signalbenchlaw19_StuffEncodes.Pure := StuffEncodes_.main
end Go.Proofs.Ytpgeomgaphodkaa.Pure
