/- The law StuffDecodes holds as a statement on numbers and lists: the events, step by step and together, are those of the reference. No condition beyond those of the statement. -/
import Derived.Test.YtpgeomgaphodkaaPStuffDecodesx12
import Derived.Test.YtpgeomgaphodkaaSpecBytes
namespace Go.Proofs.Ytpgeomgaphodkaa.Pure
open Go.RowKit Go.Proofs.Ytpgeomgaphodkaa.PStuffDecodes Go.Proofs.YtpgeomgaphodkaaW.PrintWords Go.Proofs.YtpgeomgaphodkaaW.PrintLast Go.Proofs.Ytpgeomgaphodkaa.Aid
set_option linter.unusedVariables false
set_option linter.unusedSimpArgs false
namespace StuffDecodes_
theorem ev_bits_Valid_l0 (s : ByteArray) (hs : s.size ≤ 65536) : ∀ (d i : Nat), i + d = s.size → Ev (fun k => bits_Valid.l0 k s (s.size : Int) (i : Int)) (((bytesOf s).drop i).all isB) := by
  intro d
  induction d with
  | zero =>
    intro i h
    refine Ev.stop fun k => ?_
    simp only [bits_Valid.l0]
    rw [if_neg (by omega), drop_end s i (by omega)]; rfl
  | succ d ih =>
    intro i h
    have e : wrap64 ((i : Int) + 1) = ((i + 1 : Nat) : Int) := by rw [w64 (by omega) (by omega)]; rfl
    rw [drop_cons s i (by omega), List.all_cons]
    by_cases h48 : bt s i = 48
    · have e2 : isB (bt s i) = true := isB_iff.mpr (.inl h48)
      rw [e2, Bool.true_and]
      refine Ev.step (fun k => ?_) (ih (i + 1) (by omega))
      simp only [bits_Valid.l0]
      rw [if_pos (by omega), if_pos (by omega), if_pos (by omega), if_pos h48, e]
    · by_cases h49 : bt s i = 49
      · have e2 : isB (bt s i) = true := isB_iff.mpr (.inr h49)
        rw [e2, Bool.true_and]
        refine Ev.step (fun k => ?_) (ih (i + 1) (by omega))
        simp only [bits_Valid.l0]
        rw [if_pos (by omega), if_pos (by omega), if_pos (by omega), if_neg h48, if_pos h49, e]
      · have e2 : isB (bt s i) = false := by simp [isB, h48, h49]
        rw [e2, Bool.false_and]
        refine Ev.stop fun k => ?_
        simp only [bits_Valid.l0]
        rw [if_pos (by omega), if_pos (by omega), if_pos (by omega), if_neg h48, if_neg h49]
theorem ev_bits_Valid (s : ByteArray) : Ev (fun k => bits_Valid.f k s) (vB s) := by
  unfold bits_Valid.f vB
  by_cases h : s.size ≤ 65536
  · rw [decide_eq_true h, Bool.true_and]
    refine Ev.congr (fun k => by rw [if_neg (by omega)]) ?_
    exact Ev.step (fun k => by simp only [bits_Valid.j0]; rfl) (ev_bits_Valid_l0 s h s.size 0 (by omega))
  · rw [decide_eq_false h, Bool.false_and]
    refine Ev.now' fun k => ?_
    rw [if_pos (by omega)]
theorem rdI_mid (pre : List S45) (x : S45) (post : List S45) (i : Nat) (h : i = pre.length) : rd_T45 (pre ++ x :: post) (i : Int) = x := by
  subst h; simp [rd_T45]
theorem rdE_mid (pre : List S33) (x : S33) (post : List S33) (i : Nat) (h : i = pre.length) : rd_T33 (pre ++ x :: post) (i : Int) = x := by
  subst h; simp [rd_T33]
def validE (a b c d e : Int) (s : ByteArray) (f : Int) : Bool :=
  decide (1 ≤ a ∧ a ≤ 8 ∧ 0 ≤ b ∧ b ≤ c ∧ c ≤ 1099511627776 ∧ -9007199254740992 ≤ d ∧ d ≤ 9007199254740992 ∧ -9007199254740992 ≤ e ∧ e ≤ 9007199254740992 ∧ s.size ≤ 4096 ∧ 0 ≤ f ∧ f ≤ 12)
theorem ev_event_Valid (a b c d e : Int) (s : ByteArray) (f : Int) : Ev (fun k => event_Valid.f k a b c d e s f) (validE a b c d e s f) := by
  refine ⟨2, fun k hk => ?_⟩
  obtain ⟨m, rfl⟩ : ∃ m, k = m + 2 := ⟨k - 2, by omega⟩
  simp only [event_Valid.f, event_Valid.j0, event_Valid.j1, validE, decide_eq_true_eq, ↓reduceIte]
  repeat' split
  all_goals first
    | (rw [decide_eq_false (by omega)])
    | (congr 1; rw [decide_eq_decide]; omega)
/-- The counter behind a bit. -/
def cntS (o : Bool) (n v b : Int) : Int × Int := if o = true then (if b = 0 then (0, 0) else (n + 1, b)) else if n > 0 ∧ b = v then (n + 1, b) else (1, b)
theorem cntS_rng (o : Bool) {n v b R : Int} (h0 : 0 ≤ n) (h1 : n < R) (hR : 2 ≤ R) (hb : b = 0 ∨ b = 1) : 0 ≤ (cntS o n v b).1 ∧ (cntS o n v b).1 ≤ R ∧ ((cntS o n v b).2 = 0 ∨ (cntS o n v b).2 = 1) := by
  unfold cntS
  repeat' split
  all_goals (refine ⟨?_, ?_, ?_⟩ <;> dsimp only <;> first | omega | simp)
theorem cntS_new (o : Bool) {v b R : Int} (hR : 2 ≤ R) (hb : b = 0 ∨ b = 1) : 0 ≤ (cntS o 0 v b).1 ∧ (cntS o 0 v b).1 < R ∧ ((cntS o 0 v b).2 = 0 ∨ (cntS o 0 v b).2 = 1) := by
  unfold cntS
  repeat' split
  all_goals (refine ⟨?_, ?_, ?_⟩ <;> dsimp only <;> first | omega | simp)
theorem ev_count (R : Int) (o : Bool) (n v b : Int) (h0 : 0 ≤ n) (h1 : n < 100) (hb : b = 0 ∨ b = 1) : Ev (fun k => stuff_count.f k R o n v b) (cntS o n v b) := by
  refine ⟨2, fun k hk => ?_⟩
  obtain ⟨m, rfl⟩ : ∃ m, k = m + 1 := ⟨k - 1, by omega⟩
  simp only [stuff_count.f, stuff_count.j0, cntS, w64 (x := n + 1) (by omega) (by omega)]
  cases o
  · simp only [Bool.false_eq_true, ↓reduceIte]
    repeat' split
    all_goals first | rfl | (exfalso; omega)
  · simp only [↓reduceIte]
    repeat' split
    all_goals first | rfl | (exfalso; simp_all; done) | (exfalso; simp_all; omega)
def consS (p : List Int) (r : List Int × Int × Int × Bool) : List Int × Int × Int × Bool := (p ++ r.1, r.2)
/-- What is sent for the bits of an item: the bits, the counter behind them, whether one was made faulty. -/
def fillS (R : Int) (o f : Bool) : List Int → Int → Int → Bool → List Int × Int × Int × Bool
  | [], n, v, d => ([], n, v, d)
  | b :: l, n, v, d =>
    if (cntS o n v (b - 48)).1 = R then
      (if f = true ∧ d = false then consS [b, 48 + (cntS o n v (b - 48)).2] (fillS R o f l 0 (cntS o n v (b - 48)).2 true)
      else consS [b, 49 - (cntS o n v (b - 48)).2] (fillS R o f l (cntS o 0 (cntS o n v (b - 48)).2 (1 - (cntS o n v (b - 48)).2)).1 (cntS o 0 (cntS o n v (b - 48)).2 (1 - (cntS o n v (b - 48)).2)).2 d))
    else consS [b] (fillS R o f l (cntS o n v (b - 48)).1 (cntS o n v (b - 48)).2 d)
theorem fillS_len (R : Int) (o f : Bool) : ∀ (l : List Int) (n v : Int) (d : Bool), (fillS R o f l n v d).1.length ≤ 2 * l.length
  | [], _, _, _ => by simp [fillS]
  | b :: l, n, v, d => by
    unfold fillS consS
    split
    · split <;> (simp only [List.length_append, List.length_cons, List.length_nil]; refine Nat.le_trans (Nat.add_le_add_left (fillS_len R o f l _ _ _) _) (by omega))
    · simp only [List.length_append, List.length_cons, List.length_nil]; refine Nat.le_trans (Nat.add_le_add_left (fillS_len R o f l _ _ _) _) (by omega)
theorem fillS_bits (R : Int) (o f : Bool) (hR : 2 ≤ R) : ∀ (l : List Int) (n v : Int) (d : Bool), AllB l → 0 ≤ n → n < R → AllB (fillS R o f l n v d).1
  | [], _, _, _, _, _, _ => AllB.nil
  | b :: l, n, v, d, h, h0, h1 => by
    obtain ⟨hb, h⟩ := AllB.cons_iff.mp h
    have hc := cntS_rng o (n := n) (v := v) (b := b - 48) (R := R) h0 h1 hR (by omega)
    have hn := cntS_new o (v := (cntS o n v (b - 48)).2) (b := 1 - (cntS o n v (b - 48)).2) (R := R) hR (by omega)
    unfold fillS consS
    split
    · split
      · exact AllB.append_iff.mpr ⟨AllB.cons_iff.mpr ⟨hb, AllB.cons_iff.mpr ⟨by omega, AllB.nil⟩⟩, fillS_bits R o f hR l _ _ _ h (by omega) (by omega)⟩
      · exact AllB.append_iff.mpr ⟨AllB.cons_iff.mpr ⟨hb, AllB.cons_iff.mpr ⟨by omega, AllB.nil⟩⟩, fillS_bits R o f hR l _ _ _ h hn.1 hn.2.1⟩
    · exact AllB.append_iff.mpr ⟨AllB.cons_iff.mpr ⟨hb, AllB.nil⟩, fillS_bits R o f hR l _ _ _ h hc.1 (by omega)⟩
/-- The counter behind an item. -/
theorem fillS_rng (R : Int) (o f : Bool) (hR : 2 ≤ R) : ∀ (l : List Int) (n v : Int) (d : Bool), AllB l → 0 ≤ n → n < R → (v = 0 ∨ v = 1) → 0 ≤ (fillS R o f l n v d).2.1 ∧ (fillS R o f l n v d).2.1 < R ∧ ((fillS R o f l n v d).2.2.1 = 0 ∨ (fillS R o f l n v d).2.2.1 = 1)
  | [], _, _, _, _, h0, h1, hv => ⟨h0, h1, hv⟩
  | b :: l, n, v, d, h, h0, h1, hv => by
    obtain ⟨hb, h⟩ := AllB.cons_iff.mp h
    have hc := cntS_rng o (n := n) (v := v) (b := b - 48) (R := R) h0 h1 hR (by omega)
    have hn := cntS_new o (v := (cntS o n v (b - 48)).2) (b := 1 - (cntS o n v (b - 48)).2) (R := R) hR (by omega)
    unfold fillS consS
    split
    · split
      · exact fillS_rng R o f hR l _ _ _ h (by omega) (by omega) hc.2.2
      · exact fillS_rng R o f hR l _ _ _ h hn.1 hn.2.1 hn.2.2
    · exact fillS_rng R o f hR l _ _ _ h hc.1 (by omega) hc.2.2
theorem ev_fill_l0 (R : Int) (o f : Bool) (s : ByteArray) (hR : 2 ≤ R) (hR2 : R ≤ 16) (hs : s.size ≤ 4096) : ∀ (l pre : List Int) (n v : Int) (d : Bool) (out : List Int) (i : Nat), bytesOf s = pre ++ l → i = pre.length → AllB l → 0 ≤ n → n < R → (v = 0 ∨ v = 1) → out.length ≤ 2 * i →
    Ev (fun k => stuff_fill.l0 k R o s n v f out d (i : Int)) (out ++ (fillS R o f l n v d).1, (fillS R o f l n v d).2.1, (fillS R o f l n v d).2.2.1, (fillS R o f l n v d).2.2.2) := by
  have hlen := len_bytes s
  intro l
  induction l with
  | nil =>
    intro pre n v d out i he hi hb h0 h1 hv ho
    rw [List.append_nil] at he
    rw [he] at hlen
    refine Ev.step (fun k => stuff_fill.l0.eq_2 ..) ?_
    rw [fillS, List.append_nil]
    exact Ev.neg (by omega) (Ev.neg (by omega) (Ev.now _))
  | cons b l ih =>
    intro pre n v d out i he hi hb h0 h1 hv ho
    obtain ⟨hb1, hb⟩ := AllB.cons_iff.mp hb
    have hl : s.size = i + (l.length + 1) := by rw [← hlen, he, hi, List.length_append, List.length_cons]
    have hbt : bt s (i : Int) = b := by rw [bt_get s i (by omega)]; simp [he, hi]
    have hc := cntS_rng o (n := n) (v := v) (b := b - 48) (R := R) h0 h1 hR (by omega)
    have hn := cntS_new o (v := (cntS o n v (b - 48)).2) (b := 1 - (cntS o n v (b - 48)).2) (R := R) hR (by omega)
    have hcnt := ev_count R o n v (b - 48) h0 (by omega) (by omega)
    have hnew := ev_count R o 0 (cntS o n v (b - 48)).2 (1 - (cntS o n v (b - 48)).2) (by omega) (by omega) (by omega)
    have ih2 := fun n' v' d' out' => ih (pre ++ [b]) n' v' d' out' (i + 1) (by rw [he]; simp) (by simp [hi]) hb
    clear ih he
    refine Ev.step (fun k => stuff_fill.l0.eq_2 ..) ?_
    rw [hbt, wnat (by omega), show (b - 48) % 256 = b - 48 by omega]
    refine Ev.neg (by omega) (Ev.pos (by omega) (Ev.pos (by omega) (Ev.pos (by omega) (Ev.bind hcnt ?_))))
    rw [fillS]
    generalize hce : cntS o n v (b - 48) = c at *
    obtain ⟨n1, v1⟩ := c
    simp only [] at hc hn hnew ⊢
    have ew : wrap64 (1 - v1) = 1 - v1 := w64 (by omega) (by omega)
    have e1 : (48 + (1 - v1)) % 256 = 49 - v1 := by omega
    have e2 : (48 + v1) % 256 = 48 + v1 := by omega
    by_cases hn1 : n1 = R
    · rw [if_pos hn1]
      have hins : Ev (fun k => (stuff_count.f k R o 0 v1 (wrap64 (1 - v1))).bind fun bt => stuff_fill.l0 k R o s bt.1 bt.2 f (out ++ [b] ++ [(48 + wrap64 (1 - v1)) % 256]) d ((i + 1 : Nat) : Int)) (out ++ (consS [b, 49 - v1] (fillS R o f l (cntS o 0 v1 (1 - v1)).1 (cntS o 0 v1 (1 - v1)).2 d)).1, (consS [b, 49 - v1] (fillS R o f l (cntS o 0 v1 (1 - v1)).1 (cntS o 0 v1 (1 - v1)).2 d)).2.1, (consS [b, 49 - v1] (fillS R o f l (cntS o 0 v1 (1 - v1)).1 (cntS o 0 v1 (1 - v1)).2 d)).2.2.1, (consS [b, 49 - v1] (fillS R o f l (cntS o 0 v1 (1 - v1)).1 (cntS o 0 v1 (1 - v1)).2 d)).2.2.2) := by
        rw [ew, e1]
        refine Ev.bind hnew ?_
        have := ih2 (cntS o 0 v1 (1 - v1)).1 (cntS o 0 v1 (1 - v1)).2 d (out ++ [b] ++ [49 - v1]) hn.1 hn.2.1 hn.2.2 (by simp only [List.length_append, List.length_cons, List.length_nil]; omega)
        simpa [consS] using this
      have hsz : (out ++ [b]).length < 140737488355328 := by simp only [List.length_append, List.length_cons, List.length_nil]; omega
      refine Ev.step (fun k => stuff_fill.l0.eq_2 ..) ?_
      refine Ev.pos hn1 ?_
      cases f
      · rw [if_neg (by simp)]
        exact Ev.neg (by decide) (Ev.pos hsz hins)
      · refine Ev.pos rfl ?_
        cases d
        · rw [if_pos ⟨rfl, rfl⟩, e2]
          refine Ev.neg (by decide) (Ev.pos hsz ?_)
          have := ih2 0 v1 true (out ++ [b] ++ [48 + v1]) (by omega) (by omega) hc.2.2 (by simp only [List.length_append, List.length_cons, List.length_nil]; omega)
          simpa [consS] using this
        · rw [if_neg (by simp)]
          exact Ev.pos rfl (Ev.pos hsz hins)
    · rw [if_neg hn1]
      have := ih2 n1 v1 d (out ++ [b]) hc.1 (by omega) hc.2.2 (by simp only [List.length_append, List.length_cons, List.length_nil]; omega)
      simpa [consS] using this
theorem ev_fill (R : Int) (o f : Bool) (s : ByteArray) (hR : 2 ≤ R) (hR2 : R ≤ 16) (hs : s.size ≤ 4096) (n v : Int) (hb : AllB (bytesOf s)) (h0 : 0 ≤ n) (h1 : n < R) (hv : v = 0 ∨ v = 1) :
    Ev (fun k => stuff_fill.f k R o s n v f) (fillS R o f (bytesOf s) n v false) := by
  have := ev_fill_l0 R o f s hR hR2 hs (bytesOf s) [] n v false [] 0 rfl rfl hb h0 h1 hv (by simp)
  rw [List.nil_append] at this
  exact this
def chkS (R : Int) : Int := if R < 2 ∨ R > 16 then 2 else 0
theorem ev_stuff_Check (R : Int) (o : Bool) : Ev (fun k => stuff_Check.f R o) (chkS R) := by
  refine Ev.now' fun _ => ?_
  unfold stuff_Check.f chkS
  repeat' split
  all_goals first | rfl | omega
theorem chkS_ok {R : Int} (h : chkS R = 0) : 2 ≤ R ∧ R ≤ 16 := by unfold chkS at h; split at h <;> omega
def itS (x : S45) : Int := if x.f0 < 0 ∨ x.f0 > 1048576 then 1 else if x.f3.size > 4096 then 6 else if vB x.f3 = true then (if x.f4 = 0 ∨ x.f4 = 4 then 0 else 1) else 4
theorem itS_ok {x : S45} (h : itS x = 0) : 0 ≤ x.f0 ∧ x.f0 ≤ 1048576 ∧ x.f3.size ≤ 4096 ∧ AllB (bytesOf x.f3) ∧ (x.f4 = 0 ∨ x.f4 = 4) := by
  unfold itS at h
  split at h
  · omega
  · split at h
    · omega
    · split at h
      · rename_i hv
        split at h
        · rename_i h1 h2 h4; exact ⟨by omega, by omega, by omega, (vB_iff.mp hv).2, h4⟩
        · omega
      · omega
theorem ev_stuff_check (x : S45) : Ev (fun k => stuff_check.f k x.f0 x.f1 x.f2 x.f3 x.f4) (itS x) := by
  have hyes : itS x = 1 → Ev (fun k => stuff_check.j0 k true x.f0 x.f1 x.f2 x.f3 x.f4) (itS x) := by
    intro h
    rw [h]
    refine Ev.step (fun k => stuff_check.j0.eq_2 ..) ?_
    exact Ev.pos rfl (Ev.now _)
  unfold stuff_check.f
  refine Ev.ite (fun h0 => hyes (by unfold itS; rw [if_pos (.inl h0)])) (fun h0 => ?_)
  by_cases h1 : x.f0 > 1048576
  · rw [decide_eq_true h1]; exact hyes (by unfold itS; rw [if_pos (.inr h1)])
  rw [decide_eq_false h1]
  have hor : ¬ (x.f0 < 0 ∨ x.f0 > 1048576) := by omega
  clear hyes
  refine Ev.step (fun k => stuff_check.j0.eq_2 ..) ?_
  refine Ev.neg (by decide) ?_
  by_cases h2 : x.f3.size > 4096
  · rw [show itS x = 6 by unfold itS; rw [if_neg hor, if_pos h2]]
    exact Ev.pos (by omega) (Ev.now _)
  unfold itS
  rw [if_neg hor, if_neg h2]
  refine Ev.neg (by omega) (Ev.bind (ev_bits_Valid x.f3) (Ev.ite (fun hv => ?_) (fun hv => ?_)))
  · rw [if_pos hv]
    refine Ev.now' fun _ => ?_
    repeat' split
    all_goals first | rfl | omega
  · rw [if_neg hv]; exact Ev.now _
/-- What is sent for an item, behind a counter. -/
def itemS (R : Int) (o : Bool) (n v : Int) (x : S45) : List Int × Int × Int × Bool := fillS R o (x.f4 == 4) (bytesOf x.f3) n v false
def errS (R : Int) (o : Bool) : Int → Int → List S45 → Int
  | _, _, [] => 0
  | n, v, x :: l => if itS x = 0 then (if x.f4 = 4 ∧ (itemS R o n v x).2.2.2 = false then 17 else if (itemS R o n v x).1.length > 4096 then 6 else if x.f1 = 0 ∧ x.f2 = 0 then errS R o (itemS R o n v x).2.1 (itemS R o n v x).2.2.1 l else 1) else itS x
def outS (R : Int) (o : Bool) : Int → Int → List S45 → List S45
  | _, _, [] => []
  | n, v, x :: l => ⟨x.f0, 0, 0, strOfNums (itemS R o n v x).1, 0⟩ :: outS R o (itemS R o n v x).2.1 (itemS R o n v x).2.2.1 l
theorem outS_len (R : Int) (o : Bool) : ∀ (l : List S45) (n v : Int), (outS R o n v l).length = l.length
  | [], _, _ => rfl
  | x :: l, n, v => by simp [outS, outS_len R o l]
theorem errS_ok {R : Int} {o : Bool} {n v : Int} {x : S45} {l : List S45} (h : errS R o n v (x :: l) = 0) : itS x = 0 ∧ ¬ (x.f4 = 4 ∧ (itemS R o n v x).2.2.2 = false) ∧ (itemS R o n v x).1.length ≤ 4096 ∧ errS R o (itemS R o n v x).2.1 (itemS R o n v x).2.2.1 l = 0 := by
  unfold errS at h
  split at h
  · rename_i h0
    split at h
    · omega
    · split at h
      · omega
      · split at h
        · rename_i h1 h2 h3; exact ⟨h0, h1, by omega, h⟩
        · omega
  · omega
def encodeS (R : Int) (o : Bool) (l : List S45) : List S45 × Int := if chkS R = 0 then (if l.length > 1024 then ([], 6) else if errS R o 0 0 l = 0 then (outS R o 0 0 l, 0) else ([], errS R o 0 0 l)) else ([], chkS R)
theorem encodeS_len (R : Int) (o : Bool) (l : List S45) : (encodeS R o l).1.length ≤ 1024 := by
  unfold encodeS
  split
  · split
    · simp
    · split
      · simp only [outS_len]; omega
      · simp
  · simp
theorem ev_stuff_Encode (R : Int) (o : Bool) (l : List S45) : Ev (fun k => stuff_Encode.f k R o l) (encodeS R o l) := by
  unfold stuff_Encode.f encodeS
  refine Ev.bind (ev_stuff_Check R o) (Ev.ite (fun hc => ?_) (fun hc => ?_))
  case refine_2 => rw [if_neg hc]; exact Ev.now _
  rw [if_pos hc]
  obtain ⟨hR, hR2⟩ := chkS_ok hc
  refine Ev.step (fun k => stuff_Encode.j0.eq_2 ..) ?_
  refine Ev.ite (fun hl => ?_) (fun hl => ?_)
  · rw [if_pos (by omega)]; exact Ev.now _
  rw [if_neg (by omega)]
  refine Ev.step (fun k => stuff_Encode.j1.eq_2 ..) ?_
  refine Ev.pos (by omega) (Ev.pos (by omega) ?_)
  have key : ∀ (q pre out : List S45) (n v : Int) (i : Nat), l = pre ++ q → i = pre.length → out.length = i → 0 ≤ n → n < R → (v = 0 ∨ v = 1) → Ev (fun k => stuff_Encode.l0 k n v out l (l.length : Int) (i : Int) R o) (if errS R o n v q = 0 then (out ++ outS R o n v q, 0) else ([], errS R o n v q)) := by
    intro q
    induction q with
    | nil =>
      intro pre out n v i he hi ho h0 h1 hv
      rw [List.append_nil] at he
      have hi' : i = l.length := by rw [hi, he]
      clear he
      refine Ev.step (fun k => stuff_Encode.l0.eq_2 ..) ?_
      rw [if_pos (show errS R o n v [] = 0 from rfl), outS, List.append_nil]
      exact Ev.neg (by omega) (Ev.now _)
    | cons x q ih =>
      intro pre out n v i he hi ho h0 h1 hv
      have hlen : l.length = i + (q.length + 1) := by rw [he, hi, List.length_append, List.length_cons]
      have hx : rd_T45 l (i : Int) = x := by rw [he]; exact rdI_mid pre x q i hi
      have ih2 := fun n' v' out' ho' => ih (pre ++ [x]) out' n' v' (i + 1) (by rw [he]; simp) (by simp [hi]) ho'
      clear ih he
      refine Ev.step (fun k => stuff_Encode.l0.eq_2 ..) ?_
      refine Ev.pos (by omega) ?_
      refine Ev.step (fun k => stuff_Encode.j3.eq_2 ..) ?_
      rw [hx]
      refine Ev.pos (by omega) (Ev.pos (by omega) (Ev.bind (ev_stuff_check x) (Ev.ite (fun hx0 => ?_) (fun hx0 => ?_))))
      case refine_2 =>
        have e : errS R o n v (x :: q) = itS x := by rw [errS, if_neg hx0]
        rw [e, if_neg hx0]
        exact Ev.now _
      obtain ⟨_, _, hxs, hxb, hx4⟩ := itS_ok hx0
      refine Ev.bind (ev_fill R o (x.f4 == 4) x.f3 hR hR2 hxs n v hxb h0 h1 hv) ?_
      have hr := fillS_rng R o (x.f4 == 4) hR (bytesOf x.f3) n v false hxb h0 h1 hv
      have hE : errS R o n v (x :: q) = (if x.f4 = 4 ∧ (itemS R o n v x).2.2.2 = false then 17 else if (itemS R o n v x).1.length > 4096 then 6 else if x.f1 = 0 ∧ x.f2 = 0 then errS R o (itemS R o n v x).2.1 (itemS R o n v x).2.2.1 q else 1) := by rw [errS, if_pos hx0]
      rw [hE, outS]
      change Ev (fun k => if x.f4 = 4 then stuff_Encode.j4 k out (itemS R o n v x).1 (itemS R o n v x).2.1 (itemS R o n v x).2.2.1 l (l.length : Int) (i : Int) (!(itemS R o n v x).2.2.2) R o x.f0 x.f1 x.f2 x.f3 x.f4 else stuff_Encode.j4 k out (itemS R o n v x).1 (itemS R o n v x).2.1 (itemS R o n v x).2.2.1 l (l.length : Int) (i : Int) false R o x.f0 x.f1 x.f2 x.f3 x.f4) _
      change 0 ≤ (itemS R o n v x).2.1 ∧ (itemS R o n v x).2.1 < R ∧ ((itemS R o n v x).2.2.1 = 0 ∨ (itemS R o n v x).2.2.1 = 1) at hr
      generalize itemS R o n v x = r at *
      obtain ⟨b, n', v', d'⟩ := r
      simp only [] at hr ⊢
      have hgo : Ev (fun k => stuff_Encode.j4 k out b n' v' l (l.length : Int) (i : Int) false R o x.f0 x.f1 x.f2 x.f3 x.f4) (if (if b.length > 4096 then 6 else if x.f1 = 0 ∧ x.f2 = 0 then errS R o n' v' q else 1) = 0 then (out ++ ⟨x.f0, 0, 0, strOfNums b, 0⟩ :: outS R o n' v' q, 0) else ([], if b.length > 4096 then 6 else if x.f1 = 0 ∧ x.f2 = 0 then errS R o n' v' q else 1)) := by
        refine Ev.step (fun k => stuff_Encode.j4.eq_2 ..) ?_
        rw [wnat (by omega)]
        refine Ev.neg (by decide) (Ev.ite (fun hbl => ?_) (fun hbl => ?_))
        · rw [if_pos (show b.length > 4096 by omega), if_neg (by omega)]; exact Ev.now _
        · rw [if_neg (show ¬ b.length > 4096 by omega)]
          refine Ev.ite (fun h5 => Ev.ite (fun h6 => ?_) (fun h6 => ?_)) (fun h5 => ?_)
          · rw [if_pos (show x.f1 = 0 ∧ x.f2 = 0 from ⟨h5, h6⟩)]
            refine Ev.pos (by omega) ?_
            have := ih2 n' v' (out ++ [⟨x.f0, 0, 0, strOfNums b, 0⟩]) (by simp [ho]) hr.1 hr.2.1 hr.2.2
            rw [List.append_assoc] at this
            exact this
          · rw [if_neg (show ¬ (x.f1 = 0 ∧ x.f2 = 0) from fun h => h6 h.2), if_neg (by omega)]; exact Ev.now _
          · rw [if_neg (show ¬ (x.f1 = 0 ∧ x.f2 = 0) from fun h => h5 h.1), if_neg (by omega)]; exact Ev.now _
      refine Ev.ite (fun h4 => ?_) (fun h4 => ?_)
      · cases d'
        · rw [if_pos (show x.f4 = 4 ∧ false = false from ⟨h4, rfl⟩), if_neg (by omega)]
          refine Ev.step (fun k => stuff_Encode.j4.eq_2 ..) ?_
          exact Ev.pos rfl (Ev.now _)
        · rw [if_neg (show ¬ (x.f4 = 4 ∧ true = false) from fun h => by simp at h)]
          exact hgo
      · rw [if_neg (show ¬ (x.f4 = 4 ∧ d' = false) from fun h => h4 h.1)]
        exact hgo
  have := key l [] [] 0 0 0 rfl rfl rfl (by omega) (by omega) (.inl rfl)
  rw [List.nil_append] at this
  exact this
theorem ev_ref_Check (R : Int) (o : Bool) : Ev (fun k => signalbenchref19_Check.f R o) (chkS R) := by
  refine Ev.now' fun _ => ?_
  unfold signalbenchref19_Check.f chkS
  repeat' split
  all_goals first | rfl | omega
/-- The reference's counter: the same, but for what it remembers where ones alone are counted. -/
theorem ref_counted (R : Int) (o : Bool) {n v p b : Int} (h0 : 0 ≤ n) (h1 : n < 100) (hb : b = 0 ∨ b = 1) (h : o = false → p = v) : ∃ p', signalbenchref19_counted.f R o n p b = some ((cntS o n v b).1, p') ∧ (o = false → p' = (cntS o n v b).2) ∧ (o = true → p' = 1) ∧ (p' = 0 ∨ p' = 1 ∨ p' = p) := by
  unfold signalbenchref19_counted.f cntS
  rw [w64 (x := n + 1) (by omega) (by omega)]
  cases o
  · obtain rfl := h rfl
    simp only [Bool.false_eq_true, ↓reduceIte]
    by_cases hc : n > 0 ∧ b = p
    · rw [if_pos hc.1, if_pos hc.2, if_pos hc]; exact ⟨_, rfl, fun _ => hc.2.symm, fun h => absurd h (by decide), by omega⟩
    · rw [if_neg hc]
      by_cases h2 : n > 0
      · rw [if_pos h2, if_neg (fun h => hc ⟨h2, h⟩)]; exact ⟨_, rfl, fun _ => rfl, fun h => absurd h (by decide), by omega⟩
      · rw [if_neg h2]; exact ⟨_, rfl, fun _ => rfl, fun h => absurd h (by decide), by omega⟩
  · simp only [↓reduceIte]
    rcases hb with rfl | rfl
    · rw [if_neg (by omega), if_pos rfl]; exact ⟨_, rfl, fun h => absurd h (by decide), fun _ => rfl, by omega⟩
    · rw [if_pos rfl, if_neg (by omega)]; exact ⟨_, rfl, fun h => absurd h (by decide), fun _ => rfl, by omega⟩
theorem ref_counted0 (R : Int) (o : Bool) {v b : Int} (hb : b = 0 ∨ b = 1) : ∃ p', signalbenchref19_counted.f R o 0 0 b = some ((cntS o 0 v b).1, p') ∧ (o = false → p' = (cntS o 0 v b).2) := by
  unfold signalbenchref19_counted.f cntS
  rw [w64 (x := 0 + 1) (by omega) (by omega)]
  cases o
  · simp only [Bool.false_eq_true, ↓reduceIte]
    rw [if_neg (by omega), if_neg (by omega)]; exact ⟨_, rfl, fun _ => rfl⟩
  · simp only [↓reduceIte]
    rcases hb with rfl | rfl
    · rw [if_neg (by omega), if_pos rfl]; exact ⟨_, rfl, fun h => absurd h (by decide)⟩
    · rw [if_pos rfl, if_neg (by omega)]; exact ⟨_, rfl, fun h => absurd h (by decide)⟩
theorem cnt_full {o : Bool} {n v b R : Int} (hR : 2 ≤ R) (h : (cntS o n v b).1 = R) (ho : o = true) (hb : b = 0 ∨ b = 1) : (cntS o n v b).2 = 1 := by
  subst ho
  unfold cntS at h ⊢
  simp only [↓reduceIte] at h ⊢
  rcases hb with rfl | rfl
  · rw [if_pos rfl] at h; dsimp only at h; omega
  · rw [if_neg (by omega)]
/-- Is an event accepted behind one that began at a time? -/
def accN (at_ : Int) (e : S33) : Bool := decide (e.f0 = 2) && (validE e.f0 e.f1 e.f2 e.f3 e.f4 e.f5 e.f6 && (decide (at_ ≤ e.f1) && (decide (e.f3 = 0) || decide (e.f3 = 1))))
theorem accN_ok {at_ : Int} {e : S33} (h : accN at_ e = true) : e.f0 = 2 ∧ validE e.f0 e.f1 e.f2 e.f3 e.f4 e.f5 e.f6 = true ∧ at_ ≤ e.f1 ∧ (e.f3 = 0 ∨ e.f3 = 1) := by
  simpa [accN] using h
theorem ev_accN (a0 at_ a2 a3 a4 a5 p : Int) (s : ByteArray) (e : S33) : Ev (fun k => stuff_accepts.f k a0 at_ a2 a3 a4 a5 p s e.f0 e.f1 e.f2 e.f3 e.f4 e.f5 e.f6) (accN at_ e) := by
  have hv := ev_event_Valid e.f0 e.f1 e.f2 e.f3 e.f4 e.f5 e.f6
  unfold stuff_accepts.f accN
  refine Ev.ite (fun h => ?_) (fun h => ?_)
  · rw [decide_eq_true h, Bool.true_and]
    refine Ev.bind hv (Ev.ite (fun h2 => ?_) (fun h2 => ?_))
    · rw [h2, Bool.true_and]
      refine Ev.ite (fun h3 => ?_) (fun h3 => ?_)
      · rw [decide_eq_true (show at_ ≤ e.f1 by omega), Bool.true_and]
        refine Ev.ite (fun h4 => ?_) (fun h4 => ?_)
        · rw [decide_eq_true h4, Bool.true_or]; exact Ev.now _
        · rw [decide_eq_false h4, Bool.false_or]
          have : (e.f3 == 1) = decide (e.f3 = 1) := rfl
          rw [this]; exact Ev.now _
      · rw [decide_eq_false (show ¬ at_ ≤ e.f1 by omega), Bool.false_and]; exact Ev.now _
    · rw [Bool.eq_false_iff.mpr h2, Bool.false_and]; exact Ev.now _
  · rw [decide_eq_false h, Bool.false_and]; exact Ev.now _
theorem ref_Valid (e : S33) : signalbenchref07_Valid.f e.f0 e.f1 e.f2 e.f3 e.f4 e.f5 e.f6 = some (validE e.f0 e.f1 e.f2 e.f3 e.f4 e.f5 e.f6) := by
  unfold signalbenchref07_Valid.f validE
  repeat' split
  all_goals first
    | (rw [decide_eq_false (by omega)])
    | (congr 1; rw [decide_eq_decide]; omega)
theorem ref_acc (at_ : Int) (e : S33) : signalbenchref19_accepts.f e.f0 e.f1 e.f2 e.f3 e.f4 e.f5 e.f6 at_ = some (accN at_ e) := by
  unfold signalbenchref19_accepts.f accN
  rw [ref_Valid, Option.bind_some]
  cases validE e.f0 e.f1 e.f2 e.f3 e.f4 e.f5 e.f6
  · simp
  · rw [if_pos rfl]
    by_cases h0 : e.f0 = 2
    · rw [if_pos h0, decide_eq_true h0]
      by_cases h1 : e.f1 ≥ at_
      · rw [if_pos h1, decide_eq_true (show at_ ≤ e.f1 by omega)]
        by_cases h3 : e.f3 = 0
        · rw [if_pos h3, decide_eq_true h3]; rfl
        · rw [if_neg h3, decide_eq_false h3]; rfl
      · rw [if_neg h1, decide_eq_false (show ¬ at_ ≤ e.f1 by omega)]; rfl
    · rw [if_neg h0, decide_eq_false h0]; rfl
/-- Two lists of events that are one. -/
theorem ev_Same (l : List S33) (hl : l.length < 1000000) : Ev (fun k => signalbenchref07_Same.f k l l) true := by
  unfold signalbenchref07_Same.f
  refine Ev.pos rfl ?_
  refine Ev.step (fun k => signalbenchref07_Same.j0.eq_2 ..) ?_
  have key : ∀ (d i : Nat), i + d = l.length → Ev (fun k => signalbenchref07_Same.l0 k l l (i : Int)) true := by
    intro d
    induction d with
    | zero =>
      intro i h
      refine Ev.step (fun k => signalbenchref07_Same.l0.eq_2 ..) ?_
      exact Ev.neg (by omega) (Ev.now _)
    | succ d ih =>
      intro i h
      refine Ev.step (fun k => signalbenchref07_Same.l0.eq_2 ..) ?_
      rw [wnat (by omega)]
      exact Ev.pos (by omega) (Ev.pos (by omega) (Ev.pos (by omega) (Ev.neg (by simp) (ih (i + 1) (by omega)))))
  exact key l.length 0 (by omega)
def smallE (l : List S33) : Bool := decide (l.length ≤ 40) && l.all fun x => decide (x.f5.size ≤ 20)
theorem ev_small (l : List S33) : Ev (fun k => signalbenchlaw19_small.f k l) (smallE l) := by
  unfold signalbenchlaw19_small.f smallE
  refine Ev.ite (fun h => ?_) (fun h => ?_)
  · rw [decide_eq_false (by omega), Bool.false_and]; exact Ev.now _
  rw [decide_eq_true (show l.length ≤ 40 by omega), Bool.true_and]
  refine Ev.step (fun k => signalbenchlaw19_small.j0.eq_2 ..) ?_
  have key : ∀ (m pre : List S33) (i : Nat), l = pre ++ m → i = pre.length → Ev (fun k => signalbenchlaw19_small.l0 k l (i : Int)) (m.all fun x => decide (x.f5.size ≤ 20)) := by
    intro m
    induction m with
    | nil =>
      intro pre i he hi
      rw [List.append_nil] at he
      refine Ev.step (fun k => signalbenchlaw19_small.l0.eq_2 ..) ?_
      exact Ev.neg (by rw [he]; omega) (Ev.now _)
    | cons x m ih =>
      intro pre i he hi
      have hlen : l.length = i + (m.length + 1) := by rw [he, hi, List.length_append, List.length_cons]
      have hx : rd_T33 l (i : Int) = x := by rw [he]; exact rdE_mid pre x m i hi
      have ih2 := ih (pre ++ [x]) (i + 1) (by rw [he]; simp) (by simp [hi])
      clear ih he
      refine Ev.step (fun k => signalbenchlaw19_small.l0.eq_2 ..) ?_
      rw [hx, wnat (by omega), List.all_cons]
      refine Ev.pos (by omega) (Ev.pos (by omega) (Ev.ite (fun hb => ?_) (fun hb => ?_)))
      · rw [decide_eq_false (by omega), Bool.false_and]; exact Ev.now _
      · rw [decide_eq_true (show x.f5.size ≤ 20 by omega), Bool.true_and]; exact ih2
  exact key l [] 0 rfl rfl
theorem ev_awake : Ev (fun k => signalbenchlaw19_awake.f k) true := by
  refine Ev.of (fun k => signalbenchlaw19_awake.mono k) (k := 80) ?_
  decide +kernel
def evD (e : S33) (f : Int) : S33 := ⟨2, e.f1, e.f2, e.f3, e.f4, (⟨#[]⟩ : ByteArray), f⟩
/-- One step: the time, the counter, what it remembers, the events. -/
def stepT (R : Int) (o : Bool) (a n v : Int) (e : S33) : Int × Int × Int × List S33 :=
  if chkS R = 0 ∧ accN a e = true then (if e.f6 = 0 then (if n = R then (if e.f3 = 1 - v then (e.f1, (cntS o 0 v e.f3).1, (cntS o 0 v e.f3).2, []) else (e.f1, 0, v, [evD e 4])) else (e.f1, (cntS o n v e.f3).1, (cntS o n v e.f3).2, [evD e e.f6])) else (e.f1, 0, v, [evD e e.f6]))
  else (a, n, v, [])
theorem stepT_len (R : Int) (o : Bool) (a n v : Int) (e : S33) : (stepT R o a n v e).2.2.2.length ≤ 1 := by
  unfold stepT
  repeat' split
  all_goals simp
/-- What is known of the two counters. -/
def Inv (R : Int) (o : Bool) (n v p : Int) : Prop := chkS R = 0 → 0 ≤ n ∧ n ≤ R ∧ (v = 0 ∨ v = 1) ∧ (o = false → p = v) ∧ (n = R → p = v)
theorem ev_stepS (R : Int) (o : Bool) (a n v p : Int) (e : S33) (hI : Inv R o n v p) : Ev (fun k => stuff_Step.f k R o 0 a 0 n 0 0 v ⟨#[]⟩ e.f0 e.f1 e.f2 e.f3 e.f4 e.f5 e.f6) (0, (stepT R o a n v e).1, 0, (stepT R o a n v e).2.1, 0, 0, (stepT R o a n v e).2.2.1, ⟨#[]⟩, (stepT R o a n v e).2.2.2) := by
  have hno : ¬ (chkS R = 0 ∧ accN a e = true) → Ev (fun k => stuff_Step.j0 k true R o 0 a 0 n 0 0 v ⟨#[]⟩ e.f0 e.f1 e.f2 e.f3 e.f4 e.f5 e.f6) (0, (stepT R o a n v e).1, 0, (stepT R o a n v e).2.1, 0, 0, (stepT R o a n v e).2.2.1, ⟨#[]⟩, (stepT R o a n v e).2.2.2) := by
    intro h
    unfold stepT
    rw [if_neg h]
    refine Ev.step (fun k => stuff_Step.j0.eq_2 ..) ?_
    exact Ev.pos rfl (Ev.now _)
  unfold stuff_Step.f
  refine Ev.bind (ev_stuff_Check R o) (Ev.ite (fun hc => Ev.bind (ev_accN 0 a 0 n 0 0 v ⟨#[]⟩ e) ?_) (fun hc => hno (fun h => hc h.1)))
  by_cases ha : accN a e = true
  case neg =>
    rw [Bool.eq_false_iff.mpr ha]
    exact hno (fun h => ha h.2)
  clear hno
  obtain ⟨hR, hR2⟩ := chkS_ok hc
  obtain ⟨i1, i2, i3, i4, i5⟩ := hI hc
  obtain ⟨_, _, _, hb⟩ := accN_ok ha
  rw [ha]
  refine Ev.step (fun k => stuff_Step.j0.eq_2 ..) ?_
  refine Ev.neg (by decide) ?_
  refine Ev.step (fun k => stuff_Step.j1.eq_2 ..) ?_
  rw [w64 (x := 1 - v) (by omega) (by omega)]
  unfold stepT
  rw [if_pos ⟨hc, ha⟩]
  refine Ev.ite (fun h6 => ?_) (fun h6 => ?_)
  · rw [if_pos h6]
    refine Ev.ite (fun h1 => ?_) (fun h1 => ?_)
    · rw [if_pos h1]
      refine Ev.ite (fun h2 => ?_) (fun h2 => ?_)
      · rw [if_pos h2]
        exact Ev.bind (ev_count R o 0 v e.f3 (by omega) (by omega) hb) (Ev.now _)
      · rw [if_neg h2]
        exact Ev.now _
    · rw [if_neg h1]
      exact Ev.bind (ev_count R o n v e.f3 i1 (by omega) hb) (Ev.now _)
  · rw [if_neg h6]
    exact Ev.now _
theorem ev_stepR (R : Int) (o : Bool) (a n v p : Int) (e : S33) (hI : Inv R o n v p) : ∃ p', Ev (fun k => signalbenchref19_Step.f k R o 0 a 0 n 0 0 p ⟨#[]⟩ e.f0 e.f1 e.f2 e.f3 e.f4 e.f5 e.f6) (0, (stepT R o a n v e).1, 0, (stepT R o a n v e).2.1, 0, 0, p', ⟨#[]⟩, (stepT R o a n v e).2.2.2) ∧ Inv R o (stepT R o a n v e).2.1 (stepT R o a n v e).2.2.1 p' := by
  have hno : ¬ (chkS R = 0 ∧ accN a e = true) → Ev (fun k => signalbenchref19_Step.j0 k true R o 0 a 0 n 0 0 p ⟨#[]⟩ e.f0 e.f1 e.f2 e.f3 e.f4 e.f5 e.f6) (0, (stepT R o a n v e).1, 0, (stepT R o a n v e).2.1, 0, 0, p, ⟨#[]⟩, (stepT R o a n v e).2.2.2) ∧ Inv R o (stepT R o a n v e).2.1 (stepT R o a n v e).2.2.1 p := by
    intro h
    unfold stepT
    rw [if_neg h]
    refine ⟨?_, hI⟩
    refine Ev.step (fun k => signalbenchref19_Step.j0.eq_2 ..) ?_
    exact Ev.pos rfl (Ev.now _)
  unfold signalbenchref19_Step.f
  by_cases hc : chkS R = 0
  case neg =>
    obtain ⟨k1, k2⟩ := hno (fun h => hc h.1)
    exact ⟨p, Ev.bind (ev_ref_Check R o) (Ev.neg hc k1), k2⟩
  by_cases ha : accN a e = true
  case neg =>
    obtain ⟨k1, k2⟩ := hno (fun h => ha h.2)
    refine ⟨p, Ev.bind (ev_ref_Check R o) (Ev.pos hc ?_), k2⟩
    rw [ref_acc, Bool.eq_false_iff.mpr ha]
    exact Ev.sbind k1
  clear hno
  obtain ⟨hR, hR2⟩ := chkS_ok hc
  obtain ⟨i1, i2, i3, i4, i5⟩ := hI hc
  obtain ⟨_, _, _, hb⟩ := accN_ok ha
  have wrap : ∀ (p' : Int) (q : Int × Int × Int × List S33), stepT R o a n v e = q → Ev (fun k => signalbenchref19_Step.j1 k R o 0 a 0 n 0 0 p ⟨#[]⟩ e.f0 e.f1 e.f2 e.f3 e.f4 e.f5 e.f6) (0, q.1, 0, q.2.1, 0, 0, p', ⟨#[]⟩, q.2.2.2) → Inv R o q.2.1 q.2.2.1 p' →
      ∃ p', Ev (fun k => (signalbenchref19_Check.f R o).bind fun t234 => if t234 = 0 then ((signalbenchref19_accepts.f e.f0 e.f1 e.f2 e.f3 e.f4 e.f5 e.f6 a).bind fun t235 => signalbenchref19_Step.j0 k (!t235) R o 0 a 0 n 0 0 p ⟨#[]⟩ e.f0 e.f1 e.f2 e.f3 e.f4 e.f5 e.f6) else signalbenchref19_Step.j0 k true R o 0 a 0 n 0 0 p ⟨#[]⟩ e.f0 e.f1 e.f2 e.f3 e.f4 e.f5 e.f6) (0, (stepT R o a n v e).1, 0, (stepT R o a n v e).2.1, 0, 0, p', ⟨#[]⟩, (stepT R o a n v e).2.2.2) ∧ Inv R o (stepT R o a n v e).2.1 (stepT R o a n v e).2.2.1 p' := by
    intro p' q hq h1 h2
    rw [hq]
    refine ⟨p', Ev.bind (ev_ref_Check R o) (Ev.pos hc ?_), h2⟩
    rw [ref_acc, ha]
    refine Ev.sbind ?_
    refine Ev.step (fun k => signalbenchref19_Step.j0.eq_2 ..) ?_
    exact Ev.neg (by decide) h1
  have hs : stepT R o a n v e = if e.f6 = 0 then (if n = R then (if e.f3 = 1 - v then (e.f1, (cntS o 0 v e.f3).1, (cntS o 0 v e.f3).2, []) else (e.f1, 0, v, [evD e 4])) else (e.f1, (cntS o n v e.f3).1, (cntS o n v e.f3).2, [evD e e.f6])) else (e.f1, 0, v, [evD e e.f6]) := by
    unfold stepT; rw [if_pos ⟨hc, ha⟩]
  by_cases h6 : e.f6 = 0
  case neg =>
    rw [if_neg h6] at hs
    refine wrap p _ hs ?_ (fun _ => ⟨by simp, by simp; omega, i3, i4, fun h => by simp at h; omega⟩)
    refine Ev.step (fun k => signalbenchref19_Step.j1.eq_2 ..) ?_
    exact Ev.neg h6 (Ev.now _)
  rw [if_pos h6] at hs
  by_cases h1 : n = R
  · rw [if_pos h1] at hs
    have hp := i5 h1
    by_cases h2 : e.f3 = 1 - v
    · rw [if_pos h2] at hs
      obtain ⟨p', g1, g2⟩ := ref_counted0 R o (v := v) (b := e.f3) hb
      have hw := cntS_new o (v := v) (b := e.f3) (R := R) hR hb
      refine wrap p' _ hs ?_ (fun _ => ⟨hw.1, by dsimp only; omega, hw.2.2, g2, fun h => by dsimp only at h; omega⟩)
      refine Ev.step (fun k => signalbenchref19_Step.j1.eq_2 ..) ?_
      rw [g1]
      exact Ev.pos h6 (Ev.neg (by omega) (Ev.neg (by omega) (Ev.sbind (Ev.now _))))
    · rw [if_neg h2] at hs
      refine wrap p _ hs ?_ (fun _ => ⟨by simp, by simp; omega, i3, i4, fun h => by simp at h; omega⟩)
      refine Ev.step (fun k => signalbenchref19_Step.j1.eq_2 ..) ?_
      exact Ev.pos h6 (Ev.neg (by omega) (Ev.pos (by omega) (Ev.now _)))
  · rw [if_neg h1] at hs
    obtain ⟨p', g1, g2, g3, _⟩ := ref_counted R o (n := n) (v := v) (p := p) (b := e.f3) i1 (by omega) hb i4
    have hw := cntS_rng o (n := n) (v := v) (b := e.f3) (R := R) i1 (by omega) hR hb
    refine wrap p' _ hs ?_ (fun _ => ⟨hw.1, hw.2.1, hw.2.2, g2, fun h => ?_⟩)
    · refine Ev.step (fun k => signalbenchref19_Step.j1.eq_2 ..) ?_
      rw [g1]
      exact Ev.pos h6 (Ev.pos (by omega) (Ev.sbind (Ev.now _)))
    · cases o
      · exact g2 rfl
      · rw [g3 rfl, cnt_full (v := v) (b := e.f3) hR h rfl hb]
def decT (R : Int) (o : Bool) : Int → Int → Int → List S33 → List S33
  | _, _, _, [] => []
  | a, n, v, e :: l => (stepT R o a n v e).2.2.2 ++ decT R o (stepT R o a n v e).1 (stepT R o a n v e).2.1 (stepT R o a n v e).2.2.1 l
theorem decT_len (R : Int) (o : Bool) : ∀ (l : List S33) (a n v : Int), (decT R o a n v l).length ≤ l.length
  | [], _, _, _ => Nat.le_refl _
  | e :: l, a, n, v => by
    have h1 := stepT_len R o a n v e
    have h2 := decT_len R o l (stepT R o a n v e).1 (stepT R o a n v e).2.1 (stepT R o a n v e).2.2.1
    rw [decT, List.length_append, List.length_cons]; omega
theorem inv0 (R : Int) (o : Bool) : Inv R o 0 0 0 := fun h => by
  have := chkS_ok h
  exact ⟨by omega, by omega, .inl rfl, fun _ => rfl, fun _ => rfl⟩
theorem ev_DecodeT (R : Int) (o : Bool) (l : List S33) (hl : l.length < 1000000) : Ev (fun k => stuff_Decode.f k R o l) (decT R o 0 0 0 l) := by
  have key : ∀ (q pre out : List S33) (a n v p : Int) (i : Nat), l = pre ++ q → i = pre.length → out.length ≤ i → Inv R o n v p → Ev (fun k => stuff_Decode.l0 k out l (l.length : Int) (i : Int) R o 0 a 0 n 0 0 v ⟨#[]⟩) (out ++ decT R o a n v q) := by
    intro q
    induction q with
    | nil =>
      intro pre out a n v p i he hi ho hI
      rw [List.append_nil] at he
      have hi' : i = l.length := by rw [hi, he]
      clear he
      unfold decT
      refine Ev.step (fun k => stuff_Decode.l0.eq_2 ..) ?_
      refine Ev.neg (by omega) (Ev.sbind (Ev.pos (by rw [List.length_nil]; omega) (Ev.now _)))
    | cons e q ih =>
      intro pre out a n v p i he hi ho hI
      have hlen : l.length = i + (q.length + 1) := by rw [he, hi, List.length_append, List.length_cons]
      have hx : rd_T33 l (i : Int) = e := by rw [he]; exact rdE_mid pre e q i hi
      obtain ⟨p', _, hI2⟩ := ev_stepR R o a n v p e hI
      have hs := stepT_len R o a n v e
      have ih2 := ih (pre ++ [e]) (out ++ (stepT R o a n v e).2.2.2) (stepT R o a n v e).1 (stepT R o a n v e).2.1 (stepT R o a n v e).2.2.1 p' (i + 1) (by rw [he]; simp) (by simp [hi]) (by rw [List.length_append]; omega) hI2
      rw [List.append_assoc] at ih2
      clear ih he
      refine Ev.step (fun k => stuff_Decode.l0.eq_2 ..) ?_
      rw [hx, wnat (by omega), decT]
      exact Ev.pos (by omega) (Ev.pos (by omega) (Ev.pos (by omega) (Ev.bind (ev_stepS R o a n v p e hI) (Ev.pos (by dsimp only; omega) ih2))))
  exact key l [] [] 0 0 0 0 0 rfl rfl (by simp) (inv0 R o)
theorem ev_DecodeR (R : Int) (o : Bool) (l : List S33) (hl : l.length < 1000000) : Ev (fun k => signalbenchref19_Decode.f k R o l) (decT R o 0 0 0 l) := by
  have key : ∀ (q pre out : List S33) (a n v p : Int) (i : Nat), l = pre ++ q → i = pre.length → out.length ≤ i → Inv R o n v p → Ev (fun k => signalbenchref19_Decode.l0 k l out (i : Int) R o 0 a 0 n 0 0 p ⟨#[]⟩) (out ++ decT R o a n v q) := by
    intro q
    induction q with
    | nil =>
      intro pre out a n v p i he hi ho hI
      rw [List.append_nil] at he
      have hi' : i = l.length := by rw [hi, he]
      clear he
      unfold decT
      refine Ev.step (fun k => signalbenchref19_Decode.l0.eq_2 ..) ?_
      refine Ev.neg (by omega) (Ev.sbind (Ev.pos (by rw [List.length_nil]; omega) (Ev.now _)))
    | cons e q ih =>
      intro pre out a n v p i he hi ho hI
      have hlen : l.length = i + (q.length + 1) := by rw [he, hi, List.length_append, List.length_cons]
      have hx : rd_T33 l (i : Int) = e := by rw [he]; exact rdE_mid pre e q i hi
      obtain ⟨p', hS, hI2⟩ := ev_stepR R o a n v p e hI
      have hs := stepT_len R o a n v e
      have ih2 := ih (pre ++ [e]) (out ++ (stepT R o a n v e).2.2.2) (stepT R o a n v e).1 (stepT R o a n v e).2.1 (stepT R o a n v e).2.2.1 p' (i + 1) (by rw [he]; simp) (by simp [hi]) (by rw [List.length_append]; omega) hI2
      rw [List.append_assoc] at ih2
      clear ih he
      refine Ev.step (fun k => signalbenchref19_Decode.l0.eq_2 ..) ?_
      rw [hx, wnat (by omega), decT]
      exact Ev.pos (by omega) (Ev.pos (by omega) (Ev.bind hS (Ev.pos (by dsimp only; omega) ih2)))
  exact key l [] [] 0 0 0 0 0 rfl rfl (by simp) (inv0 R o)
theorem main : signalbenchlaw19_StuffDecodes.Pure := by
  intro R o l _ _ _ _
  refine Ev.rounds (g := fun k => signalbenchlaw19_StuffDecodes.f k R o l) ?_
  unfold signalbenchlaw19_StuffDecodes.f
  have haw : Ev (fun k => (signalbenchlaw19_awake.f k).bind fun t => some t) true := Ev.bind ev_awake (Ev.now true)
  refine Ev.bind (ev_small l) (Ev.ite (fun hs => ?_) (fun _ => haw))
  have hlen : l.length ≤ 40 := by unfold smallE at hs; rw [Bool.and_eq_true, decide_eq_true_eq] at hs; exact hs.1
  have hdl := decT_len R o l 0 0 0
  refine Ev.step (fun k => signalbenchlaw19_StuffDecodes.j0.eq_2 ..) ?_
  refine Ev.sbind (Ev.sbind ?_)
  have key : ∀ (q pre : List S33) (a n v p : Int) (i : Nat), l = pre ++ q → i = pre.length → Inv R o n v p → Ev (fun k => signalbenchlaw19_StuffDecodes.l0 k l (i : Int) R o 0 a 0 n 0 0 v ⟨#[]⟩ 0 a 0 n 0 0 p ⟨#[]⟩) true := by
    intro q
    induction q with
    | nil =>
      intro pre a n v p i he hi hI
      rw [List.append_nil] at he
      have hi' : i = l.length := by rw [hi, he]
      clear he
      refine Ev.step (fun k => signalbenchlaw19_StuffDecodes.l0.eq_2 ..) ?_
      exact Ev.neg (by omega) (Ev.bind (ev_stuff_Check R o) (Ev.bind (ev_ref_Check R o) (Ev.pos rfl (Ev.sbind (Ev.pos rfl (Ev.bind (ev_DecodeT R o l (by omega)) (Ev.bind (ev_DecodeR R o l (by omega)) (Ev.bind (ev_Same _ (by omega)) (Ev.pos rfl haw)))))))))
    | cons e q ih =>
      intro pre a n v p i he hi hI
      have hlen2 : l.length = i + (q.length + 1) := by rw [he, hi, List.length_append, List.length_cons]
      have hx : rd_T33 l (i : Int) = e := by rw [he]; exact rdE_mid pre e q i hi
      obtain ⟨p', hS, hI2⟩ := ev_stepR R o a n v p e hI
      have hs1 := stepT_len R o a n v e
      have ih2 := ih (pre ++ [e]) (stepT R o a n v e).1 (stepT R o a n v e).2.1 (stepT R o a n v e).2.2.1 p' (i + 1) (by rw [he]; simp) (by simp [hi]) hI2
      clear ih he
      refine Ev.step (fun k => signalbenchlaw19_StuffDecodes.l0.eq_2 ..) ?_
      rw [hx, wnat (by omega)]
      exact Ev.pos (by omega) (Ev.pos (by omega) (Ev.bind (ev_stepS R o a n v p e hI) (Ev.bind hS (Ev.bind (ev_Same _ (by dsimp only; omega)) (Ev.pos rfl ih2)))))
  exact key l [] 0 0 0 0 0 rfl rfl (inv0 R o)
end StuffDecodes_
theorem StuffDecodes : signalbenchlaw19_StuffDecodes.Pure := StuffDecodes_.main
end Go.Proofs.Ytpgeomgaphodkaa.Pure
