/- The law StuffFaults holds as a statement on numbers and lists: each faulty item gives one event with the fault, and all other bits are those of the items. No condition beyond those of the statement. -/
import Derived.Test.YtpgeomgaphodkaaPStuffFaultsx9
import Derived.Test.YtpgeomgaphodkaaSpecBytes
namespace Go.Proofs.Ytpgeomgaphodkaa.Pure
open Go.RowKit Go.Proofs.Ytpgeomgaphodkaa.PStuffFaults Go.Proofs.YtpgeomgaphodkaaW.PrintWords Go.Proofs.YtpgeomgaphodkaaW.PrintLast Go.Proofs.Ytpgeomgaphodkaa.Aid
set_option linter.unusedVariables false
set_option linter.unusedSimpArgs false
namespace StuffFaults_
theorem ev_bits_Valid_l0 (s : ByteArray) (hs : s.size ≤ 65536) : ∀ (d i : Nat), i + d = s.size → Ev (fun k => bits_Valid.l0 k s (s.size : Int) (i : Int)) (((bytesOf s).drop i).all isB) := by
  intro d
  induction d with
  | zero =>
    intro i h
    refine Ev.stop fun k => ?_
    simp only [bits_Valid.l0]
    rw [if_neg (by omega), drop_end s i (by omega)]; rfl
  | succ d ih =>
    intro i h
    have e : wrap64 ((i : Int) + 1) = ((i + 1 : Nat) : Int) := by rw [w64 (by omega) (by omega)]; rfl
    rw [drop_cons s i (by omega), List.all_cons]
    by_cases h48 : bt s i = 48
    · have e2 : isB (bt s i) = true := isB_iff.mpr (.inl h48)
      rw [e2, Bool.true_and]
      refine Ev.step (fun k => ?_) (ih (i + 1) (by omega))
      simp only [bits_Valid.l0]
      rw [if_pos (by omega), if_pos (by omega), if_pos (by omega), if_pos h48, e]
    · by_cases h49 : bt s i = 49
      · have e2 : isB (bt s i) = true := isB_iff.mpr (.inr h49)
        rw [e2, Bool.true_and]
        refine Ev.step (fun k => ?_) (ih (i + 1) (by omega))
        simp only [bits_Valid.l0]
        rw [if_pos (by omega), if_pos (by omega), if_pos (by omega), if_neg h48, if_pos h49, e]
      · have e2 : isB (bt s i) = false := by simp [isB, h48, h49]
        rw [e2, Bool.false_and]
        refine Ev.stop fun k => ?_
        simp only [bits_Valid.l0]
        rw [if_pos (by omega), if_pos (by omega), if_pos (by omega), if_neg h48, if_neg h49]
theorem ev_bits_Valid (s : ByteArray) : Ev (fun k => bits_Valid.f k s) (vB s) := by
  unfold bits_Valid.f vB
  by_cases h : s.size ≤ 65536
  · rw [decide_eq_true h, Bool.true_and]
    refine Ev.congr (fun k => by rw [if_neg (by omega)]) ?_
    exact Ev.step (fun k => by simp only [bits_Valid.j0]; rfl) (ev_bits_Valid_l0 s h s.size 0 (by omega))
  · rw [decide_eq_false h, Bool.false_and]
    refine Ev.now' fun k => ?_
    rw [if_pos (by omega)]
theorem rdI_mid (pre : List S45) (x : S45) (post : List S45) (i : Nat) (h : i = pre.length) : rd_T45 (pre ++ x :: post) (i : Int) = x := by
  subst h; simp [rd_T45]
theorem rdE_mid (pre : List S33) (x : S33) (post : List S33) (i : Nat) (h : i = pre.length) : rd_T33 (pre ++ x :: post) (i : Int) = x := by
  subst h; simp [rd_T33]
def validE (a b c d e : Int) (s : ByteArray) (f : Int) : Bool :=
  decide (1 ≤ a ∧ a ≤ 8 ∧ 0 ≤ b ∧ b ≤ c ∧ c ≤ 1099511627776 ∧ -9007199254740992 ≤ d ∧ d ≤ 9007199254740992 ∧ -9007199254740992 ≤ e ∧ e ≤ 9007199254740992 ∧ s.size ≤ 4096 ∧ 0 ≤ f ∧ f ≤ 12)
theorem ev_event_Valid (a b c d e : Int) (s : ByteArray) (f : Int) : Ev (fun k => event_Valid.f k a b c d e s f) (validE a b c d e s f) := by
  refine ⟨2, fun k hk => ?_⟩
  obtain ⟨m, rfl⟩ : ∃ m, k = m + 2 := ⟨k - 2, by omega⟩
  simp only [event_Valid.f, event_Valid.j0, event_Valid.j1, validE, decide_eq_true_eq, ↓reduceIte]
  repeat' split
  all_goals first
    | (rw [decide_eq_false (by omega)])
    | (congr 1; rw [decide_eq_decide]; omega)
/-- The counter behind a bit. -/
def cntS (o : Bool) (n v b : Int) : Int × Int := if o = true then (if b = 0 then (0, 0) else (n + 1, b)) else if n > 0 ∧ b = v then (n + 1, b) else (1, b)
theorem cntS_rng (o : Bool) {n v b R : Int} (h0 : 0 ≤ n) (h1 : n < R) (hR : 2 ≤ R) (hb : b = 0 ∨ b = 1) : 0 ≤ (cntS o n v b).1 ∧ (cntS o n v b).1 ≤ R ∧ ((cntS o n v b).2 = 0 ∨ (cntS o n v b).2 = 1) := by
  unfold cntS
  repeat' split
  all_goals (refine ⟨?_, ?_, ?_⟩ <;> dsimp only <;> first | omega | simp)
theorem cntS_new (o : Bool) {v b R : Int} (hR : 2 ≤ R) (hb : b = 0 ∨ b = 1) : 0 ≤ (cntS o 0 v b).1 ∧ (cntS o 0 v b).1 < R ∧ ((cntS o 0 v b).2 = 0 ∨ (cntS o 0 v b).2 = 1) := by
  unfold cntS
  repeat' split
  all_goals (refine ⟨?_, ?_, ?_⟩ <;> dsimp only <;> first | omega | simp)
theorem ev_count (R : Int) (o : Bool) (n v b : Int) (h0 : 0 ≤ n) (h1 : n < 100) (hb : b = 0 ∨ b = 1) : Ev (fun k => stuff_count.f k R o n v b) (cntS o n v b) := by
  refine ⟨2, fun k hk => ?_⟩
  obtain ⟨m, rfl⟩ : ∃ m, k = m + 1 := ⟨k - 1, by omega⟩
  simp only [stuff_count.f, stuff_count.j0, cntS, w64 (x := n + 1) (by omega) (by omega)]
  cases o
  · simp only [Bool.false_eq_true, ↓reduceIte]
    repeat' split
    all_goals first | rfl | (exfalso; omega)
  · simp only [↓reduceIte]
    repeat' split
    all_goals first | rfl | (exfalso; simp_all; done) | (exfalso; simp_all; omega)
def consS (p : List Int) (r : List Int × Int × Int × Bool) : List Int × Int × Int × Bool := (p ++ r.1, r.2)
/-- What is sent for the bits of an item: the bits, the counter behind them, whether one was made faulty. -/
def fillS (R : Int) (o f : Bool) : List Int → Int → Int → Bool → List Int × Int × Int × Bool
  | [], n, v, d => ([], n, v, d)
  | b :: l, n, v, d =>
    if (cntS o n v (b - 48)).1 = R then
      (if f = true ∧ d = false then consS [b, 48 + (cntS o n v (b - 48)).2] (fillS R o f l 0 (cntS o n v (b - 48)).2 true)
      else consS [b, 49 - (cntS o n v (b - 48)).2] (fillS R o f l (cntS o 0 (cntS o n v (b - 48)).2 (1 - (cntS o n v (b - 48)).2)).1 (cntS o 0 (cntS o n v (b - 48)).2 (1 - (cntS o n v (b - 48)).2)).2 d))
    else consS [b] (fillS R o f l (cntS o n v (b - 48)).1 (cntS o n v (b - 48)).2 d)
theorem fillS_len (R : Int) (o f : Bool) : ∀ (l : List Int) (n v : Int) (d : Bool), (fillS R o f l n v d).1.length ≤ 2 * l.length
  | [], _, _, _ => by simp [fillS]
  | b :: l, n, v, d => by
    unfold fillS consS
    split
    · split <;> (simp only [List.length_append, List.length_cons, List.length_nil]; refine Nat.le_trans (Nat.add_le_add_left (fillS_len R o f l _ _ _) _) (by omega))
    · simp only [List.length_append, List.length_cons, List.length_nil]; refine Nat.le_trans (Nat.add_le_add_left (fillS_len R o f l _ _ _) _) (by omega)
theorem fillS_bits (R : Int) (o f : Bool) (hR : 2 ≤ R) : ∀ (l : List Int) (n v : Int) (d : Bool), AllB l → 0 ≤ n → n < R → AllB (fillS R o f l n v d).1
  | [], _, _, _, _, _, _ => AllB.nil
  | b :: l, n, v, d, h, h0, h1 => by
    obtain ⟨hb, h⟩ := AllB.cons_iff.mp h
    have hc := cntS_rng o (n := n) (v := v) (b := b - 48) (R := R) h0 h1 hR (by omega)
    have hn := cntS_new o (v := (cntS o n v (b - 48)).2) (b := 1 - (cntS o n v (b - 48)).2) (R := R) hR (by omega)
    unfold fillS consS
    split
    · split
      · exact AllB.append_iff.mpr ⟨AllB.cons_iff.mpr ⟨hb, AllB.cons_iff.mpr ⟨by omega, AllB.nil⟩⟩, fillS_bits R o f hR l _ _ _ h (by omega) (by omega)⟩
      · exact AllB.append_iff.mpr ⟨AllB.cons_iff.mpr ⟨hb, AllB.cons_iff.mpr ⟨by omega, AllB.nil⟩⟩, fillS_bits R o f hR l _ _ _ h hn.1 hn.2.1⟩
    · exact AllB.append_iff.mpr ⟨AllB.cons_iff.mpr ⟨hb, AllB.nil⟩, fillS_bits R o f hR l _ _ _ h hc.1 (by omega)⟩
/-- The counter behind an item. -/
theorem fillS_rng (R : Int) (o f : Bool) (hR : 2 ≤ R) : ∀ (l : List Int) (n v : Int) (d : Bool), AllB l → 0 ≤ n → n < R → (v = 0 ∨ v = 1) → 0 ≤ (fillS R o f l n v d).2.1 ∧ (fillS R o f l n v d).2.1 < R ∧ ((fillS R o f l n v d).2.2.1 = 0 ∨ (fillS R o f l n v d).2.2.1 = 1)
  | [], _, _, _, _, h0, h1, hv => ⟨h0, h1, hv⟩
  | b :: l, n, v, d, h, h0, h1, hv => by
    obtain ⟨hb, h⟩ := AllB.cons_iff.mp h
    have hc := cntS_rng o (n := n) (v := v) (b := b - 48) (R := R) h0 h1 hR (by omega)
    have hn := cntS_new o (v := (cntS o n v (b - 48)).2) (b := 1 - (cntS o n v (b - 48)).2) (R := R) hR (by omega)
    unfold fillS consS
    split
    · split
      · exact fillS_rng R o f hR l _ _ _ h (by omega) (by omega) hc.2.2
      · exact fillS_rng R o f hR l _ _ _ h hn.1 hn.2.1 hn.2.2
    · exact fillS_rng R o f hR l _ _ _ h hc.1 (by omega) hc.2.2
theorem ev_fill_l0 (R : Int) (o f : Bool) (s : ByteArray) (hR : 2 ≤ R) (hR2 : R ≤ 16) (hs : s.size ≤ 4096) : ∀ (l pre : List Int) (n v : Int) (d : Bool) (out : List Int) (i : Nat), bytesOf s = pre ++ l → i = pre.length → AllB l → 0 ≤ n → n < R → (v = 0 ∨ v = 1) → out.length ≤ 2 * i →
    Ev (fun k => stuff_fill.l0 k R o s n v f out d (i : Int)) (out ++ (fillS R o f l n v d).1, (fillS R o f l n v d).2.1, (fillS R o f l n v d).2.2.1, (fillS R o f l n v d).2.2.2) := by
  have hlen := len_bytes s
  intro l
  induction l with
  | nil =>
    intro pre n v d out i he hi hb h0 h1 hv ho
    rw [List.append_nil] at he
    rw [he] at hlen
    refine Ev.step (fun k => stuff_fill.l0.eq_2 ..) ?_
    rw [fillS, List.append_nil]
    exact Ev.neg (by omega) (Ev.neg (by omega) (Ev.now _))
  | cons b l ih =>
    intro pre n v d out i he hi hb h0 h1 hv ho
    obtain ⟨hb1, hb⟩ := AllB.cons_iff.mp hb
    have hl : s.size = i + (l.length + 1) := by rw [← hlen, he, hi, List.length_append, List.length_cons]
    have hbt : bt s (i : Int) = b := by rw [bt_get s i (by omega)]; simp [he, hi]
    have hc := cntS_rng o (n := n) (v := v) (b := b - 48) (R := R) h0 h1 hR (by omega)
    have hn := cntS_new o (v := (cntS o n v (b - 48)).2) (b := 1 - (cntS o n v (b - 48)).2) (R := R) hR (by omega)
    have hcnt := ev_count R o n v (b - 48) h0 (by omega) (by omega)
    have hnew := ev_count R o 0 (cntS o n v (b - 48)).2 (1 - (cntS o n v (b - 48)).2) (by omega) (by omega) (by omega)
    have ih2 := fun n' v' d' out' => ih (pre ++ [b]) n' v' d' out' (i + 1) (by rw [he]; simp) (by simp [hi]) hb
    clear ih he
    refine Ev.step (fun k => stuff_fill.l0.eq_2 ..) ?_
    rw [hbt, wnat (by omega), show (b - 48) % 256 = b - 48 by omega]
    refine Ev.neg (by omega) (Ev.pos (by omega) (Ev.pos (by omega) (Ev.pos (by omega) (Ev.bind hcnt ?_))))
    rw [fillS]
    generalize hce : cntS o n v (b - 48) = c at *
    obtain ⟨n1, v1⟩ := c
    simp only [] at hc hn hnew ⊢
    have ew : wrap64 (1 - v1) = 1 - v1 := w64 (by omega) (by omega)
    have e1 : (48 + (1 - v1)) % 256 = 49 - v1 := by omega
    have e2 : (48 + v1) % 256 = 48 + v1 := by omega
    by_cases hn1 : n1 = R
    · rw [if_pos hn1]
      have hins : Ev (fun k => (stuff_count.f k R o 0 v1 (wrap64 (1 - v1))).bind fun bt => stuff_fill.l0 k R o s bt.1 bt.2 f (out ++ [b] ++ [(48 + wrap64 (1 - v1)) % 256]) d ((i + 1 : Nat) : Int)) (out ++ (consS [b, 49 - v1] (fillS R o f l (cntS o 0 v1 (1 - v1)).1 (cntS o 0 v1 (1 - v1)).2 d)).1, (consS [b, 49 - v1] (fillS R o f l (cntS o 0 v1 (1 - v1)).1 (cntS o 0 v1 (1 - v1)).2 d)).2.1, (consS [b, 49 - v1] (fillS R o f l (cntS o 0 v1 (1 - v1)).1 (cntS o 0 v1 (1 - v1)).2 d)).2.2.1, (consS [b, 49 - v1] (fillS R o f l (cntS o 0 v1 (1 - v1)).1 (cntS o 0 v1 (1 - v1)).2 d)).2.2.2) := by
        rw [ew, e1]
        refine Ev.bind hnew ?_
        have := ih2 (cntS o 0 v1 (1 - v1)).1 (cntS o 0 v1 (1 - v1)).2 d (out ++ [b] ++ [49 - v1]) hn.1 hn.2.1 hn.2.2 (by simp only [List.length_append, List.length_cons, List.length_nil]; omega)
        simpa [consS] using this
      have hsz : (out ++ [b]).length < 140737488355328 := by simp only [List.length_append, List.length_cons, List.length_nil]; omega
      refine Ev.step (fun k => stuff_fill.l0.eq_2 ..) ?_
      refine Ev.pos hn1 ?_
      cases f
      · rw [if_neg (by simp)]
        exact Ev.neg (by decide) (Ev.pos hsz hins)
      · refine Ev.pos rfl ?_
        cases d
        · rw [if_pos ⟨rfl, rfl⟩, e2]
          refine Ev.neg (by decide) (Ev.pos hsz ?_)
          have := ih2 0 v1 true (out ++ [b] ++ [48 + v1]) (by omega) (by omega) hc.2.2 (by simp only [List.length_append, List.length_cons, List.length_nil]; omega)
          simpa [consS] using this
        · rw [if_neg (by simp)]
          exact Ev.pos rfl (Ev.pos hsz hins)
    · rw [if_neg hn1]
      have := ih2 n1 v1 d (out ++ [b]) hc.1 (by omega) hc.2.2 (by simp only [List.length_append, List.length_cons, List.length_nil]; omega)
      simpa [consS] using this
theorem ev_fill (R : Int) (o f : Bool) (s : ByteArray) (hR : 2 ≤ R) (hR2 : R ≤ 16) (hs : s.size ≤ 4096) (n v : Int) (hb : AllB (bytesOf s)) (h0 : 0 ≤ n) (h1 : n < R) (hv : v = 0 ∨ v = 1) :
    Ev (fun k => stuff_fill.f k R o s n v f) (fillS R o f (bytesOf s) n v false) := by
  have := ev_fill_l0 R o f s hR hR2 hs (bytesOf s) [] n v false [] 0 rfl rfl hb h0 h1 hv (by simp)
  rw [List.nil_append] at this
  exact this
def chkS (R : Int) : Int := if R < 2 ∨ R > 16 then 2 else 0
theorem ev_stuff_Check (R : Int) (o : Bool) : Ev (fun k => stuff_Check.f R o) (chkS R) := by
  refine Ev.now' fun _ => ?_
  unfold stuff_Check.f chkS
  repeat' split
  all_goals first | rfl | omega
theorem chkS_ok {R : Int} (h : chkS R = 0) : 2 ≤ R ∧ R ≤ 16 := by unfold chkS at h; split at h <;> omega
def itS (x : S45) : Int := if x.f0 < 0 ∨ x.f0 > 1048576 then 1 else if x.f3.size > 4096 then 6 else if vB x.f3 = true then (if x.f4 = 0 ∨ x.f4 = 4 then 0 else 1) else 4
theorem itS_ok {x : S45} (h : itS x = 0) : 0 ≤ x.f0 ∧ x.f0 ≤ 1048576 ∧ x.f3.size ≤ 4096 ∧ AllB (bytesOf x.f3) ∧ (x.f4 = 0 ∨ x.f4 = 4) := by
  unfold itS at h
  split at h
  · omega
  · split at h
    · omega
    · split at h
      · rename_i hv
        split at h
        · rename_i h1 h2 h4; exact ⟨by omega, by omega, by omega, (vB_iff.mp hv).2, h4⟩
        · omega
      · omega
theorem ev_stuff_check (x : S45) : Ev (fun k => stuff_check.f k x.f0 x.f1 x.f2 x.f3 x.f4) (itS x) := by
  have hyes : itS x = 1 → Ev (fun k => stuff_check.j0 k true x.f0 x.f1 x.f2 x.f3 x.f4) (itS x) := by
    intro h
    rw [h]
    refine Ev.step (fun k => stuff_check.j0.eq_2 ..) ?_
    exact Ev.pos rfl (Ev.now _)
  unfold stuff_check.f
  refine Ev.ite (fun h0 => hyes (by unfold itS; rw [if_pos (.inl h0)])) (fun h0 => ?_)
  by_cases h1 : x.f0 > 1048576
  · rw [decide_eq_true h1]; exact hyes (by unfold itS; rw [if_pos (.inr h1)])
  rw [decide_eq_false h1]
  have hor : ¬ (x.f0 < 0 ∨ x.f0 > 1048576) := by omega
  clear hyes
  refine Ev.step (fun k => stuff_check.j0.eq_2 ..) ?_
  refine Ev.neg (by decide) ?_
  by_cases h2 : x.f3.size > 4096
  · rw [show itS x = 6 by unfold itS; rw [if_neg hor, if_pos h2]]
    exact Ev.pos (by omega) (Ev.now _)
  unfold itS
  rw [if_neg hor, if_neg h2]
  refine Ev.neg (by omega) (Ev.bind (ev_bits_Valid x.f3) (Ev.ite (fun hv => ?_) (fun hv => ?_)))
  · rw [if_pos hv]
    refine Ev.now' fun _ => ?_
    repeat' split
    all_goals first | rfl | omega
  · rw [if_neg hv]; exact Ev.now _
/-- What is sent for an item, behind a counter. -/
def itemS (R : Int) (o : Bool) (n v : Int) (x : S45) : List Int × Int × Int × Bool := fillS R o (x.f4 == 4) (bytesOf x.f3) n v false
def errS (R : Int) (o : Bool) : Int → Int → List S45 → Int
  | _, _, [] => 0
  | n, v, x :: l => if itS x = 0 then (if x.f4 = 4 ∧ (itemS R o n v x).2.2.2 = false then 17 else if (itemS R o n v x).1.length > 4096 then 6 else if x.f1 = 0 ∧ x.f2 = 0 then errS R o (itemS R o n v x).2.1 (itemS R o n v x).2.2.1 l else 1) else itS x
def outS (R : Int) (o : Bool) : Int → Int → List S45 → List S45
  | _, _, [] => []
  | n, v, x :: l => ⟨x.f0, 0, 0, strOfNums (itemS R o n v x).1, 0⟩ :: outS R o (itemS R o n v x).2.1 (itemS R o n v x).2.2.1 l
theorem outS_len (R : Int) (o : Bool) : ∀ (l : List S45) (n v : Int), (outS R o n v l).length = l.length
  | [], _, _ => rfl
  | x :: l, n, v => by simp [outS, outS_len R o l]
theorem errS_ok {R : Int} {o : Bool} {n v : Int} {x : S45} {l : List S45} (h : errS R o n v (x :: l) = 0) : itS x = 0 ∧ ¬ (x.f4 = 4 ∧ (itemS R o n v x).2.2.2 = false) ∧ (itemS R o n v x).1.length ≤ 4096 ∧ errS R o (itemS R o n v x).2.1 (itemS R o n v x).2.2.1 l = 0 := by
  unfold errS at h
  split at h
  · rename_i h0
    split at h
    · omega
    · split at h
      · omega
      · split at h
        · rename_i h1 h2 h3; exact ⟨h0, h1, by omega, h⟩
        · omega
  · omega
def encodeS (R : Int) (o : Bool) (l : List S45) : List S45 × Int := if chkS R = 0 then (if l.length > 1024 then ([], 6) else if errS R o 0 0 l = 0 then (outS R o 0 0 l, 0) else ([], errS R o 0 0 l)) else ([], chkS R)
theorem encodeS_len (R : Int) (o : Bool) (l : List S45) : (encodeS R o l).1.length ≤ 1024 := by
  unfold encodeS
  split
  · split
    · simp
    · split
      · simp only [outS_len]; omega
      · simp
  · simp
theorem ev_stuff_Encode (R : Int) (o : Bool) (l : List S45) : Ev (fun k => stuff_Encode.f k R o l) (encodeS R o l) := by
  unfold stuff_Encode.f encodeS
  refine Ev.bind (ev_stuff_Check R o) (Ev.ite (fun hc => ?_) (fun hc => ?_))
  case refine_2 => rw [if_neg hc]; exact Ev.now _
  rw [if_pos hc]
  obtain ⟨hR, hR2⟩ := chkS_ok hc
  refine Ev.step (fun k => stuff_Encode.j0.eq_2 ..) ?_
  refine Ev.ite (fun hl => ?_) (fun hl => ?_)
  · rw [if_pos (by omega)]; exact Ev.now _
  rw [if_neg (by omega)]
  refine Ev.step (fun k => stuff_Encode.j1.eq_2 ..) ?_
  refine Ev.pos (by omega) (Ev.pos (by omega) ?_)
  have key : ∀ (q pre out : List S45) (n v : Int) (i : Nat), l = pre ++ q → i = pre.length → out.length = i → 0 ≤ n → n < R → (v = 0 ∨ v = 1) → Ev (fun k => stuff_Encode.l0 k n v out l (l.length : Int) (i : Int) R o) (if errS R o n v q = 0 then (out ++ outS R o n v q, 0) else ([], errS R o n v q)) := by
    intro q
    induction q with
    | nil =>
      intro pre out n v i he hi ho h0 h1 hv
      rw [List.append_nil] at he
      have hi' : i = l.length := by rw [hi, he]
      clear he
      refine Ev.step (fun k => stuff_Encode.l0.eq_2 ..) ?_
      rw [if_pos (show errS R o n v [] = 0 from rfl), outS, List.append_nil]
      exact Ev.neg (by omega) (Ev.now _)
    | cons x q ih =>
      intro pre out n v i he hi ho h0 h1 hv
      have hlen : l.length = i + (q.length + 1) := by rw [he, hi, List.length_append, List.length_cons]
      have hx : rd_T45 l (i : Int) = x := by rw [he]; exact rdI_mid pre x q i hi
      have ih2 := fun n' v' out' ho' => ih (pre ++ [x]) out' n' v' (i + 1) (by rw [he]; simp) (by simp [hi]) ho'
      clear ih he
      refine Ev.step (fun k => stuff_Encode.l0.eq_2 ..) ?_
      refine Ev.pos (by omega) ?_
      refine Ev.step (fun k => stuff_Encode.j3.eq_2 ..) ?_
      rw [hx]
      refine Ev.pos (by omega) (Ev.pos (by omega) (Ev.bind (ev_stuff_check x) (Ev.ite (fun hx0 => ?_) (fun hx0 => ?_))))
      case refine_2 =>
        have e : errS R o n v (x :: q) = itS x := by rw [errS, if_neg hx0]
        rw [e, if_neg hx0]
        exact Ev.now _
      obtain ⟨_, _, hxs, hxb, hx4⟩ := itS_ok hx0
      refine Ev.bind (ev_fill R o (x.f4 == 4) x.f3 hR hR2 hxs n v hxb h0 h1 hv) ?_
      have hr := fillS_rng R o (x.f4 == 4) hR (bytesOf x.f3) n v false hxb h0 h1 hv
      have hE : errS R o n v (x :: q) = (if x.f4 = 4 ∧ (itemS R o n v x).2.2.2 = false then 17 else if (itemS R o n v x).1.length > 4096 then 6 else if x.f1 = 0 ∧ x.f2 = 0 then errS R o (itemS R o n v x).2.1 (itemS R o n v x).2.2.1 q else 1) := by rw [errS, if_pos hx0]
      rw [hE, outS]
      change Ev (fun k => if x.f4 = 4 then stuff_Encode.j4 k out (itemS R o n v x).1 (itemS R o n v x).2.1 (itemS R o n v x).2.2.1 l (l.length : Int) (i : Int) (!(itemS R o n v x).2.2.2) R o x.f0 x.f1 x.f2 x.f3 x.f4 else stuff_Encode.j4 k out (itemS R o n v x).1 (itemS R o n v x).2.1 (itemS R o n v x).2.2.1 l (l.length : Int) (i : Int) false R o x.f0 x.f1 x.f2 x.f3 x.f4) _
      change 0 ≤ (itemS R o n v x).2.1 ∧ (itemS R o n v x).2.1 < R ∧ ((itemS R o n v x).2.2.1 = 0 ∨ (itemS R o n v x).2.2.1 = 1) at hr
      generalize itemS R o n v x = r at *
      obtain ⟨b, n', v', d'⟩ := r
      simp only [] at hr ⊢
      have hgo : Ev (fun k => stuff_Encode.j4 k out b n' v' l (l.length : Int) (i : Int) false R o x.f0 x.f1 x.f2 x.f3 x.f4) (if (if b.length > 4096 then 6 else if x.f1 = 0 ∧ x.f2 = 0 then errS R o n' v' q else 1) = 0 then (out ++ ⟨x.f0, 0, 0, strOfNums b, 0⟩ :: outS R o n' v' q, 0) else ([], if b.length > 4096 then 6 else if x.f1 = 0 ∧ x.f2 = 0 then errS R o n' v' q else 1)) := by
        refine Ev.step (fun k => stuff_Encode.j4.eq_2 ..) ?_
        rw [wnat (by omega)]
        refine Ev.neg (by decide) (Ev.ite (fun hbl => ?_) (fun hbl => ?_))
        · rw [if_pos (show b.length > 4096 by omega), if_neg (by omega)]; exact Ev.now _
        · rw [if_neg (show ¬ b.length > 4096 by omega)]
          refine Ev.ite (fun h5 => Ev.ite (fun h6 => ?_) (fun h6 => ?_)) (fun h5 => ?_)
          · rw [if_pos (show x.f1 = 0 ∧ x.f2 = 0 from ⟨h5, h6⟩)]
            refine Ev.pos (by omega) ?_
            have := ih2 n' v' (out ++ [⟨x.f0, 0, 0, strOfNums b, 0⟩]) (by simp [ho]) hr.1 hr.2.1 hr.2.2
            rw [List.append_assoc] at this
            exact this
          · rw [if_neg (show ¬ (x.f1 = 0 ∧ x.f2 = 0) from fun h => h6 h.2), if_neg (by omega)]; exact Ev.now _
          · rw [if_neg (show ¬ (x.f1 = 0 ∧ x.f2 = 0) from fun h => h5 h.1), if_neg (by omega)]; exact Ev.now _
      refine Ev.ite (fun h4 => ?_) (fun h4 => ?_)
      · cases d'
        · rw [if_pos (show x.f4 = 4 ∧ false = false from ⟨h4, rfl⟩), if_neg (by omega)]
          refine Ev.step (fun k => stuff_Encode.j4.eq_2 ..) ?_
          exact Ev.pos rfl (Ev.now _)
        · rw [if_neg (show ¬ (x.f4 = 4 ∧ true = false) from fun h => by simp at h)]
          exact hgo
      · rw [if_neg (show ¬ (x.f4 = 4 ∧ d' = false) from fun h => h4 h.1)]
        exact hgo
  have := key l [] [] 0 0 0 rfl rfl rfl (by omega) (by omega) (.inl rfl)
  rw [List.nil_append] at this
  exact this
/-- An event that is a bit. -/
structure BitE (e : S33) : Prop where
  k : e.f0 = 2
  f0 : 0 ≤ e.f1
  f1 : e.f1 ≤ e.f2
  f2 : e.f2 ≤ 1099511627776
  v : e.f3 = 0 ∨ e.f3 = 1
  a : e.f4 = 0
  s : e.f5 = ⟨#[]⟩
  f : e.f6 = 0
theorem BitE.valid {e : S33} (h : BitE e) : validE e.f0 e.f1 e.f2 e.f3 e.f4 e.f5 e.f6 = true := by
  have h1 := h.k; have h2 := h.f0; have h3 := h.f1; have h4 := h.f2; have h5 := h.v; have h7 := h.a; have h8 := h.f
  have h9 : e.f5.size = 0 := by rw [h.s]; rfl
  unfold validE
  rw [decide_eq_true_eq]
  omega
/-- What is decoded of bits behind a counter. -/
def decS (R : Int) (o : Bool) : Int → Int → List S33 → List S33
  | _, _, [] => []
  | n, v, e :: l => if n = R then (if e.f3 = 1 - v then decS R o (cntS o 0 v e.f3).1 (cntS o 0 v e.f3).2 l else ⟨2, e.f1, e.f2, e.f3, e.f4, (⟨#[]⟩ : ByteArray), 4⟩ :: decS R o 0 v l)
    else ⟨2, e.f1, e.f2, e.f3, e.f4, (⟨#[]⟩ : ByteArray), e.f6⟩ :: decS R o (cntS o n v e.f3).1 (cntS o n v e.f3).2 l
theorem ev_accepts (at_ n v : Int) (e : S33) (he : BitE e) (ha : at_ ≤ e.f1) : Ev (fun k => stuff_accepts.f k 0 at_ 0 n 0 0 v ⟨#[]⟩ e.f0 e.f1 e.f2 e.f3 e.f4 e.f5 e.f6) true := by
  have hv := ev_event_Valid e.f0 e.f1 e.f2 e.f3 e.f4 e.f5 e.f6
  rw [he.valid] at hv
  unfold stuff_accepts.f
  refine Ev.pos he.k (Ev.bind hv (Ev.pos rfl (Ev.pos (by omega) (Ev.ite (fun _ => Ev.now _) (fun h => ?_)))))
  have := he.v
  rw [show (e.f3 == 1) = true by simp; omega]
  exact Ev.now _
theorem ev_step (R : Int) (o : Bool) (hc : chkS R = 0) (at_ n v : Int) (hn : 0 ≤ n) (hn2 : n ≤ R) (hv : v = 0 ∨ v = 1) (e : S33) (he : BitE e) (ha : at_ ≤ e.f1) :
    Ev (fun k => stuff_Step.f k R o 0 at_ 0 n 0 0 v ⟨#[]⟩ e.f0 e.f1 e.f2 e.f3 e.f4 e.f5 e.f6)
      (if n = R then (if e.f3 = 1 - v then (0, e.f1, 0, (cntS o 0 v e.f3).1, 0, 0, (cntS o 0 v e.f3).2, ⟨#[]⟩, []) else (0, e.f1, 0, 0, 0, 0, v, ⟨#[]⟩, [⟨2, e.f1, e.f2, e.f3, e.f4, (⟨#[]⟩ : ByteArray), 4⟩]))
      else (0, e.f1, 0, (cntS o n v e.f3).1, 0, 0, (cntS o n v e.f3).2, ⟨#[]⟩, [⟨2, e.f1, e.f2, e.f3, e.f4, (⟨#[]⟩ : ByteArray), e.f6⟩])) := by
  obtain ⟨hR, hR2⟩ := chkS_ok hc
  have hb := he.v
  unfold stuff_Step.f
  refine Ev.bind (ev_stuff_Check R o) (Ev.pos hc (Ev.bind (ev_accepts at_ n v e he ha) ?_))
  refine Ev.step (fun k => stuff_Step.j0.eq_2 ..) ?_
  refine Ev.neg (by decide) ?_
  refine Ev.step (fun k => stuff_Step.j1.eq_2 ..) ?_
  rw [w64 (x := 1 - v) (by omega) (by omega)]
  refine Ev.pos he.f (Ev.ite (fun h1 => ?_) (fun h1 => ?_))
  · rw [if_pos h1]
    refine Ev.ite (fun h2 => ?_) (fun h2 => ?_)
    · rw [if_pos h2]
      exact Ev.bind (ev_count R o 0 v e.f3 (by omega) (by omega) hb) (Ev.now _)
    · rw [if_neg h2]
      exact Ev.now _
  · rw [if_neg h1]
    exact Ev.bind (ev_count R o n v e.f3 hn (by omega) hb) (Ev.now _)
/-- Bits whose times do not go back. -/
def timesE : Int → List S33 → Prop
  | _, [] => True
  | a, e :: l => a ≤ e.f1 ∧ BitE e ∧ timesE e.f1 l
theorem ev_Decode_l0 (R : Int) (o : Bool) (hc : chkS R = 0) (l : List S33) (hl : l.length < 1000000) : ∀ (q pre out : List S33) (at_ n v : Int) (i : Nat), l = pre ++ q → i = pre.length → out.length ≤ i → timesE at_ q → 0 ≤ n → n ≤ R → (v = 0 ∨ v = 1) →
    Ev (fun k => stuff_Decode.l0 k out l (l.length : Int) (i : Int) R o 0 at_ 0 n 0 0 v ⟨#[]⟩) (out ++ decS R o n v q) := by
  obtain ⟨hR, hR2⟩ := chkS_ok hc
  intro q
  induction q with
  | nil =>
    intro pre out at_ n v i he hi ho ht h0 h1 hv
    rw [List.append_nil] at he
    have hi' : i = l.length := by rw [hi, he]
    clear he
    unfold decS
    refine Ev.step (fun k => stuff_Decode.l0.eq_2 ..) ?_
    refine Ev.neg (by omega) (Ev.sbind (Ev.pos (by rw [List.length_nil]; omega) (Ev.now _)))
  | cons e q ih =>
    intro pre out at_ n v i he hi ho ht h0 h1 hv
    have hlen : l.length = i + (q.length + 1) := by rw [he, hi, List.length_append, List.length_cons]
    have hx : rd_T33 l (i : Int) = e := by rw [he]; exact rdE_mid pre e q i hi
    obtain ⟨t1, t2, t3⟩ := ht
    have hb := t2.v
    have ih2 := fun out' n' v' ho' => ih (pre ++ [e]) out' e.f1 n' v' (i + 1) (by rw [he]; simp) (by simp [hi]) ho' t3
    clear ih he
    have hs := ev_step R o hc at_ n v h0 h1 hv e t2 t1
    refine Ev.step (fun k => stuff_Decode.l0.eq_2 ..) ?_
    rw [hx, wnat (by omega), decS]
    refine Ev.pos (by omega) (Ev.pos (by omega) (Ev.pos (by omega) (Ev.bind hs ?_)))
    by_cases hn : n = R
    · have hw := cntS_new o (v := v) (b := e.f3) (R := R) hR hb
      rw [if_pos hn, if_pos hn]
      by_cases hd : e.f3 = 1 - v
      · rw [if_pos hd, if_pos hd]
        refine Ev.pos (by rw [List.length_nil]; omega) ?_
        rw [List.append_nil]
        exact ih2 out (cntS o 0 v e.f3).1 (cntS o 0 v e.f3).2 (by omega) hw.1 (by omega) hw.2.2
      · rw [if_neg hd, if_neg hd]
        refine Ev.pos (by rw [List.length_singleton]; omega) ?_
        have := ih2 (out ++ [⟨2, e.f1, e.f2, e.f3, e.f4, (⟨#[]⟩ : ByteArray), 4⟩]) 0 v (by simp; omega) (by omega) (by omega) hv
        rw [List.append_assoc] at this
        exact this
    · have hw := cntS_rng o (n := n) (v := v) (b := e.f3) (R := R) h0 (by omega) hR hb
      rw [if_neg hn, if_neg hn]
      refine Ev.pos (by rw [List.length_singleton]; omega) ?_
      have := ih2 (out ++ [⟨2, e.f1, e.f2, e.f3, e.f4, (⟨#[]⟩ : ByteArray), e.f6⟩]) (cntS o n v e.f3).1 (cntS o n v e.f3).2 (by simp; omega) hw.1 hw.2.1 hw.2.2
      rw [List.append_assoc] at this
      exact this
theorem ev_Decode (R : Int) (o : Bool) (hc : chkS R = 0) (l : List S33) (hl : l.length < 1000000) (ht : timesE 0 l) : Ev (fun k => stuff_Decode.f k R o l) (decS R o 0 0 l) := by
  obtain ⟨hR, hR2⟩ := chkS_ok hc
  have := ev_Decode_l0 R o hc l hl l [] [] 0 0 0 0 rfl rfl (by simp) ht (by omega) (by omega) (.inl rfl)
  exact this
/-- The events of bits, each of one tick. -/
def evB (a c : Int) : S33 := ⟨2, a, a + 1, if c = 49 then 1 else 0, 0, (⟨#[]⟩ : ByteArray), 0⟩
def evsB : Int → List Int → List S33
  | _, [] => []
  | a, c :: l => evB a c :: evsB (a + 1) l
theorem evsB_len : ∀ (l : List Int) (a : Int), (evsB a l).length = l.length
  | [], _ => rfl
  | _ :: l, a => by simp [evsB, evsB_len l]
def idealI : Int → List S45 → List S33
  | _, [] => []
  | a, x :: l => evsB (a + x.f0) (bytesOf x.f3) ++ idealI (a + x.f0 + x.f3.size) l
theorem times_evsB : ∀ (l : List Int) (a b : Int) (q : List S33), b ≤ a → 0 ≤ a → a + l.length ≤ 1099511627776 → (∀ b', b' ≤ a + l.length → timesE b' q) → timesE b (evsB a l ++ q)
  | [], a, b, q, hb, _, _, h => h b (by simp; omega)
  | c :: l, a, b, q, hb, h0, hl, h => by
    rw [List.length_cons] at hl
    refine ⟨hb, ⟨rfl, h0, by show a ≤ a + 1; omega, by show a + 1 ≤ _; omega, ?_, rfl, rfl, rfl⟩, ?_⟩
    · show (if c = 49 then (1 : Int) else 0) = 0 ∨ (if c = 49 then (1 : Int) else 0) = 1
      split <;> omega
    · exact times_evsB l (a + 1) a q (by omega) (by omega) (by omega) (fun b' hb' => h b' (by rw [List.length_cons]; omega))
theorem times_ideal : ∀ (l : List S45) (a b : Int), b ≤ a → 0 ≤ a → a + 2000000 * l.length ≤ 1099511627776 → (∀ x ∈ l, 0 ≤ x.f0 ∧ x.f0 ≤ 1048576 ∧ x.f3.size ≤ 4096) → timesE b (idealI a l)
  | [], _, _, _, _, _, _ => trivial
  | x :: l, a, b, hb, h0, hl, hx => by
    have h1 := hx x (by simp)
    have hlen := len_bytes x.f3
    rw [List.length_cons] at hl
    rw [idealI]
    refine times_evsB (bytesOf x.f3) (a + x.f0) b _ (by omega) (by omega) (by omega) (fun b' hb' => ?_)
    exact times_ideal l _ _ (by omega) (by omega) (by omega) (fun y hy => hx y (by simp [hy]))
theorem ideal_len : ∀ (l : List S45) (a : Int), (∀ x ∈ l, x.f3.size ≤ 4096) → (idealI a l).length ≤ 4096 * l.length
  | [], _, _ => by simp [idealI]
  | x :: l, a, hx => by
    have h1 := hx x (by simp)
    have hlen := len_bytes x.f3
    have := ideal_len l (a + x.f0 + x.f3.size) (fun y hy => hx y (by simp [hy]))
    rw [idealI, List.length_append, evsB_len, List.length_cons]
    omega
theorem ev_ideal (l : List S45) (hl : l.length ≤ 1024) (hx : ∀ x ∈ l, 0 ≤ x.f0 ∧ x.f0 ≤ 1048576 ∧ x.f3.size ≤ 4096) : Ev (fun k => signalbenchlaw19_ideal.f k l) (idealI 0 l) := by
  have key : ∀ (q pre : List S45) (out : List S33) (a : Int) (i : Nat), l = pre ++ q → i = pre.length → out.length ≤ 4096 * i → 0 ≤ a → a ≤ 2000000 * i →
      Ev (fun k => signalbenchlaw19_ideal.l0 k l out a (i : Int)) (out ++ idealI a q) := by
    intro q
    induction q with
    | nil =>
      intro pre out a i he hi ho h0 h1
      rw [List.append_nil] at he
      have hi' : i = l.length := by rw [hi, he]
      clear he
      rw [idealI, List.append_nil]
      refine Ev.step (fun k => signalbenchlaw19_ideal.l0.eq_2 ..) ?_
      exact Ev.neg (by omega) (Ev.now _)
    | cons x q ih =>
      intro pre out a i he hi ho h0 h1
      have hlen : l.length = i + (q.length + 1) := by rw [he, hi, List.length_append, List.length_cons]
      have hr : rd_T45 l (i : Int) = x := by rw [he]; exact rdI_mid pre x q i hi
      have hx1 := hx x (by rw [he]; simp)
      have ih2 := fun out' a' => ih (pre ++ [x]) out' a' (i + 1) (by rw [he]; simp) (by simp [hi])
      clear ih he
      have hbl := len_bytes x.f3
      have inner : ∀ (cs cpre : List Int) (out' : List S33) (a' : Int) (j : Nat), bytesOf x.f3 = cpre ++ cs → j = cpre.length → out'.length ≤ 4096 * i + j → 0 ≤ a' → a' ≤ 2000000 * i + 1048576 + j →
          Ev (fun k => signalbenchlaw19_ideal.l0 k l (out' ++ evsB a' cs) (a' + cs.length) ((i + 1 : Nat) : Int)) (out' ++ evsB a' cs ++ idealI (a' + cs.length) q) →
          Ev (fun k => signalbenchlaw19_ideal.l1 k l out' a' (i : Int) (j : Int)) (out' ++ evsB a' cs ++ idealI (a' + cs.length) q) := by
        intro cs
        induction cs with
        | nil =>
          intro cpre out' a' j he hj ho' h0' h1' h
          rw [List.append_nil] at he
          rw [he] at hbl
          simp only [evsB, List.length_nil, List.append_nil, Int.natCast_zero, Int.add_zero] at h ⊢
          refine Ev.step (fun k => signalbenchlaw19_ideal.l1.eq_2 ..) ?_
          rw [hr, wnat (i := i) (by omega)]
          exact Ev.pos (by omega) (Ev.pos (by omega) (Ev.neg (by omega) h))
        | cons c cs ihc =>
          intro cpre out' a' j he hj ho' h0' h1' h
          have hcl : x.f3.size = j + (cs.length + 1) := by rw [← hbl, he, hj, List.length_append, List.length_cons]
          have hbt : bt x.f3 (j : Int) = c := by rw [bt_get x.f3 j (by omega)]; simp [he, hj]
          have e1 : out' ++ evsB a' (c :: cs) = out' ++ [evB a' c] ++ evsB (a' + 1) cs := by rw [evsB, List.append_assoc]; rfl
          have e2 : a' + ((c :: cs).length : Nat) = a' + 1 + (cs.length : Nat) := by rw [List.length_cons]; omega
          rw [e1, e2] at h ⊢
          have hn := ihc (cpre ++ [c]) (out' ++ [evB a' c]) (a' + 1) (j + 1) (by rw [he]; simp) (by simp [hj]) (by simp; omega) (by omega) (by omega) h
          clear ihc he h
          refine Ev.step (fun k => signalbenchlaw19_ideal.l1.eq_2 ..) ?_
          rw [hr, hbt, wnat (i := j) (by omega), w64 (x := a' + 1) (by omega) (by omega)]
          refine Ev.pos (by omega) (Ev.pos (by omega) (Ev.pos (by omega) (Ev.pos (by omega) (Ev.ite (fun h49 => Ev.pos (by omega) ?_) (fun h49 => Ev.pos (by omega) ?_)))))
          · have : evB a' c = ⟨2, a', a' + 1, 1, 0, (⟨#[]⟩ : ByteArray), 0⟩ := by unfold evB; rw [if_pos h49]
            rw [this] at hn ⊢
            exact hn
          · have : evB a' c = ⟨2, a', a' + 1, 0, 0, (⟨#[]⟩ : ByteArray), 0⟩ := by unfold evB; rw [if_neg h49]
            rw [this] at hn ⊢
            exact hn
      have hgo := ih2 (out ++ evsB (a + x.f0) (bytesOf x.f3)) (a + x.f0 + x.f3.size) (by rw [List.length_append, evsB_len]; omega) (by omega) (by omega)
      have hin := inner (bytesOf x.f3) [] out (a + x.f0) 0 rfl rfl (by omega) (by omega) (by omega) (by rw [hbl]; exact hgo)
      rw [hbl] at hin
      refine Ev.step (fun k => signalbenchlaw19_ideal.l0.eq_2 ..) ?_
      refine Ev.pos (by omega) ?_
      refine Ev.step (fun k => signalbenchlaw19_ideal.j1.eq_2 ..) ?_
      rw [hr, w64 (x := a + x.f0) (by omega) (by omega), idealI, ← List.append_assoc]
      exact Ev.pos (by omega) (Ev.pos (by omega) hin)
  exact key l [] [] 0 0 rfl rfl (by simp) (by omega) (by omega)
/-- What a law looks at in an event. -/
def valE (e : S33) : Int × Int := (e.f3, e.f6)
/-- What is decoded of what is sent. -/
def valsS (R : Int) (o f : Bool) : List Int → Int → Int → Bool → List (Int × Int)
  | [], _, _, _ => []
  | b :: l, n, v, d =>
    if (cntS o n v (b - 48)).1 = R then
      (if f = true ∧ d = false then (b - 48, 0) :: ((cntS o n v (b - 48)).2, 4) :: valsS R o f l 0 (cntS o n v (b - 48)).2 true
      else (b - 48, 0) :: valsS R o f l (cntS o 0 (cntS o n v (b - 48)).2 (1 - (cntS o n v (b - 48)).2)).1 (cntS o 0 (cntS o n v (b - 48)).2 (1 - (cntS o n v (b - 48)).2)).2 d)
    else (b - 48, 0) :: valsS R o f l (cntS o n v (b - 48)).1 (cntS o n v (b - 48)).2 d
theorem bit_val {c : Int} (h : c = 48 ∨ c = 49) : (if c = 49 then (1 : Int) else 0) = c - 48 := by split <;> omega
theorem dec_fill (R : Int) (o f : Bool) (hR : 2 ≤ R) : ∀ (l : List Int) (n v : Int) (d : Bool) (a : Int) (q : List S33), AllB l → 0 ≤ n → n < R → (v = 0 ∨ v = 1) →
    (decS R o n v (evsB a (fillS R o f l n v d).1 ++ q)).map valE = valsS R o f l n v d ++ (decS R o (fillS R o f l n v d).2.1 (fillS R o f l n v d).2.2.1 q).map valE
  | [], n, v, d, a, q, _, _, _, _ => by simp [fillS, evsB, valsS]
  | b :: l, n, v, d, a, q, hb, h0, h1, hv => by
    obtain ⟨hb1, hb⟩ := AllB.cons_iff.mp hb
    have hc := cntS_rng o (n := n) (v := v) (b := b - 48) (R := R) h0 h1 hR (by omega)
    have hn := cntS_new o (v := (cntS o n v (b - 48)).2) (b := 1 - (cntS o n v (b - 48)).2) (R := R) hR (by omega)
    have hfirst : ∀ (w : List S33), decS R o n v (evB a b :: w) = ⟨2, a, a + 1, b - 48, 0, (⟨#[]⟩ : ByteArray), 0⟩ :: decS R o (cntS o n v (b - 48)).1 (cntS o n v (b - 48)).2 w := by
      intro w
      rw [decS, if_neg (by omega)]
      unfold evB
      rw [bit_val hb1]
    rw [fillS, valsS]
    by_cases hn1 : (cntS o n v (b - 48)).1 = R
    · rw [if_pos hn1, if_pos hn1]
      by_cases hs : f = true ∧ d = false
      · rw [if_pos hs, if_pos hs]
        have hrec := dec_fill R o f hR l 0 (cntS o n v (b - 48)).2 true (a + 1 + 1) q hb (by omega) (by omega) hc.2.2
        have hsecond : ∀ (w : List S33), decS R o (cntS o n v (b - 48)).1 (cntS o n v (b - 48)).2 (evB (a + 1) (48 + (cntS o n v (b - 48)).2) :: w) = ⟨2, a + 1, a + 1 + 1, (cntS o n v (b - 48)).2, 0, (⟨#[]⟩ : ByteArray), 4⟩ :: decS R o 0 (cntS o n v (b - 48)).2 w := by
          intro w
          rw [decS, if_pos hn1]
          unfold evB
          rw [bit_val (c := 48 + (cntS o n v (b - 48)).2) (by omega), show 48 + (cntS o n v (b - 48)).2 - 48 = (cntS o n v (b - 48)).2 by omega, if_neg (by dsimp only; omega)]
        show (decS R o n v (evB a b :: evB (a + 1) (48 + (cntS o n v (b - 48)).2) :: (evsB (a + 1 + 1) (fillS R o f l 0 (cntS o n v (b - 48)).2 true).1 ++ q))).map valE = _
        rw [hfirst, hsecond, List.map_cons, List.map_cons, hrec]
        rfl
      · rw [if_neg hs, if_neg hs]
        have hrec := dec_fill R o f hR l (cntS o 0 (cntS o n v (b - 48)).2 (1 - (cntS o n v (b - 48)).2)).1 (cntS o 0 (cntS o n v (b - 48)).2 (1 - (cntS o n v (b - 48)).2)).2 d (a + 1 + 1) q hb hn.1 hn.2.1 hn.2.2
        have hsecond : ∀ (w : List S33), decS R o (cntS o n v (b - 48)).1 (cntS o n v (b - 48)).2 (evB (a + 1) (49 - (cntS o n v (b - 48)).2) :: w) = decS R o (cntS o 0 (cntS o n v (b - 48)).2 (1 - (cntS o n v (b - 48)).2)).1 (cntS o 0 (cntS o n v (b - 48)).2 (1 - (cntS o n v (b - 48)).2)).2 w := by
          intro w
          have e : (evB (a + 1) (49 - (cntS o n v (b - 48)).2)).f3 = 1 - (cntS o n v (b - 48)).2 := by
            unfold evB
            rw [bit_val (c := 49 - (cntS o n v (b - 48)).2) (by omega)]
            dsimp only; omega
          rw [decS, if_pos hn1, e, if_pos rfl]
        show (decS R o n v (evB a b :: evB (a + 1) (49 - (cntS o n v (b - 48)).2) :: (evsB (a + 1 + 1) (fillS R o f l (cntS o 0 (cntS o n v (b - 48)).2 (1 - (cntS o n v (b - 48)).2)).1 (cntS o 0 (cntS o n v (b - 48)).2 (1 - (cntS o n v (b - 48)).2)).2 d).1 ++ q))).map valE = _
        rw [hfirst, hsecond, List.map_cons, hrec]
        rfl
    · rw [if_neg hn1, if_neg hn1]
      have hrec := dec_fill R o f hR l (cntS o n v (b - 48)).1 (cntS o n v (b - 48)).2 d (a + 1) q hb hc.1 (by omega) hc.2.2
      show (decS R o n v (evB a b :: (evsB (a + 1) (fillS R o f l (cntS o n v (b - 48)).1 (cntS o n v (b - 48)).2 d).1 ++ q))).map valE = _
      rw [hfirst, List.map_cons, hrec]
      rfl
def valsL (R : Int) (o : Bool) : Int → Int → List S45 → List (Int × Int)
  | _, _, [] => []
  | n, v, x :: l => valsS R o (x.f4 == 4) (bytesOf x.f3) n v false ++ valsL R o (itemS R o n v x).2.1 (itemS R o n v x).2.2.1 l
theorem dec_out (R : Int) (o : Bool) (hR : 2 ≤ R) : ∀ (l : List S45) (n v a : Int), errS R o n v l = 0 → 0 ≤ n → n < R → (v = 0 ∨ v = 1) → (decS R o n v (idealI a (outS R o n v l))).map valE = valsL R o n v l
  | [], n, v, a, _, _, _, _ => rfl
  | x :: l, n, v, a, hE, h0, h1, hv => by
    obtain ⟨hx0, _, hxl, hE2⟩ := errS_ok hE
    obtain ⟨_, _, hxs, hxb, _⟩ := itS_ok hx0
    have hbits := fillS_bits R o (x.f4 == 4) hR (bytesOf x.f3) n v false hxb h0 h1
    have hr := fillS_rng R o (x.f4 == 4) hR (bytesOf x.f3) n v false hxb h0 h1 hv
    have hrec := dec_out R o hR l (itemS R o n v x).2.1 (itemS R o n v x).2.2.1 (a + x.f0 + (strOfNums (itemS R o n v x).1).size) hE2 hr.1 hr.2.1 hr.2.2
    rw [outS, idealI, valsL]
    dsimp only
    rw [bytes_str (xs := (itemS R o n v x).1) hbits.byts]
    unfold itemS at hrec ⊢
    rw [dec_fill R o (x.f4 == 4) hR (bytesOf x.f3) n v false _ _ hxb h0 h1 hv, hrec]
/-- The items that are sent have gaps and sizes as they must. -/
theorem outS_ok (R : Int) (o : Bool) : ∀ (l : List S45) (n v : Int), errS R o n v l = 0 → ∀ y ∈ outS R o n v l, 0 ≤ y.f0 ∧ y.f0 ≤ 1048576 ∧ y.f3.size ≤ 4096
  | [], _, _, _ => fun _ h => nomatch h
  | x :: l, n, v, hE => by
    obtain ⟨hx0, _, hxl, hE2⟩ := errS_ok hE
    obtain ⟨g0, g1, _⟩ := itS_ok hx0
    intro y hy
    rw [outS] at hy
    rcases List.mem_cons.mp hy with rfl | hy
    · exact ⟨g0, g1, by show (strOfNums _).size ≤ 4096; rw [size_str]; exact hxl⟩
    · exact outS_ok R o l _ _ hE2 y hy
/-- The bits that were to be sent. -/
def sentL : List S45 → List Int
  | [] => []
  | x :: l => bytesOf x.f3 ++ sentL l
theorem ev_back (R : Int) (o : Bool) (l : List S45) (hl : l.length ≤ 20) (hc : chkS R = 0) (hE : errS R o 0 0 l = 0) : ∃ m : List S33, m.map valE = valsL R o 0 0 l ∧ m.length ≤ 81920 ∧ Ev (fun k => signalbenchlaw19_ideal.f k (outS R o 0 0 l)) (idealI 0 (outS R o 0 0 l)) ∧ Ev (fun k => stuff_Decode.f k R o (idealI 0 (outS R o 0 0 l))) m := by
  obtain ⟨hR, hR2⟩ := chkS_ok hc
  have hok := outS_ok R o l 0 0 hE
  have hlen := outS_len R o l 0 0
  have hil := ideal_len (outS R o 0 0 l) 0 (fun x hx => (hok x hx).2.2)
  refine ⟨_, dec_out R o hR l 0 0 0 hE (by omega) (by omega) (.inl rfl), ?_, ev_ideal _ (by omega) hok, ev_Decode R o hc _ (by omega) (times_ideal _ 0 0 (by omega) (by omega) (by omega) hok)⟩
  have : ∀ (q : List S33) (n v : Int), (decS R o n v q).length ≤ q.length := by
    intro q
    induction q with
    | nil => intro n v; simp [decS]
    | cons e q ih =>
      intro n v
      unfold decS
      split
      · split
        · exact Nat.le_trans (ih _ _) (by simp)
        · simpa using ih _ _
      · simpa using ih _ _
  exact Nat.le_trans (this _ _ _) (by omega)
theorem rdE_get (l : List S33) (i : Nat) (h : i < l.length) : rd_T33 l (i : Int) = l[i] := by
  simp [rd_T33, h]
theorem ev_awake : Ev (fun k => signalbenchlaw19_awake.f k) true := by
  refine Ev.of (fun k => signalbenchlaw19_awake.mono k) (k := 80) ?_
  decide +kernel
def tinyI (l : List S45) : Bool := decide (l.length ≤ 20) && l.all fun x => decide (x.f3.size ≤ 200)
theorem ev_tiny (l : List S45) : Ev (fun k => signalbenchlaw19_tiny.f k l) (tinyI l) := by
  unfold signalbenchlaw19_tiny.f tinyI
  refine Ev.ite (fun h => ?_) (fun h => ?_)
  · rw [decide_eq_false (by omega), Bool.false_and]; exact Ev.now _
  rw [decide_eq_true (show l.length ≤ 20 by omega), Bool.true_and]
  refine Ev.step (fun k => signalbenchlaw19_tiny.j0.eq_2 ..) ?_
  have key : ∀ (m pre : List S45) (i : Nat), l = pre ++ m → i = pre.length → Ev (fun k => signalbenchlaw19_tiny.l0 k l (i : Int)) (m.all fun x => decide (x.f3.size ≤ 200)) := by
    intro m
    induction m with
    | nil =>
      intro pre i he hi
      rw [List.append_nil] at he
      refine Ev.step (fun k => signalbenchlaw19_tiny.l0.eq_2 ..) ?_
      exact Ev.neg (by rw [he]; omega) (Ev.now _)
    | cons x m ih =>
      intro pre i he hi
      have hlen : l.length = i + (m.length + 1) := by rw [he, hi, List.length_append, List.length_cons]
      have hx : rd_T45 l (i : Int) = x := by rw [he]; exact rdI_mid pre x m i hi
      have ih2 := ih (pre ++ [x]) (i + 1) (by rw [he]; simp) (by simp [hi])
      clear ih he
      refine Ev.step (fun k => signalbenchlaw19_tiny.l0.eq_2 ..) ?_
      rw [hx, wnat (by omega), List.all_cons]
      refine Ev.pos (by omega) (Ev.pos (by omega) (Ev.ite (fun hb => ?_) (fun hb => ?_)))
      · rw [decide_eq_false (by omega), Bool.false_and]; exact Ev.now _
      · rw [decide_eq_true (show x.f3.size ≤ 200 by omega), Bool.true_and]; exact ih2
  exact key l [] 0 rfl rfl
/-- What the law asks of what is decoded, behind the bits and faults that it has seen. -/
def okF : List (Int × Int) → List Int → Int → Prop
  | [], s, c => s = [] ∧ c = 0
  | p :: r, s, c => (p.2 = 4 ∧ okF r s (c - 1)) ∨ (p.2 = 0 ∧ ∃ b s', s = b :: s' ∧ p.1 = b - 48 ∧ okF r s' c)
/-- How many faults there are in an item. -/
def cntF (d d' : Bool) : Int := if d = false ∧ d' = true then 1 else 0
theorem fillS_done (R : Int) (o f : Bool) : ∀ (l : List Int) (n v : Int), (fillS R o f l n v true).2.2.2 = true
  | [], _, _ => rfl
  | b :: l, n, v => by
    unfold fillS consS
    split
    · rw [if_neg (by simp)]; exact fillS_done R o f l _ _
    · exact fillS_done R o f l _ _
theorem fillS_none (R : Int) (o : Bool) : ∀ (l : List Int) (n v : Int) (d : Bool), (fillS R o false l n v d).2.2.2 = d
  | [], _, _, _ => rfl
  | b :: l, n, v, d => by
    unfold fillS consS
    split
    · rw [if_neg (by simp)]; exact fillS_none R o l _ _ d
    · exact fillS_none R o l _ _ d
theorem okF_item (R : Int) (o f : Bool) : ∀ (l : List Int) (n v : Int) (d : Bool) (r : List (Int × Int)) (s : List Int) (c : Int), okF r s (c - cntF d (fillS R o f l n v d).2.2.2) → okF (valsS R o f l n v d ++ r) (l ++ s) c
  | [], n, v, d, r, s, c, h => by
    have : cntF d (fillS R o f [] n v d).2.2.2 = 0 := by show cntF d d = 0; unfold cntF; cases d <;> rfl
    rw [this, Int.sub_zero] at h
    exact h
  | b :: l, n, v, d, r, s, c, h => by
    rw [fillS] at h
    rw [valsS]
    have z : ∀ w c', okF w (l ++ s) c' → okF ((b - 48, 0) :: w) (b :: l ++ s) c' := by
      intro w c' hw
      exact .inr ⟨rfl, b, l ++ s, rfl, rfl, hw⟩
    by_cases hn1 : (cntS o n v (b - 48)).1 = R
    · rw [if_pos hn1] at h ⊢
      by_cases hs : f = true ∧ d = false
      · rw [if_pos hs] at h ⊢
        refine z _ _ ?_
        show okF (((cntS o n v (b - 48)).2, 4) :: (valsS R o f l 0 (cntS o n v (b - 48)).2 true ++ r)) (l ++ s) c
        refine .inl ⟨rfl, okF_item R o f l 0 _ true r s (c - 1) ?_⟩
        have e1 : (consS [b, 48 + (cntS o n v (b - 48)).2] (fillS R o f l 0 (cntS o n v (b - 48)).2 true)).2.2.2 = true := fillS_done R o f l _ _
        rw [e1] at h
        rw [fillS_done]
        have e2 : cntF d true = 1 := by unfold cntF; rw [hs.2]; rfl
        have e3 : cntF true true = 0 := rfl
        rw [e2] at h
        rw [e3, Int.sub_zero]
        exact h
      · rw [if_neg hs] at h ⊢
        refine z _ _ ?_
        exact okF_item R o f l _ _ d r s c h
    · rw [if_neg hn1] at h ⊢
      refine z _ _ ?_
      exact okF_item R o f l _ _ d r s c h
def faultsL : List S45 → Int
  | [] => 0
  | x :: l => (if x.f4 = 0 then 0 else 1) + faultsL l
theorem okF_all (R : Int) (o : Bool) : ∀ (l : List S45) (n v : Int), errS R o n v l = 0 → okF (valsL R o n v l) (sentL l) (faultsL l)
  | [], _, _, _ => ⟨rfl, rfl⟩
  | x :: l, n, v, hE => by
    obtain ⟨hx0, hd, _, hE2⟩ := errS_ok hE
    obtain ⟨_, _, _, _, h4⟩ := itS_ok hx0
    rw [valsL, sentL, faultsL]
    refine okF_item R o _ _ _ _ _ _ _ _ ?_
    have hc : cntF false (fillS R o (x.f4 == 4) (bytesOf x.f3) n v false).2.2.2 = if x.f4 = 0 then 0 else 1 := by
      rcases h4 with h4 | h4
      · rw [h4, show ((0 : Int) == 4) = false by decide, fillS_none, if_pos rfl]; rfl
      · have : (fillS R o (x.f4 == 4) (bytesOf x.f3) n v false).2.2.2 = true := by
          cases h : (fillS R o (x.f4 == 4) (bytesOf x.f3) n v false).2.2.2
          · exact absurd ⟨h4, h⟩ hd
          · rfl
        rw [this, if_neg (by omega)]; rfl
    rw [hc, show ∀ a b : Int, a + b - a = b from fun a b => by omega]
    exact okF_all R o l _ _ hE2
theorem sentL_byts : ∀ q : List S45, Byts (sentL q)
  | [] => Byts.nil
  | x :: q => (byts_of _).append (sentL_byts q)
theorem main : signalbenchlaw19_StuffFaults.Pure := by
  intro R o l _ _ _ hl
  refine Ev.rounds (g := fun k => signalbenchlaw19_StuffFaults.f k R o l) ?_
  unfold signalbenchlaw19_StuffFaults.f
  have haw : Ev (fun k => (signalbenchlaw19_awake.f k).bind fun t => some t) true := Ev.bind ev_awake (Ev.now true)
  refine Ev.bind (ev_tiny l) (Ev.ite (fun ht => ?_) (fun ht => haw))
  have hlen : l.length ≤ 20 := by unfold tinyI at ht; rw [Bool.and_eq_true, decide_eq_true_eq] at ht; exact ht.1
  have hsz : ∀ x ∈ l, x.f3.size ≤ 200 := by
    unfold tinyI at ht
    rw [Bool.and_eq_true, List.all_eq_true] at ht
    exact fun x hx => by simpa using ht.2 x hx
  refine Ev.step (fun k => signalbenchlaw19_StuffFaults.j0.eq_2 ..) ?_
  refine Ev.bind (ev_stuff_Encode R o l) ?_
  unfold encodeS
  by_cases hc : chkS R = 0
  case neg =>
    rw [if_neg hc]
    exact Ev.neg hc (Ev.pos rfl haw)
  rw [if_pos hc, if_neg (show ¬ l.length > 1024 by omega)]
  by_cases hE : errS R o 0 0 l = 0
  case neg =>
    rw [if_neg hE]
    exact Ev.neg hE (Ev.pos rfl haw)
  rw [if_pos hE]
  refine Ev.pos rfl ?_
  refine Ev.step (fun k => signalbenchlaw19_StuffFaults.j1.eq_2 ..) ?_
  have key : ∀ (q pre : List S45) (sent : List Int) (c : Int) (i : Nat), l = pre ++ q → i = pre.length → sent ++ sentL q = sentL l → c + faultsL q = faultsL l → 0 ≤ c → c ≤ i → sent.length ≤ 200 * i → Ev (fun k => signalbenchlaw19_StuffFaults.l0 k l (outS R o 0 0 l) (strOfNums sent) c (i : Int) R o) true := by
    intro q
    induction q with
    | nil =>
      intro pre sent c i he hi hs hcf hc0 hci hsl
      rw [List.append_nil] at he
      rw [sentL, List.append_nil] at hs
      rw [faultsL, Int.add_zero] at hcf
      have hi' : i = l.length := by rw [hi, he]
      obtain ⟨m, hm, hml, hI, hD⟩ := ev_back R o l hlen hc hE
      have hok := okF_all R o l 0 0 hE
      rw [← hm, ← hs, ← hcf] at hok
      have hsb : Byts sent := by rw [hs]; exact sentL_byts l
      have hss := size_str sent
      clear he hm
      refine Ev.step (fun k => signalbenchlaw19_StuffFaults.l0.eq_2 ..) ?_
      refine Ev.neg (by omega) (Ev.bind hI (Ev.bind hD ?_))
      have loop : ∀ (q pre : List S33) (s spre : List Int) (c : Int) (i j : Nat), m = pre ++ q → i = pre.length → sent = spre ++ s → j = spre.length → okF (q.map valE) s c → 0 ≤ c + i → c ≤ 100 → Ev (fun k => signalbenchlaw19_StuffFaults.l1 k (strOfNums sent) c m (j : Int) (i : Int)) true := by
        intro q
        induction q with
        | nil =>
          intro pre s spre c i j he hi hse hj hok h1 h2
          rw [List.append_nil] at he
          obtain ⟨rfl, rfl⟩ := hok
          rw [List.append_nil] at hse
          have hj2 : j = sent.length := by rw [hse, hj]
          have hi2 : i = m.length := by rw [he, hi]
          clear he hse
          refine Ev.step (fun k => signalbenchlaw19_StuffFaults.l1.eq_2 ..) ?_
          exact Ev.neg (by omega) (Ev.pos rfl (Ev.pos (by omega) haw))
        | cons e q ih =>
          intro pre s spre c i j he hi hse hj hok h1 h2
          have hlen3 : m.length = i + (q.length + 1) := by rw [he, hi, List.length_append, List.length_cons]
          have hx : rd_T33 m (i : Int) = e := by rw [he]; exact rdE_mid pre e q i hi
          rw [List.map_cons] at hok
          have hsl2 : sent.length = j + s.length := by rw [hse, List.length_append, hj]
          rcases hok with ⟨h4, hok⟩ | ⟨h0, b, s', rfl, hv, hok⟩
          · have ih2 := ih (pre ++ [e]) s spre (c - 1) (i + 1) j (by rw [he]; simp) (by simp [hi]) hse hj hok (by omega) (by omega)
            clear ih he hse
            refine Ev.step (fun k => signalbenchlaw19_StuffFaults.l1.eq_2 ..) ?_
            rw [hx, wnat (i := i) (by omega), w64 (x := c - 1) (by omega) (by omega)]
            exact Ev.pos (by omega) (Ev.pos (by omega) (Ev.pos h4 ih2))
          · have ih2 := ih (pre ++ [e]) s' (spre ++ [b]) c (i + 1) (j + 1) (by rw [he]; simp) (by simp [hi]) (by rw [hse]; simp) (by simp [hj]) hok (by omega) h2
            rw [List.length_cons] at hsl2
            have hbt : bt (strOfNums sent) (j : Int) = b := by
              rw [bt_str hsb j (by omega)]
              simp [hse, hj]
            have k1 : e.f6 = 0 := h0
            have k2 : e.f3 = b - 48 := hv
            clear ih he hse
            refine Ev.step (fun k => signalbenchlaw19_StuffFaults.l1.eq_2 ..) ?_
            rw [hx, hbt, k2, wnat (i := i) (by omega), wnat (i := j) (by omega)]
            refine Ev.pos (by omega) (Ev.pos (by omega) (Ev.neg (by omega) (Ev.pos k1 (Ev.neg (by omega) (Ev.pos (by omega) (Ev.pos (by omega) (Ev.neg ?_ ih2)))))))
            have : ((b - 48 == 1) : Bool) = (b == 49) := by
              rw [Bool.eq_iff_iff, beq_iff_eq, beq_iff_eq]; omega
            rw [this]
            simp
      exact loop m [] sent [] c 0 0 rfl rfl rfl rfl hok (by omega) (by omega)
    | cons x q ih =>
      intro pre sent c i he hi hs hcf hc0 hci hsl
      have hlen2 : l.length = i + (q.length + 1) := by rw [he, hi, List.length_append, List.length_cons]
      have hx : rd_T45 l (i : Int) = x := by rw [he]; exact rdI_mid pre x q i hi
      have hxs := hsz x (by rw [he]; simp)
      have hbl := len_bytes x.f3
      have ih2 := fun c' => ih (pre ++ [x]) (sent ++ bytesOf x.f3) c' (i + 1) (by rw [he]; simp) (by simp [hi]) (by rw [← hs, sentL, List.append_assoc])
      have hss := size_str sent
      rw [faultsL] at hcf
      clear ih he
      refine Ev.step (fun k => signalbenchlaw19_StuffFaults.l0.eq_2 ..) ?_
      rw [hx, wnat (by omega), w64 (x := c + 1) (by omega) (by omega)]
      have e : strOfNums sent ++ x.f3 = strOfNums (sent ++ bytesOf x.f3) := by rw [← str_append, str_bytes]
      rw [e]
      refine Ev.pos (by omega) (Ev.pos (by omega) (Ev.pos (by omega) (Ev.ite (fun h4 => ?_) (fun h4 => ?_))))
      · rw [if_pos h4] at hcf
        exact ih2 c (by omega) hc0 (by omega) (by rw [List.length_append]; omega)
      · rw [if_neg h4] at hcf
        exact ih2 (c + 1) (by omega) (by omega) (by omega) (by rw [List.length_append]; omega)
  exact key l [] [] 0 0 rfl rfl rfl (by omega) (by omega) (by omega) (by simp)
end StuffFaults_
theorem StuffFaults : signalbenchlaw19_StuffFaults.Pure := StuffFaults_.main
end Go.Proofs.Ytpgeomgaphodkaa.Pure
