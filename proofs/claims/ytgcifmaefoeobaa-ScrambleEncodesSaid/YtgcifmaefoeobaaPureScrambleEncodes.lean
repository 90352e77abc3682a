/- The law ScrambleEncodes holds as a statement on numbers and lists: the sender makes of any items what the reference makes, or tells the same error. No condition beyond those of the statement. -/
import Derived.Test.YtgcifmaefoeobaaPScrambleEncodesx11
import Derived.Test.YtgcifmaefoeobaaSpecScr
namespace Go.Proofs.Ytgcifmaefoeobaa.Pure
open Go.RowKit Go.Proofs.Ytgcifmaefoeobaa.PScrambleEncodes Go.Proofs.YtgcifmaefoeobaaW.PrintWords Go.Proofs.YtgcifmaefoeobaaW.PrintLast Go.Proofs.Ytgcifmaefoeobaa.Aid
namespace ScrambleEncodes_
theorem ev_bits_Valid_l0 (s : ByteArray) (hs : s.size ≤ 65536) : ∀ (d i : Nat), i + d = s.size → Ev (fun k => bits_Valid.l0 k s (s.size : Int) (i : Int)) (((bytesOf s).drop i).all isB) := by
  intro d
  induction d with
  | zero =>
    intro i h
    refine Ev.stop fun k => ?_
    simp only [bits_Valid.l0]
    rw [if_neg (by omega), drop_end s i (by omega)]; rfl
  | succ d ih =>
    intro i h
    have e : wrap64 ((i : Int) + 1) = ((i + 1 : Nat) : Int) := by rw [w64 (by omega) (by omega)]; rfl
    rw [drop_cons s i (by omega), List.all_cons]
    by_cases h48 : bt s i = 48
    · have e2 : isB (bt s i) = true := isB_iff.mpr (.inl h48)
      rw [e2, Bool.true_and]
      refine Ev.step (fun k => ?_) (ih (i + 1) (by omega))
      simp only [bits_Valid.l0]
      rw [if_pos (by omega), if_pos (by omega), if_pos (by omega), if_pos h48, e]
    · by_cases h49 : bt s i = 49
      · have e2 : isB (bt s i) = true := isB_iff.mpr (.inr h49)
        rw [e2, Bool.true_and]
        refine Ev.step (fun k => ?_) (ih (i + 1) (by omega))
        simp only [bits_Valid.l0]
        rw [if_pos (by omega), if_pos (by omega), if_pos (by omega), if_neg h48, if_pos h49, e]
      · have e2 : isB (bt s i) = false := by simp [isB, h48, h49]
        rw [e2, Bool.false_and]
        refine Ev.stop fun k => ?_
        simp only [bits_Valid.l0]
        rw [if_pos (by omega), if_pos (by omega), if_pos (by omega), if_neg h48, if_neg h49]
theorem ev_bits_Valid (s : ByteArray) : Ev (fun k => bits_Valid.f k s) (vB s) := by
  unfold bits_Valid.f vB
  by_cases h : s.size ≤ 65536
  · rw [decide_eq_true h, Bool.true_and]
    refine Ev.congr (fun k => by rw [if_neg (by omega)]) ?_
    exact Ev.step (fun k => by simp only [bits_Valid.j0]; rfl) (ev_bits_Valid_l0 s h s.size 0 (by omega))
  · rw [decide_eq_false h, Bool.false_and]
    refine Ev.now' fun k => ?_
    rw [if_pos (by omega)]
theorem ev_scr_Check (w t : Int) : Ev (fun k => scramble_Check.f k w t) (checkS w t) := by
  have hyes : Ev (fun k => scramble_Check.j0 k true w t) 2 := Ev.stop fun k => by simp only [scramble_Check.j0, ↓reduceIte]
  unfold scramble_Check.f checkS
  by_cases h1 : w < 2
  · rw [if_pos (.inl h1)]
    exact Ev.congr (fun k => by rw [if_pos h1]) hyes
  · by_cases h2 : w > 31
    · rw [if_pos (.inr (.inl h2))]
      exact Ev.congr (fun k => by rw [if_neg h1, if_pos h2]) hyes
    · by_cases h3 : t < 1
      · rw [if_pos (.inr (.inr (.inl h3)))]
        exact Ev.congr (fun k => by rw [if_neg h1, if_neg h2, if_pos h3]) hyes
      · obtain ⟨n, rfl⟩ := Int.eq_ofNat_of_zero_le (show 0 ≤ w by omega)
        have hle := pow2_le31 (show n ≤ 31 by omega)
        have hp := pow2_pos n
        have es : shl .i64 1 (n : Int) = 2 ^ n := by rw [shl_eq n rfl (by omega) (by omega) (by omega)]; omega
        rw [Int.toNat_natCast]
        by_cases h4 : t ≥ 2 ^ n
        · rw [if_pos (.inr (.inr (.inr h4)))]
          exact Ev.congr (fun k => by rw [if_neg h1, if_neg h2, if_neg h3, if_pos (by omega), es, decide_eq_true h4]) hyes
        · rw [if_neg (by omega)]
          refine Ev.congr (f := fun k => scramble_Check.j0 k false (n : Int) t) (fun k => by rw [if_neg h1, if_neg h2, if_neg h3, if_pos (by omega), es, decide_eq_false h4]) (Ev.stop fun k => ?_)
          obtain ⟨m, rfl⟩ : ∃ m, n = m + 1 := ⟨n - 1, by omega⟩
          have e1 : wrap64 (((m + 1 : Nat) : Int) - 1) = (m : Int) := by rw [w64 (by omega) (by omega)]; omega
          simp only [scramble_Check.j0, ↓reduceIte, Bool.false_eq_true, e1]
          rw [if_pos (by omega), and_one, shr_eq t (m : Int) m rfl (by omega)]
          have hb := bit_test m (show 0 ≤ t by omega) (by omega)
          rw [Nat.add_sub_cancel]
          by_cases h5 : t ≥ 2 ^ m
          · rw [if_pos (hb.mpr h5), if_pos h5]
          · rw [if_neg (fun h => h5 (hb.mp h)), if_neg h5]
theorem ev_scr_parity_l0 (w : Nat) (t r : Int) (hw : w ≤ 31) (ht0 : 0 ≤ t) (ht1 : t < 2147483648) (hr0 : 0 ≤ r) (hr1 : r < 2147483648) : ∀ (d i : Nat), i + d = w →
    Ev (fun k => scramble_parity.l0 k r (parS i t r) (w : Int) (i : Int) (w : Int) t) (parS w t r) := by
  intro d
  induction d with
  | zero =>
    intro i h
    have : i = w := by omega
    subst this
    refine Ev.stop fun k => ?_
    simp only [scramble_parity.l0]
    rw [if_neg (by omega)]
  | succ d ih =>
    intro i h
    have e : wrap64 ((i : Int) + 1) = ((i + 1 : Nat) : Int) := by rw [w64 (by omega) (by omega)]; rfl
    have ea := and_eq (x := r) (y := t) hr0 (by omega) ht0 (by omega)
    have hb := and_bit r.toNat t.toNat i
    have ebit : Go.bits .and .i64 (shr .i64 (Go.bits .and .i64 r t) (i : Int)) 1 = (((r.toNat &&& t.toNat) / 2 ^ i % 2 : Nat) : Int) := by
      rw [and_one, shr_eq _ (i : Int) i rfl (by omega), ea, Int.natCast_emod, Int.natCast_ediv, Int.natCast_pow]; rfl
    have hp := parN_lt (r.toNat &&& t.toNat) i
    have ex : Go.bits .xor .i64 (parS i t r) (((r.toNat &&& t.toNat) / 2 ^ i % 2 : Nat) : Int) = parS (i + 1) t r := by
      rw [xor_bit (parS_bit i t r) (by omega)]
      unfold parS
      rw [parN]
      omega
    refine Ev.step (fun k => ?_) (ih (i + 1) (by omega))
    simp only [scramble_parity.l0]
    rw [if_pos (by omega), if_pos (by omega), ebit, ex, e]
theorem ev_scr_parity (w : Nat) (t r : Int) (hw : w ≤ 31) (ht0 : 0 ≤ t) (ht1 : t < 2147483648) (hr0 : 0 ≤ r) (hr1 : r < 2147483648) : Ev (fun k => scramble_parity.f k (w : Int) t r) (parS w t r) :=
  ev_scr_parity_l0 w t r hw ht0 ht1 hr0 hr1 w 0 (by omega)
theorem scr_insert (w : Nat) (t r b : Int) (hw : w ≤ 31) (hr0 : 0 ≤ r) (hr1 : r < 2147483648) (hb : b = 0 ∨ b = 1) : scramble_insert.f (w : Int) t r b = some (insS w r b) := by
  have hle := pow2_le31 hw
  have hp := pow2_pos w
  have es : shl .i64 1 (w : Int) = 2 ^ w := by rw [shl_eq w rfl (by omega) (by omega) (by omega)]; omega
  unfold scramble_insert.f insS
  rw [if_pos (by omega), es, w64 (x := 2 ^ w - 1) (by omega) (by omega), w64 (x := 2 * r) (by omega) (by omega), w64 (x := 2 * r + b) (by omega) (by omega), and_mask w (by omega) (by omega) (by omega)]
def validE (a b c d e : Int) (s : ByteArray) (f : Int) : Bool :=
  decide (1 ≤ a ∧ a ≤ 8 ∧ 0 ≤ b ∧ b ≤ c ∧ c ≤ 1099511627776 ∧ -9007199254740992 ≤ d ∧ d ≤ 9007199254740992 ∧ -9007199254740992 ≤ e ∧ e ≤ 9007199254740992 ∧ s.size ≤ 4096 ∧ 0 ≤ f ∧ f ≤ 12)
theorem ev_event_Valid (a b c d e : Int) (s : ByteArray) (f : Int) : Ev (fun k => event_Valid.f k a b c d e s f) (validE a b c d e s f) := by
  refine ⟨2, fun k hk => ?_⟩
  obtain ⟨m, rfl⟩ : ∃ m, k = m + 2 := ⟨k - 2, by omega⟩
  simp only [event_Valid.f, event_Valid.j0, event_Valid.j1, validE, decide_eq_true_eq, ↓reduceIte]
  repeat' split
  all_goals first
    | (rw [decide_eq_false (by omega)])
    | (congr 1; rw [decide_eq_decide]; omega)
theorem rdE_mid (pre : List S27) (x : S27) (post : List S27) (i : Nat) (h : i = pre.length) : rd_T27 (pre ++ x :: post) (i : Int) = x := by
  subst h; simp [rd_T27]
theorem rdE_get (l : List S27) (i : Nat) (h : i < l.length) : rd_T27 l (i : Int) = l[i] := by
  simp [rd_T27, h]
theorem rdI_get (l : List S46) (i : Nat) (h : i < l.length) : rd_T46 l (i : Int) = l[i] := by
  simp [rd_T46, h]
/-- A configuration that the program takes. -/
structure Cfg (w : Nat) (t : Int) : Prop where
  hc : checkS (w : Int) t = 0
  w1 : 2 ≤ w
  w2 : w ≤ 31
  t0 : 0 ≤ t
  t1 : t < 2147483648
theorem Cfg.mk' {w t : Int} (h : checkS w t = 0) : ∃ n : Nat, w = (n : Int) ∧ Cfg n t := by
  obtain ⟨h1, h2, h3, h4, h5⟩ := checkS_ok h
  obtain ⟨n, rfl⟩ := Int.eq_ofNat_of_zero_le (show 0 ≤ w by omega)
  have hle := pow2_le31 (show n ≤ 31 by omega)
  rw [Int.toNat_natCast] at h4
  exact ⟨n, rfl, h, by omega, by omega, by omega, by omega⟩
theorem insS_lt {w : Nat} {t : Int} (C : Cfg w t) (r b : Int) : 0 ≤ insS w r b ∧ insS w r b < 2147483648 := by
  have := insS_bd w r b
  have := pow2_le31 C.w2
  omega
def scrY (w : Nat) (t r x : Int) : Int := (x - 48 + parS w t r) % 2
def encB (w : Nat) (t : Int) : Int → List Int → List Int
  | _, [] => []
  | r, x :: l => (48 + scrY w t r x) :: encB w t (insS w r (scrY w t r x)) l
def encR (w : Nat) (t : Int) : Int → List Int → Int
  | r, [] => r
  | r, x :: l => encR w t (insS w r (scrY w t r x)) l
theorem encB_len (w : Nat) (t : Int) : ∀ (l : List Int) (r : Int), (encB w t r l).length = l.length
  | [], _ => rfl
  | x :: l, r => by simp [encB, encB_len w t l]
theorem scrY_bit (w : Nat) (t r x : Int) : scrY w t r x = 0 ∨ scrY w t r x = 1 := by unfold scrY; omega
theorem encB_bits (w : Nat) (t : Int) : ∀ (l : List Int) (r : Int), AllB (encB w t r l)
  | [], _ => AllB.nil
  | x :: l, r => AllB.cons_iff.mpr ⟨by have := scrY_bit w t r x; omega, encB_bits w t l _⟩
theorem encR_bd {w : Nat} {t : Int} (C : Cfg w t) : ∀ (l : List Int) (r : Int), 0 ≤ r → r < 2147483648 → 0 ≤ encR w t r l ∧ encR w t r l < 2147483648
  | [], _, h0, h1 => ⟨h0, h1⟩
  | x :: l, r, _, _ => by
    have := insS_lt C r (scrY w t r x)
    exact encR_bd C l _ this.1 this.2
theorem encR_bd2 {w : Nat} {t : Int} : ∀ (l : List Int) (r : Int), 0 ≤ r → r < 2 ^ w → 0 ≤ encR w t r l ∧ encR w t r l < 2 ^ w
  | [], _, h0, h1 => ⟨h0, h1⟩
  | x :: l, r, _, _ => by
    have := insS_bd w r (scrY w t r x)
    exact encR_bd2 l _ this.1 this.2
/-- The error of an item. -/
def itS (x : S46) : Int := if x.f0 < 0 ∨ x.f0 > 1048576 then 1 else if x.f3.size > 4096 then 6 else if vB x.f3 = true then (if x.f1 = 0 ∧ x.f2 = 0 ∧ x.f4 = 0 then 0 else 1) else 4
theorem itS_ok {x : S46} (h : itS x = 0) : 0 ≤ x.f0 ∧ x.f0 ≤ 1048576 ∧ x.f3.size ≤ 4096 ∧ AllB (bytesOf x.f3) ∧ x.f1 = 0 ∧ x.f2 = 0 ∧ x.f4 = 0 := by
  unfold itS at h
  split at h
  · omega
  · split at h
    · omega
    · split at h
      · split at h
        · rename_i h1 h2 h3 h4
          exact ⟨by omega, by omega, by omega, (vB_iff.mp h3).2, h4⟩
        · omega
      · omega
theorem ev_scr_check (x : S46) : Ev (fun k => scramble_check.f k x.f0 x.f1 x.f2 x.f3 x.f4) (itS x) := by
  unfold scramble_check.f itS
  by_cases h1 : x.f0 < 0
  · rw [if_pos (.inl h1)]
    exact Ev.congr (fun k => by rw [if_pos h1]) (Ev.stop fun k => by simp only [scramble_check.j0, ↓reduceIte])
  · refine Ev.congr (fun k => by rw [if_neg h1]) ?_
    by_cases h2 : x.f0 > 1048576
    · rw [if_pos (.inr h2), decide_eq_true h2]
      exact Ev.stop fun k => by simp only [scramble_check.j0, ↓reduceIte]
    · rw [if_neg (by omega), decide_eq_false h2]
      by_cases h3 : x.f3.size > 4096
      · rw [if_pos h3]
        refine Ev.stop fun k => ?_
        simp only [scramble_check.j0, Bool.false_eq_true, ↓reduceIte]
        rw [if_pos (by omega)]
      · rw [if_neg h3]
        refine Ev.step (fun k => by simp only [scramble_check.j0, Bool.false_eq_true, ↓reduceIte]; rw [if_neg (by omega)]) ?_
        refine Ev.bind (ev_bits_Valid x.f3) (Ev.now' fun k => ?_)
        repeat' split
        all_goals simp_all
/-- What the sender makes of items. -/
def encS (w : Nat) (t : Int) : Int → List S46 → List S46 → List S46 × Int
  | _, out, [] => (out, 0)
  | r, out, x :: l => if itS x = 0 then encS w t (encR w t r (bytesOf x.f3)) (out ++ [⟨x.f0, 0, 0, strOfNums (encB w t r (bytesOf x.f3)), 0⟩]) l else ([], itS x)
theorem rd_mid (pre : List Int) (x : Int) (post : List Int) (i : Nat) (h : i = pre.length) : rd (pre ++ x :: post) (i : Int) = x := by
  subst h; simp [rd]
theorem rdI_mid (pre : List S46) (x : S46) (post : List S46) (i : Nat) (h : i = pre.length) : rd_T46 (pre ++ x :: post) (i : Int) = x := by
  subst h; simp [rd_T46]
theorem ev_scr_Encode_l1 {w : Nat} {t : Int} (C : Cfg w t) (x8 x26 : List S46) (x27 x28 f0 f1 f2 f4 : Int) (f3 : ByteArray) (hx8 : x8.length < 2932031007402) (res : List S46 × Int) : ∀ (l pre : List Int) (r : Int) (len i : Nat), i = pre.length → len = i + l.length → len ≤ 65536 → AllB l → 0 ≤ r → r < 2147483648 →
    Ev (fun k => scramble_Encode.l0 k (encR w t r l) (x8 ++ [⟨f0, 0, 0, strOfNums (pre ++ encB w t r l), 0⟩]) x26 x27 (wrap64 (x28 + 1)) (w : Int) t) res →
    Ev (fun k => scramble_Encode.l1 k r x8 (pre ++ l) x26 x27 x28 (len : Int) (i : Int) (w : Int) t f0 f1 f2 f3 f4) res := by
  intro l
  induction l with
  | nil =>
    intro pre r len i hi hlen _ _ _ _ h
    refine Ev.step (fun k => ?_) h
    simp only [scramble_Encode.l1, encR, encB, List.append_nil]
    simp only [List.length_nil] at hlen
    rw [if_neg (by omega), if_pos hx8]
  | cons x l ih =>
    intro pre r len i hi hlen hm hb h0 h1 h
    obtain ⟨hx, hb⟩ := AllB.cons_iff.mp hb
    rw [List.length_cons] at hlen
    have e : wrap64 ((i : Int) + 1) = ((i + 1 : Nat) : Int) := by rw [w64 (by omega) (by omega)]; rfl
    have hr := rd_mid pre x l i hi
    have hlp : (pre ++ x :: l).length = len := by rw [List.length_append, List.length_cons]; omega
    have h48 : (x - 48) % 256 = x - 48 := by omega
    have hxb : x - 48 = 0 ∨ x - 48 = 1 := by omega
    have hy := scrY_bit w t r x
    have ey : Go.bits .xor .i64 (x - 48) (parS w t r) = scrY w t r x := xor_bit hxb (parS_bit w t r)
    have eb : (48 + scrY w t r x % 256) % 256 = 48 + scrY w t r x := by omega
    have hl := insS_lt C r (scrY w t r x)
    refine Ev.step (f := fun k => (scramble_parity.f k (w : Int) t r).bind fun t118 => ((scramble_insert.f (w : Int) t r (Go.bits .xor .i64 (x - 48) t118)).bind fun t119 => (scramble_Encode.l1 k t119 x8 ((pre ++ x :: l).set ((i : Int) : Int).toNat ((48 + ((Go.bits .xor .i64 (x - 48) t118) % 256)) % 256)) x26 x27 x28 (len : Int) (wrap64 ((i : Int) + 1)) (w : Int) t f0 f1 f2 f3 f4))) (fun k => ?_) ?_
    · simp only [scramble_Encode.l1, hr, h48]
      rw [if_pos (by omega), if_pos (by omega), if_pos (by omega)]
    · refine Ev.bind (ev_scr_parity w t r C.w2 C.t0 C.t1 h0 h1) ?_
      refine Ev.congr (f := fun k => scramble_Encode.l1 k (insS w r (scrY w t r x)) x8 ((pre ++ [48 + scrY w t r x]) ++ l) x26 x27 x28 (len : Int) ((i + 1 : Nat) : Int) (w : Int) t f0 f1 f2 f3 f4) (fun k => ?_) ?_
      · rw [ey, scr_insert w t r _ C.w2 h0 h1 hy, Option.bind_some, eb, e, Int.toNat_natCast, set_fill pre x _ l i hi]
        simp only [List.append_assoc, List.singleton_append]
      · refine ih (pre ++ [48 + scrY w t r x]) _ len (i + 1) (by simp [hi]) (by omega) hm hb hl.1 hl.2 ?_
        simpa [encR, encB] using h
theorem ev_scr_Encode_l0 {w : Nat} {t : Int} (C : Cfg w t) : ∀ (l pre all : List S46) (r : Int) (out : List S46) (i : Nat), all = pre ++ l → i = pre.length → out.length = i → all.length ≤ 1024 → 0 ≤ r → r < 2147483648 →
    Ev (fun k => scramble_Encode.l0 k r out all (all.length : Int) (i : Int) (w : Int) t) (encS w t r out l) := by
  intro l
  induction l with
  | nil =>
    intro pre all r out i he hi ho hl h0 h1
    rw [List.append_nil] at he
    subst he
    refine Ev.stop fun k => ?_
    simp only [scramble_Encode.l0, encS]
    rw [if_neg (by omega)]
  | cons x l ih =>
    intro pre all r out i he hi ho hl h0 h1
    have hlen : all.length = i + (l.length + 1) := by rw [he, hi, List.length_append, List.length_cons]
    have e : wrap64 ((i : Int) + 1) = ((i + 1 : Nat) : Int) := by rw [w64 (by omega) (by omega)]; rfl
    have hx : rd_T46 all (i : Int) = x := by rw [he]; exact rdI_mid pre x l i hi
    have he2 : all = (pre ++ [x]) ++ l := by rw [he]; simp
    refine Ev.step (fun k => by simp only [scramble_Encode.l0]; rw [if_pos (by omega)]) ?_
    refine Ev.step (f := fun k => (scramble_check.f k x.f0 x.f1 x.f2 x.f3 x.f4).bind fun t113 => (if t113 = 0 then (scramble_Encode.j4 k r out all (all.length : Int) (i : Int) (w : Int) t x.f0 x.f1 x.f2 x.f3 x.f4) else (some (([] : List (S46)), t113)))) (fun k => by simp only [scramble_Encode.j3, hx]; rw [if_pos (by omega), if_pos (by omega)]) ?_
    refine Ev.bind (ev_scr_check x) ?_
    by_cases hc : itS x = 0
    · rw [encS, if_pos hc]
      refine Ev.congr (fun k => by rw [if_pos hc]) ?_
      obtain ⟨_, _, hs, hb, _⟩ := itS_ok hc
      have hbd := encR_bd C (bytesOf x.f3) r h0 h1
      refine Ev.step (fun k => by simp only [scramble_Encode.j4]; rw [if_pos (by omega), Option.bind_some]) ?_
      refine ev_scr_Encode_l1 C out all _ _ _ _ _ _ _ (by omega) _ (bytesOf x.f3) [] r _ 0 rfl (by omega) (by rw [len_bytes]; omega) hb h0 h1 ?_
      rw [e]
      exact ih (pre ++ [x]) all _ _ (i + 1) he2 (by simp [hi]) (by simp [ho]) hl hbd.1 hbd.2
    · rw [encS, if_neg hc]
      refine Ev.now' fun k => ?_
      rw [if_neg hc]
def encodeS (w t : Int) (l : List S46) : List S46 × Int := if checkS w t = 0 then (if l.length > 1024 then ([], 6) else encS w.toNat t 0 [] l) else ([], checkS w t)
theorem ev_scr_Encode (w t : Int) (l : List S46) : Ev (fun k => scramble_Encode.f k w t l) (encodeS w t l) := by
  unfold scramble_Encode.f encodeS
  refine Ev.bind (ev_scr_Check w t) ?_
  by_cases hc : checkS w t = 0
  · rw [if_pos hc]
    refine Ev.congr (fun k => by rw [if_pos hc]) ?_
    obtain ⟨n, rfl, C⟩ := Cfg.mk' hc
    by_cases hl : l.length > 1024
    · rw [if_pos hl]
      refine Ev.stop fun k => ?_
      simp only [scramble_Encode.j0]
      rw [if_pos (by omega)]
    · rw [if_neg hl, Int.toNat_natCast]
      refine Ev.step (fun k => by simp only [scramble_Encode.j0]; rw [if_neg (by omega)]) ?_
      refine Ev.step (fun k => by simp only [scramble_Encode.j1]; rw [if_pos (by omega), if_pos (by omega)]) ?_
      exact ev_scr_Encode_l0 C l [] l 0 [] 0 rfl rfl rfl (by omega) (by omega) (by omega)
  · rw [if_neg hc]
    refine Ev.now' fun k => ?_
    rw [if_neg hc]
theorem ev_ref_Valid_l0 (s : ByteArray) (hs : s.size ≤ 65536) : ∀ (d i : Nat), i + d = s.size → Ev (fun k => signalbenchref03_Valid.l0 k s (i : Int)) (((bytesOf s).drop i).all isB) := by
  intro d
  induction d with
  | zero =>
    intro i h
    refine Ev.stop fun k => ?_
    simp only [signalbenchref03_Valid.l0]
    rw [if_neg (by omega), drop_end s i (by omega)]; rfl
  | succ d ih =>
    intro i h
    have e : wrap64 ((i : Int) + 1) = ((i + 1 : Nat) : Int) := by rw [w64 (by omega) (by omega)]; rfl
    rw [drop_cons s i (by omega), List.all_cons]
    by_cases h48 : bt s i = 48
    · have e2 : isB (bt s i) = true := isB_iff.mpr (.inl h48)
      rw [e2, Bool.true_and]
      refine Ev.step (fun k => ?_) (ih (i + 1) (by omega))
      simp only [signalbenchref03_Valid.l0]
      rw [if_pos (by omega), if_pos (by omega), if_pos h48, e]
    · by_cases h49 : bt s i = 49
      · have e2 : isB (bt s i) = true := isB_iff.mpr (.inr h49)
        rw [e2, Bool.true_and]
        refine Ev.step (fun k => ?_) (ih (i + 1) (by omega))
        simp only [signalbenchref03_Valid.l0]
        rw [if_pos (by omega), if_pos (by omega), if_neg h48, if_pos h49, e]
      · have e2 : isB (bt s i) = false := by simp [isB, h48, h49]
        rw [e2, Bool.false_and]
        refine Ev.stop fun k => ?_
        simp only [signalbenchref03_Valid.l0]
        rw [if_pos (by omega), if_pos (by omega), if_neg h48, if_neg h49]
theorem ev_ref_Valid (s : ByteArray) : Ev (fun k => signalbenchref03_Valid.f k s) (vB s) := by
  unfold signalbenchref03_Valid.f vB
  by_cases h : s.size ≤ 65536
  · rw [decide_eq_true h, Bool.true_and]
    refine Ev.neg (by omega) ?_
    refine Ev.step (fun k => signalbenchref03_Valid.j0.eq_2 ..) ?_
    exact ev_ref_Valid_l0 s h s.size 0 (by omega)
  · rw [decide_eq_false h, Bool.false_and]
    refine Ev.now' fun k => ?_
    rw [if_pos (by omega)]
theorem ev_r20_power_l0 (w : Nat) (hw : w ≤ 31) : ∀ (d i : Nat), i + d = w → Ev (fun k => signalbenchref20_power.l0 k (w : Int) (2 ^ i) (i : Int)) (2 ^ w) := by
  intro d
  induction d with
  | zero =>
    intro i h
    obtain rfl : i = w := by omega
    refine Ev.step (fun k => signalbenchref20_power.l0.eq_2 ..) ?_
    (repeat (first | exact Ev.now _ | refine Ev.pos (by first | assumption | omega) ?_ | refine Ev.neg (by first | assumption | omega) ?_ | refine Ev.sbind ?_))
  | succ d ih =>
    intro i h
    have hle := pow2_le31 (show i ≤ 31 by omega)
    have hp := pow2_pos i
    have hs := pow2_succ i
    have e := wnat (i := i) (by omega)
    have e2 : wrap64 ((2 : Int) ^ i * 2) = 2 ^ (i + 1) := by rw [w64 (by omega) (by omega)]; omega
    refine Ev.step (fun k => signalbenchref20_power.l0.eq_2 ..) ?_
    rw [e, e2]
    exact Ev.pos (by omega) (ih (i + 1) (by omega))
theorem ev_r20_power (w : Nat) (hw : w ≤ 31) : Ev (fun k => signalbenchref20_power.f k (w : Int)) (2 ^ w) := ev_r20_power_l0 w hw w 0 (by omega)
theorem ev_r20_Check (w t : Int) : Ev (fun k => signalbenchref20_Check.f k w t) (checkS w t) := by
  have hyes : Ev (fun k => signalbenchref20_Check.j0 k true w t) 2 := Ev.stop fun k => by simp only [signalbenchref20_Check.j0, ↓reduceIte]
  unfold signalbenchref20_Check.f checkS
  refine Ev.ite (fun h1 => ?_) (fun h1 => Ev.ite (fun h2 => ?_) (fun h2 => Ev.ite (fun h3 => ?_) (fun h3 => ?_)))
  · rw [if_pos (.inl h1)]; exact hyes
  · rw [if_pos (.inr (.inl h2))]; exact hyes
  · rw [if_pos (.inr (.inr (.inl h3)))]; exact hyes
  · obtain ⟨n, rfl⟩ := Int.eq_ofNat_of_zero_le (show 0 ≤ w by omega)
    have hle := pow2_le31 (show n ≤ 31 by omega)
    have hp := pow2_pos n
    refine Ev.bind (ev_r20_power n (by omega)) ?_
    rw [Int.toNat_natCast, w64 (x := 2 ^ n - 1) (by omega) (by omega)]
    by_cases h4 : t ≥ 2 ^ n
    · rw [if_pos (.inr (.inr (.inr h4))), decide_eq_true (by omega)]; exact hyes
    · rw [if_neg (by omega), decide_eq_false (by omega)]
      obtain ⟨m, rfl⟩ : ∃ m, n = m + 1 := ⟨n - 1, by omega⟩
      have e1 : wrap64 (((m + 1 : Nat) : Int) - 1) = (m : Int) := by rw [w64 (by omega) (by omega)]; omega
      refine Ev.step (fun k => signalbenchref20_Check.j0.eq_2 ..) ?_
      rw [e1, Nat.add_sub_cancel]
      refine Ev.neg (by decide) (Ev.bind (ev_r20_power m (by omega)) (Ev.now' fun _ => ?_))
      by_cases h5 : t ≥ 2 ^ m
      · rw [if_neg (by omega), if_pos h5]
      · rw [if_pos (by omega), if_neg h5]
def sumN (r t : Nat) : Nat → Nat
  | 0 => 0
  | i + 1 => sumN r t i + (r / 2 ^ i % 2) * (t / 2 ^ i % 2)
theorem sumN_le (r t : Nat) : ∀ i, sumN r t i ≤ i
  | 0 => Nat.le_refl _
  | i + 1 => by
    have := sumN_le r t i
    rcases Nat.mod_two_eq_zero_or_one (r / 2 ^ i) with h | h <;> rcases Nat.mod_two_eq_zero_or_one (t / 2 ^ i) with h' | h' <;> simp only [sumN, h, h'] <;> omega
theorem sumN_par (r t : Nat) : ∀ i, sumN r t i % 2 = parN (r &&& t) i
  | 0 => rfl
  | i + 1 => by
    rw [sumN, parN, and_bit, Nat.add_mod, sumN_par r t i]
    omega
theorem ev_r20_parity (w r t : Nat) (hw : w ≤ 31) (hr : r < 2147483648) (ht : t < 2147483648) : Ev (fun k => signalbenchref20_parity.f k (w : Int) (t : Int) (r : Int)) (parS w t r) := by
  have key : ∀ (d i : Nat), i + d = w → Ev (fun k => signalbenchref20_parity.l0 k (sumN r t i : Int) ((r / 2 ^ i : Nat) : Int) ((t / 2 ^ i : Nat) : Int) (i : Int) (w : Int) (t : Int)) (parS w t r) := by
    intro d
    induction d with
    | zero =>
      intro i h
      obtain rfl : i = w := by omega
      refine Ev.step (fun k => signalbenchref20_parity.l0.eq_2 ..) ?_
      refine Ev.neg (by omega) (Ev.now' fun _ => ?_)
      rw [Int.tmod_eq_emod_of_nonneg (by omega)]
      unfold parS
      rw [Int.toNat_natCast, Int.toNat_natCast, ← sumN_par]
      rfl
    | succ d ih =>
      intro i h
      have hb := sumN_le r t i
      have nn : ∀ a : Nat, (0 : Int) ≤ (a : Int) := fun a => Int.natCast_nonneg a
      have hq1 : r / 2 ^ i ≤ r := Nat.div_le_self _ _
      have hq2 : t / 2 ^ i ≤ t := Nat.div_le_self _ _
      have e := wnat (i := i) (by omega)
      have m1 : Int.tmod ((r / 2 ^ i : Nat) : Int) 2 = ((r / 2 ^ i % 2 : Nat) : Int) := by rw [Int.tmod_eq_emod_of_nonneg (nn _)]; rfl
      have m2 : Int.tmod ((t / 2 ^ i : Nat) : Int) 2 = ((t / 2 ^ i % 2 : Nat) : Int) := by rw [Int.tmod_eq_emod_of_nonneg (nn _)]; rfl
      have q1 : Int.tdiv ((r / 2 ^ i : Nat) : Int) 2 = ((r / 2 ^ (i + 1) : Nat) : Int) := by rw [Int.tdiv_eq_ediv_of_nonneg (nn _), ← half_pow]; rfl
      have q2 : Int.tdiv ((t / 2 ^ i : Nat) : Int) 2 = ((t / 2 ^ (i + 1) : Nat) : Int) := by rw [Int.tdiv_eq_ediv_of_nonneg (nn _), ← half_pow]; rfl
      have hq3 : r / 2 ^ (i + 1) ≤ r := Nat.div_le_self _ _
      have hq4 : t / 2 ^ (i + 1) ≤ t := Nat.div_le_self _ _
      have hm : ((r / 2 ^ i % 2 : Nat) : Int) * ((t / 2 ^ i % 2 : Nat) : Int) = (((r / 2 ^ i % 2) * (t / 2 ^ i % 2) : Nat) : Int) := by rw [Int.natCast_mul]
      have hm2 : (r / 2 ^ i % 2) * (t / 2 ^ i % 2) ≤ 1 := by
        rcases Nat.mod_two_eq_zero_or_one (r / 2 ^ i) with h | h <;> rcases Nat.mod_two_eq_zero_or_one (t / 2 ^ i) with h' | h' <;> simp [h, h']
      have es : wrap64 ((sumN r t i : Int) + wrap64 (((r / 2 ^ i % 2 : Nat) : Int) * ((t / 2 ^ i % 2 : Nat) : Int))) = (sumN r t (i + 1) : Int) := by
        rw [hm, sumN]
        generalize (r / 2 ^ i % 2) * (t / 2 ^ i % 2) = z at hm2
        rw [w64 (x := (z : Int)) (by omega) (by omega), w64 (by omega) (by omega)]
        rfl
      refine Ev.step (fun k => signalbenchref20_parity.l0.eq_2 ..) ?_
      have f1 : wrap64 ((r / 2 ^ (i + 1) : Nat) : Int) = ((r / 2 ^ (i + 1) : Nat) : Int) := by generalize r / 2 ^ (i + 1) = z at hq3; exact w64 (by omega) (by omega)
      have f2 : wrap64 ((t / 2 ^ (i + 1) : Nat) : Int) = ((t / 2 ^ (i + 1) : Nat) : Int) := by generalize t / 2 ^ (i + 1) = z at hq4; exact w64 (by omega) (by omega)
      rw [m1, m2, q1, q2, es, e, f1, f2]
      exact Ev.pos (by omega) (ih (i + 1) (by omega))
  have := key w 0 (by omega)
  simpa [sumN, signalbenchref20_parity.f] using this
theorem ev_r20_par {w : Nat} {t r : Int} (hw : w ≤ 31) (hr0 : 0 ≤ r) (hr : r < 2147483648) (ht0 : 0 ≤ t) (ht : t < 2147483648) : Ev (fun k => signalbenchref20_parity.f k (w : Int) t r) (parS w t r) := by
  obtain ⟨a, rfl⟩ := Int.eq_ofNat_of_zero_le hr0
  obtain ⟨b, rfl⟩ := Int.eq_ofNat_of_zero_le ht0
  exact ev_r20_parity w a b hw (by omega) (by omega)
theorem ev_r20_insert {w : Nat} (t : Int) {r b : Int} (hw : w ≤ 31) (hr0 : 0 ≤ r) (hr : r < 2147483648) (hb : b = 0 ∨ b = 1) : Ev (fun k => signalbenchref20_insert.f k (w : Int) t r b) (insS w r b) := by
  have hp := pow2_pos w
  unfold signalbenchref20_insert.f insS
  refine Ev.bind (ev_r20_power w hw) (Ev.neg (by omega) (Ev.now' fun _ => ?_))
  rw [w64 (x := 2 * r) (by omega) (by omega), w64 (by omega) (by omega), Int.tmod_eq_emod_of_nonneg (by omega)]
theorem ev_r20_right (x : S46) : Ev (fun k => signalbenchref20_right.f k x.f0 x.f1 x.f2 x.f3 x.f4) (itS x) := by
  unfold signalbenchref20_right.f itS
  have hyes : Ev (fun k => signalbenchref20_right.j0 k true x.f0 x.f1 x.f2 x.f3 x.f4) 1 := Ev.stop fun k => by simp only [signalbenchref20_right.j0, ↓reduceIte]
  refine Ev.ite (fun h1 => ?_) (fun h1 => ?_)
  · rw [if_pos (.inl h1)]; exact hyes
  by_cases h2 : x.f0 > 1048576
  · rw [if_pos (.inr h2), decide_eq_true h2]; exact hyes
  rw [if_neg (by omega), decide_eq_false h2]
  refine Ev.step (fun k => signalbenchref20_right.j0.eq_2 ..) ?_
  refine Ev.neg (by decide) (Ev.ite (fun h3 => ?_) (fun h3 => ?_))
  · rw [if_pos (c := x.f3.size > 4096) (by omega)]; exact Ev.now _
  rw [if_neg (c := x.f3.size > 4096) (by omega)]
  refine Ev.bind (ev_ref_Valid x.f3) (Ev.now' fun k => ?_)
  repeat' split
  all_goals simp_all
/-- The items that the sender makes, when all are right. -/
def outI (w : Nat) (t : Int) : Int → List S46 → List S46
  | _, [] => []
  | r, x :: l => ⟨x.f0, 0, 0, strOfNums (encB w t r (bytesOf x.f3)), 0⟩ :: outI w t (encR w t r (bytesOf x.f3)) l
theorem outI_len (w : Nat) (t : Int) : ∀ (l : List S46) (r : Int), (outI w t r l).length = l.length
  | [], _ => rfl
  | x :: l, r => by simp [outI, outI_len w t l]
theorem ev_Same20_refl (l : List S46) (hl : l.length < 2199023255552) : Ev (fun k => signalbenchref20_Same.f k l l) true := by
  unfold signalbenchref20_Same.f
  refine Ev.congr (fun k => by rw [if_pos rfl]) ?_
  refine Ev.step (fun k => by simp only [signalbenchref20_Same.j0]; rfl) ?_
  have key : ∀ (d i : Nat), i + d = l.length → Ev (fun k => signalbenchref20_Same.l0 k l l (i : Int)) true := by
    intro d
    induction d with
    | zero =>
      intro i h
      refine Ev.stop fun k => ?_
      simp only [signalbenchref20_Same.l0]
      rw [if_neg (by omega)]
    | succ d ih =>
      intro i h
      have e : wrap64 ((i : Int) + 1) = ((i + 1 : Nat) : Int) := by rw [w64 (by omega) (by omega)]; rfl
      refine Ev.step (fun k => ?_) (ih (i + 1) (by omega))
      simp only [signalbenchref20_Same.l0, beq_self_eq_true, Bool.not_true, Bool.or_self, Bool.false_eq_true, if_false]
      rw [if_pos (by omega), if_pos (by omega), if_pos (by omega), e]
  exact key l.length 0 (by omega)
theorem ev_awake : Ev (fun k => signalbenchlaw20_awake.f k) true := by
  refine Ev.of (fun k => signalbenchlaw20_awake.mono k) (k := 80) ?_
  decide +kernel
/-- The first error of items. -/
def firstE : List S46 → Int
  | [] => 0
  | x :: l => if itS x = 0 then firstE l else itS x
theorem encS_first (w : Nat) (t : Int) : ∀ (l : List S46) (r : Int) (out : List S46), encS w t r out l = if firstE l = 0 then (out ++ outI w t r l, 0) else ([], firstE l)
  | [], r, out => by simp [encS, firstE, outI]
  | x :: l, r, out => by
    unfold encS firstE
    by_cases hc : itS x = 0
    · rw [if_pos hc, if_pos hc, encS_first w t l]
      simp [outI]
    · rw [if_neg hc, if_neg hc, if_neg hc]
theorem ev_r20_check_l0 (w t : Int) (res : List S46 × Int) : ∀ (l pre all : List S46) (i : Nat), all = pre ++ l → i = pre.length → all.length ≤ 1024 → (firstE l = 0 → Ev (fun k => signalbenchref20_Encode.l1 k all [] 0 0 w t) res) → (firstE l ≠ 0 → res = ([], firstE l)) →
    Ev (fun k => signalbenchref20_Encode.l0 k all (i : Int) w t) res := by
  intro l
  induction l with
  | nil =>
    intro pre all i he hi hl h0 h1
    rw [List.append_nil] at he
    subst he
    refine Ev.step (fun k => signalbenchref20_Encode.l0.eq_2 ..) ?_
    refine Ev.neg (by omega) (Ev.pos (by omega) (Ev.pos (by omega) (h0 rfl)))
  | cons x l ih =>
    intro pre all i he hi hl h0 h1
    have hlen : all.length = i + (l.length + 1) := by rw [he, hi, List.length_append, List.length_cons]
    have hx : rd_T46 all (i : Int) = x := by rw [he]; exact rdI_mid pre x l i hi
    refine Ev.step (fun k => signalbenchref20_Encode.l0.eq_2 ..) ?_
    rw [hx, wnat (by omega)]
    refine Ev.pos (by omega) (Ev.pos (by omega) (Ev.bind (ev_r20_right x) (Ev.ite (fun hc => ?_) (fun hc => ?_))))
    · rw [firstE, if_pos hc] at h0 h1
      exact ih (pre ++ [x]) all (i + 1) (by rw [he]; simp) (by simp [hi]) hl h0 h1
    · rw [firstE, if_neg hc] at h1
      rw [h1 hc]
      exact Ev.now _
theorem ev_r20_Encode_l2 {w : Nat} {t : Int} (C : Cfg w t) (all out : List S46) (x : S46) (i : Nat) (hall : all.length ≤ 1024) (hi : i < all.length) (hx : rd_T46 all (i : Int) = x) (hxs : x.f3.size ≤ 4096) (ho : out.length ≤ 1024) (res : List S46 × Int) : ∀ (l pre : List Int) (sent : List Int) (r : Int) (j : Nat), bytesOf x.f3 = pre ++ l → j = pre.length → sent.length = j → AllB l → 0 ≤ r → r < 2147483648 →
    Ev (fun k => signalbenchref20_Encode.l1 k all (out ++ [⟨x.f0, 0, 0, strOfNums (sent ++ encB w t r l), 0⟩]) (encR w t r l) ((i + 1 : Nat) : Int) (w : Int) t) res →
    Ev (fun k => signalbenchref20_Encode.l2 k all out r (i : Int) sent (j : Int) (w : Int) t) res := by
  have hlen := len_bytes x.f3
  intro l
  induction l with
  | nil =>
    intro pre sent r j he hj hs hb h0 h1 h
    rw [List.append_nil] at he
    rw [he] at hlen
    refine Ev.step (fun k => signalbenchref20_Encode.l2.eq_2 ..) ?_
    rw [hx, wnat (i := i) (by omega)]
    simp only [encB, encR, List.append_nil] at h
    exact Ev.pos (by omega) (Ev.pos (by omega) (Ev.neg (by omega) (Ev.pos (by omega) h)))
  | cons b l ih =>
    intro pre sent r j he hj hs hb h0 h1 h
    have hl : x.f3.size = j + (l.length + 1) := by rw [← hlen, he, hj, List.length_append, List.length_cons]
    obtain ⟨hb1, hb⟩ := AllB.cons_iff.mp hb
    have hbt : bt x.f3 (j : Int) = b := by
      rw [bt_get x.f3 j (by omega)]
      simp [he, hj]
    have hp := parS_bit w t r
    have ey : Int.tmod (wrap64 (wrap64 (wrap64 b - 48) + parS w t r)) 2 = scrY w t r b := by
      rw [w64 (x := b) (by omega) (by omega), w64 (x := b - 48) (by omega) (by omega), w64 (by omega) (by omega), Int.tmod_eq_emod_of_nonneg (by omega)]
      rfl
    have hy := scrY_bit w t r b
    have ec : wrap64 (48 + scrY w t r b) % 256 = 48 + scrY w t r b := by rw [w64 (by omega) (by omega)]; omega
    have hbd := insS_lt C r (scrY w t r b)
    refine Ev.step (fun k => signalbenchref20_Encode.l2.eq_2 ..) ?_
    rw [hx, hbt, wnat (i := j) (by omega)]
    refine Ev.pos (by omega) (Ev.pos (by omega) (Ev.pos (by omega) (Ev.pos (by omega) (Ev.bind (ev_r20_par C.w2 h0 h1 C.t0 C.t1) (Ev.pos (by omega) ?_)))))
    rw [ey, ec]
    refine Ev.bind (ev_r20_insert t C.w2 h0 h1 hy) ?_
    refine ih (pre ++ [b]) _ _ (j + 1) (by rw [he]; simp) (by simp [hj]) (by simp [hs]) hb hbd.1 hbd.2 ?_
    simpa [encB, encR] using h
theorem ev_r20_Encode_l1 {w : Nat} {t : Int} (C : Cfg w t) : ∀ (l pre all : List S46) (r : Int) (out : List S46) (i : Nat), all = pre ++ l → i = pre.length → out.length = i → all.length ≤ 1024 → firstE l = 0 → 0 ≤ r → r < 2147483648 →
    Ev (fun k => signalbenchref20_Encode.l1 k all out r (i : Int) (w : Int) t) (out ++ outI w t r l, 0) := by
  intro l
  induction l with
  | nil =>
    intro pre all r out i he hi ho hl hf h0 h1
    rw [List.append_nil] at he
    subst he
    refine Ev.step (fun k => signalbenchref20_Encode.l1.eq_2 ..) ?_
    rw [outI, List.append_nil]
    exact Ev.neg (by omega) (Ev.now _)
  | cons x l ih =>
    intro pre all r out i he hi ho hl hf h0 h1
    have hlen : all.length = i + (l.length + 1) := by rw [he, hi, List.length_append, List.length_cons]
    have hx : rd_T46 all (i : Int) = x := by rw [he]; exact rdI_mid pre x l i hi
    by_cases hc : itS x = 0
    case neg => rw [firstE, if_neg hc] at hf; exact absurd hf hc
    rw [firstE, if_pos hc] at hf
    obtain ⟨_, _, hs, hb, _⟩ := itS_ok hc
    have hbd := encR_bd C (bytesOf x.f3) r h0 h1
    refine Ev.step (fun k => signalbenchref20_Encode.l1.eq_2 ..) ?_
    refine Ev.pos (by omega) ?_
    refine Ev.step (fun k => signalbenchref20_Encode.j4.eq_2 ..) ?_
    rw [hx]
    refine Ev.pos (by omega) (Ev.pos (by omega) (Ev.pos (by omega) (Ev.pos (by omega) ?_)))
    refine ev_r20_Encode_l2 C all out x i hl (by omega) hx hs (by omega) _ (bytesOf x.f3) [] [] r 0 rfl rfl rfl hb h0 h1 ?_
    have := ih (pre ++ [x]) all (encR w t r (bytesOf x.f3)) (out ++ [⟨x.f0, 0, 0, strOfNums (encB w t r (bytesOf x.f3)), 0⟩]) (i + 1) (by rw [he]; simp) (by simp [hi]) (by simp [ho]) hl hf hbd.1 hbd.2
    simpa [outI] using this
theorem ev_r20_Encode (w t : Int) (l : List S46) : Ev (fun k => signalbenchref20_Encode.f k w t l) (encodeS w t l) := by
  unfold signalbenchref20_Encode.f encodeS
  refine Ev.bind (ev_r20_Check w t) (Ev.ite (fun hc => ?_) (fun hc => ?_))
  · rw [if_pos hc]
    obtain ⟨n, rfl, C⟩ := Cfg.mk' hc
    refine Ev.step (fun k => signalbenchref20_Encode.j0.eq_2 ..) ?_
    refine Ev.ite (fun hl => ?_) (fun hl => ?_)
    · rw [if_pos (by omega)]; exact Ev.now _
    rw [if_neg (by omega), Int.toNat_natCast, encS_first]
    refine Ev.step (fun k => signalbenchref20_Encode.j1.eq_2 ..) ?_
    refine ev_r20_check_l0 n t _ l [] l 0 rfl rfl (by omega) (fun h => ?_) (fun h => by rw [if_neg h])
    rw [if_pos h]
    exact ev_r20_Encode_l1 C l [] l 0 [] 0 rfl rfl rfl (by omega) h (by omega) (by omega)
  · rw [if_neg hc]; exact Ev.now _
theorem encodeS_len (w t : Int) (l : List S46) : (encodeS w t l).1.length ≤ 1024 := by
  unfold encodeS
  split
  · split
    · simp
    · rw [encS_first]
      split
      · simp only [List.nil_append, outI_len]; omega
      · simp
  · simp
theorem main : signalbenchlaw20_ScrambleEncodes.Pure := by
  intro w t l hw ht hl1 hl2 hl
  refine Ev.rounds (g := fun k => signalbenchlaw20_ScrambleEncodes.f k w t l) ?_
  unfold signalbenchlaw20_ScrambleEncodes.f
  have h := encodeS_len w t l
  refine Ev.bind (ev_scr_Encode w t l) (Ev.bind (ev_r20_Encode w t l) (Ev.pos rfl (Ev.bind (ev_Same20_refl _ (by omega)) (Ev.pos rfl (Ev.bind ev_awake (Ev.now true))))))
end ScrambleEncodes_
theorem ScrambleEncodes : signalbenchlaw20_ScrambleEncodes.Pure := ScrambleEncodes_.main
end Go.Proofs.Ytgcifmaefoeobaa.Pure
