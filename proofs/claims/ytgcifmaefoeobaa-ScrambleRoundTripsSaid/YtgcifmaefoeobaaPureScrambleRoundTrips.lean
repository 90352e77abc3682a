/- The law ScrambleRoundTrips holds as a statement on numbers and lists: the decoder takes back what the sender made, bit by bit. No condition beyond those of the statement. -/
import Derived.Test.YtgcifmaefoeobaaPScrambleRoundTripsx9
import Derived.Test.YtgcifmaefoeobaaSpecScr
namespace Go.Proofs.Ytgcifmaefoeobaa.Pure
open Go.RowKit Go.Proofs.Ytgcifmaefoeobaa.PScrambleRoundTrips Go.Proofs.YtgcifmaefoeobaaW.PrintWords Go.Proofs.YtgcifmaefoeobaaW.PrintLast Go.Proofs.Ytgcifmaefoeobaa.Aid
namespace ScrambleRoundTrips_
theorem ev_bits_Valid_l0 (s : ByteArray) (hs : s.size ≤ 65536) : ∀ (d i : Nat), i + d = s.size → Ev (fun k => bits_Valid.l0 k s (s.size : Int) (i : Int)) (((bytesOf s).drop i).all isB) := by
  intro d
  induction d with
  | zero =>
    intro i h
    refine Ev.stop fun k => ?_
    simp only [bits_Valid.l0]
    rw [if_neg (by omega), drop_end s i (by omega)]; rfl
  | succ d ih =>
    intro i h
    have e : wrap64 ((i : Int) + 1) = ((i + 1 : Nat) : Int) := by rw [w64 (by omega) (by omega)]; rfl
    rw [drop_cons s i (by omega), List.all_cons]
    by_cases h48 : bt s i = 48
    · have e2 : isB (bt s i) = true := isB_iff.mpr (.inl h48)
      rw [e2, Bool.true_and]
      refine Ev.step (fun k => ?_) (ih (i + 1) (by omega))
      simp only [bits_Valid.l0]
      rw [if_pos (by omega), if_pos (by omega), if_pos (by omega), if_pos h48, e]
    · by_cases h49 : bt s i = 49
      · have e2 : isB (bt s i) = true := isB_iff.mpr (.inr h49)
        rw [e2, Bool.true_and]
        refine Ev.step (fun k => ?_) (ih (i + 1) (by omega))
        simp only [bits_Valid.l0]
        rw [if_pos (by omega), if_pos (by omega), if_pos (by omega), if_neg h48, if_pos h49, e]
      · have e2 : isB (bt s i) = false := by simp [isB, h48, h49]
        rw [e2, Bool.false_and]
        refine Ev.stop fun k => ?_
        simp only [bits_Valid.l0]
        rw [if_pos (by omega), if_pos (by omega), if_pos (by omega), if_neg h48, if_neg h49]
theorem ev_bits_Valid (s : ByteArray) : Ev (fun k => bits_Valid.f k s) (vB s) := by
  unfold bits_Valid.f vB
  by_cases h : s.size ≤ 65536
  · rw [decide_eq_true h, Bool.true_and]
    refine Ev.congr (fun k => by rw [if_neg (by omega)]) ?_
    exact Ev.step (fun k => by simp only [bits_Valid.j0]; rfl) (ev_bits_Valid_l0 s h s.size 0 (by omega))
  · rw [decide_eq_false h, Bool.false_and]
    refine Ev.now' fun k => ?_
    rw [if_pos (by omega)]
theorem ev_scr_Check (w t : Int) : Ev (fun k => scramble_Check.f k w t) (checkS w t) := by
  have hyes : Ev (fun k => scramble_Check.j0 k true w t) 2 := Ev.stop fun k => by simp only [scramble_Check.j0, ↓reduceIte]
  unfold scramble_Check.f checkS
  by_cases h1 : w < 2
  · rw [if_pos (.inl h1)]
    exact Ev.congr (fun k => by rw [if_pos h1]) hyes
  · by_cases h2 : w > 31
    · rw [if_pos (.inr (.inl h2))]
      exact Ev.congr (fun k => by rw [if_neg h1, if_pos h2]) hyes
    · by_cases h3 : t < 1
      · rw [if_pos (.inr (.inr (.inl h3)))]
        exact Ev.congr (fun k => by rw [if_neg h1, if_neg h2, if_pos h3]) hyes
      · obtain ⟨n, rfl⟩ := Int.eq_ofNat_of_zero_le (show 0 ≤ w by omega)
        have hle := pow2_le31 (show n ≤ 31 by omega)
        have hp := pow2_pos n
        have es : shl .i64 1 (n : Int) = 2 ^ n := by rw [shl_eq n rfl (by omega) (by omega) (by omega)]; omega
        rw [Int.toNat_natCast]
        by_cases h4 : t ≥ 2 ^ n
        · rw [if_pos (.inr (.inr (.inr h4)))]
          exact Ev.congr (fun k => by rw [if_neg h1, if_neg h2, if_neg h3, if_pos (by omega), es, decide_eq_true h4]) hyes
        · rw [if_neg (by omega)]
          refine Ev.congr (f := fun k => scramble_Check.j0 k false (n : Int) t) (fun k => by rw [if_neg h1, if_neg h2, if_neg h3, if_pos (by omega), es, decide_eq_false h4]) (Ev.stop fun k => ?_)
          obtain ⟨m, rfl⟩ : ∃ m, n = m + 1 := ⟨n - 1, by omega⟩
          have e1 : wrap64 (((m + 1 : Nat) : Int) - 1) = (m : Int) := by rw [w64 (by omega) (by omega)]; omega
          simp only [scramble_Check.j0, ↓reduceIte, Bool.false_eq_true, e1]
          rw [if_pos (by omega), and_one, shr_eq t (m : Int) m rfl (by omega)]
          have hb := bit_test m (show 0 ≤ t by omega) (by omega)
          rw [Nat.add_sub_cancel]
          by_cases h5 : t ≥ 2 ^ m
          · rw [if_pos (hb.mpr h5), if_pos h5]
          · rw [if_neg (fun h => h5 (hb.mp h)), if_neg h5]
theorem ev_scr_parity_l0 (w : Nat) (t r : Int) (hw : w ≤ 31) (ht0 : 0 ≤ t) (ht1 : t < 2147483648) (hr0 : 0 ≤ r) (hr1 : r < 2147483648) : ∀ (d i : Nat), i + d = w →
    Ev (fun k => scramble_parity.l0 k r (parS i t r) (w : Int) (i : Int) (w : Int) t) (parS w t r) := by
  intro d
  induction d with
  | zero =>
    intro i h
    have : i = w := by omega
    subst this
    refine Ev.stop fun k => ?_
    simp only [scramble_parity.l0]
    rw [if_neg (by omega)]
  | succ d ih =>
    intro i h
    have e : wrap64 ((i : Int) + 1) = ((i + 1 : Nat) : Int) := by rw [w64 (by omega) (by omega)]; rfl
    have ea := and_eq (x := r) (y := t) hr0 (by omega) ht0 (by omega)
    have hb := and_bit r.toNat t.toNat i
    have ebit : Go.bits .and .i64 (shr .i64 (Go.bits .and .i64 r t) (i : Int)) 1 = (((r.toNat &&& t.toNat) / 2 ^ i % 2 : Nat) : Int) := by
      rw [and_one, shr_eq _ (i : Int) i rfl (by omega), ea, Int.natCast_emod, Int.natCast_ediv, Int.natCast_pow]; rfl
    have hp := parN_lt (r.toNat &&& t.toNat) i
    have ex : Go.bits .xor .i64 (parS i t r) (((r.toNat &&& t.toNat) / 2 ^ i % 2 : Nat) : Int) = parS (i + 1) t r := by
      rw [xor_bit (parS_bit i t r) (by omega)]
      unfold parS
      rw [parN]
      omega
    refine Ev.step (fun k => ?_) (ih (i + 1) (by omega))
    simp only [scramble_parity.l0]
    rw [if_pos (by omega), if_pos (by omega), ebit, ex, e]
theorem ev_scr_parity (w : Nat) (t r : Int) (hw : w ≤ 31) (ht0 : 0 ≤ t) (ht1 : t < 2147483648) (hr0 : 0 ≤ r) (hr1 : r < 2147483648) : Ev (fun k => scramble_parity.f k (w : Int) t r) (parS w t r) :=
  ev_scr_parity_l0 w t r hw ht0 ht1 hr0 hr1 w 0 (by omega)
theorem scr_insert (w : Nat) (t r b : Int) (hw : w ≤ 31) (hr0 : 0 ≤ r) (hr1 : r < 2147483648) (hb : b = 0 ∨ b = 1) : scramble_insert.f (w : Int) t r b = some (insS w r b) := by
  have hle := pow2_le31 hw
  have hp := pow2_pos w
  have es : shl .i64 1 (w : Int) = 2 ^ w := by rw [shl_eq w rfl (by omega) (by omega) (by omega)]; omega
  unfold scramble_insert.f insS
  rw [if_pos (by omega), es, w64 (x := 2 ^ w - 1) (by omega) (by omega), w64 (x := 2 * r) (by omega) (by omega), w64 (x := 2 * r + b) (by omega) (by omega), and_mask w (by omega) (by omega) (by omega)]
def validE (a b c d e : Int) (s : ByteArray) (f : Int) : Bool :=
  decide (1 ≤ a ∧ a ≤ 8 ∧ 0 ≤ b ∧ b ≤ c ∧ c ≤ 1099511627776 ∧ -9007199254740992 ≤ d ∧ d ≤ 9007199254740992 ∧ -9007199254740992 ≤ e ∧ e ≤ 9007199254740992 ∧ s.size ≤ 4096 ∧ 0 ≤ f ∧ f ≤ 12)
theorem ev_event_Valid (a b c d e : Int) (s : ByteArray) (f : Int) : Ev (fun k => event_Valid.f k a b c d e s f) (validE a b c d e s f) := by
  refine ⟨2, fun k hk => ?_⟩
  obtain ⟨m, rfl⟩ : ∃ m, k = m + 2 := ⟨k - 2, by omega⟩
  simp only [event_Valid.f, event_Valid.j0, event_Valid.j1, validE, decide_eq_true_eq, ↓reduceIte]
  repeat' split
  all_goals first
    | (rw [decide_eq_false (by omega)])
    | (congr 1; rw [decide_eq_decide]; omega)
theorem rdE_mid (pre : List S27) (x : S27) (post : List S27) (i : Nat) (h : i = pre.length) : rd_T27 (pre ++ x :: post) (i : Int) = x := by
  subst h; simp [rd_T27]
theorem rdE_get (l : List S27) (i : Nat) (h : i < l.length) : rd_T27 l (i : Int) = l[i] := by
  simp [rd_T27, h]
theorem rdI_get (l : List S46) (i : Nat) (h : i < l.length) : rd_T46 l (i : Int) = l[i] := by
  simp [rd_T46, h]
/-- A configuration that the program takes. -/
structure Cfg (w : Nat) (t : Int) : Prop where
  hc : checkS (w : Int) t = 0
  w1 : 2 ≤ w
  w2 : w ≤ 31
  t0 : 0 ≤ t
  t1 : t < 2147483648
theorem Cfg.mk' {w t : Int} (h : checkS w t = 0) : ∃ n : Nat, w = (n : Int) ∧ Cfg n t := by
  obtain ⟨h1, h2, h3, h4, h5⟩ := checkS_ok h
  obtain ⟨n, rfl⟩ := Int.eq_ofNat_of_zero_le (show 0 ≤ w by omega)
  have hle := pow2_le31 (show n ≤ 31 by omega)
  rw [Int.toNat_natCast] at h4
  exact ⟨n, rfl, h, by omega, by omega, by omega, by omega⟩
theorem insS_lt {w : Nat} {t : Int} (C : Cfg w t) (r b : Int) : 0 ≤ insS w r b ∧ insS w r b < 2147483648 := by
  have := insS_bd w r b
  have := pow2_le31 C.w2
  omega
def accE (at_ : Int) (x : S27) : Bool := decide (x.f0 = 2) && (validE x.f0 x.f1 x.f2 x.f3 x.f4 x.f5 x.f6 && (decide (at_ ≤ x.f1) && (decide (x.f3 = 0) || decide (x.f3 = 1))))
def outE (w : Nat) (t r : Int) (x : S27) : S27 := ⟨x.f0, x.f1, x.f2, (x.f3 + parS w t r) % 2, x.f4, x.f5, x.f6⟩
def decL (w : Nat) (t : Int) : Int → Int → List S27 → List S27
  | _, _, [] => []
  | a, r, x :: l => if accE a x = true then outE w t r x :: decL w t x.f1 (insS w r x.f3) l else decL w t a r l
theorem decL_len (w : Nat) (t : Int) : ∀ (l : List S27) (a r : Int), (decL w t a r l).length ≤ l.length
  | [], _, _ => Nat.le_refl _
  | x :: l, a, r => by
    unfold decL
    split
    · have := decL_len w t l x.f1 (insS w r x.f3); simp only [List.length_cons]; omega
    · have := decL_len w t l a r; simp only [List.length_cons]; omega
theorem ev_scr_accepts (s0 a s2 s3 s4 s5 s6 : Int) (s7 : ByteArray) (x : S27) : Ev (fun k => scramble_accepts.f k s0 a s2 s3 s4 s5 s6 s7 x.f0 x.f1 x.f2 x.f3 x.f4 x.f5 x.f6) (accE a x) := by
  unfold scramble_accepts.f accE
  by_cases h : x.f0 = 2
  · refine Ev.congr (fun k => by rw [if_pos h]) ?_
    refine Ev.bind (ev_event_Valid _ _ _ _ _ _ _) (Ev.now' fun k => ?_)
    rw [decide_eq_true h, Bool.true_and]
    cases validE x.f0 x.f1 x.f2 x.f3 x.f4 x.f5 x.f6
    · rw [if_neg (by decide), Bool.false_and]
    · rw [if_pos rfl, Bool.true_and]
      by_cases h1 : a ≤ x.f1
      · rw [if_pos h1, decide_eq_true h1, Bool.true_and]
        by_cases h2 : x.f3 = 0
        · rw [if_pos h2, decide_eq_true h2, Bool.true_or]
        · rw [if_neg h2, decide_eq_false h2, Bool.false_or]; rfl
      · rw [if_neg h1, decide_eq_false h1, Bool.false_and]
  · refine Ev.now' fun k => ?_
    rw [if_neg h, decide_eq_false h, Bool.false_and]
theorem accE_bit {a : Int} {x : S27} (h : accE a x = true) : x.f3 = 0 ∨ x.f3 = 1 := by
  unfold accE at h
  simp only [Bool.and_eq_true, Bool.or_eq_true, decide_eq_true_eq] at h
  exact h.2.2.2
theorem ev_scr_Step_no (w t s0 a s2 s3 r s5 s6 : Int) (s7 : ByteArray) (x : S27) (h : checkS w t ≠ 0 ∨ accE a x = false) : Ev (fun k => scramble_Step.f k w t s0 a s2 s3 r s5 s6 s7 x.f0 x.f1 x.f2 x.f3 x.f4 x.f5 x.f6) (s0, a, s2, s3, r, s5, s6, s7, []) := by
  unfold scramble_Step.f
  refine Ev.bind (ev_scr_Check w t) ?_
  by_cases hc : checkS w t = 0
  · refine Ev.congr (fun k => by rw [if_pos hc]) ?_
    refine Ev.bind (ev_scr_accepts s0 a s2 s3 r s5 s6 s7 x) ?_
    rcases h with h | h
    · exact absurd hc h
    · rw [h]
      refine Ev.stop fun k => ?_
      simp only [scramble_Step.j0, Bool.not_false, ↓reduceIte]
  · refine Ev.congr (fun k => by rw [if_neg hc]) ?_
    refine Ev.stop fun k => ?_
    simp only [scramble_Step.j0, ↓reduceIte]
theorem ev_scr_Step_yes {w : Nat} {t : Int} (C : Cfg w t) (s0 a s2 s3 r s5 s6 : Int) (s7 : ByteArray) (x : S27) (hr0 : 0 ≤ r) (hr1 : r < 2147483648) (h : accE a x = true) : Ev (fun k => scramble_Step.f k (w : Int) t s0 a s2 s3 r s5 s6 s7 x.f0 x.f1 x.f2 x.f3 x.f4 x.f5 x.f6) (s0, x.f1, s2, s3, insS w r x.f3, s5, s6, s7, [outE w t r x]) := by
  unfold scramble_Step.f
  refine Ev.bind (ev_scr_Check w t) ?_
  refine Ev.congr (fun k => by rw [if_pos C.hc]) ?_
  refine Ev.bind (ev_scr_accepts s0 a s2 s3 r s5 s6 s7 x) ?_
  rw [h]
  refine Ev.step (f := fun k => (scramble_parity.f k (w : Int) t r).bind fun t135 => ((scramble_insert.f (w : Int) t r x.f3).bind fun t136 => (some (s0, x.f1, s2, s3, t136, s5, s6, s7, (([(⟨x.f0, x.f1, x.f2, Go.bits .xor .i64 x.f3 t135, x.f4, x.f5, x.f6⟩ : S27)] : List (S27))))))) (fun k => by simp only [scramble_Step.j0, Bool.not_true, Bool.false_eq_true, ↓reduceIte]) ?_
  refine Ev.bind (ev_scr_parity w t r C.w2 C.t0 C.t1 hr0 hr1) (Ev.now' fun k => ?_)
  rw [scr_insert w t r x.f3 C.w2 hr0 hr1 (accE_bit h), Option.bind_some, xor_bit (accE_bit h) (parS_bit w t r)]
  rfl
theorem ev_scr_Decode_l0 {w : Nat} {t : Int} (C : Cfg w t) (s0 s2 s3 s5 s6 : Int) (s7 : ByteArray) : ∀ (l pre all : List S27) (a r : Int) (out : List S27) (i : Nat), all = pre ++ l → i = pre.length → out.length ≤ i → all.length < 2199023255552 → 0 ≤ r → r < 2147483648 →
    Ev (fun k => scramble_Decode.l0 k out all (all.length : Int) (i : Int) (w : Int) t s0 a s2 s3 r s5 s6 s7) (out ++ decL w t a r l) := by
  intro l
  induction l with
  | nil =>
    intro pre all a r out i he hi ho hl h0 h1
    rw [List.append_nil] at he
    subst he
    refine Ev.stop fun k => ?_
    simp only [scramble_Decode.l0, scramble_End.f, Option.bind_some, List.length_nil, decL]
    rw [if_neg (by omega), if_pos (by omega)]
  | cons x l ih =>
    intro pre all a r out i he hi ho hl h0 h1
    have hlen : all.length = i + (l.length + 1) := by rw [he, hi, List.length_append, List.length_cons]
    have e : wrap64 ((i : Int) + 1) = ((i + 1 : Nat) : Int) := by rw [w64 (by omega) (by omega)]; rfl
    have hx : rd_T27 all (i : Int) = x := by rw [he]; exact rdE_mid pre x l i hi
    have he2 : all = (pre ++ [x]) ++ l := by rw [he]; simp
    refine Ev.step (f := fun k => (scramble_Step.f k (w : Int) t s0 a s2 s3 r s5 s6 s7 x.f0 x.f1 x.f2 x.f3 x.f4 x.f5 x.f6).bind fun bt156 => (if out.length + bt156.2.2.2.2.2.2.2.2.length < 2199023255552 then (scramble_Decode.l0 k (out ++ bt156.2.2.2.2.2.2.2.2) all (all.length : Int) (wrap64 ((i : Int) + 1)) (w : Int) t bt156.1 bt156.2.1 bt156.2.2.1 bt156.2.2.2.1 bt156.2.2.2.2.1 bt156.2.2.2.2.2.1 bt156.2.2.2.2.2.2.1 bt156.2.2.2.2.2.2.2.1) else none)) (fun k => ?_) ?_
    · simp only [scramble_Decode.l0, hx]
      rw [if_pos (by omega), if_pos (by omega), if_pos (by omega)]
    · by_cases h : accE a x = true
      · refine Ev.bind (ev_scr_Step_yes C s0 a s2 s3 r s5 s6 s7 x h0 h1 h) ?_
        have hb := insS_lt C r x.f3
        have := ih (pre ++ [x]) all x.f1 (insS w r x.f3) (out ++ [outE w t r x]) (i + 1) he2 (by simp [hi]) (by simp; omega) hl hb.1 hb.2
        refine Ev.congr (fun k => ?_) (by rw [decL, if_pos h]; simpa using this)
        simp only [List.length_cons, List.length_nil, e]
        rw [if_pos (by omega)]
        rfl
      · have hf : accE a x = false := by simpa using h
        refine Ev.bind (ev_scr_Step_no (w : Int) t s0 a s2 s3 r s5 s6 s7 x (.inr hf)) ?_
        have := ih (pre ++ [x]) all a r out (i + 1) he2 (by simp [hi]) (by omega) hl h0 h1
        refine Ev.congr (fun k => ?_) (by rw [decL, if_neg h]; exact this)
        simp only [List.length_nil, e, List.append_nil]
        rw [if_pos (by omega)]
theorem ev_scr_Decode {w : Nat} {t : Int} (C : Cfg w t) (l : List S27) (hl : l.length < 2199023255552) : Ev (fun k => scramble_Decode.f k (w : Int) t l) (decL w t 0 0 l) := by
  unfold scramble_Decode.f scramble_Start.f
  exact ev_scr_Decode_l0 C 0 0 0 0 0 _ l [] l 0 0 [] 0 rfl rfl (by simp) hl (by omega) (by omega)
/-- The bits of a string as events. -/
def bitE (i : Nat) (x : Int) : S27 := ⟨2, (i : Int), (i : Int) + 1, x - 48, 0, ⟨#[]⟩, 0⟩
def bitsE : Nat → List Int → List S27
  | _, [] => []
  | i, x :: l => bitE i x :: bitsE (i + 1) l
theorem bitsE_len : ∀ (l : List Int) (i : Nat), (bitsE i l).length = l.length
  | [], _ => rfl
  | x :: l, i => by simp [bitsE, bitsE_len l (i + 1)]
theorem ev_bits (s : ByteArray) (hs : s.size ≤ 1000000000) : Ev (fun k => signalbenchlaw20_bits.f k s) (bitsE 0 (bytesOf s)) := by
  have key : ∀ (d i : Nat) (out : List S27), i + d = s.size → out.length = i → Ev (fun k => signalbenchlaw20_bits.l0 k s out (i : Int)) (out ++ bitsE i ((bytesOf s).drop i)) := by
    intro d
    induction d with
    | zero =>
      intro i out h ho
      refine Ev.stop fun k => ?_
      simp only [signalbenchlaw20_bits.l0]
      rw [if_neg (by omega), drop_end s i (by omega)]
      simp [bitsE]
    | succ d ih =>
      intro i out h ho
      have e : wrap64 ((i : Int) + 1) = ((i + 1 : Nat) : Int) := by rw [w64 (by omega) (by omega)]; rfl
      have hb := bt_lo s i
      have hb2 := bt_hi s i
      have e2 : wrap64 (bt s i) = bt s i := w64 (by omega) (by omega)
      have e3 : wrap64 (bt s i - 48) = bt s i - 48 := w64 (by omega) (by omega)
      have := ih (i + 1) (out ++ [bitE i (bt s i)]) (by omega) (by simp; omega)
      refine Ev.step (fun k => ?_) (by rw [drop_cons s i (by omega), bitsE]; simpa using this)
      simp only [signalbenchlaw20_bits.l0]
      rw [if_pos (by omega), if_pos (by omega), if_pos (by omega), e2, e3, e]
      rfl
  refine Ev.congr (fun k => ?_) (key s.size 0 [] (by omega) rfl)
  unfold signalbenchlaw20_bits.f
  rw [if_pos (by omega), if_pos (by omega)]
  rfl
/-- The decoder on bits alone. -/
def decB (w : Nat) (t : Int) : Int → List Int → List Int
  | _, [] => []
  | r, x :: l => (48 + (x - 48 + parS w t r) % 2) :: decB w t (insS w r (x - 48)) l
theorem decB_len (w : Nat) (t : Int) : ∀ (l : List Int) (r : Int), (decB w t r l).length = l.length
  | [], _ => rfl
  | x :: l, r => by simp [decB, decB_len w t l]
theorem decB_bits (w : Nat) (t : Int) : ∀ (l : List Int) (r : Int), AllB (decB w t r l)
  | [], _ => AllB.nil
  | x :: l, r => AllB.cons_iff.mpr ⟨by omega, decB_bits w t l _⟩
theorem accE_bitE {a : Int} {i : Nat} {x : Int} (hx : x = 48 ∨ x = 49) (ha : a ≤ i) (hi : i < 1000000000) : accE a (bitE i x) = true := by
  have hv : validE 2 (i : Int) ((i : Int) + 1) (x - 48) 0 ⟨#[]⟩ 0 = true := by
    unfold validE
    refine decide_eq_true ?_
    have : (⟨#[]⟩ : ByteArray).size = 0 := rfl
    refine ⟨by omega, by omega, by omega, by omega, by omega, by omega, by omega, by omega, by omega, by omega, by omega, by omega⟩
  unfold accE bitE
  simp only [hv, Bool.true_and, decide_eq_true ha]
  rcases hx with rfl | rfl <;> rfl
theorem decL_bitsE (w : Nat) (t : Int) : ∀ (l : List Int) (i : Nat) (a r : Int), AllB l → a ≤ i → i + l.length ≤ 1000000000 → decL w t a r (bitsE i l) = bitsE i (decB w t r l)
  | [], _, _, _, _, _, _ => rfl
  | x :: l, i, a, r, hb, ha, hi => by
    obtain ⟨hx, hb⟩ := AllB.cons_iff.mp hb
    rw [List.length_cons] at hi
    rw [bitsE, decL, if_pos (accE_bitE hx ha (by omega)), decB, bitsE]
    have := decL_bitsE w t l (i + 1) (i : Int) (insS w r (x - 48)) hb (by omega) (by omega)
    rw [show (bitE i x).f1 = (i : Int) from rfl, show (bitE i x).f3 = x - 48 from rfl, this]
    congr 1
    unfold outE bitE
    simp only [S27.mk.injEq, true_and, and_true]
    omega
def scrY (w : Nat) (t r x : Int) : Int := (x - 48 + parS w t r) % 2
def encB (w : Nat) (t : Int) : Int → List Int → List Int
  | _, [] => []
  | r, x :: l => (48 + scrY w t r x) :: encB w t (insS w r (scrY w t r x)) l
def encR (w : Nat) (t : Int) : Int → List Int → Int
  | r, [] => r
  | r, x :: l => encR w t (insS w r (scrY w t r x)) l
theorem encB_len (w : Nat) (t : Int) : ∀ (l : List Int) (r : Int), (encB w t r l).length = l.length
  | [], _ => rfl
  | x :: l, r => by simp [encB, encB_len w t l]
theorem scrY_bit (w : Nat) (t r x : Int) : scrY w t r x = 0 ∨ scrY w t r x = 1 := by unfold scrY; omega
theorem encB_bits (w : Nat) (t : Int) : ∀ (l : List Int) (r : Int), AllB (encB w t r l)
  | [], _ => AllB.nil
  | x :: l, r => AllB.cons_iff.mpr ⟨by have := scrY_bit w t r x; omega, encB_bits w t l _⟩
theorem encR_bd {w : Nat} {t : Int} (C : Cfg w t) : ∀ (l : List Int) (r : Int), 0 ≤ r → r < 2147483648 → 0 ≤ encR w t r l ∧ encR w t r l < 2147483648
  | [], _, h0, h1 => ⟨h0, h1⟩
  | x :: l, r, _, _ => by
    have := insS_lt C r (scrY w t r x)
    exact encR_bd C l _ this.1 this.2
theorem encR_bd2 {w : Nat} {t : Int} : ∀ (l : List Int) (r : Int), 0 ≤ r → r < 2 ^ w → 0 ≤ encR w t r l ∧ encR w t r l < 2 ^ w
  | [], _, h0, h1 => ⟨h0, h1⟩
  | x :: l, r, _, _ => by
    have := insS_bd w r (scrY w t r x)
    exact encR_bd2 l _ this.1 this.2
/-- The error of an item. -/
def itS (x : S46) : Int := if x.f0 < 0 ∨ x.f0 > 1048576 then 1 else if x.f3.size > 4096 then 6 else if vB x.f3 = true then (if x.f1 = 0 ∧ x.f2 = 0 ∧ x.f4 = 0 then 0 else 1) else 4
theorem itS_ok {x : S46} (h : itS x = 0) : 0 ≤ x.f0 ∧ x.f0 ≤ 1048576 ∧ x.f3.size ≤ 4096 ∧ AllB (bytesOf x.f3) ∧ x.f1 = 0 ∧ x.f2 = 0 ∧ x.f4 = 0 := by
  unfold itS at h
  split at h
  · omega
  · split at h
    · omega
    · split at h
      · split at h
        · rename_i h1 h2 h3 h4
          exact ⟨by omega, by omega, by omega, (vB_iff.mp h3).2, h4⟩
        · omega
      · omega
theorem ev_scr_check (x : S46) : Ev (fun k => scramble_check.f k x.f0 x.f1 x.f2 x.f3 x.f4) (itS x) := by
  unfold scramble_check.f itS
  by_cases h1 : x.f0 < 0
  · rw [if_pos (.inl h1)]
    exact Ev.congr (fun k => by rw [if_pos h1]) (Ev.stop fun k => by simp only [scramble_check.j0, ↓reduceIte])
  · refine Ev.congr (fun k => by rw [if_neg h1]) ?_
    by_cases h2 : x.f0 > 1048576
    · rw [if_pos (.inr h2), decide_eq_true h2]
      exact Ev.stop fun k => by simp only [scramble_check.j0, ↓reduceIte]
    · rw [if_neg (by omega), decide_eq_false h2]
      by_cases h3 : x.f3.size > 4096
      · rw [if_pos h3]
        refine Ev.stop fun k => ?_
        simp only [scramble_check.j0, Bool.false_eq_true, ↓reduceIte]
        rw [if_pos (by omega)]
      · rw [if_neg h3]
        refine Ev.step (fun k => by simp only [scramble_check.j0, Bool.false_eq_true, ↓reduceIte]; rw [if_neg (by omega)]) ?_
        refine Ev.bind (ev_bits_Valid x.f3) (Ev.now' fun k => ?_)
        repeat' split
        all_goals simp_all
/-- What the sender makes of items. -/
def encS (w : Nat) (t : Int) : Int → List S46 → List S46 → List S46 × Int
  | _, out, [] => (out, 0)
  | r, out, x :: l => if itS x = 0 then encS w t (encR w t r (bytesOf x.f3)) (out ++ [⟨x.f0, 0, 0, strOfNums (encB w t r (bytesOf x.f3)), 0⟩]) l else ([], itS x)
theorem rd_mid (pre : List Int) (x : Int) (post : List Int) (i : Nat) (h : i = pre.length) : rd (pre ++ x :: post) (i : Int) = x := by
  subst h; simp [rd]
theorem rdI_mid (pre : List S46) (x : S46) (post : List S46) (i : Nat) (h : i = pre.length) : rd_T46 (pre ++ x :: post) (i : Int) = x := by
  subst h; simp [rd_T46]
theorem ev_scr_Encode_l1 {w : Nat} {t : Int} (C : Cfg w t) (x8 x26 : List S46) (x27 x28 f0 f1 f2 f4 : Int) (f3 : ByteArray) (hx8 : x8.length < 2932031007402) (res : List S46 × Int) : ∀ (l pre : List Int) (r : Int) (len i : Nat), i = pre.length → len = i + l.length → len ≤ 65536 → AllB l → 0 ≤ r → r < 2147483648 →
    Ev (fun k => scramble_Encode.l0 k (encR w t r l) (x8 ++ [⟨f0, 0, 0, strOfNums (pre ++ encB w t r l), 0⟩]) x26 x27 (wrap64 (x28 + 1)) (w : Int) t) res →
    Ev (fun k => scramble_Encode.l1 k r x8 (pre ++ l) x26 x27 x28 (len : Int) (i : Int) (w : Int) t f0 f1 f2 f3 f4) res := by
  intro l
  induction l with
  | nil =>
    intro pre r len i hi hlen _ _ _ _ h
    refine Ev.step (fun k => ?_) h
    simp only [scramble_Encode.l1, encR, encB, List.append_nil]
    simp only [List.length_nil] at hlen
    rw [if_neg (by omega), if_pos hx8]
  | cons x l ih =>
    intro pre r len i hi hlen hm hb h0 h1 h
    obtain ⟨hx, hb⟩ := AllB.cons_iff.mp hb
    rw [List.length_cons] at hlen
    have e : wrap64 ((i : Int) + 1) = ((i + 1 : Nat) : Int) := by rw [w64 (by omega) (by omega)]; rfl
    have hr := rd_mid pre x l i hi
    have hlp : (pre ++ x :: l).length = len := by rw [List.length_append, List.length_cons]; omega
    have h48 : (x - 48) % 256 = x - 48 := by omega
    have hxb : x - 48 = 0 ∨ x - 48 = 1 := by omega
    have hy := scrY_bit w t r x
    have ey : Go.bits .xor .i64 (x - 48) (parS w t r) = scrY w t r x := xor_bit hxb (parS_bit w t r)
    have eb : (48 + scrY w t r x % 256) % 256 = 48 + scrY w t r x := by omega
    have hl := insS_lt C r (scrY w t r x)
    refine Ev.step (f := fun k => (scramble_parity.f k (w : Int) t r).bind fun t118 => ((scramble_insert.f (w : Int) t r (Go.bits .xor .i64 (x - 48) t118)).bind fun t119 => (scramble_Encode.l1 k t119 x8 ((pre ++ x :: l).set ((i : Int) : Int).toNat ((48 + ((Go.bits .xor .i64 (x - 48) t118) % 256)) % 256)) x26 x27 x28 (len : Int) (wrap64 ((i : Int) + 1)) (w : Int) t f0 f1 f2 f3 f4))) (fun k => ?_) ?_
    · simp only [scramble_Encode.l1, hr, h48]
      rw [if_pos (by omega), if_pos (by omega), if_pos (by omega)]
    · refine Ev.bind (ev_scr_parity w t r C.w2 C.t0 C.t1 h0 h1) ?_
      refine Ev.congr (f := fun k => scramble_Encode.l1 k (insS w r (scrY w t r x)) x8 ((pre ++ [48 + scrY w t r x]) ++ l) x26 x27 x28 (len : Int) ((i + 1 : Nat) : Int) (w : Int) t f0 f1 f2 f3 f4) (fun k => ?_) ?_
      · rw [ey, scr_insert w t r _ C.w2 h0 h1 hy, Option.bind_some, eb, e, Int.toNat_natCast, set_fill pre x _ l i hi]
        simp only [List.append_assoc, List.singleton_append]
      · refine ih (pre ++ [48 + scrY w t r x]) _ len (i + 1) (by simp [hi]) (by omega) hm hb hl.1 hl.2 ?_
        simpa [encR, encB] using h
theorem ev_scr_Encode_l0 {w : Nat} {t : Int} (C : Cfg w t) : ∀ (l pre all : List S46) (r : Int) (out : List S46) (i : Nat), all = pre ++ l → i = pre.length → out.length = i → all.length ≤ 1024 → 0 ≤ r → r < 2147483648 →
    Ev (fun k => scramble_Encode.l0 k r out all (all.length : Int) (i : Int) (w : Int) t) (encS w t r out l) := by
  intro l
  induction l with
  | nil =>
    intro pre all r out i he hi ho hl h0 h1
    rw [List.append_nil] at he
    subst he
    refine Ev.stop fun k => ?_
    simp only [scramble_Encode.l0, encS]
    rw [if_neg (by omega)]
  | cons x l ih =>
    intro pre all r out i he hi ho hl h0 h1
    have hlen : all.length = i + (l.length + 1) := by rw [he, hi, List.length_append, List.length_cons]
    have e : wrap64 ((i : Int) + 1) = ((i + 1 : Nat) : Int) := by rw [w64 (by omega) (by omega)]; rfl
    have hx : rd_T46 all (i : Int) = x := by rw [he]; exact rdI_mid pre x l i hi
    have he2 : all = (pre ++ [x]) ++ l := by rw [he]; simp
    refine Ev.step (fun k => by simp only [scramble_Encode.l0]; rw [if_pos (by omega)]) ?_
    refine Ev.step (f := fun k => (scramble_check.f k x.f0 x.f1 x.f2 x.f3 x.f4).bind fun t113 => (if t113 = 0 then (scramble_Encode.j4 k r out all (all.length : Int) (i : Int) (w : Int) t x.f0 x.f1 x.f2 x.f3 x.f4) else (some (([] : List (S46)), t113)))) (fun k => by simp only [scramble_Encode.j3, hx]; rw [if_pos (by omega), if_pos (by omega)]) ?_
    refine Ev.bind (ev_scr_check x) ?_
    by_cases hc : itS x = 0
    · rw [encS, if_pos hc]
      refine Ev.congr (fun k => by rw [if_pos hc]) ?_
      obtain ⟨_, _, hs, hb, _⟩ := itS_ok hc
      have hbd := encR_bd C (bytesOf x.f3) r h0 h1
      refine Ev.step (fun k => by simp only [scramble_Encode.j4]; rw [if_pos (by omega), Option.bind_some]) ?_
      refine ev_scr_Encode_l1 C out all _ _ _ _ _ _ _ (by omega) _ (bytesOf x.f3) [] r _ 0 rfl (by omega) (by rw [len_bytes]; omega) hb h0 h1 ?_
      rw [e]
      exact ih (pre ++ [x]) all _ _ (i + 1) he2 (by simp [hi]) (by simp [ho]) hl hbd.1 hbd.2
    · rw [encS, if_neg hc]
      refine Ev.now' fun k => ?_
      rw [if_neg hc]
def encodeS (w t : Int) (l : List S46) : List S46 × Int := if checkS w t = 0 then (if l.length > 1024 then ([], 6) else encS w.toNat t 0 [] l) else ([], checkS w t)
theorem ev_scr_Encode (w t : Int) (l : List S46) : Ev (fun k => scramble_Encode.f k w t l) (encodeS w t l) := by
  unfold scramble_Encode.f encodeS
  refine Ev.bind (ev_scr_Check w t) ?_
  by_cases hc : checkS w t = 0
  · rw [if_pos hc]
    refine Ev.congr (fun k => by rw [if_pos hc]) ?_
    obtain ⟨n, rfl, C⟩ := Cfg.mk' hc
    by_cases hl : l.length > 1024
    · rw [if_pos hl]
      refine Ev.stop fun k => ?_
      simp only [scramble_Encode.j0]
      rw [if_pos (by omega)]
    · rw [if_neg hl, Int.toNat_natCast]
      refine Ev.step (fun k => by simp only [scramble_Encode.j0]; rw [if_neg (by omega)]) ?_
      refine Ev.step (fun k => by simp only [scramble_Encode.j1]; rw [if_pos (by omega), if_pos (by omega)]) ?_
      exact ev_scr_Encode_l0 C l [] l 0 [] 0 rfl rfl rfl (by omega) (by omega) (by omega)
  · rw [if_neg hc]
    refine Ev.now' fun k => ?_
    rw [if_neg hc]
theorem decB_encB (w : Nat) (t : Int) : ∀ (l : List Int) (r : Int), AllB l → decB w t r (encB w t r l) = l
  | [], _, _ => rfl
  | x :: l, r, hb => by
    obtain ⟨hx, hb⟩ := AllB.cons_iff.mp hb
    rw [encB, decB, show (48 : Int) + scrY w t r x - 48 = scrY w t r x by omega, decB_encB w t l _ hb]
    congr 1
    have := parS_bit w t r
    unfold scrY
    omega
/-- The items that the sender makes, when all are right. -/
def outI (w : Nat) (t : Int) : Int → List S46 → List S46
  | _, [] => []
  | r, x :: l => ⟨x.f0, 0, 0, strOfNums (encB w t r (bytesOf x.f3)), 0⟩ :: outI w t (encR w t r (bytesOf x.f3)) l
theorem outI_len (w : Nat) (t : Int) : ∀ (l : List S46) (r : Int), (outI w t r l).length = l.length
  | [], _ => rfl
  | x :: l, r => by simp [outI, outI_len w t l]
theorem ev_Same_refl (l : List S27) (hl : l.length < 2199023255552) : Ev (fun k => signalbenchref07_Same.f k l l) true := by
  unfold signalbenchref07_Same.f
  refine Ev.congr (fun k => by rw [if_pos rfl]) ?_
  refine Ev.step (fun k => by simp only [signalbenchref07_Same.j0]; rfl) ?_
  have key : ∀ (d i : Nat), i + d = l.length → Ev (fun k => signalbenchref07_Same.l0 k l l (i : Int)) true := by
    intro d
    induction d with
    | zero =>
      intro i h
      refine Ev.stop fun k => ?_
      simp only [signalbenchref07_Same.l0]
      rw [if_neg (by omega)]
    | succ d ih =>
      intro i h
      have e : wrap64 ((i : Int) + 1) = ((i + 1 : Nat) : Int) := by rw [w64 (by omega) (by omega)]; rfl
      refine Ev.step (fun k => ?_) (ih (i + 1) (by omega))
      simp only [signalbenchref07_Same.l0, beq_self_eq_true, Bool.not_true, Bool.or_self, Bool.false_eq_true, if_false]
      rw [if_pos (by omega), if_pos (by omega), if_pos (by omega), e]
  exact key l.length 0 (by omega)
theorem ev_awake : Ev (fun k => signalbenchlaw20_awake.f k) true := by
  refine Ev.of (fun k => signalbenchlaw20_awake.mono k) (k := 80) ?_
  decide +kernel
theorem encS_ok (w : Nat) (t : Int) : ∀ (l : List S46) (r : Int) (out : List S46), (encS w t r out l).2 = 0 → (∀ x ∈ l, itS x = 0) ∧ (encS w t r out l).1 = out ++ outI w t r l
  | [], r, out, _ => ⟨(fun _ hm => nomatch hm), by simp [encS, outI]⟩
  | x :: l, r, out, h => by
    by_cases hc : itS x = 0
    · rw [encS, if_pos hc] at h ⊢
      obtain ⟨h1, h2⟩ := encS_ok w t l _ _ h
      refine ⟨fun y hy => ?_, by rw [h2, outI]; simp⟩
      rcases List.mem_cons.mp hy with rfl | hy
      · exact hc
      · exact h1 y hy
    · rw [encS, if_neg hc] at h
      exact absurd h hc
theorem encS_no (w : Nat) (t : Int) : ∀ (l : List S46) (r : Int) (out : List S46), (encS w t r out l).2 ≠ 0 → (encS w t r out l).1 = []
  | [], r, out, h => absurd rfl h
  | x :: l, r, out, h => by
    by_cases hc : itS x = 0
    · rw [encS, if_pos hc] at h ⊢
      exact encS_no w t l _ _ h
    · rw [encS, if_neg hc]
theorem encB_append (w : Nat) (t : Int) (m : List Int) : ∀ (l : List Int) (r : Int), encB w t r (l ++ m) = encB w t r l ++ encB w t (encR w t r l) m
  | [], _ => rfl
  | x :: l, r => by simp only [List.cons_append, encB, encR, encB_append w t m l]
theorem encR_append (w : Nat) (t : Int) (m : List Int) : ∀ (l : List Int) (r : Int), encR w t r (l ++ m) = encR w t (encR w t r l) m
  | [], _ => rfl
  | x :: l, r => by simp only [List.cons_append, encR, encR_append w t m l]
theorem ev_l0 {w : Nat} {t : Int} (C : Cfg w t) (x1 x5 : List S46) (hok : ∀ x ∈ x1, itS x = 0) (hl : x1.length ≤ 1024) (h5 : x5 = outI w t 0 x1) : ∀ (l pre : List S46) (p5 : List S46) (bs : List Int) (i : Nat), x1 = pre ++ l → i = pre.length → p5.length = i → AllB bs → bs.length ≤ 65536 → x5 = p5 ++ outI w t (encR w t 0 bs) l →
    Ev (fun k => signalbenchlaw20_ScrambleRoundTrips.l0 k x1 x5 (strOfNums (encB w t 0 bs)) (strOfNums bs) (i : Int) (w : Int) t) true := by
  have hl5 : x5.length = x1.length := by rw [h5, outI_len]
  clear h5
  intro l
  induction l with
  | nil =>
    intro pre p5 bs i he hi hp5 hb hbl h5'
    rw [List.append_nil] at he
    have hi' : i = x1.length := by rw [hi, he]
    clear he hi h5' hok hp5
    have e1 : (strOfNums (encB w t 0 bs)).size = bs.length := by rw [size_str, encB_len]
    have e2 : (strOfNums bs).size = bs.length := size_str bs
    have e3 : bytesOf (strOfNums (encB w t 0 bs)) = encB w t 0 bs := bytes_str (encB_bits _ _ _ _).byts
    have e4 : bytesOf (strOfNums bs) = bs := bytes_str hb.byts
    refine Ev.step (fun k => signalbenchlaw20_ScrambleRoundTrips.l0.eq_2 ..) ?_
    refine Ev.neg (by omega) (Ev.bind (ev_bits (strOfNums (encB w t 0 bs)) (by rw [e1]; omega)) ?_)
    have ed := decL_bitsE w t (encB w t 0 bs) 0 0 0 (encB_bits _ _ _ _) (by omega) (by rw [encB_len]; omega)
    rw [decB_encB w t bs 0 hb] at ed
    rw [e3]
    refine Ev.bind (ev_scr_Decode C (bitsE 0 (encB w t 0 bs)) (by rw [bitsE_len, encB_len]; omega)) ?_
    rw [ed]
    refine Ev.bind (ev_bits (strOfNums bs) (by rw [e2]; omega)) ?_
    rw [e4]
    exact Ev.bind (ev_Same_refl _ (by rw [bitsE_len]; omega)) (Ev.pos rfl (Ev.bind ev_awake (Ev.now true)))
  | cons x l ih =>
    intro pre p5 bs i he hi hp5 hb hbl h5'
    have hlen : x1.length = i + (l.length + 1) := by rw [he, hi, List.length_append, List.length_cons]
    have hx : rd_T46 x1 (i : Int) = x := by rw [he]; exact rdI_mid pre x l i hi
    have hy : rd_T46 x5 (i : Int) = ⟨x.f0, 0, 0, strOfNums (encB w t (encR w t 0 bs) (bytesOf x.f3)), 0⟩ := by rw [h5', outI]; exact rdI_mid p5 _ _ i hp5.symm
    obtain ⟨_, _, hs, hxb, _⟩ := itS_ok (hok x (by rw [he]; simp))
    have ex : (strOfNums (encB w t (encR w t 0 bs) (bytesOf x.f3))).size = x.f3.size := by rw [size_str, encB_len, len_bytes]
    have e1 : (strOfNums (encB w t 0 bs)).size = bs.length := by rw [size_str, encB_len]
    have e2 : (strOfNums bs).size = bs.length := size_str bs
    have ew : wrap64 ((bs.length : Int) + (x.f3.size : Int)) = (bs.length : Int) + (x.f3.size : Int) := w64 (by omega) (by omega)
    have hcat : encB w t 0 (bs ++ bytesOf x.f3) = encB w t 0 bs ++ encB w t (encR w t 0 bs) (bytesOf x.f3) := encB_append w t _ _ _
    have hst : strOfNums (bs ++ bytesOf x.f3) = strOfNums bs ++ x.f3 := by rw [← str_append, str_bytes]
    have hnext := fun (_ : Unit) (hh : bs.length + x.f3.size ≤ 65536) => ih (pre ++ [x]) (p5 ++ [⟨x.f0, 0, 0, strOfNums (encB w t (encR w t 0 bs) (bytesOf x.f3)), 0⟩]) (bs ++ bytesOf x.f3) (i + 1) (by rw [he]; simp) (by simp [hi]) (by simp [hp5]) (AllB.append_iff.mpr ⟨hb, hxb⟩) (by rw [List.length_append, len_bytes]; exact hh) (by rw [encR_append, h5', outI]; simp)
    rw [hcat, ← str_append, hst] at hnext
    clear ih he hi hp5 h5' hok hcat hst
    refine Ev.step (fun k => signalbenchlaw20_ScrambleRoundTrips.l0.eq_2 ..) ?_
    rw [hx, hy]
    dsimp only
    rw [ex, show ((0 : Int) != 0) = false from rfl]
    refine Ev.pos (by omega) (Ev.pos (by omega) (Ev.pos (by omega) (Ev.pos rfl (Ev.pos rfl (Ev.pos rfl (Ev.pos rfl ?_))))))
    refine Ev.step (fun k => signalbenchlaw20_ScrambleRoundTrips.j3.eq_2 ..) ?_
    rw [hx, hy, e1, e2, ew]
    dsimp only
    rw [ex, wnat (by omega)]
    refine Ev.neg (by decide) (Ev.pos (by omega) (Ev.pos (by omega) (Ev.ite (fun hbig => Ev.bind ev_awake (Ev.now true)) (fun hbig => ?_))))
    clear ew
    have hsm : bs.length + x.f3.size ≤ 65536 := by omega
    have hbg : bs.length + x.f3.size ≤ 9223372036854775807 := Nat.le_trans hsm (Nat.le_of_ble_eq_true rfl)
    exact Ev.pos (by omega) (Ev.pos hbg (Ev.pos hbg (hnext () hsm)))
theorem main : signalbenchlaw20_ScrambleRoundTrips.Pure := by
  intro w t l hw ht hl1 hl2 hl
  refine Ev.rounds (g := fun k => signalbenchlaw20_ScrambleRoundTrips.f k w t l) ?_
  unfold signalbenchlaw20_ScrambleRoundTrips.f
  refine Ev.bind (ev_scr_Encode w t l) ?_
  by_cases h : (encodeS w t l).2 = 0
  · refine Ev.congr (fun k => by rw [if_pos h]) ?_
    unfold encodeS at h ⊢
    by_cases hc : checkS w t = 0
    case neg => rw [if_neg hc] at h; exact absurd h hc
    rw [if_pos hc] at h ⊢
    obtain ⟨n, rfl, C⟩ := Cfg.mk' hc
    by_cases hlen : l.length > 1024
    case pos => rw [if_pos hlen] at h; exact absurd h (by decide)
    rw [if_neg hlen, Int.toNat_natCast] at h ⊢
    obtain ⟨hok, hout⟩ := encS_ok n t l 0 [] h
    rw [hout, List.nil_append]
    refine Ev.step (fun k => by simp only [signalbenchlaw20_ScrambleRoundTrips.j0]; rw [if_pos (by rw [outI_len])]) ?_
    refine Ev.step (fun k => by simp only [signalbenchlaw20_ScrambleRoundTrips.j1]; rfl) ?_
    exact ev_l0 C l _ hok (by omega) rfl l [] [] [] 0 rfl rfl rfl AllB.nil (by simp) rfl
  · refine Ev.congr (fun k => by rw [if_neg h]) ?_
    have he : (encodeS w t l).1 = [] := by
      unfold encodeS at h ⊢
      split at h
      · rename_i hc
        rw [if_pos hc]
        split at h
        · rename_i hlen; rw [if_pos hlen]
        · rename_i hlen; rw [if_neg hlen]; exact encS_no _ t l 0 [] h
      · rename_i hc; rw [if_neg hc]
    rw [he]
    exact Ev.pos rfl (Ev.bind ev_awake (Ev.now true))
end ScrambleRoundTrips_
theorem ScrambleRoundTrips : signalbenchlaw20_ScrambleRoundTrips.Pure := ScrambleRoundTrips_.main
end Go.Proofs.Ytgcifmaefoeobaa.Pure
