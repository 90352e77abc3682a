/- The law ScrambleLinear holds as a statement on numbers and lists: the decoder of the exclusive or of two sequences gives the exclusive or of what it gives for both. No condition beyond those of the statement. -/
import Derived.Test.YtgcifmaefoeobaaPScrambleLinearx9
import Derived.Test.YtgcifmaefoeobaaSpecScr
namespace Go.Proofs.Ytgcifmaefoeobaa.Pure
open Go.RowKit Go.Proofs.Ytgcifmaefoeobaa.PScrambleLinear Go.Proofs.YtgcifmaefoeobaaW.PrintWords Go.Proofs.YtgcifmaefoeobaaW.PrintLast Go.Proofs.Ytgcifmaefoeobaa.Aid
namespace ScrambleLinear_
theorem ev_scr_Check (w t : Int) : Ev (fun k => scramble_Check.f k w t) (checkS w t) := by
  have hyes : Ev (fun k => scramble_Check.j0 k true w t) 2 := Ev.stop fun k => by simp only [scramble_Check.j0, ↓reduceIte]
  unfold scramble_Check.f checkS
  by_cases h1 : w < 2
  · rw [if_pos (.inl h1)]
    exact Ev.congr (fun k => by rw [if_pos h1]) hyes
  · by_cases h2 : w > 31
    · rw [if_pos (.inr (.inl h2))]
      exact Ev.congr (fun k => by rw [if_neg h1, if_pos h2]) hyes
    · by_cases h3 : t < 1
      · rw [if_pos (.inr (.inr (.inl h3)))]
        exact Ev.congr (fun k => by rw [if_neg h1, if_neg h2, if_pos h3]) hyes
      · obtain ⟨n, rfl⟩ := Int.eq_ofNat_of_zero_le (show 0 ≤ w by omega)
        have hle := pow2_le31 (show n ≤ 31 by omega)
        have hp := pow2_pos n
        have es : shl .i64 1 (n : Int) = 2 ^ n := by rw [shl_eq n rfl (by omega) (by omega) (by omega)]; omega
        rw [Int.toNat_natCast]
        by_cases h4 : t ≥ 2 ^ n
        · rw [if_pos (.inr (.inr (.inr h4)))]
          exact Ev.congr (fun k => by rw [if_neg h1, if_neg h2, if_neg h3, if_pos (by omega), es, decide_eq_true h4]) hyes
        · rw [if_neg (by omega)]
          refine Ev.congr (f := fun k => scramble_Check.j0 k false (n : Int) t) (fun k => by rw [if_neg h1, if_neg h2, if_neg h3, if_pos (by omega), es, decide_eq_false h4]) (Ev.stop fun k => ?_)
          obtain ⟨m, rfl⟩ : ∃ m, n = m + 1 := ⟨n - 1, by omega⟩
          have e1 : wrap64 (((m + 1 : Nat) : Int) - 1) = (m : Int) := by rw [w64 (by omega) (by omega)]; omega
          simp only [scramble_Check.j0, ↓reduceIte, Bool.false_eq_true, e1]
          rw [if_pos (by omega), and_one, shr_eq t (m : Int) m rfl (by omega)]
          have hb := bit_test m (show 0 ≤ t by omega) (by omega)
          rw [Nat.add_sub_cancel]
          by_cases h5 : t ≥ 2 ^ m
          · rw [if_pos (hb.mpr h5), if_pos h5]
          · rw [if_neg (fun h => h5 (hb.mp h)), if_neg h5]
theorem ev_scr_parity_l0 (w : Nat) (t r : Int) (hw : w ≤ 31) (ht0 : 0 ≤ t) (ht1 : t < 2147483648) (hr0 : 0 ≤ r) (hr1 : r < 2147483648) : ∀ (d i : Nat), i + d = w →
    Ev (fun k => scramble_parity.l0 k r (parS i t r) (w : Int) (i : Int) (w : Int) t) (parS w t r) := by
  intro d
  induction d with
  | zero =>
    intro i h
    have : i = w := by omega
    subst this
    refine Ev.stop fun k => ?_
    simp only [scramble_parity.l0]
    rw [if_neg (by omega)]
  | succ d ih =>
    intro i h
    have e : wrap64 ((i : Int) + 1) = ((i + 1 : Nat) : Int) := by rw [w64 (by omega) (by omega)]; rfl
    have ea := and_eq (x := r) (y := t) hr0 (by omega) ht0 (by omega)
    have hb := and_bit r.toNat t.toNat i
    have ebit : Go.bits .and .i64 (shr .i64 (Go.bits .and .i64 r t) (i : Int)) 1 = (((r.toNat &&& t.toNat) / 2 ^ i % 2 : Nat) : Int) := by
      rw [and_one, shr_eq _ (i : Int) i rfl (by omega), ea, Int.natCast_emod, Int.natCast_ediv, Int.natCast_pow]; rfl
    have hp := parN_lt (r.toNat &&& t.toNat) i
    have ex : Go.bits .xor .i64 (parS i t r) (((r.toNat &&& t.toNat) / 2 ^ i % 2 : Nat) : Int) = parS (i + 1) t r := by
      rw [xor_bit (parS_bit i t r) (by omega)]
      unfold parS
      rw [parN]
      omega
    refine Ev.step (fun k => ?_) (ih (i + 1) (by omega))
    simp only [scramble_parity.l0]
    rw [if_pos (by omega), if_pos (by omega), ebit, ex, e]
theorem ev_scr_parity (w : Nat) (t r : Int) (hw : w ≤ 31) (ht0 : 0 ≤ t) (ht1 : t < 2147483648) (hr0 : 0 ≤ r) (hr1 : r < 2147483648) : Ev (fun k => scramble_parity.f k (w : Int) t r) (parS w t r) :=
  ev_scr_parity_l0 w t r hw ht0 ht1 hr0 hr1 w 0 (by omega)
theorem scr_insert (w : Nat) (t r b : Int) (hw : w ≤ 31) (hr0 : 0 ≤ r) (hr1 : r < 2147483648) (hb : b = 0 ∨ b = 1) : scramble_insert.f (w : Int) t r b = some (insS w r b) := by
  have hle := pow2_le31 hw
  have hp := pow2_pos w
  have es : shl .i64 1 (w : Int) = 2 ^ w := by rw [shl_eq w rfl (by omega) (by omega) (by omega)]; omega
  unfold scramble_insert.f insS
  rw [if_pos (by omega), es, w64 (x := 2 ^ w - 1) (by omega) (by omega), w64 (x := 2 * r) (by omega) (by omega), w64 (x := 2 * r + b) (by omega) (by omega), and_mask w (by omega) (by omega) (by omega)]
def validE (a b c d e : Int) (s : ByteArray) (f : Int) : Bool :=
  decide (1 ≤ a ∧ a ≤ 8 ∧ 0 ≤ b ∧ b ≤ c ∧ c ≤ 1099511627776 ∧ -9007199254740992 ≤ d ∧ d ≤ 9007199254740992 ∧ -9007199254740992 ≤ e ∧ e ≤ 9007199254740992 ∧ s.size ≤ 4096 ∧ 0 ≤ f ∧ f ≤ 12)
theorem ev_event_Valid (a b c d e : Int) (s : ByteArray) (f : Int) : Ev (fun k => event_Valid.f k a b c d e s f) (validE a b c d e s f) := by
  refine ⟨2, fun k hk => ?_⟩
  obtain ⟨m, rfl⟩ : ∃ m, k = m + 2 := ⟨k - 2, by omega⟩
  simp only [event_Valid.f, event_Valid.j0, event_Valid.j1, validE, decide_eq_true_eq, ↓reduceIte]
  repeat' split
  all_goals first
    | (rw [decide_eq_false (by omega)])
    | (congr 1; rw [decide_eq_decide]; omega)
theorem rdE_mid (pre : List S27) (x : S27) (post : List S27) (i : Nat) (h : i = pre.length) : rd_T27 (pre ++ x :: post) (i : Int) = x := by
  subst h; simp [rd_T27]
theorem rdE_get (l : List S27) (i : Nat) (h : i < l.length) : rd_T27 l (i : Int) = l[i] := by
  simp [rd_T27, h]
theorem rdI_get (l : List S46) (i : Nat) (h : i < l.length) : rd_T46 l (i : Int) = l[i] := by
  simp [rd_T46, h]
def accE (at_ : Int) (x : S27) : Bool := decide (x.f0 = 2) && (validE x.f0 x.f1 x.f2 x.f3 x.f4 x.f5 x.f6 && (decide (at_ ≤ x.f1) && (decide (x.f3 = 0) || decide (x.f3 = 1))))
def outE (w : Nat) (t r : Int) (x : S27) : S27 := ⟨x.f0, x.f1, x.f2, (x.f3 + parS w t r) % 2, x.f4, x.f5, x.f6⟩
def decL (w : Nat) (t : Int) : Int → Int → List S27 → List S27
  | _, _, [] => []
  | a, r, x :: l => if accE a x = true then outE w t r x :: decL w t x.f1 (insS w r x.f3) l else decL w t a r l
theorem decL_len (w : Nat) (t : Int) : ∀ (l : List S27) (a r : Int), (decL w t a r l).length ≤ l.length
  | [], _, _ => Nat.le_refl _
  | x :: l, a, r => by
    unfold decL
    split
    · have := decL_len w t l x.f1 (insS w r x.f3); simp only [List.length_cons]; omega
    · have := decL_len w t l a r; simp only [List.length_cons]; omega
theorem ev_scr_accepts (s0 a s2 s3 s4 s5 s6 : Int) (s7 : ByteArray) (x : S27) : Ev (fun k => scramble_accepts.f k s0 a s2 s3 s4 s5 s6 s7 x.f0 x.f1 x.f2 x.f3 x.f4 x.f5 x.f6) (accE a x) := by
  unfold scramble_accepts.f accE
  by_cases h : x.f0 = 2
  · refine Ev.congr (fun k => by rw [if_pos h]) ?_
    refine Ev.bind (ev_event_Valid _ _ _ _ _ _ _) (Ev.now' fun k => ?_)
    rw [decide_eq_true h, Bool.true_and]
    cases validE x.f0 x.f1 x.f2 x.f3 x.f4 x.f5 x.f6
    · rw [if_neg (by decide), Bool.false_and]
    · rw [if_pos rfl, Bool.true_and]
      by_cases h1 : a ≤ x.f1
      · rw [if_pos h1, decide_eq_true h1, Bool.true_and]
        by_cases h2 : x.f3 = 0
        · rw [if_pos h2, decide_eq_true h2, Bool.true_or]
        · rw [if_neg h2, decide_eq_false h2, Bool.false_or]; rfl
      · rw [if_neg h1, decide_eq_false h1, Bool.false_and]
  · refine Ev.now' fun k => ?_
    rw [if_neg h, decide_eq_false h, Bool.false_and]
theorem accE_bit {a : Int} {x : S27} (h : accE a x = true) : x.f3 = 0 ∨ x.f3 = 1 := by
  unfold accE at h
  simp only [Bool.and_eq_true, Bool.or_eq_true, decide_eq_true_eq] at h
  exact h.2.2.2
/-- A configuration that the program takes. -/
structure Cfg (w : Nat) (t : Int) : Prop where
  hc : checkS (w : Int) t = 0
  w1 : 2 ≤ w
  w2 : w ≤ 31
  t0 : 0 ≤ t
  t1 : t < 2147483648
theorem Cfg.mk' {w t : Int} (h : checkS w t = 0) : ∃ n : Nat, w = (n : Int) ∧ Cfg n t := by
  obtain ⟨h1, h2, h3, h4, h5⟩ := checkS_ok h
  obtain ⟨n, rfl⟩ := Int.eq_ofNat_of_zero_le (show 0 ≤ w by omega)
  have hle := pow2_le31 (show n ≤ 31 by omega)
  rw [Int.toNat_natCast] at h4
  exact ⟨n, rfl, h, by omega, by omega, by omega, by omega⟩
theorem ev_scr_Step_no (w t s0 a s2 s3 r s5 s6 : Int) (s7 : ByteArray) (x : S27) (h : checkS w t ≠ 0 ∨ accE a x = false) : Ev (fun k => scramble_Step.f k w t s0 a s2 s3 r s5 s6 s7 x.f0 x.f1 x.f2 x.f3 x.f4 x.f5 x.f6) (s0, a, s2, s3, r, s5, s6, s7, []) := by
  unfold scramble_Step.f
  refine Ev.bind (ev_scr_Check w t) ?_
  by_cases hc : checkS w t = 0
  · refine Ev.congr (fun k => by rw [if_pos hc]) ?_
    refine Ev.bind (ev_scr_accepts s0 a s2 s3 r s5 s6 s7 x) ?_
    rcases h with h | h
    · exact absurd hc h
    · rw [h]
      refine Ev.stop fun k => ?_
      simp only [scramble_Step.j0, Bool.not_false, ↓reduceIte]
  · refine Ev.congr (fun k => by rw [if_neg hc]) ?_
    refine Ev.stop fun k => ?_
    simp only [scramble_Step.j0, ↓reduceIte]
theorem ev_scr_Step_yes {w : Nat} {t : Int} (C : Cfg w t) (s0 a s2 s3 r s5 s6 : Int) (s7 : ByteArray) (x : S27) (hr0 : 0 ≤ r) (hr1 : r < 2147483648) (h : accE a x = true) : Ev (fun k => scramble_Step.f k (w : Int) t s0 a s2 s3 r s5 s6 s7 x.f0 x.f1 x.f2 x.f3 x.f4 x.f5 x.f6) (s0, x.f1, s2, s3, insS w r x.f3, s5, s6, s7, [outE w t r x]) := by
  unfold scramble_Step.f
  refine Ev.bind (ev_scr_Check w t) ?_
  refine Ev.congr (fun k => by rw [if_pos C.hc]) ?_
  refine Ev.bind (ev_scr_accepts s0 a s2 s3 r s5 s6 s7 x) ?_
  rw [h]
  refine Ev.step (f := fun k => (scramble_parity.f k (w : Int) t r).bind fun t135 => ((scramble_insert.f (w : Int) t r x.f3).bind fun t136 => (some (s0, x.f1, s2, s3, t136, s5, s6, s7, (([(⟨x.f0, x.f1, x.f2, Go.bits .xor .i64 x.f3 t135, x.f4, x.f5, x.f6⟩ : S27)] : List (S27))))))) (fun k => by simp only [scramble_Step.j0, Bool.not_true, Bool.false_eq_true, ↓reduceIte]) ?_
  refine Ev.bind (ev_scr_parity w t r C.w2 C.t0 C.t1 hr0 hr1) (Ev.now' fun k => ?_)
  rw [scr_insert w t r x.f3 C.w2 hr0 hr1 (accE_bit h), Option.bind_some, xor_bit (accE_bit h) (parS_bit w t r)]
  rfl
theorem insS_lt {w : Nat} {t : Int} (C : Cfg w t) (r b : Int) : 0 ≤ insS w r b ∧ insS w r b < 2147483648 := by
  have := insS_bd w r b
  have := pow2_le31 C.w2
  omega
theorem ev_scr_Decode_l0 {w : Nat} {t : Int} (C : Cfg w t) (s0 s2 s3 s5 s6 : Int) (s7 : ByteArray) : ∀ (l pre all : List S27) (a r : Int) (out : List S27) (i : Nat), all = pre ++ l → i = pre.length → out.length ≤ i → all.length < 2199023255552 → 0 ≤ r → r < 2147483648 →
    Ev (fun k => scramble_Decode.l0 k out all (all.length : Int) (i : Int) (w : Int) t s0 a s2 s3 r s5 s6 s7) (out ++ decL w t a r l) := by
  intro l
  induction l with
  | nil =>
    intro pre all a r out i he hi ho hl h0 h1
    rw [List.append_nil] at he
    subst he
    refine Ev.stop fun k => ?_
    simp only [scramble_Decode.l0, scramble_End.f, Option.bind_some, List.length_nil, decL]
    rw [if_neg (by omega), if_pos (by omega)]
  | cons x l ih =>
    intro pre all a r out i he hi ho hl h0 h1
    have hlen : all.length = i + (l.length + 1) := by rw [he, hi, List.length_append, List.length_cons]
    have e : wrap64 ((i : Int) + 1) = ((i + 1 : Nat) : Int) := by rw [w64 (by omega) (by omega)]; rfl
    have hx : rd_T27 all (i : Int) = x := by rw [he]; exact rdE_mid pre x l i hi
    have he2 : all = (pre ++ [x]) ++ l := by rw [he]; simp
    refine Ev.step (f := fun k => (scramble_Step.f k (w : Int) t s0 a s2 s3 r s5 s6 s7 x.f0 x.f1 x.f2 x.f3 x.f4 x.f5 x.f6).bind fun bt156 => (if out.length + bt156.2.2.2.2.2.2.2.2.length < 2199023255552 then (scramble_Decode.l0 k (out ++ bt156.2.2.2.2.2.2.2.2) all (all.length : Int) (wrap64 ((i : Int) + 1)) (w : Int) t bt156.1 bt156.2.1 bt156.2.2.1 bt156.2.2.2.1 bt156.2.2.2.2.1 bt156.2.2.2.2.2.1 bt156.2.2.2.2.2.2.1 bt156.2.2.2.2.2.2.2.1) else none)) (fun k => ?_) ?_
    · simp only [scramble_Decode.l0, hx]
      rw [if_pos (by omega), if_pos (by omega), if_pos (by omega)]
    · by_cases h : accE a x = true
      · refine Ev.bind (ev_scr_Step_yes C s0 a s2 s3 r s5 s6 s7 x h0 h1 h) ?_
        have hb := insS_lt C r x.f3
        have := ih (pre ++ [x]) all x.f1 (insS w r x.f3) (out ++ [outE w t r x]) (i + 1) he2 (by simp [hi]) (by simp; omega) hl hb.1 hb.2
        refine Ev.congr (fun k => ?_) (by rw [decL, if_pos h]; simpa using this)
        simp only [List.length_cons, List.length_nil, e]
        rw [if_pos (by omega)]
        rfl
      · have hf : accE a x = false := by simpa using h
        refine Ev.bind (ev_scr_Step_no (w : Int) t s0 a s2 s3 r s5 s6 s7 x (.inr hf)) ?_
        have := ih (pre ++ [x]) all a r out (i + 1) he2 (by simp [hi]) (by omega) hl h0 h1
        refine Ev.congr (fun k => ?_) (by rw [decL, if_neg h]; exact this)
        simp only [List.length_nil, e, List.append_nil]
        rw [if_pos (by omega)]
theorem ev_scr_Decode {w : Nat} {t : Int} (C : Cfg w t) (l : List S27) (hl : l.length < 2199023255552) : Ev (fun k => scramble_Decode.f k (w : Int) t l) (decL w t 0 0 l) := by
  unfold scramble_Decode.f scramble_Start.f
  exact ev_scr_Decode_l0 C 0 0 0 0 0 _ l [] l 0 0 [] 0 rfl rfl (by simp) hl (by omega) (by omega)
/-- The bits of a string as events. -/
def bitE (i : Nat) (x : Int) : S27 := ⟨2, (i : Int), (i : Int) + 1, x - 48, 0, ⟨#[]⟩, 0⟩
def bitsE : Nat → List Int → List S27
  | _, [] => []
  | i, x :: l => bitE i x :: bitsE (i + 1) l
theorem bitsE_len : ∀ (l : List Int) (i : Nat), (bitsE i l).length = l.length
  | [], _ => rfl
  | x :: l, i => by simp [bitsE, bitsE_len l (i + 1)]
theorem ev_bits (s : ByteArray) (hs : s.size ≤ 1000000000) : Ev (fun k => signalbenchlaw20_bits.f k s) (bitsE 0 (bytesOf s)) := by
  have key : ∀ (d i : Nat) (out : List S27), i + d = s.size → out.length = i → Ev (fun k => signalbenchlaw20_bits.l0 k s out (i : Int)) (out ++ bitsE i ((bytesOf s).drop i)) := by
    intro d
    induction d with
    | zero =>
      intro i out h ho
      refine Ev.stop fun k => ?_
      simp only [signalbenchlaw20_bits.l0]
      rw [if_neg (by omega), drop_end s i (by omega)]
      simp [bitsE]
    | succ d ih =>
      intro i out h ho
      have e : wrap64 ((i : Int) + 1) = ((i + 1 : Nat) : Int) := by rw [w64 (by omega) (by omega)]; rfl
      have hb := bt_lo s i
      have hb2 := bt_hi s i
      have e2 : wrap64 (bt s i) = bt s i := w64 (by omega) (by omega)
      have e3 : wrap64 (bt s i - 48) = bt s i - 48 := w64 (by omega) (by omega)
      have := ih (i + 1) (out ++ [bitE i (bt s i)]) (by omega) (by simp; omega)
      refine Ev.step (fun k => ?_) (by rw [drop_cons s i (by omega), bitsE]; simpa using this)
      simp only [signalbenchlaw20_bits.l0]
      rw [if_pos (by omega), if_pos (by omega), if_pos (by omega), e2, e3, e]
      rfl
  refine Ev.congr (fun k => ?_) (key s.size 0 [] (by omega) rfl)
  unfold signalbenchlaw20_bits.f
  rw [if_pos (by omega), if_pos (by omega)]
  rfl
/-- The bits that events carry. -/
def toldL (l : List S27) : List Int := l.map fun x => if x.f3 = 1 then 49 else 48
theorem ev_told (l : List S27) (hl : l.length ≤ 1000000000) : Ev (fun k => signalbenchlaw20_told.f k l) (strOfNums (toldL l)) := by
  have key : ∀ (m pre : List S27), l = pre ++ m → Ev (fun k => signalbenchlaw20_told.l0 k l (toldL pre) (pre.length : Int)) (strOfNums (toldL l)) := by
    intro m
    induction m with
    | nil =>
      intro pre h
      rw [List.append_nil] at h
      subst h
      refine Ev.stop fun k => ?_
      simp only [signalbenchlaw20_told.l0]
      rw [if_neg (by omega)]
    | cons x m ih =>
      intro pre h
      have hx : rd_T27 l (pre.length : Int) = x := by rw [h]; exact rdE_mid pre x m _ rfl
      have hlen : l.length = pre.length + (m.length + 1) := by rw [h, List.length_append, List.length_cons]
      have e : wrap64 ((pre.length : Int) + 1) = (((pre ++ [x]).length : Nat) : Int) := by rw [w64 (by omega) (by omega)]; simp
      have h1 : (toldL pre).length = pre.length := by simp [toldL]
      have := ih (pre ++ [x]) (by rw [h]; simp)
      refine Ev.step (fun k => ?_) this
      simp only [signalbenchlaw20_told.l0, hx]
      rw [if_pos (by omega), if_pos (by omega), e]
      by_cases h3 : x.f3 = 1
      · rw [if_pos h3, if_pos (by omega)]; simp [toldL, h3]
      · rw [if_neg h3, if_pos (by omega)]; simp [toldL, h3]
  refine Ev.congr (fun k => ?_) (key l [] rfl)
  unfold signalbenchlaw20_told.f
  rw [if_pos (by omega), if_pos (by omega)]
  rfl
/-- The decoder on bits alone. -/
def decB (w : Nat) (t : Int) : Int → List Int → List Int
  | _, [] => []
  | r, x :: l => (48 + (x - 48 + parS w t r) % 2) :: decB w t (insS w r (x - 48)) l
theorem decB_len (w : Nat) (t : Int) : ∀ (l : List Int) (r : Int), (decB w t r l).length = l.length
  | [], _ => rfl
  | x :: l, r => by simp [decB, decB_len w t l]
theorem decB_bits (w : Nat) (t : Int) : ∀ (l : List Int) (r : Int), AllB (decB w t r l)
  | [], _ => AllB.nil
  | x :: l, r => AllB.cons_iff.mpr ⟨by omega, decB_bits w t l _⟩
theorem accE_bitE {a : Int} {i : Nat} {x : Int} (hx : x = 48 ∨ x = 49) (ha : a ≤ i) (hi : i < 1000000000) : accE a (bitE i x) = true := by
  have hv : validE 2 (i : Int) ((i : Int) + 1) (x - 48) 0 ⟨#[]⟩ 0 = true := by
    unfold validE
    refine decide_eq_true ?_
    have : (⟨#[]⟩ : ByteArray).size = 0 := rfl
    refine ⟨by omega, by omega, by omega, by omega, by omega, by omega, by omega, by omega, by omega, by omega, by omega, by omega⟩
  unfold accE bitE
  simp only [hv, Bool.true_and, decide_eq_true ha]
  rcases hx with rfl | rfl <;> rfl
theorem decL_bitsE (w : Nat) (t : Int) : ∀ (l : List Int) (i : Nat) (a r : Int), AllB l → a ≤ i → i + l.length ≤ 1000000000 → decL w t a r (bitsE i l) = bitsE i (decB w t r l)
  | [], _, _, _, _, _, _ => rfl
  | x :: l, i, a, r, hb, ha, hi => by
    obtain ⟨hx, hb⟩ := AllB.cons_iff.mp hb
    rw [List.length_cons] at hi
    rw [bitsE, decL, if_pos (accE_bitE hx ha (by omega)), decB, bitsE]
    have := decL_bitsE w t l (i + 1) (i : Int) (insS w r (x - 48)) hb (by omega) (by omega)
    rw [show (bitE i x).f1 = (i : Int) from rfl, show (bitE i x).f3 = x - 48 from rfl, this]
    congr 1
    unfold outE bitE
    simp only [S27.mk.injEq, true_and, and_true]
    omega
theorem toldL_bitsE : ∀ (l : List Int) (i : Nat), AllB l → toldL (bitsE i l) = l
  | [], _, _ => rfl
  | x :: l, i, hb => by
    obtain ⟨hx, hb⟩ := AllB.cons_iff.mp hb
    have := toldL_bitsE l (i + 1) hb
    unfold toldL at this ⊢
    rw [bitsE, List.map_cons, this]
    rcases hx with rfl | rfl <;> rfl
theorem ev_valid (s : ByteArray) (n : Int) (hn : n ≤ 1000000000) : Ev (fun k => signalbenchlaw20_valid.f k s n) (decide ((s.size : Int) ≤ n) && (bytesOf s).all isB) := by
  unfold signalbenchlaw20_valid.f
  by_cases h : (s.size : Int) > n
  · refine Ev.now' fun k => ?_
    rw [if_pos h, decide_eq_false (by omega), Bool.false_and]
  · rw [decide_eq_true (by omega), Bool.true_and]
    refine Ev.congr (fun k => by rw [if_neg h]) ?_
    refine Ev.step (fun k => by simp only [signalbenchlaw20_valid.j0]; rfl) ?_
    have key : ∀ (d i : Nat), i + d = s.size → Ev (fun k => signalbenchlaw20_valid.l0 k s (i : Int)) (((bytesOf s).drop i).all isB) := by
      intro d
      induction d with
      | zero =>
        intro i h
        refine Ev.stop fun k => ?_
        simp only [signalbenchlaw20_valid.l0]
        rw [if_neg (by omega), drop_end s i (by omega)]; rfl
      | succ d ih =>
        intro i h
        have e : wrap64 ((i : Int) + 1) = ((i + 1 : Nat) : Int) := by rw [w64 (by omega) (by omega)]; rfl
        rw [drop_cons s i (by omega), List.all_cons]
        by_cases h48 : bt s i = 48
        · have e2 : isB (bt s i) = true := isB_iff.mpr (.inl h48)
          rw [e2, Bool.true_and]
          refine Ev.step (fun k => ?_) (ih (i + 1) (by omega))
          simp only [signalbenchlaw20_valid.l0]
          rw [if_pos (by omega), if_pos (by omega), if_pos h48, e]
        · by_cases h49 : bt s i = 49
          · have e2 : isB (bt s i) = true := isB_iff.mpr (.inr h49)
            rw [e2, Bool.true_and]
            refine Ev.step (fun k => ?_) (ih (i + 1) (by omega))
            simp only [signalbenchlaw20_valid.l0]
            rw [if_pos (by omega), if_pos (by omega), if_neg h48, if_pos h49, e]
          · have e2 : isB (bt s i) = false := by simp [isB, h48, h49]
            rw [e2, Bool.false_and]
            refine Ev.stop fun k => ?_
            simp only [signalbenchlaw20_valid.l0]
            rw [if_pos (by omega), if_pos (by omega), if_neg h48, if_neg h49]
    exact key s.size 0 (by omega)
theorem xor_double (n m b c : Nat) (hb : b < 2) (hc : c < 2) : (2 * n + b) ^^^ (2 * m + c) = 2 * (n ^^^ m) + (b + c) % 2 := by
  have h1 := Nat.xor_div_two (a := 2 * n + b) (b := 2 * m + c)
  have h2 := xor_bit_at (2 * n + b) (2 * m + c) 0
  simp only [Nat.pow_zero, Nat.div_one] at h2
  rw [show (2 * n + b) / 2 = n by omega, show (2 * m + c) / 2 = m by omega] at h1
  omega
theorem insS_nat (w n b : Nat) : insS w (n : Int) (b : Int) = (((2 * n + b) % 2 ^ w : Nat) : Int) := by
  unfold insS
  rw [Int.natCast_emod, Int.natCast_pow]
  rfl
theorem insS_xor (w n m b c : Nat) (hb : b < 2) (hc : c < 2) : insS w ((n ^^^ m : Nat) : Int) (((b + c) % 2 : Nat) : Int) = (((2 * n + b) % 2 ^ w ^^^ (2 * m + c) % 2 ^ w : Nat) : Int) := by
  rw [insS_nat, ← Nat.xor_mod_two_pow, xor_double n m b c hb hc]
theorem parS_xor (w : Nat) (t : Int) (n m : Nat) : parS w t ((n ^^^ m : Nat) : Int) = (parS w t (n : Int) + parS w t (m : Int)) % 2 := by
  unfold parS
  rw [Int.toNat_natCast, Int.toNat_natCast, Int.toNat_natCast, Nat.and_xor_distrib_right, parN_xor]
  omega
def mix (x y : Int) : Int := if x = y then 48 else 49
theorem mix_nat {b c : Nat} (hb : b < 2) (hc : c < 2) : mix (48 + (b : Int)) (48 + (c : Int)) - 48 = (((b + c) % 2 : Nat) : Int) := by
  unfold mix
  split <;> omega
def mixL (a b : List Int) : List Int := List.zipWith mix a b
theorem bit_nat {x : Int} (h : x = 48 ∨ x = 49) : ∃ b : Nat, b < 2 ∧ x = 48 + (b : Int) := by
  rcases h with rfl | rfl
  · exact ⟨0, by decide, rfl⟩
  · exact ⟨1, by decide, rfl⟩
theorem decB_mix (w : Nat) (t : Int) : ∀ (a b : List Int) (n m : Nat), AllB a → AllB b → decB w t ((n ^^^ m : Nat) : Int) (mixL a b) = mixL (decB w t (n : Int) a) (decB w t (m : Int) b)
  | [], _, _, _, _, _ => by simp [mixL, decB]
  | _ :: _, [], _, _, _, _ => by simp [mixL, decB]
  | x :: a, y :: b, n, m, ha, hb => by
    obtain ⟨hx, ha2⟩ := AllB.cons_iff.mp ha
    obtain ⟨hy, hb2⟩ := AllB.cons_iff.mp hb
    obtain ⟨p, hp, rfl⟩ := bit_nat hx
    obtain ⟨q, hq, rfl⟩ := bit_nat hy
    have ih := decB_mix w t a b ((2 * n + p) % 2 ^ w) ((2 * m + q) % 2 ^ w) ha2 hb2
    have e1 : ∀ z : Nat, (48 : Int) + (z : Int) - 48 = (z : Int) := fun z => by omega
    unfold mixL at ih ⊢
    simp only [List.zipWith_cons_cons, decB]
    rw [mix_nat hp hq, insS_xor w n m p q hp hq, ih, e1, e1, insS_nat, insS_nat, parS_xor]
    congr 1
    have h1 := parS_bit w t (n : Int)
    have h2 := parS_bit w t (m : Int)
    unfold mix
    split <;> omega
theorem mixL_bits (a b : List Int) : AllB (mixL a b) := by
  intro x hx
  unfold mixL at hx
  obtain ⟨i, hi, rfl⟩ := List.mem_iff_getElem.mp hx
  rw [List.getElem_zipWith]
  unfold mix
  split
  · exact .inl rfl
  · exact .inr rfl
theorem mixL_len {a b : List Int} (h : a.length = b.length) : (mixL a b).length = a.length := by
  unfold mixL; rw [List.length_zipWith]; omega
theorem ev_awake : Ev (fun k => signalbenchlaw20_awake.f k) true := by
  refine Ev.of (fun k => signalbenchlaw20_awake.mono k) (k := 80) ?_
  decide +kernel
theorem told_of {w : Nat} {t : Int} (C : Cfg w t) (s : ByteArray) (hs : s.size ≤ 1000000000) (hb : AllB (bytesOf s)) {α : Type} (f : Nat → ByteArray → Option α) (r : α) (h : Ev (fun k => f k (strOfNums (decB w t 0 (bytesOf s)))) r) :
    Ev (fun k => (signalbenchlaw20_bits.f k s).bind fun t1 => ((scramble_Decode.f k (w : Int) t t1).bind fun t2 => ((signalbenchlaw20_told.f k t2).bind fun t3 => f k t3))) r := by
  refine Ev.bind (ev_bits s hs) ?_
  have hl : (bitsE 0 (bytesOf s)).length = s.size := by rw [bitsE_len, len_bytes]
  refine Ev.bind (ev_scr_Decode C _ (by omega)) ?_
  have e := decL_bitsE w t (bytesOf s) 0 0 0 hb (by omega) (by rw [len_bytes]; omega)
  rw [e]
  have hl2 : (bitsE 0 (decB w t 0 (bytesOf s))).length = s.size := by rw [bitsE_len, decB_len, len_bytes]
  refine Ev.bind (ev_told _ (by omega)) ?_
  rw [toldL_bitsE _ _ (decB_bits w t _ _)]
  exact h
theorem ev_no (x1 x2 : ByteArray) (a b : Int) : Ev (fun k => signalbenchlaw20_ScrambleLinear.j0 k x1 x2 true a b) true := by
  refine Ev.step (f := fun k => (signalbenchlaw20_awake.f k).bind fun t228 => (some t228)) (fun k => by simp only [signalbenchlaw20_ScrambleLinear.j0, ↓reduceIte]) ?_
  exact Ev.bind ev_awake (Ev.now true)
theorem ev_l1 (x1 x9 x10 x11 : ByteArray) (h9 : x9.size = x1.size) (h10 : x10.size = x1.size) (h11 : bytesOf x11 = mixL (bytesOf x9) (bytesOf x10)) (hs : x1.size ≤ 2000) :
    Ev (fun k => signalbenchlaw20_ScrambleLinear.l1 k x1 x9 x10 x11 0) true := by
  have hl : x11.size = x1.size := by
    rw [← len_bytes x11, h11, mixL_len (by rw [len_bytes, len_bytes]; omega), len_bytes, h9]
  have key : ∀ (d i : Nat), i + d = x1.size → Ev (fun k => signalbenchlaw20_ScrambleLinear.l1 k x1 x9 x10 x11 (i : Int)) true := by
    intro d
    induction d with
    | zero =>
      intro i h
      refine Ev.step (f := fun k => (signalbenchlaw20_awake.f k).bind fun t228 => (some t228)) (fun k => ?_) (Ev.bind ev_awake (Ev.now true))
      simp only [signalbenchlaw20_ScrambleLinear.l1]
      rw [if_neg (by omega)]
    | succ d ih =>
      intro i h
      have e : wrap64 ((i : Int) + 1) = ((i + 1 : Nat) : Int) := by rw [w64 (by omega) (by omega)]; rfl
      have hm : bt x11 i = mix (bt x9 i) (bt x10 i) := by
        rw [bt_get x11 i (by rw [len_bytes]; omega), bt_get x9 i (by rw [len_bytes]; omega), bt_get x10 i (by rw [len_bytes]; omega)]
        have : (bytesOf x11)[i]'(by rw [len_bytes]; omega) = (mixL (bytesOf x9) (bytesOf x10))[i]'(by rw [← h11, len_bytes]; omega) := by simp [h11]
        rw [this]
        unfold mixL
        rw [List.getElem_zipWith]
      have hd : ((bt x9 i == bt x10 i) != (bt x11 i == 48)) = false := by
        rw [hm]; unfold mix
        by_cases h : bt x9 i = bt x10 i
        · rw [if_pos h, h]; simp
        · rw [if_neg h]; simp [h]
      refine Ev.step (fun k => ?_) (ih (i + 1) (by omega))
      simp only [signalbenchlaw20_ScrambleLinear.l1, hd, Bool.false_eq_true, ↓reduceIte]
      rw [if_pos (by omega), if_pos (by omega), if_pos (by omega), if_pos (by omega), if_pos (by omega), e]
  exact key x1.size 0 (by omega)
theorem ev_l0 {w : Nat} {t : Int} (C : Cfg w t) (x1 x2 : ByteArray) (h1 : AllB (bytesOf x1)) (h2 : AllB (bytesOf x2)) (hl : x1.size = x2.size) (hs : x1.size ≤ 2000) : ∀ (d i : Nat), i + d = x1.size →
    Ev (fun k => signalbenchlaw20_ScrambleLinear.l0 k x1 x2 (mixL ((bytesOf x1).take i) ((bytesOf x2).take i)) (i : Int) (w : Int) t) true := by
  intro d
  induction d with
  | zero =>
    intro i h
    have hall : mixL ((bytesOf x1).take i) ((bytesOf x2).take i) = mixL (bytesOf x1) (bytesOf x2) := by
      rw [List.take_of_length_le (by rw [len_bytes]; omega), List.take_of_length_le (by rw [len_bytes]; omega)]
    rw [hall]
    have hmb := mixL_bits (bytesOf x1) (bytesOf x2)
    have hml : (mixL (bytesOf x1) (bytesOf x2)).length = x1.size := by rw [mixL_len (by rw [len_bytes, len_bytes, hl]), len_bytes]
    have hmby : bytesOf (strOfNums (mixL (bytesOf x1) (bytesOf x2))) = mixL (bytesOf x1) (bytesOf x2) := bytes_str hmb.byts
    refine Ev.step (fun k => by simp only [signalbenchlaw20_ScrambleLinear.l0]; rw [if_neg (by omega)]) ?_
    refine told_of C x1 (by omega) h1 _ _ ?_
    refine told_of C x2 (by omega) h2 _ _ ?_
    refine told_of C (strOfNums (mixL (bytesOf x1) (bytesOf x2))) (by rw [size_str, hml]; omega) (by rw [hmby]; exact hmb) _ _ ?_
    have e1 : (strOfNums (decB w t 0 (bytesOf x1))).size = x1.size := by rw [size_str, decB_len, len_bytes]
    have e2 : (strOfNums (decB w t 0 (bytesOf x2))).size = x1.size := by rw [size_str, decB_len, len_bytes, hl]
    have e3 : (strOfNums (decB w t 0 (mixL (bytesOf x1) (bytesOf x2)))).size = x1.size := by rw [size_str, decB_len, hml]
    rw [hmby]
    refine Ev.congr (fun k => by rw [e1, e2, e3, if_pos rfl, if_pos rfl]) ?_
    have eb : ((x1.size : Int) != (x1.size : Int)) = false := by simp
    rw [eb]
    refine Ev.step (fun k => by simp only [signalbenchlaw20_ScrambleLinear.j3, Bool.false_eq_true, ↓reduceIte]; rfl) ?_
    refine Ev.step (fun k => by simp only [signalbenchlaw20_ScrambleLinear.j4]; rfl) ?_
    refine ev_l1 x1 _ _ _ e1 e2 ?_ hs
    rw [bytes_str (decB_bits _ _ _ _).byts, bytes_str (decB_bits _ _ _ _).byts, bytes_str (decB_bits _ _ _ _).byts]
    exact decB_mix w t (bytesOf x1) (bytesOf x2) 0 0 h1 h2
  | succ d ih =>
    intro i h
    have e : wrap64 ((i : Int) + 1) = ((i + 1 : Nat) : Int) := by rw [w64 (by omega) (by omega)]; rfl
    have hlen : (mixL ((bytesOf x1).take i) ((bytesOf x2).take i)).length = i := by
      rw [mixL_len (by rw [List.length_take, List.length_take, len_bytes, len_bytes, hl]), List.length_take, len_bytes]; omega
    have hstep : mixL ((bytesOf x1).take (i + 1)) ((bytesOf x2).take (i + 1)) = mixL ((bytesOf x1).take i) ((bytesOf x2).take i) ++ [mix (bt x1 i) (bt x2 i)] := by
      rw [take_snoc x1 i (by omega), take_snoc x2 i (by omega)]
      unfold mixL
      rw [List.zipWith_append (by rw [List.length_take, List.length_take, len_bytes, len_bytes, hl])]
      rfl
    refine Ev.step (fun k => ?_) (ih (i + 1) (by omega))
    rw [hstep]
    simp only [signalbenchlaw20_ScrambleLinear.l0, hlen]
    rw [if_pos (by omega), if_pos (by omega), if_pos (by omega)]
    unfold mix
    by_cases hq : bt x1 i = bt x2 i
    · rw [if_pos hq, if_pos (by omega), if_pos hq, e]
    · rw [if_neg hq, if_pos (by omega), if_neg hq, e]
theorem main : signalbenchlaw20_ScrambleLinear.Pure := by
  intro w t a b hw ht ha hb
  refine Ev.rounds (g := fun k => signalbenchlaw20_ScrambleLinear.f k w t a b) ?_
  unfold signalbenchlaw20_ScrambleLinear.f
  refine Ev.bind (ev_scr_Check w t) ?_
  by_cases hc : checkS w t = 0
  · refine Ev.congr (fun k => by rw [if_pos hc]) ?_
    obtain ⟨n, rfl, C⟩ := Cfg.mk' hc
    refine Ev.bind (ev_valid a 2000 (by omega)) ?_
    by_cases h1 : (decide ((a.size : Int) ≤ 2000) && (bytesOf a).all isB) = true
    · refine Ev.congr (fun k => by rw [if_pos h1]) ?_
      refine Ev.bind (ev_valid b 2000 (by omega)) ?_
      by_cases h2 : (decide ((b.size : Int) ≤ 2000) && (bytesOf b).all isB) = true
      · refine Ev.congr (fun k => by rw [if_pos h2]) ?_
        simp only [Bool.and_eq_true, decide_eq_true_eq, all_isB] at h1 h2
        by_cases h3 : a.size = b.size
        · have e : ((a.size : Int) != (b.size : Int)) = false := by rw [h3]; simp
          rw [e]
          refine Ev.step (fun k => by simp only [signalbenchlaw20_ScrambleLinear.j0, Bool.false_eq_true, ↓reduceIte]; rfl) ?_
          refine Ev.step (fun k => by simp only [signalbenchlaw20_ScrambleLinear.j1]; rw [if_pos (by omega), if_pos (by omega)]) ?_
          exact ev_l0 C a b h1.2 h2.2 h3 (by omega) a.size 0 (by omega)
        · have e : ((a.size : Int) != (b.size : Int)) = true := by simp; omega
          rw [e]
          exact ev_no _ _ _ _
      · exact Ev.congr (fun k => by rw [if_neg h2]) (ev_no _ _ _ _)
    · exact Ev.congr (fun k => by rw [if_neg h1]) (ev_no _ _ _ _)
  · exact Ev.congr (fun k => by rw [if_neg hc]) (ev_no _ _ _ _)
end ScrambleLinear_
theorem ScrambleLinear : signalbenchlaw20_ScrambleLinear.Pure := ScrambleLinear_.main
end Go.Proofs.Ytgcifmaefoeobaa.Pure
