/- The law NrziRoundTrips holds as a statement on numbers and lists: the bits that are decoded of what is sent are those of the items, with their times. No condition beyond those of the statement. -/
import Derived.Test.YtjgfhccibljkbaaPNrziRoundTripsx8
import Derived.Test.YtjgfhccibljkbaaSpecBytes
namespace Go.Proofs.Ytjgfhccibljkbaa.Pure
open Go.RowKit Go.Proofs.Ytjgfhccibljkbaa.PNrziRoundTrips Go.Proofs.YtjgfhccibljkbaaW.PrintWords Go.Proofs.YtjgfhccibljkbaaW.PrintLast Go.Proofs.Ytjgfhccibljkbaa.Aid
set_option linter.unusedVariables false
set_option linter.unusedSimpArgs false
namespace NrziRoundTrips_
theorem ev_bits_Valid_l0 (s : ByteArray) (hs : s.size ≤ 65536) : ∀ (d i : Nat), i + d = s.size → Ev (fun k => bits_Valid.l0 k s (s.size : Int) (i : Int)) (((bytesOf s).drop i).all isB) := by
  intro d
  induction d with
  | zero =>
    intro i h
    refine Ev.stop fun k => ?_
    simp only [bits_Valid.l0]
    rw [if_neg (by omega), drop_end s i (by omega)]; rfl
  | succ d ih =>
    intro i h
    have e : wrap64 ((i : Int) + 1) = ((i + 1 : Nat) : Int) := by rw [w64 (by omega) (by omega)]; rfl
    rw [drop_cons s i (by omega), List.all_cons]
    by_cases h48 : bt s i = 48
    · have e2 : isB (bt s i) = true := isB_iff.mpr (.inl h48)
      rw [e2, Bool.true_and]
      refine Ev.step (fun k => ?_) (ih (i + 1) (by omega))
      simp only [bits_Valid.l0]
      rw [if_pos (by omega), if_pos (by omega), if_pos (by omega), if_pos h48, e]
    · by_cases h49 : bt s i = 49
      · have e2 : isB (bt s i) = true := isB_iff.mpr (.inr h49)
        rw [e2, Bool.true_and]
        refine Ev.step (fun k => ?_) (ih (i + 1) (by omega))
        simp only [bits_Valid.l0]
        rw [if_pos (by omega), if_pos (by omega), if_pos (by omega), if_neg h48, if_pos h49, e]
      · have e2 : isB (bt s i) = false := by simp [isB, h48, h49]
        rw [e2, Bool.false_and]
        refine Ev.stop fun k => ?_
        simp only [bits_Valid.l0]
        rw [if_pos (by omega), if_pos (by omega), if_pos (by omega), if_neg h48, if_neg h49]
theorem ev_bits_Valid (s : ByteArray) : Ev (fun k => bits_Valid.f k s) (vB s) := by
  unfold bits_Valid.f vB
  by_cases h : s.size ≤ 65536
  · rw [decide_eq_true h, Bool.true_and]
    refine Ev.congr (fun k => by rw [if_neg (by omega)]) ?_
    exact Ev.step (fun k => by simp only [bits_Valid.j0]; rfl) (ev_bits_Valid_l0 s h s.size 0 (by omega))
  · rw [decide_eq_false h, Bool.false_and]
    refine Ev.now' fun k => ?_
    rw [if_pos (by omega)]
theorem rdI_mid (pre : List S44) (x : S44) (post : List S44) (i : Nat) (h : i = pre.length) : rd_T44 (pre ++ x :: post) (i : Int) = x := by
  subst h; simp [rd_T44]
theorem rdE_mid (pre : List S33) (x : S33) (post : List S33) (i : Nat) (h : i = pre.length) : rd_T33 (pre ++ x :: post) (i : Int) = x := by
  subst h; simp [rd_T33]
def validE (a b c d e : Int) (s : ByteArray) (f : Int) : Bool :=
  decide (1 ≤ a ∧ a ≤ 8 ∧ 0 ≤ b ∧ b ≤ c ∧ c ≤ 1099511627776 ∧ -9007199254740992 ≤ d ∧ d ≤ 9007199254740992 ∧ -9007199254740992 ≤ e ∧ e ≤ 9007199254740992 ∧ s.size ≤ 4096 ∧ 0 ≤ f ∧ f ≤ 12)
theorem ev_event_Valid (a b c d e : Int) (s : ByteArray) (f : Int) : Ev (fun k => event_Valid.f k a b c d e s f) (validE a b c d e s f) := by
  refine ⟨2, fun k hk => ?_⟩
  obtain ⟨m, rfl⟩ : ∃ m, k = m + 2 := ⟨k - 2, by omega⟩
  simp only [event_Valid.f, event_Valid.j0, event_Valid.j1, validE, decide_eq_true_eq, ↓reduceIte]
  repeat' split
  all_goals first
    | (rw [decide_eq_false (by omega)])
    | (congr 1; rw [decide_eq_decide]; omega)
def meanN (z ch : Bool) : Int := if (ch != z) = true then 1 else 0
theorem nrzi_mean (z ch : Bool) : nrzi_meaning.f z ch = some (meanN z ch) := by
  unfold nrzi_meaning.f meanN
  split <;> rfl
/-- Is an event accepted behind one that began at a time? -/
def accN (at_ : Int) (e : S33) : Bool := decide (e.f0 = 2) && (validE e.f0 e.f1 e.f2 e.f3 e.f4 e.f5 e.f6 && (decide (at_ ≤ e.f1) && (decide (e.f3 = 0) || decide (e.f3 = 1))))
theorem accN_ok {at_ : Int} {e : S33} (h : accN at_ e = true) : e.f0 = 2 ∧ validE e.f0 e.f1 e.f2 e.f3 e.f4 e.f5 e.f6 = true ∧ at_ ≤ e.f1 ∧ (e.f3 = 0 ∨ e.f3 = 1) := by
  simpa [accN] using h
theorem ev_accN (a0 at_ a2 a3 a4 a5 p : Int) (s : ByteArray) (e : S33) : Ev (fun k => nrzi_accepts.f k a0 at_ a2 a3 a4 a5 p s e.f0 e.f1 e.f2 e.f3 e.f4 e.f5 e.f6) (accN at_ e) := by
  have hv := ev_event_Valid e.f0 e.f1 e.f2 e.f3 e.f4 e.f5 e.f6
  unfold nrzi_accepts.f accN
  refine Ev.ite (fun h => ?_) (fun h => ?_)
  · rw [decide_eq_true h, Bool.true_and]
    refine Ev.bind hv (Ev.ite (fun h2 => ?_) (fun h2 => ?_))
    · rw [h2, Bool.true_and]
      refine Ev.ite (fun h3 => ?_) (fun h3 => ?_)
      · rw [decide_eq_true (show at_ ≤ e.f1 by omega), Bool.true_and]
        refine Ev.ite (fun h4 => ?_) (fun h4 => ?_)
        · rw [decide_eq_true h4, Bool.true_or]; exact Ev.now _
        · rw [decide_eq_false h4, Bool.false_or]
          have : (e.f3 == 1) = decide (e.f3 = 1) := rfl
          rw [this]; exact Ev.now _
      · rw [decide_eq_false (show ¬ at_ ≤ e.f1 by omega), Bool.false_and]; exact Ev.now _
    · rw [Bool.eq_false_iff.mpr h2, Bool.false_and]; exact Ev.now _
  · rw [decide_eq_false h, Bool.false_and]; exact Ev.now _
def outN (z : Bool) (p : Int) (e : S33) : S33 := ⟨2, e.f1, e.f2, meanN z (e.f3 != p), e.f4, (⟨#[]⟩ : ByteArray), e.f6⟩
theorem ev_stepN (z : Bool) (at_ p : Int) (e : S33) : Ev (fun k => nrzi_Step.f k z 0 at_ 0 0 0 0 p ⟨#[]⟩ e.f0 e.f1 e.f2 e.f3 e.f4 e.f5 e.f6) (if accN at_ e = true then (0, e.f1, 0, 0, 0, 0, e.f3, ⟨#[]⟩, [outN z p e]) else (0, at_, 0, 0, 0, 0, p, ⟨#[]⟩, [])) := by
  unfold nrzi_Step.f
  refine Ev.bind (ev_accN 0 at_ 0 0 0 0 p ⟨#[]⟩ e) (Ev.ite (fun h => ?_) (fun h => ?_))
  · rw [if_pos h, nrzi_mean]
    exact Ev.sbind (Ev.now _)
  · rw [if_neg h]; exact Ev.now _
/-- What is decoded behind an event's time and a bit. -/
def decN (z : Bool) : Int → Int → List S33 → List S33
  | _, _, [] => []
  | at_, p, e :: l => if accN at_ e = true then outN z p e :: decN z e.f1 e.f3 l else decN z at_ p l
theorem decN_len (z : Bool) : ∀ (l : List S33) (a p : Int), (decN z a p l).length ≤ l.length
  | [], _, _ => Nat.le_refl _
  | e :: l, a, p => by
    unfold decN
    split
    · simpa using decN_len z l e.f1 e.f3
    · exact Nat.le_trans (decN_len z l a p) (by simp)
theorem ev_DecodeN (z : Bool) (l : List S33) (hl : l.length < 1000000) : Ev (fun k => nrzi_Decode.f k z l) (decN z 0 1 l) := by
  have key : ∀ (q pre out : List S33) (at_ p : Int) (i : Nat), l = pre ++ q → i = pre.length → out.length ≤ i → Ev (fun k => nrzi_Decode.l0 k out l (l.length : Int) (i : Int) z 0 at_ 0 0 0 0 p ⟨#[]⟩) (out ++ decN z at_ p q) := by
    intro q
    induction q with
    | nil =>
      intro pre out at_ p i he hi ho
      rw [List.append_nil] at he
      have hi' : i = l.length := by rw [hi, he]
      clear he
      unfold decN
      refine Ev.step (fun k => nrzi_Decode.l0.eq_2 ..) ?_
      refine Ev.neg (by omega) (Ev.sbind (Ev.pos (by rw [List.length_nil]; omega) (Ev.now _)))
    | cons e q ih =>
      intro pre out at_ p i he hi ho
      have hlen : l.length = i + (q.length + 1) := by rw [he, hi, List.length_append, List.length_cons]
      have hx : rd_T33 l (i : Int) = e := by rw [he]; exact rdE_mid pre e q i hi
      have ih2 := fun out' a' p' => ih (pre ++ [e]) out' a' p' (i + 1) (by rw [he]; simp) (by simp [hi])
      clear ih he
      have hs := ev_stepN z at_ p e
      refine Ev.step (fun k => nrzi_Decode.l0.eq_2 ..) ?_
      rw [hx, wnat (by omega), decN]
      refine Ev.pos (by omega) (Ev.pos (by omega) (Ev.pos (by omega) (Ev.bind hs ?_)))
      by_cases ha : accN at_ e = true
      · rw [if_pos ha, if_pos ha]
        refine Ev.pos (by rw [List.length_singleton]; omega) ?_
        have := ih2 (out ++ [outN z p e]) e.f1 e.f3 (by simp; omega)
        rw [List.append_assoc] at this
        exact this
      · rw [if_neg ha, if_neg ha]
        refine Ev.pos (by rw [List.length_nil]; omega) ?_
        rw [List.append_nil]
        exact ih2 out at_ p (by omega)
  have := key l [] [] 0 1 0 rfl rfl (by simp)
  exact this
/-- Two lists of events that are one. -/
theorem ev_Same (l : List S33) (hl : l.length < 1000000) : Ev (fun k => signalbenchref07_Same.f k l l) true := by
  unfold signalbenchref07_Same.f
  refine Ev.pos rfl ?_
  refine Ev.step (fun k => signalbenchref07_Same.j0.eq_2 ..) ?_
  have key : ∀ (d i : Nat), i + d = l.length → Ev (fun k => signalbenchref07_Same.l0 k l l (i : Int)) true := by
    intro d
    induction d with
    | zero =>
      intro i h
      refine Ev.step (fun k => signalbenchref07_Same.l0.eq_2 ..) ?_
      exact Ev.neg (by omega) (Ev.now _)
    | succ d ih =>
      intro i h
      refine Ev.step (fun k => signalbenchref07_Same.l0.eq_2 ..) ?_
      rw [wnat (by omega)]
      exact Ev.pos (by omega) (Ev.pos (by omega) (Ev.pos (by omega) (Ev.neg (by simp) (ih (i + 1) (by omega)))))
  exact key l.length 0 (by omega)
/-- An event that is a bit. -/
structure BitE (e : S33) : Prop where
  k : e.f0 = 2
  f0 : 0 ≤ e.f1
  f1 : e.f1 ≤ e.f2
  f2 : e.f2 ≤ 1099511627776
  v : e.f3 = 0 ∨ e.f3 = 1
  a : e.f4 = 0
  s : e.f5 = ⟨#[]⟩
  f : e.f6 = 0
theorem BitE.valid {e : S33} (h : BitE e) : validE e.f0 e.f1 e.f2 e.f3 e.f4 e.f5 e.f6 = true := by
  have h1 := h.k; have h2 := h.f0; have h3 := h.f1; have h4 := h.f2; have h5 := h.v; have h7 := h.a; have h8 := h.f
  have h9 : e.f5.size = 0 := by rw [h.s]; rfl
  unfold validE
  rw [decide_eq_true_eq]
  omega
/-- Bits whose times do not go back. -/
def timesE : Int → List S33 → Prop
  | _, [] => True
  | a, e :: l => a ≤ e.f1 ∧ BitE e ∧ timesE e.f1 l
/-- The events of bits, each of one tick. -/
def evB (a c : Int) : S33 := ⟨2, a, a + 1, if c = 49 then 1 else 0, 0, (⟨#[]⟩ : ByteArray), 0⟩
def evsB : Int → List Int → List S33
  | _, [] => []
  | a, c :: l => evB a c :: evsB (a + 1) l
theorem evsB_len : ∀ (l : List Int) (a : Int), (evsB a l).length = l.length
  | [], _ => rfl
  | _ :: l, a => by simp [evsB, evsB_len l]
def idealI : Int → List S44 → List S33
  | _, [] => []
  | a, x :: l => evsB (a + x.f0) (bytesOf x.f3) ++ idealI (a + x.f0 + x.f3.size) l
theorem times_evsB : ∀ (l : List Int) (a b : Int) (q : List S33), b ≤ a → 0 ≤ a → a + l.length ≤ 1099511627776 → (∀ b', b' ≤ a + l.length → timesE b' q) → timesE b (evsB a l ++ q)
  | [], a, b, q, hb, _, _, h => h b (by simp; omega)
  | c :: l, a, b, q, hb, h0, hl, h => by
    rw [List.length_cons] at hl
    refine ⟨hb, ⟨rfl, h0, by show a ≤ a + 1; omega, by show a + 1 ≤ _; omega, ?_, rfl, rfl, rfl⟩, ?_⟩
    · show (if c = 49 then (1 : Int) else 0) = 0 ∨ (if c = 49 then (1 : Int) else 0) = 1
      split <;> omega
    · exact times_evsB l (a + 1) a q (by omega) (by omega) (by omega) (fun b' hb' => h b' (by rw [List.length_cons]; omega))
theorem times_ideal : ∀ (l : List S44) (a b : Int), b ≤ a → 0 ≤ a → a + 2000000 * l.length ≤ 1099511627776 → (∀ x ∈ l, 0 ≤ x.f0 ∧ x.f0 ≤ 1048576 ∧ x.f3.size ≤ 4096) → timesE b (idealI a l)
  | [], _, _, _, _, _, _ => trivial
  | x :: l, a, b, hb, h0, hl, hx => by
    have h1 := hx x (by simp)
    have hlen := len_bytes x.f3
    rw [List.length_cons] at hl
    rw [idealI]
    refine times_evsB (bytesOf x.f3) (a + x.f0) b _ (by omega) (by omega) (by omega) (fun b' hb' => ?_)
    exact times_ideal l _ _ (by omega) (by omega) (by omega) (fun y hy => hx y (by simp [hy]))
theorem ideal_len : ∀ (l : List S44) (a : Int), (∀ x ∈ l, x.f3.size ≤ 4096) → (idealI a l).length ≤ 4096 * l.length
  | [], _, _ => by simp [idealI]
  | x :: l, a, hx => by
    have h1 := hx x (by simp)
    have hlen := len_bytes x.f3
    have := ideal_len l (a + x.f0 + x.f3.size) (fun y hy => hx y (by simp [hy]))
    rw [idealI, List.length_append, evsB_len, List.length_cons]
    omega
theorem ev_ideal (l : List S44) (hl : l.length ≤ 1024) (hx : ∀ x ∈ l, 0 ≤ x.f0 ∧ x.f0 ≤ 1048576 ∧ x.f3.size ≤ 4096) : Ev (fun k => signalbenchlaw16_ideal.f k l) (idealI 0 l) := by
  have key : ∀ (q pre : List S44) (out : List S33) (a : Int) (i : Nat), l = pre ++ q → i = pre.length → out.length ≤ 4096 * i → 0 ≤ a → a ≤ 2000000 * i →
      Ev (fun k => signalbenchlaw16_ideal.l0 k l out a (i : Int)) (out ++ idealI a q) := by
    intro q
    induction q with
    | nil =>
      intro pre out a i he hi ho h0 h1
      rw [List.append_nil] at he
      have hi' : i = l.length := by rw [hi, he]
      clear he
      rw [idealI, List.append_nil]
      refine Ev.step (fun k => signalbenchlaw16_ideal.l0.eq_2 ..) ?_
      exact Ev.neg (by omega) (Ev.now _)
    | cons x q ih =>
      intro pre out a i he hi ho h0 h1
      have hlen : l.length = i + (q.length + 1) := by rw [he, hi, List.length_append, List.length_cons]
      have hr : rd_T44 l (i : Int) = x := by rw [he]; exact rdI_mid pre x q i hi
      have hx1 := hx x (by rw [he]; simp)
      have ih2 := fun out' a' => ih (pre ++ [x]) out' a' (i + 1) (by rw [he]; simp) (by simp [hi])
      clear ih he
      have hbl := len_bytes x.f3
      have inner : ∀ (cs cpre : List Int) (out' : List S33) (a' : Int) (j : Nat), bytesOf x.f3 = cpre ++ cs → j = cpre.length → out'.length ≤ 4096 * i + j → 0 ≤ a' → a' ≤ 2000000 * i + 1048576 + j →
          Ev (fun k => signalbenchlaw16_ideal.l0 k l (out' ++ evsB a' cs) (a' + cs.length) ((i + 1 : Nat) : Int)) (out' ++ evsB a' cs ++ idealI (a' + cs.length) q) →
          Ev (fun k => signalbenchlaw16_ideal.l1 k l out' a' (i : Int) (j : Int)) (out' ++ evsB a' cs ++ idealI (a' + cs.length) q) := by
        intro cs
        induction cs with
        | nil =>
          intro cpre out' a' j he hj ho' h0' h1' h
          rw [List.append_nil] at he
          rw [he] at hbl
          simp only [evsB, List.length_nil, List.append_nil, Int.natCast_zero, Int.add_zero] at h ⊢
          refine Ev.step (fun k => signalbenchlaw16_ideal.l1.eq_2 ..) ?_
          rw [hr, wnat (i := i) (by omega)]
          exact Ev.pos (by omega) (Ev.pos (by omega) (Ev.neg (by omega) h))
        | cons c cs ihc =>
          intro cpre out' a' j he hj ho' h0' h1' h
          have hcl : x.f3.size = j + (cs.length + 1) := by rw [← hbl, he, hj, List.length_append, List.length_cons]
          have hbt : bt x.f3 (j : Int) = c := by rw [bt_get x.f3 j (by omega)]; simp [he, hj]
          have e1 : out' ++ evsB a' (c :: cs) = out' ++ [evB a' c] ++ evsB (a' + 1) cs := by rw [evsB, List.append_assoc]; rfl
          have e2 : a' + ((c :: cs).length : Nat) = a' + 1 + (cs.length : Nat) := by rw [List.length_cons]; omega
          rw [e1, e2] at h ⊢
          have hn := ihc (cpre ++ [c]) (out' ++ [evB a' c]) (a' + 1) (j + 1) (by rw [he]; simp) (by simp [hj]) (by simp; omega) (by omega) (by omega) h
          clear ihc he h
          refine Ev.step (fun k => signalbenchlaw16_ideal.l1.eq_2 ..) ?_
          rw [hr, hbt, wnat (i := j) (by omega), w64 (x := a' + 1) (by omega) (by omega)]
          refine Ev.pos (by omega) (Ev.pos (by omega) (Ev.pos (by omega) (Ev.pos (by omega) (Ev.ite (fun h49 => Ev.pos (by omega) ?_) (fun h49 => Ev.pos (by omega) ?_)))))
          · have : evB a' c = ⟨2, a', a' + 1, 1, 0, (⟨#[]⟩ : ByteArray), 0⟩ := by unfold evB; rw [if_pos h49]
            rw [this] at hn ⊢
            exact hn
          · have : evB a' c = ⟨2, a', a' + 1, 0, 0, (⟨#[]⟩ : ByteArray), 0⟩ := by unfold evB; rw [if_neg h49]
            rw [this] at hn ⊢
            exact hn
      have hgo := ih2 (out ++ evsB (a + x.f0) (bytesOf x.f3)) (a + x.f0 + x.f3.size) (by rw [List.length_append, evsB_len]; omega) (by omega) (by omega)
      have hin := inner (bytesOf x.f3) [] out (a + x.f0) 0 rfl rfl (by omega) (by omega) (by omega) (by rw [hbl]; exact hgo)
      rw [hbl] at hin
      refine Ev.step (fun k => signalbenchlaw16_ideal.l0.eq_2 ..) ?_
      refine Ev.pos (by omega) ?_
      refine Ev.step (fun k => signalbenchlaw16_ideal.j1.eq_2 ..) ?_
      rw [hr, w64 (x := a + x.f0) (by omega) (by omega), idealI, ← List.append_assoc]
      exact Ev.pos (by omega) (Ev.pos (by omega) hin)
  exact key l [] [] 0 0 rfl rfl (by simp) (by omega) (by omega)
theorem bit_val {c : Int} (h : c = 48 ∨ c = 49) : (if c = 49 then (1 : Int) else 0) = c - 48 := by split <;> omega
def nxtN (z : Bool) (last b : Int) : Int := if meanN z true = b then 1 - last else last
theorem nxtN_bit (z : Bool) {last b : Int} (h : last = 0 ∨ last = 1) : nxtN z last b = 0 ∨ nxtN z last b = 1 := by unfold nxtN; split <;> omega
theorem sender_next (z : Bool) {last b : Int} (h : last = 0 ∨ last = 1) : nrzi_sender_1.f z last b = some (nxtN z last b) := by
  unfold nrzi_sender_1.f nxtN
  rw [nrzi_mean, Option.bind_some, w64 (x := 1 - last) (by omega) (by omega)]
  split <;> rfl
def encB (z : Bool) : Int → List Int → List Int
  | _, [] => []
  | last, c :: l => (48 + nxtN z last (c - 48)) :: encB z (nxtN z last (c - 48)) l
def encL (z : Bool) : Int → List Int → Int
  | last, [] => last
  | last, c :: l => encL z (nxtN z last (c - 48)) l
theorem encB_len (z : Bool) : ∀ (l : List Int) (last : Int), (encB z last l).length = l.length
  | [], _ => rfl
  | _ :: l, last => by simp [encB, encB_len z l]
theorem encB_bits (z : Bool) : ∀ (l : List Int) (last : Int), (last = 0 ∨ last = 1) → AllB (encB z last l)
  | [], _, _ => AllB.nil
  | c :: l, last, h => by
    have := nxtN_bit z (b := c - 48) h
    exact AllB.cons_iff.mpr ⟨by omega, encB_bits z l _ this⟩
theorem encL_bit (z : Bool) : ∀ (l : List Int) (last : Int), (last = 0 ∨ last = 1) → (encL z last l = 0 ∨ encL z last l = 1)
  | [], _, h => h
  | c :: l, last, h => encL_bit z l _ (nxtN_bit z h)
def itN (x : S44) : Int := if x.f0 < 0 ∨ x.f0 > 1048576 then 1 else if x.f3.size > 4096 then 6 else if vB x.f3 = true then (if x.f4 = 0 ∧ x.f1 = 0 ∧ x.f2 = 0 then 0 else 1) else 4
theorem itN_ok {x : S44} (h : itN x = 0) : 0 ≤ x.f0 ∧ x.f0 ≤ 1048576 ∧ x.f3.size ≤ 4096 ∧ AllB (bytesOf x.f3) := by
  unfold itN at h
  split at h
  · omega
  · split at h
    · omega
    · split at h
      · rename_i hv
        exact ⟨by omega, by omega, by omega, (vB_iff.mp hv).2⟩
      · omega
theorem ev_nrzi_check (x : S44) : Ev (fun k => nrzi_check.f k x.f0 x.f1 x.f2 x.f3 x.f4) (itN x) := by
  have hyes : itN x = 1 → Ev (fun k => nrzi_check.j0 k true x.f0 x.f1 x.f2 x.f3 x.f4) (itN x) := by
    intro h
    rw [h]
    refine Ev.step (fun k => nrzi_check.j0.eq_2 ..) ?_
    exact Ev.pos rfl (Ev.now _)
  unfold nrzi_check.f
  refine Ev.ite (fun h0 => hyes (by unfold itN; rw [if_pos (.inl h0)])) (fun h0 => ?_)
  by_cases h1 : x.f0 > 1048576
  · rw [decide_eq_true h1]; exact hyes (by unfold itN; rw [if_pos (.inr h1)])
  rw [decide_eq_false h1]
  have hor : ¬ (x.f0 < 0 ∨ x.f0 > 1048576) := by omega
  clear hyes
  refine Ev.step (fun k => nrzi_check.j0.eq_2 ..) ?_
  refine Ev.neg (by decide) ?_
  by_cases h2 : x.f3.size > 4096
  · rw [show itN x = 6 by unfold itN; rw [if_neg hor, if_pos h2]]
    exact Ev.pos (by omega) (Ev.now _)
  unfold itN
  rw [if_neg hor, if_neg h2]
  refine Ev.neg (by omega) (Ev.bind (ev_bits_Valid x.f3) (Ev.ite (fun hv => ?_) (fun hv => ?_)))
  · rw [if_pos hv]
    refine Ev.now' fun _ => ?_
    repeat' split
    all_goals first | rfl | omega
  · rw [if_neg hv]; exact Ev.now _
def errN : List S44 → Int
  | [] => 0
  | x :: l => if itN x = 0 then errN l else itN x
def outsN (z : Bool) : Int → List S44 → List S44
  | _, [] => []
  | last, x :: l => ⟨x.f0, 0, 0, strOfNums (encB z last (bytesOf x.f3)), 0⟩ :: outsN z (encL z last (bytesOf x.f3)) l
theorem outsN_len (z : Bool) : ∀ (l : List S44) (last : Int), (outsN z last l).length = l.length
  | [], _ => rfl
  | x :: l, last => by simp [outsN, outsN_len z l]
def encodeN (z : Bool) (l : List S44) : List S44 × Int := if l.length > 1024 then ([], 6) else if errN l = 0 then (outsN z 1 l, 0) else ([], errN l)
theorem encodeN_len (z : Bool) (l : List S44) : (encodeN z l).1.length ≤ 1024 := by
  unfold encodeN
  split
  · simp
  · split
    · simp only [outsN_len]; omega
    · simp
theorem ev_nrzi_Encode (z : Bool) (l : List S44) : Ev (fun k => nrzi_Encode.f k z l) (encodeN z l) := by
  unfold nrzi_Encode.f encodeN
  refine Ev.ite (fun hl => ?_) (fun hl => ?_)
  · rw [if_pos (by omega)]; exact Ev.now _
  rw [if_neg (by omega)]
  refine Ev.step (fun k => nrzi_Encode.j0.eq_2 ..) ?_
  refine Ev.pos (by omega) (Ev.pos (by omega) ?_)
  have key : ∀ (q pre out : List S44) (last : Int) (i : Nat), l = pre ++ q → i = pre.length → out.length = i → (last = 0 ∨ last = 1) → Ev (fun k => nrzi_Encode.l0 k out l (l.length : Int) (i : Int) z last 0 0 ⟨#[]⟩ 0) (if errN q = 0 then (out ++ outsN z last q, 0) else ([], errN q)) := by
    intro q
    induction q with
    | nil =>
      intro pre out last i he hi ho hb
      rw [List.append_nil] at he
      have hi' : i = l.length := by rw [hi, he]
      clear he
      refine Ev.step (fun k => nrzi_Encode.l0.eq_2 ..) ?_
      rw [if_pos (show errN [] = 0 from rfl), outsN, List.append_nil]
      exact Ev.neg (by omega) (Ev.now _)
    | cons x q ih =>
      intro pre out last i he hi ho hb
      have hlen : l.length = i + (q.length + 1) := by rw [he, hi, List.length_append, List.length_cons]
      have hx : rd_T44 l (i : Int) = x := by rw [he]; exact rdI_mid pre x q i hi
      have ih2 := ih (pre ++ [x]) (out ++ [⟨x.f0, 0, 0, strOfNums (encB z last (bytesOf x.f3)), 0⟩]) (encL z last (bytesOf x.f3)) (i + 1) (by rw [he]; simp) (by simp [hi]) (by simp [ho]) (encL_bit z _ _ hb)
      rw [List.append_assoc] at ih2
      clear ih he
      have hbl := len_bytes x.f3
      refine Ev.step (fun k => nrzi_Encode.l0.eq_2 ..) ?_
      refine Ev.pos (by omega) ?_
      refine Ev.step (fun k => nrzi_Encode.j2.eq_2 ..) ?_
      rw [hx]
      refine Ev.pos (by omega) (Ev.pos (by omega) (Ev.bind (ev_nrzi_check x) (Ev.ite (fun hx0 => ?_) (fun hx0 => ?_))))
      case refine_2 =>
        have e : errN (x :: q) = itN x := by rw [errN, if_neg hx0]
        rw [e, if_neg hx0]
        exact Ev.now _
      obtain ⟨_, _, hxs, hxb⟩ := itN_ok hx0
      have e : errN (x :: q) = errN q := by rw [errN, if_pos hx0]
      rw [e]
      refine Ev.pos (by omega) (Ev.pos (by omega) (Ev.sbind ?_))
      have inner : ∀ (w cpre sent : List Int) (last : Int) (j : Nat) (res : List S44 × Int), bytesOf x.f3 = cpre ++ w → j = cpre.length → sent.length = j → AllB w → (last = 0 ∨ last = 1) →
          Ev (fun k => nrzi_Encode.l0 k (out ++ [⟨x.f0, 0, 0, strOfNums (sent ++ encB z last w), 0⟩]) l (l.length : Int) ((i + 1 : Nat) : Int) z (encL z last w) 0 0 ⟨#[]⟩ 0) res →
          Ev (fun k => nrzi_Encode.l1 k out (sent ++ List.replicate w.length 0) l (l.length : Int) (i : Int) (x.f3.size : Int) (j : Int) z last 0 0 ⟨#[]⟩ 0 x.f0 x.f1 x.f2 x.f3 x.f4) res := by
        intro w
        induction w with
        | nil =>
          intro cpre sent last j res he hj hs hwb hlb h
          rw [List.append_nil] at he
          rw [he] at hbl
          simp only [encB, encL, List.append_nil] at h
          refine Ev.step (fun k => nrzi_Encode.l1.eq_2 ..) ?_
          rw [wnat (i := i) (by omega), List.length_nil, List.replicate_zero, List.append_nil]
          exact Ev.neg (by omega) (Ev.pos (by omega) h)
        | cons c w ihw =>
          intro cpre sent last j res he hj hs hwb hlb h
          obtain ⟨hc1, hwb⟩ := AllB.cons_iff.mp hwb
          have hcl : x.f3.size = j + (w.length + 1) := by rw [← hbl, he, hj, List.length_append, List.length_cons]
          have hbt : bt x.f3 (j : Int) = c := by rw [bt_get x.f3 j (by omega)]; simp [he, hj]
          have hn := nxtN_bit z (last := last) (b := c - 48) hlb
          have hr := ihw (cpre ++ [c]) (sent ++ [48 + nxtN z last (c - 48)]) (nxtN z last (c - 48)) (j + 1) res (by rw [he]; simp) (by simp [hj]) (by simp [hs]) hwb hn (by rw [encB, encL] at h; rw [List.append_assoc]; exact h)
          clear ihw he h
          rw [List.length_cons, List.replicate_succ]
          refine Ev.step (fun k => nrzi_Encode.l1.eq_2 ..) ?_
          rw [hbt, show (c - 48) % 256 = c - 48 by omega, sender_next z hlb, wnat (i := j) (by omega)]
          refine Ev.pos (by omega) (Ev.pos (by omega) (Ev.pos (by omega) (Ev.sbind (Ev.pos (by simp; omega) ?_))))
          rw [show (48 + nxtN z last (c - 48) % 256) % 256 = 48 + nxtN z last (c - 48) by omega, Int.toNat_natCast, set_fill _ _ _ _ j hs.symm]
          rw [List.append_assoc, List.singleton_append] at hr
          exact hr
      have hin := inner (bytesOf x.f3) [] [] last 0 _ rfl rfl rfl hxb hb ih2
      rw [List.nil_append, hbl] at hin
      rw [Int.toNat_natCast, List.length_replicate]
      exact hin
  have := key l [] [] 1 0 rfl rfl rfl (.inr rfl)
  rw [List.nil_append] at this
  exact this
def tinyI (l : List S44) : Bool := decide (l.length ≤ 20) && l.all fun x => decide (x.f3.size ≤ 200)
theorem ev_tiny (l : List S44) : Ev (fun k => signalbenchlaw16_tiny.f k l) (tinyI l) := by
  unfold signalbenchlaw16_tiny.f tinyI
  refine Ev.ite (fun h => ?_) (fun h => ?_)
  · rw [decide_eq_false (by omega), Bool.false_and]; exact Ev.now _
  rw [decide_eq_true (show l.length ≤ 20 by omega), Bool.true_and]
  refine Ev.step (fun k => signalbenchlaw16_tiny.j0.eq_2 ..) ?_
  have key : ∀ (m pre : List S44) (i : Nat), l = pre ++ m → i = pre.length → Ev (fun k => signalbenchlaw16_tiny.l0 k l (i : Int)) (m.all fun x => decide (x.f3.size ≤ 200)) := by
    intro m
    induction m with
    | nil =>
      intro pre i he hi
      rw [List.append_nil] at he
      refine Ev.step (fun k => signalbenchlaw16_tiny.l0.eq_2 ..) ?_
      exact Ev.neg (by rw [he]; omega) (Ev.now _)
    | cons x m ih =>
      intro pre i he hi
      have hlen : l.length = i + (m.length + 1) := by rw [he, hi, List.length_append, List.length_cons]
      have hx : rd_T44 l (i : Int) = x := by rw [he]; exact rdI_mid pre x m i hi
      have ih2 := ih (pre ++ [x]) (i + 1) (by rw [he]; simp) (by simp [hi])
      clear ih he
      refine Ev.step (fun k => signalbenchlaw16_tiny.l0.eq_2 ..) ?_
      rw [hx, wnat (by omega), List.all_cons]
      refine Ev.pos (by omega) (Ev.pos (by omega) (Ev.ite (fun hb => ?_) (fun hb => ?_)))
      · rw [decide_eq_false (by omega), Bool.false_and]; exact Ev.now _
      · rw [decide_eq_true (show x.f3.size ≤ 200 by omega), Bool.true_and]; exact ih2
  exact key l [] 0 rfl rfl
theorem ev_awake : Ev (fun k => signalbenchlaw16_awake.f k) true := by
  refine Ev.of (fun k => signalbenchlaw16_awake.mono k) (k := 80) ?_
  decide +kernel
theorem mean_next (z : Bool) {last b : Int} (h : last = 0 ∨ last = 1) (hb : b = 0 ∨ b = 1) : meanN z (nxtN z last b != last) = b := by
  unfold nxtN meanN
  rcases h with rfl | rfl <;> rcases hb with rfl | rfl <;> cases z <;> rfl
theorem dec_bits (z : Bool) : ∀ (l : List Int) (a at_ last : Int) (q : List S33), AllB l → (last = 0 ∨ last = 1) → at_ ≤ a → 0 ≤ a → a + l.length ≤ 1099511627776 →
    ∃ at', at' ≤ a + l.length ∧ decN z at_ last (evsB a (encB z last l) ++ q) = evsB a l ++ decN z at' (encL z last l) q
  | [], a, at_, last, q, _, _, h1, _, _ => ⟨at_, by simp; omega, rfl⟩
  | c :: l, a, at_, last, q, hb, hl, h1, h2, h3 => by
    obtain ⟨hc, hb⟩ := AllB.cons_iff.mp hb
    rw [List.length_cons] at h3
    have hn := nxtN_bit z (last := last) (b := c - 48) hl
    obtain ⟨at', k1, k2⟩ := dec_bits z l (a + 1) a (nxtN z last (c - 48)) q hb hn (by omega) (by omega) (by omega)
    refine ⟨at', by rw [List.length_cons]; omega, ?_⟩
    have hv : (evB a (48 + nxtN z last (c - 48))).f3 = nxtN z last (c - 48) := by
      unfold evB
      rw [bit_val (c := 48 + nxtN z last (c - 48)) (by omega)]
      dsimp only; omega
    have hB : BitE (evB a (48 + nxtN z last (c - 48))) := ⟨rfl, h2, by show a ≤ a + 1; omega, by show a + 1 ≤ _; omega, by rw [hv]; exact hn, rfl, rfl, rfl⟩
    have hacc : accN at_ (evB a (48 + nxtN z last (c - 48))) = true := by
      have hva := hB.valid
      have hk := hB.k
      have hbv := hB.v
      have hf1 : (evB a (48 + nxtN z last (c - 48))).f1 = a := rfl
      unfold accN
      rw [hva, decide_eq_true hk, Bool.true_and, Bool.true_and, hf1, decide_eq_true h1, Bool.true_and]
      simpa using hbv
    have hout : outN z last (evB a (48 + nxtN z last (c - 48))) = evB a c := by
      unfold outN
      rw [hv, mean_next z hl (by omega)]
      unfold evB
      rw [bit_val hc]
    show decN z at_ last (evB a (48 + nxtN z last (c - 48)) :: (evsB (a + 1) (encB z (nxtN z last (c - 48)) l) ++ q)) = evB a c :: (evsB (a + 1) l ++ _)
    rw [decN, if_pos hacc, hout, hv]
    exact congrArg (evB a c :: ·) k2
def sentN (x : S44) : S44 := ⟨x.f0, 0, 0, x.f3, 0⟩
theorem dec_items (z : Bool) : ∀ (l : List S44) (a at_ last : Int), errN l = 0 → (last = 0 ∨ last = 1) → at_ ≤ a → 0 ≤ a → a + 2000000 * l.length ≤ 1099511627776 → decN z at_ last (idealI a (outsN z last l)) = idealI a (l.map sentN)
  | [], _, _, _, _, _, _, _, _ => rfl
  | x :: l, a, at_, last, hE, hl, h1, h2, h3 => by
    rw [errN] at hE
    have hx0 : itN x = 0 := by split at hE; assumption; omega
    rw [if_pos hx0] at hE
    obtain ⟨g0, g1, g2, g3⟩ := itN_ok hx0
    have hbl := len_bytes x.f3
    have hel := encB_len z (bytesOf x.f3) last
    rw [List.length_cons] at h3
    obtain ⟨at', k1, k2⟩ := dec_bits z (bytesOf x.f3) (a + x.f0) at_ last (idealI (a + x.f0 + x.f3.size) (outsN z (encL z last (bytesOf x.f3)) l)) g3 hl (by omega) (by omega) (by omega)
    rw [outsN, idealI]
    dsimp only
    rw [bytes_str (encB_bits z _ _ hl).byts, size_str, hel, hbl, k2, dec_items z l _ _ _ hE (encL_bit z _ _ hl) (by omega) (by omega) (by omega)]
    rfl
theorem main : signalbenchlaw16_NrziRoundTrips.Pure := by
  intro z l _ _ _
  refine Ev.rounds (g := fun k => signalbenchlaw16_NrziRoundTrips.f k z l) ?_
  unfold signalbenchlaw16_NrziRoundTrips.f
  have haw : Ev (fun k => (signalbenchlaw16_awake.f k).bind fun t => some t) true := Ev.bind ev_awake (Ev.now true)
  refine Ev.bind (ev_tiny l) (Ev.ite (fun ht => ?_) (fun ht => haw))
  have hlen : l.length ≤ 20 := by unfold tinyI at ht; rw [Bool.and_eq_true, decide_eq_true_eq] at ht; exact ht.1
  refine Ev.step (fun k => signalbenchlaw16_NrziRoundTrips.j0.eq_2 ..) ?_
  refine Ev.bind (ev_nrzi_Encode z l) ?_
  unfold encodeN
  rw [if_neg (show ¬ l.length > 1024 by omega)]
  by_cases hE : errN l = 0
  case neg =>
    rw [if_neg hE]
    exact Ev.neg hE (Ev.pos rfl haw)
  rw [if_pos hE]
  refine Ev.pos rfl ?_
  have hall : ∀ (q : List S44), errN q = 0 → ∀ x ∈ q, 0 ≤ x.f0 ∧ x.f0 ≤ 1048576 ∧ x.f3.size ≤ 4096 := by
    intro q
    induction q with
    | nil => intro _ x hx; cases hx
    | cons y q ih =>
      intro h x hx
      rw [errN] at h
      have hy0 : itN y = 0 := by split at h; assumption; omega
      rw [if_pos hy0] at h
      rcases List.mem_cons.mp hx with rfl | hx
      · obtain ⟨g0, g1, g2, _⟩ := itN_ok hy0; exact ⟨g0, g1, g2⟩
      · exact ih h x hx
  have houts : ∀ (q : List S44) (last : Int), errN q = 0 → ∀ x ∈ outsN z last q, 0 ≤ x.f0 ∧ x.f0 ≤ 1048576 ∧ x.f3.size ≤ 4096 := by
    intro q
    induction q with
    | nil => intro _ _ x hx; cases hx
    | cons y q ih =>
      intro last h x hx
      rw [errN] at h
      have hy0 : itN y = 0 := by split at h; assumption; omega
      rw [if_pos hy0] at h
      obtain ⟨g0, g1, g2, _⟩ := itN_ok hy0
      rw [outsN] at hx
      rcases List.mem_cons.mp hx with rfl | hx
      · exact ⟨g0, g1, by show (strOfNums _).size ≤ 4096; rw [size_str, encB_len, len_bytes]; exact g2⟩
      · exact ih _ h x hx
  have hsent : ∀ x ∈ l.map sentN, 0 ≤ x.f0 ∧ x.f0 ≤ 1048576 ∧ x.f3.size ≤ 4096 := by
    intro x hx
    obtain ⟨y, hy, rfl⟩ := List.mem_map.mp hx
    exact hall l hE y hy
  have hol := outsN_len z l 1
  have hil := ideal_len (outsN z 1 l) 0 (fun x hx => (houts l 1 hE x hx).2.2)
  have hdec := ev_DecodeN z (idealI 0 (outsN z 1 l)) (by omega)
  rw [dec_items z l 0 0 1 hE (.inr rfl) (by omega) (by omega) (by omega)] at hdec
  have hsl := ideal_len (l.map sentN) 0 (fun x hx => (hsent x hx).2.2)
  rw [List.length_map] at hsl
  have hI1 := ev_ideal (outsN z 1 l) (by omega) (houts l 1 hE)
  have hI2 := ev_ideal (l.map sentN) (by rw [List.length_map]; omega) hsent
  have hS := ev_Same (idealI 0 (l.map sentN)) (by omega)
  refine Ev.step (fun k => signalbenchlaw16_NrziRoundTrips.j1.eq_2 ..) ?_
  have key : ∀ (q pre sent : List S44) (i : Nat), l = pre ++ q → i = pre.length → sent ++ q.map sentN = l.map sentN → sent.length = i → Ev (fun k => signalbenchlaw16_NrziRoundTrips.l0 k l (outsN z 1 l) sent (i : Int) z) true := by
    intro q
    induction q with
    | nil =>
      intro pre sent i he hi hs hsl
      rw [List.append_nil] at he
      have hi' : i = l.length := by rw [hi, he]
      rw [List.map_nil, List.append_nil] at hs
      clear he
      rw [hs]
      refine Ev.step (fun k => signalbenchlaw16_NrziRoundTrips.l0.eq_2 ..) ?_
      exact Ev.neg (by omega) (Ev.bind hI1 (Ev.bind hdec (Ev.bind hI2 (Ev.bind hS (Ev.pos rfl haw)))))
    | cons x q ih =>
      intro pre sent i he hi hs hsl
      have hlen2 : l.length = i + (q.length + 1) := by rw [he, hi, List.length_append, List.length_cons]
      have hx : rd_T44 l (i : Int) = x := by rw [he]; exact rdI_mid pre x q i hi
      have ih2 := ih (pre ++ [x]) (sent ++ [sentN x]) (i + 1) (by rw [he]; simp) (by simp [hi]) (by rw [← hs, List.map_cons, List.append_assoc]; rfl) (by simp [hsl])
      clear ih he
      refine Ev.step (fun k => signalbenchlaw16_NrziRoundTrips.l0.eq_2 ..) ?_
      rw [hx, wnat (by omega)]
      exact Ev.pos (by omega) (Ev.pos (by omega) (Ev.pos (by omega) ih2))
  exact key l [] [] 0 rfl rfl rfl rfl
end NrziRoundTrips_
theorem NrziRoundTrips : signalbenchlaw16_NrziRoundTrips.Pure := NrziRoundTrips_.main
end Go.Proofs.Ytjgfhccibljkbaa.Pure
