/- The law NrziInverts holds as a statement on numbers and lists: with Zero each decoded bit is the opposite; an inverted input is decoded alike, apart from the first bit. No condition beyond those of the statement. -/
import Derived.Test.YtjgfhccibljkbaaPNrziInvertsx7
import Derived.Test.YtjgfhccibljkbaaSpecBytes
namespace Go.Proofs.Ytjgfhccibljkbaa.Pure
open Go.RowKit Go.Proofs.Ytjgfhccibljkbaa.PNrziInverts Go.Proofs.YtjgfhccibljkbaaW.PrintWords Go.Proofs.YtjgfhccibljkbaaW.PrintLast Go.Proofs.Ytjgfhccibljkbaa.Aid
set_option linter.unusedVariables false
set_option linter.unusedSimpArgs false
namespace NrziInverts_
theorem rdI_mid (pre : List S44) (x : S44) (post : List S44) (i : Nat) (h : i = pre.length) : rd_T44 (pre ++ x :: post) (i : Int) = x := by
  subst h; simp [rd_T44]
theorem rdE_mid (pre : List S33) (x : S33) (post : List S33) (i : Nat) (h : i = pre.length) : rd_T33 (pre ++ x :: post) (i : Int) = x := by
  subst h; simp [rd_T33]
def validE (a b c d e : Int) (s : ByteArray) (f : Int) : Bool :=
  decide (1 ≤ a ∧ a ≤ 8 ∧ 0 ≤ b ∧ b ≤ c ∧ c ≤ 1099511627776 ∧ -9007199254740992 ≤ d ∧ d ≤ 9007199254740992 ∧ -9007199254740992 ≤ e ∧ e ≤ 9007199254740992 ∧ s.size ≤ 4096 ∧ 0 ≤ f ∧ f ≤ 12)
theorem ev_event_Valid (a b c d e : Int) (s : ByteArray) (f : Int) : Ev (fun k => event_Valid.f k a b c d e s f) (validE a b c d e s f) := by
  refine ⟨2, fun k hk => ?_⟩
  obtain ⟨m, rfl⟩ : ∃ m, k = m + 2 := ⟨k - 2, by omega⟩
  simp only [event_Valid.f, event_Valid.j0, event_Valid.j1, validE, decide_eq_true_eq, ↓reduceIte]
  repeat' split
  all_goals first
    | (rw [decide_eq_false (by omega)])
    | (congr 1; rw [decide_eq_decide]; omega)
def meanN (z ch : Bool) : Int := if (ch != z) = true then 1 else 0
theorem nrzi_mean (z ch : Bool) : nrzi_meaning.f z ch = some (meanN z ch) := by
  unfold nrzi_meaning.f meanN
  split <;> rfl
/-- Is an event accepted behind one that began at a time? -/
def accN (at_ : Int) (e : S33) : Bool := decide (e.f0 = 2) && (validE e.f0 e.f1 e.f2 e.f3 e.f4 e.f5 e.f6 && (decide (at_ ≤ e.f1) && (decide (e.f3 = 0) || decide (e.f3 = 1))))
theorem accN_ok {at_ : Int} {e : S33} (h : accN at_ e = true) : e.f0 = 2 ∧ validE e.f0 e.f1 e.f2 e.f3 e.f4 e.f5 e.f6 = true ∧ at_ ≤ e.f1 ∧ (e.f3 = 0 ∨ e.f3 = 1) := by
  simpa [accN] using h
theorem ev_accN (a0 at_ a2 a3 a4 a5 p : Int) (s : ByteArray) (e : S33) : Ev (fun k => nrzi_accepts.f k a0 at_ a2 a3 a4 a5 p s e.f0 e.f1 e.f2 e.f3 e.f4 e.f5 e.f6) (accN at_ e) := by
  have hv := ev_event_Valid e.f0 e.f1 e.f2 e.f3 e.f4 e.f5 e.f6
  unfold nrzi_accepts.f accN
  refine Ev.ite (fun h => ?_) (fun h => ?_)
  · rw [decide_eq_true h, Bool.true_and]
    refine Ev.bind hv (Ev.ite (fun h2 => ?_) (fun h2 => ?_))
    · rw [h2, Bool.true_and]
      refine Ev.ite (fun h3 => ?_) (fun h3 => ?_)
      · rw [decide_eq_true (show at_ ≤ e.f1 by omega), Bool.true_and]
        refine Ev.ite (fun h4 => ?_) (fun h4 => ?_)
        · rw [decide_eq_true h4, Bool.true_or]; exact Ev.now _
        · rw [decide_eq_false h4, Bool.false_or]
          have : (e.f3 == 1) = decide (e.f3 = 1) := rfl
          rw [this]; exact Ev.now _
      · rw [decide_eq_false (show ¬ at_ ≤ e.f1 by omega), Bool.false_and]; exact Ev.now _
    · rw [Bool.eq_false_iff.mpr h2, Bool.false_and]; exact Ev.now _
  · rw [decide_eq_false h, Bool.false_and]; exact Ev.now _
def outN (z : Bool) (p : Int) (e : S33) : S33 := ⟨2, e.f1, e.f2, meanN z (e.f3 != p), e.f4, (⟨#[]⟩ : ByteArray), e.f6⟩
theorem ev_stepN (z : Bool) (at_ p : Int) (e : S33) : Ev (fun k => nrzi_Step.f k z 0 at_ 0 0 0 0 p ⟨#[]⟩ e.f0 e.f1 e.f2 e.f3 e.f4 e.f5 e.f6) (if accN at_ e = true then (0, e.f1, 0, 0, 0, 0, e.f3, ⟨#[]⟩, [outN z p e]) else (0, at_, 0, 0, 0, 0, p, ⟨#[]⟩, [])) := by
  unfold nrzi_Step.f
  refine Ev.bind (ev_accN 0 at_ 0 0 0 0 p ⟨#[]⟩ e) (Ev.ite (fun h => ?_) (fun h => ?_))
  · rw [if_pos h, nrzi_mean]
    exact Ev.sbind (Ev.now _)
  · rw [if_neg h]; exact Ev.now _
/-- What is decoded behind an event's time and a bit. -/
def decN (z : Bool) : Int → Int → List S33 → List S33
  | _, _, [] => []
  | at_, p, e :: l => if accN at_ e = true then outN z p e :: decN z e.f1 e.f3 l else decN z at_ p l
theorem decN_len (z : Bool) : ∀ (l : List S33) (a p : Int), (decN z a p l).length ≤ l.length
  | [], _, _ => Nat.le_refl _
  | e :: l, a, p => by
    unfold decN
    split
    · simpa using decN_len z l e.f1 e.f3
    · exact Nat.le_trans (decN_len z l a p) (by simp)
theorem ev_DecodeN (z : Bool) (l : List S33) (hl : l.length < 1000000) : Ev (fun k => nrzi_Decode.f k z l) (decN z 0 1 l) := by
  have key : ∀ (q pre out : List S33) (at_ p : Int) (i : Nat), l = pre ++ q → i = pre.length → out.length ≤ i → Ev (fun k => nrzi_Decode.l0 k out l (l.length : Int) (i : Int) z 0 at_ 0 0 0 0 p ⟨#[]⟩) (out ++ decN z at_ p q) := by
    intro q
    induction q with
    | nil =>
      intro pre out at_ p i he hi ho
      rw [List.append_nil] at he
      have hi' : i = l.length := by rw [hi, he]
      clear he
      unfold decN
      refine Ev.step (fun k => nrzi_Decode.l0.eq_2 ..) ?_
      refine Ev.neg (by omega) (Ev.sbind (Ev.pos (by rw [List.length_nil]; omega) (Ev.now _)))
    | cons e q ih =>
      intro pre out at_ p i he hi ho
      have hlen : l.length = i + (q.length + 1) := by rw [he, hi, List.length_append, List.length_cons]
      have hx : rd_T33 l (i : Int) = e := by rw [he]; exact rdE_mid pre e q i hi
      have ih2 := fun out' a' p' => ih (pre ++ [e]) out' a' p' (i + 1) (by rw [he]; simp) (by simp [hi])
      clear ih he
      have hs := ev_stepN z at_ p e
      refine Ev.step (fun k => nrzi_Decode.l0.eq_2 ..) ?_
      rw [hx, wnat (by omega), decN]
      refine Ev.pos (by omega) (Ev.pos (by omega) (Ev.pos (by omega) (Ev.bind hs ?_)))
      by_cases ha : accN at_ e = true
      · rw [if_pos ha, if_pos ha]
        refine Ev.pos (by rw [List.length_singleton]; omega) ?_
        have := ih2 (out ++ [outN z p e]) e.f1 e.f3 (by simp; omega)
        rw [List.append_assoc] at this
        exact this
      · rw [if_neg ha, if_neg ha]
        refine Ev.pos (by rw [List.length_nil]; omega) ?_
        rw [List.append_nil]
        exact ih2 out at_ p (by omega)
  have := key l [] [] 0 1 0 rfl rfl (by simp)
  exact this
/-- Two lists of events that are one. -/
theorem ev_Same (l : List S33) (hl : l.length < 1000000) : Ev (fun k => signalbenchref07_Same.f k l l) true := by
  unfold signalbenchref07_Same.f
  refine Ev.pos rfl ?_
  refine Ev.step (fun k => signalbenchref07_Same.j0.eq_2 ..) ?_
  have key : ∀ (d i : Nat), i + d = l.length → Ev (fun k => signalbenchref07_Same.l0 k l l (i : Int)) true := by
    intro d
    induction d with
    | zero =>
      intro i h
      refine Ev.step (fun k => signalbenchref07_Same.l0.eq_2 ..) ?_
      exact Ev.neg (by omega) (Ev.now _)
    | succ d ih =>
      intro i h
      refine Ev.step (fun k => signalbenchref07_Same.l0.eq_2 ..) ?_
      rw [wnat (by omega)]
      exact Ev.pos (by omega) (Ev.pos (by omega) (Ev.pos (by omega) (Ev.neg (by simp) (ih (i + 1) (by omega)))))
  exact key l.length 0 (by omega)
def smallE (l : List S33) : Bool := decide (l.length ≤ 40) && l.all fun x => decide (x.f5.size ≤ 20)
theorem ev_small (l : List S33) : Ev (fun k => signalbenchlaw16_small.f k l) (smallE l) := by
  unfold signalbenchlaw16_small.f smallE
  refine Ev.ite (fun h => ?_) (fun h => ?_)
  · rw [decide_eq_false (by omega), Bool.false_and]; exact Ev.now _
  rw [decide_eq_true (show l.length ≤ 40 by omega), Bool.true_and]
  refine Ev.step (fun k => signalbenchlaw16_small.j0.eq_2 ..) ?_
  have key : ∀ (m pre : List S33) (i : Nat), l = pre ++ m → i = pre.length → Ev (fun k => signalbenchlaw16_small.l0 k l (i : Int)) (m.all fun x => decide (x.f5.size ≤ 20)) := by
    intro m
    induction m with
    | nil =>
      intro pre i he hi
      rw [List.append_nil] at he
      refine Ev.step (fun k => signalbenchlaw16_small.l0.eq_2 ..) ?_
      exact Ev.neg (by rw [he]; omega) (Ev.now _)
    | cons x m ih =>
      intro pre i he hi
      have hlen : l.length = i + (m.length + 1) := by rw [he, hi, List.length_append, List.length_cons]
      have hx : rd_T33 l (i : Int) = x := by rw [he]; exact rdE_mid pre x m i hi
      have ih2 := ih (pre ++ [x]) (i + 1) (by rw [he]; simp) (by simp [hi])
      clear ih he
      refine Ev.step (fun k => signalbenchlaw16_small.l0.eq_2 ..) ?_
      rw [hx, wnat (by omega), List.all_cons]
      refine Ev.pos (by omega) (Ev.pos (by omega) (Ev.ite (fun hb => ?_) (fun hb => ?_)))
      · rw [decide_eq_false (by omega), Bool.false_and]; exact Ev.now _
      · rw [decide_eq_true (show x.f5.size ≤ 20 by omega), Bool.true_and]; exact ih2
  exact key l [] 0 rfl rfl
theorem ev_awake : Ev (fun k => signalbenchlaw16_awake.f k) true := by
  refine Ev.of (fun k => signalbenchlaw16_awake.mono k) (k := 80) ?_
  decide +kernel
def turnE (e : S33) : S33 := if e.f0 = 2 ∧ (e.f3 = 0 ∨ e.f3 = 1) then ⟨e.f0, e.f1, e.f2, 1 - e.f3, e.f4, e.f5, e.f6⟩ else e
theorem ev_turned (l : List S33) (hl : l.length < 1000000) : Ev (fun k => signalbenchlaw16_turned.f k l) (l.map turnE) := by
  have key : ∀ (q pre out : List S33) (i : Nat), l = pre ++ q → i = pre.length → out.length = i → Ev (fun k => signalbenchlaw16_turned.l0 k l out (i : Int)) (out ++ q.map turnE) := by
    intro q
    induction q with
    | nil =>
      intro pre out i he hi ho
      rw [List.append_nil] at he
      have hi' : i = l.length := by rw [hi, he]
      clear he
      refine Ev.step (fun k => signalbenchlaw16_turned.l0.eq_2 ..) ?_
      rw [List.map_nil, List.append_nil]
      exact Ev.neg (by omega) (Ev.now _)
    | cons e q ih =>
      intro pre out i he hi ho
      have hlen : l.length = i + (q.length + 1) := by rw [he, hi, List.length_append, List.length_cons]
      have hx : rd_T33 l (i : Int) = e := by rw [he]; exact rdE_mid pre e q i hi
      have ih2 := ih (pre ++ [e]) (out ++ [turnE e]) (i + 1) (by rw [he]; simp) (by simp [hi]) (by simp [ho])
      rw [List.append_assoc] at ih2
      clear ih he
      have hno : ¬ (e.f0 = 2 ∧ (e.f3 = 0 ∨ e.f3 = 1)) → turnE e = ⟨e.f0, e.f1, e.f2, e.f3, e.f4, e.f5, e.f6⟩ := fun h => by unfold turnE; rw [if_neg h]
      have hy : e.f0 = 2 ∧ (e.f3 = 0 ∨ e.f3 = 1) → turnE e = ⟨e.f0, e.f1, e.f2, wrap64 (1 - e.f3), e.f4, e.f5, e.f6⟩ := fun h => by
        unfold turnE; rw [if_pos h, w64 (x := 1 - e.f3) (by omega) (by omega)]
      refine Ev.step (fun k => signalbenchlaw16_turned.l0.eq_2 ..) ?_
      rw [hx, wnat (by omega)]
      refine Ev.pos (by omega) (Ev.pos (by omega) (Ev.ite (fun h2 => Ev.ite (fun h3 => Ev.pos (by omega) ?_) (fun h3 => Ev.ite (fun h4 => Ev.pos (by omega) ?_) (fun h4 => Ev.pos (by omega) ?_))) (fun h2 => Ev.pos (by omega) ?_)))
      · rw [hy ⟨h2, .inl h3⟩] at ih2; rw [List.map_cons, hy ⟨h2, .inl h3⟩]; exact ih2
      · rw [hy ⟨h2, .inr h4⟩] at ih2; rw [List.map_cons, hy ⟨h2, .inr h4⟩]; exact ih2
      · rw [hno (fun h => by omega)] at ih2; rw [List.map_cons, hno (fun h => by omega)]; exact ih2
      · rw [hno (fun h => h2 h.1)] at ih2; rw [List.map_cons, hno (fun h => h2 h.1)]; exact ih2
  have := key l [] [] 0 rfl rfl rfl
  exact this
theorem meanN_not (ch : Bool) : meanN true ch = 1 - meanN false ch := by cases ch <;> rfl
theorem meanN_bit (z ch : Bool) : meanN z ch = 0 ∨ meanN z ch = 1 := by unfold meanN; split <;> simp
theorem turn_out (p : Int) (e : S33) : turnE (outN false p e) = outN true p e := by
  have h := meanN_bit false (e.f3 != p)
  have hc : (outN false p e).f0 = 2 ∧ ((outN false p e).f3 = 0 ∨ (outN false p e).f3 = 1) := ⟨rfl, h⟩
  unfold turnE
  rw [if_pos hc]
  unfold outN
  rw [meanN_not]
theorem turn_dec : ∀ (l : List S33) (a p : Int), (decN false a p l).map turnE = decN true a p l
  | [], _, _ => rfl
  | e :: l, a, p => by
    unfold decN
    by_cases h : accN a e = true
    · rw [if_pos h, if_pos h, List.map_cons, turn_out, turn_dec l]
    · rw [if_neg h, if_neg h, turn_dec l]
theorem acc_turn (a : Int) (e : S33) : accN a (turnE e) = accN a e := by
  unfold turnE
  by_cases h : e.f0 = 2 ∧ (e.f3 = 0 ∨ e.f3 = 1)
  · rw [if_pos h]
    unfold accN validE
    dsimp only
    rw [Bool.eq_iff_iff]
    simp only [Bool.and_eq_true, Bool.or_eq_true, decide_eq_true_eq]
    omega
  · rw [if_neg h]
theorem turn_f3 {a : Int} {e : S33} (h : accN a e = true) : (turnE e).f3 = 1 - e.f3 ∧ (turnE e).f1 = e.f1 ∧ (turnE e).f2 = e.f2 ∧ (turnE e).f4 = e.f4 ∧ (turnE e).f6 = e.f6 := by
  obtain ⟨c1, _, _, c4⟩ := accN_ok h
  unfold turnE
  rw [if_pos ⟨c1, c4⟩]
  exact ⟨rfl, rfl, rfl, rfl, rfl⟩
/-- Behind the first bit both agree. -/
theorem dec_turn_in : ∀ (l : List S33) (a p : Int), (p = 0 ∨ p = 1) → decN false a (1 - p) (l.map turnE) = decN false a p l
  | [], _, _, _ => rfl
  | e :: l, a, p, hp => by
    rw [List.map_cons, decN, decN, acc_turn]
    by_cases h : accN a e = true
    · obtain ⟨t3, t1, t2, t4, t6⟩ := turn_f3 h
      obtain ⟨_, _, _, c4⟩ := accN_ok h
      rw [if_pos h, if_pos h, t1, t3, dec_turn_in l _ _ c4]
      congr 1
      unfold outN
      rw [t1, t2, t3, t4, t6]
      have : ((1 - e.f3 != 1 - p) : Bool) = (e.f3 != p) := by
        rw [Bool.eq_iff_iff, bne_iff_ne, bne_iff_ne]; omega
      rw [this]
    · rw [if_neg h, if_neg h, dec_turn_in l _ _ hp]
theorem dec_turn : ∀ (l : List S33) (a : Int), (decN false a 1 l = [] ∧ decN false a 1 (l.map turnE) = []) ∨ ∃ x y q, decN false a 1 l = x :: q ∧ decN false a 1 (l.map turnE) = y :: q ∧ x.f3 = 1 - y.f3 ∧ (y.f3 = 0 ∨ y.f3 = 1)
  | [], _ => .inl ⟨rfl, rfl⟩
  | e :: l, a => by
    rw [List.map_cons, decN, decN, acc_turn]
    by_cases h : accN a e = true
    · obtain ⟨t3, t1, t2, t4, t6⟩ := turn_f3 h
      obtain ⟨_, _, _, c4⟩ := accN_ok h
      rw [if_pos h, if_pos h]
      refine .inr ⟨outN false 1 e, outN false 1 (turnE e), decN false e.f1 e.f3 l, rfl, ?_, ?_, meanN_bit false _⟩
      · rw [t1, t3, dec_turn_in l _ _ c4]
      · show meanN false (e.f3 != 1) = 1 - meanN false ((turnE e).f3 != 1)
        rw [t3]
        rcases c4 with c | c <;> rw [c] <;> rfl
    · rw [if_neg h, if_neg h]
      exact dec_turn l a
theorem main : signalbenchlaw16_NrziInverts.Pure := by
  intro l _ _ _
  refine Ev.rounds (g := fun k => signalbenchlaw16_NrziInverts.f k l) ?_
  unfold signalbenchlaw16_NrziInverts.f
  have haw : Ev (fun k => (signalbenchlaw16_awake.f k).bind fun t => some t) true := Ev.bind ev_awake (Ev.now true)
  refine Ev.bind (ev_small l) (Ev.ite (fun hs => ?_) (fun _ => haw))
  have hlen : l.length ≤ 40 := by unfold smallE at hs; rw [Bool.and_eq_true, decide_eq_true_eq] at hs; exact hs.1
  have d1 := decN_len false l 0 1
  have d2 := decN_len true l 0 1
  have d3 := decN_len false (l.map turnE) 0 1
  rw [List.length_map] at d3
  have ht := ev_turned (decN false 0 1 l) (by omega)
  rw [turn_dec] at ht
  refine Ev.step (fun k => signalbenchlaw16_NrziInverts.j0.eq_2 ..) ?_
  refine Ev.bind (ev_DecodeN false l (by omega)) (Ev.bind (ev_DecodeN true l (by omega)) (Ev.bind (ev_turned l (by omega)) (Ev.bind (ev_DecodeN false (l.map turnE) (by rw [List.length_map]; omega)) (Ev.bind ht (Ev.bind (ev_Same _ (by omega)) (Ev.pos rfl ?_))))))
  have hd := dec_turn l 0
  generalize decN false 0 1 l = m at *
  generalize decN false 0 1 (l.map turnE) = m' at *
  have hll : m.length = m'.length := by
    rcases hd with ⟨rfl, rfl⟩ | ⟨x, y, q, rfl, rfl, _⟩ <;> simp
  rw [show ((m.length : Int) != (m'.length : Int)) = false by rw [hll]; simp]
  refine Ev.step (fun k => signalbenchlaw16_NrziInverts.j1.eq_2 ..) ?_
  refine Ev.neg (by decide) ?_
  refine Ev.step (fun k => signalbenchlaw16_NrziInverts.j2.eq_2 ..) ?_
  have last : ∀ i : Nat, 1 ≤ i → m.length ≤ i → Ev (fun k => signalbenchlaw16_NrziInverts.l0 k m m' (i : Int)) true := by
    intro i h1 h2
    refine Ev.step (fun k => signalbenchlaw16_NrziInverts.l0.eq_2 ..) ?_
    refine Ev.neg (by omega) ?_
    rcases hd with ⟨rfl, rfl⟩ | ⟨x, y, q, rfl, rfl, h3, h4⟩
    · exact Ev.pos rfl haw
    · have r1 : rd_T33 (x :: q) 0 = x := rdE_mid [] x q 0 rfl
      have r2 : rd_T33 (y :: q) 0 = y := rdE_mid [] y q 0 rfl
      rw [r1, r2, w64 (x := 1 - y.f3) (by omega) (by omega)]
      exact Ev.neg (by simp; omega) (Ev.pos (by simp) (Ev.pos (by simp) (Ev.pos h3 haw)))
  have key : ∀ (d i : Nat), 1 ≤ i → i + d = m.length → Ev (fun k => signalbenchlaw16_NrziInverts.l0 k m m' (i : Int)) true := by
    intro d
    induction d with
    | zero => intro i h1 h2; exact last i h1 (by omega)
    | succ d ih =>
      intro i h1 h2
      have hn := ih (i + 1) (by omega) (by omega)
      have hr : rd_T33 m (i : Int) = rd_T33 m' (i : Int) := by
        obtain ⟨j, rfl⟩ : ∃ j, i = j + 1 := ⟨i - 1, by omega⟩
        rcases hd with ⟨rfl, rfl⟩ | ⟨x, y, q, rfl, rfl, _⟩
        · rfl
        · simp [rd_T33]
      clear ih last
      refine Ev.step (fun k => signalbenchlaw16_NrziInverts.l0.eq_2 ..) ?_
      rw [hr, wnat (by omega)]
      exact Ev.pos (by omega) (Ev.pos (by omega) (Ev.pos (by omega) (Ev.neg (by simp) hn)))
  by_cases hm : 1 ≤ m.length
  · exact key (m.length - 1) 1 (by omega) (by omega)
  · exact last 1 (by omega) (by omega)
end NrziInverts_
theorem NrziInverts : signalbenchlaw16_NrziInverts.Pure := NrziInverts_.main
end Go.Proofs.Ytjgfhccibljkbaa.Pure
