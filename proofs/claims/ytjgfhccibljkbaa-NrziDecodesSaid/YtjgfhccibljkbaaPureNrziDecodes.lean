/- The law NrziDecodes holds as a statement on numbers and lists: the events, step by step and together, are those of the reference. No condition beyond those of the statement. -/
import Derived.Test.YtjgfhccibljkbaaPNrziDecodesx9
import Derived.Test.YtjgfhccibljkbaaSpecBytes
namespace Go.Proofs.Ytjgfhccibljkbaa.Pure
open Go.RowKit Go.Proofs.Ytjgfhccibljkbaa.PNrziDecodes Go.Proofs.YtjgfhccibljkbaaW.PrintWords Go.Proofs.YtjgfhccibljkbaaW.PrintLast Go.Proofs.Ytjgfhccibljkbaa.Aid
set_option linter.unusedVariables false
set_option linter.unusedSimpArgs false
namespace NrziDecodes_
theorem rdI_mid (pre : List S44) (x : S44) (post : List S44) (i : Nat) (h : i = pre.length) : rd_T44 (pre ++ x :: post) (i : Int) = x := by
  subst h; simp [rd_T44]
theorem rdE_mid (pre : List S33) (x : S33) (post : List S33) (i : Nat) (h : i = pre.length) : rd_T33 (pre ++ x :: post) (i : Int) = x := by
  subst h; simp [rd_T33]
def validE (a b c d e : Int) (s : ByteArray) (f : Int) : Bool :=
  decide (1 ≤ a ∧ a ≤ 8 ∧ 0 ≤ b ∧ b ≤ c ∧ c ≤ 1099511627776 ∧ -9007199254740992 ≤ d ∧ d ≤ 9007199254740992 ∧ -9007199254740992 ≤ e ∧ e ≤ 9007199254740992 ∧ s.size ≤ 4096 ∧ 0 ≤ f ∧ f ≤ 12)
theorem ev_event_Valid (a b c d e : Int) (s : ByteArray) (f : Int) : Ev (fun k => event_Valid.f k a b c d e s f) (validE a b c d e s f) := by
  refine ⟨2, fun k hk => ?_⟩
  obtain ⟨m, rfl⟩ : ∃ m, k = m + 2 := ⟨k - 2, by omega⟩
  simp only [event_Valid.f, event_Valid.j0, event_Valid.j1, validE, decide_eq_true_eq, ↓reduceIte]
  repeat' split
  all_goals first
    | (rw [decide_eq_false (by omega)])
    | (congr 1; rw [decide_eq_decide]; omega)
def meanN (z ch : Bool) : Int := if (ch != z) = true then 1 else 0
theorem nrzi_mean (z ch : Bool) : nrzi_meaning.f z ch = some (meanN z ch) := by
  unfold nrzi_meaning.f meanN
  split <;> rfl
/-- Is an event accepted behind one that began at a time? -/
def accN (at_ : Int) (e : S33) : Bool := decide (e.f0 = 2) && (validE e.f0 e.f1 e.f2 e.f3 e.f4 e.f5 e.f6 && (decide (at_ ≤ e.f1) && (decide (e.f3 = 0) || decide (e.f3 = 1))))
theorem accN_ok {at_ : Int} {e : S33} (h : accN at_ e = true) : e.f0 = 2 ∧ validE e.f0 e.f1 e.f2 e.f3 e.f4 e.f5 e.f6 = true ∧ at_ ≤ e.f1 ∧ (e.f3 = 0 ∨ e.f3 = 1) := by
  simpa [accN] using h
theorem ev_accN (a0 at_ a2 a3 a4 a5 p : Int) (s : ByteArray) (e : S33) : Ev (fun k => nrzi_accepts.f k a0 at_ a2 a3 a4 a5 p s e.f0 e.f1 e.f2 e.f3 e.f4 e.f5 e.f6) (accN at_ e) := by
  have hv := ev_event_Valid e.f0 e.f1 e.f2 e.f3 e.f4 e.f5 e.f6
  unfold nrzi_accepts.f accN
  refine Ev.ite (fun h => ?_) (fun h => ?_)
  · rw [decide_eq_true h, Bool.true_and]
    refine Ev.bind hv (Ev.ite (fun h2 => ?_) (fun h2 => ?_))
    · rw [h2, Bool.true_and]
      refine Ev.ite (fun h3 => ?_) (fun h3 => ?_)
      · rw [decide_eq_true (show at_ ≤ e.f1 by omega), Bool.true_and]
        refine Ev.ite (fun h4 => ?_) (fun h4 => ?_)
        · rw [decide_eq_true h4, Bool.true_or]; exact Ev.now _
        · rw [decide_eq_false h4, Bool.false_or]
          have : (e.f3 == 1) = decide (e.f3 = 1) := rfl
          rw [this]; exact Ev.now _
      · rw [decide_eq_false (show ¬ at_ ≤ e.f1 by omega), Bool.false_and]; exact Ev.now _
    · rw [Bool.eq_false_iff.mpr h2, Bool.false_and]; exact Ev.now _
  · rw [decide_eq_false h, Bool.false_and]; exact Ev.now _
def outN (z : Bool) (p : Int) (e : S33) : S33 := ⟨2, e.f1, e.f2, meanN z (e.f3 != p), e.f4, (⟨#[]⟩ : ByteArray), e.f6⟩
theorem ev_stepN (z : Bool) (at_ p : Int) (e : S33) : Ev (fun k => nrzi_Step.f k z 0 at_ 0 0 0 0 p ⟨#[]⟩ e.f0 e.f1 e.f2 e.f3 e.f4 e.f5 e.f6) (if accN at_ e = true then (0, e.f1, 0, 0, 0, 0, e.f3, ⟨#[]⟩, [outN z p e]) else (0, at_, 0, 0, 0, 0, p, ⟨#[]⟩, [])) := by
  unfold nrzi_Step.f
  refine Ev.bind (ev_accN 0 at_ 0 0 0 0 p ⟨#[]⟩ e) (Ev.ite (fun h => ?_) (fun h => ?_))
  · rw [if_pos h, nrzi_mean]
    exact Ev.sbind (Ev.now _)
  · rw [if_neg h]; exact Ev.now _
/-- What is decoded behind an event's time and a bit. -/
def decN (z : Bool) : Int → Int → List S33 → List S33
  | _, _, [] => []
  | at_, p, e :: l => if accN at_ e = true then outN z p e :: decN z e.f1 e.f3 l else decN z at_ p l
theorem decN_len (z : Bool) : ∀ (l : List S33) (a p : Int), (decN z a p l).length ≤ l.length
  | [], _, _ => Nat.le_refl _
  | e :: l, a, p => by
    unfold decN
    split
    · simpa using decN_len z l e.f1 e.f3
    · exact Nat.le_trans (decN_len z l a p) (by simp)
theorem ev_DecodeN (z : Bool) (l : List S33) (hl : l.length < 1000000) : Ev (fun k => nrzi_Decode.f k z l) (decN z 0 1 l) := by
  have key : ∀ (q pre out : List S33) (at_ p : Int) (i : Nat), l = pre ++ q → i = pre.length → out.length ≤ i → Ev (fun k => nrzi_Decode.l0 k out l (l.length : Int) (i : Int) z 0 at_ 0 0 0 0 p ⟨#[]⟩) (out ++ decN z at_ p q) := by
    intro q
    induction q with
    | nil =>
      intro pre out at_ p i he hi ho
      rw [List.append_nil] at he
      have hi' : i = l.length := by rw [hi, he]
      clear he
      unfold decN
      refine Ev.step (fun k => nrzi_Decode.l0.eq_2 ..) ?_
      refine Ev.neg (by omega) (Ev.sbind (Ev.pos (by rw [List.length_nil]; omega) (Ev.now _)))
    | cons e q ih =>
      intro pre out at_ p i he hi ho
      have hlen : l.length = i + (q.length + 1) := by rw [he, hi, List.length_append, List.length_cons]
      have hx : rd_T33 l (i : Int) = e := by rw [he]; exact rdE_mid pre e q i hi
      have ih2 := fun out' a' p' => ih (pre ++ [e]) out' a' p' (i + 1) (by rw [he]; simp) (by simp [hi])
      clear ih he
      have hs := ev_stepN z at_ p e
      refine Ev.step (fun k => nrzi_Decode.l0.eq_2 ..) ?_
      rw [hx, wnat (by omega), decN]
      refine Ev.pos (by omega) (Ev.pos (by omega) (Ev.pos (by omega) (Ev.bind hs ?_)))
      by_cases ha : accN at_ e = true
      · rw [if_pos ha, if_pos ha]
        refine Ev.pos (by rw [List.length_singleton]; omega) ?_
        have := ih2 (out ++ [outN z p e]) e.f1 e.f3 (by simp; omega)
        rw [List.append_assoc] at this
        exact this
      · rw [if_neg ha, if_neg ha]
        refine Ev.pos (by rw [List.length_nil]; omega) ?_
        rw [List.append_nil]
        exact ih2 out at_ p (by omega)
  have := key l [] [] 0 1 0 rfl rfl (by simp)
  exact this
/-- Two lists of events that are one. -/
theorem ev_Same (l : List S33) (hl : l.length < 1000000) : Ev (fun k => signalbenchref07_Same.f k l l) true := by
  unfold signalbenchref07_Same.f
  refine Ev.pos rfl ?_
  refine Ev.step (fun k => signalbenchref07_Same.j0.eq_2 ..) ?_
  have key : ∀ (d i : Nat), i + d = l.length → Ev (fun k => signalbenchref07_Same.l0 k l l (i : Int)) true := by
    intro d
    induction d with
    | zero =>
      intro i h
      refine Ev.step (fun k => signalbenchref07_Same.l0.eq_2 ..) ?_
      exact Ev.neg (by omega) (Ev.now _)
    | succ d ih =>
      intro i h
      refine Ev.step (fun k => signalbenchref07_Same.l0.eq_2 ..) ?_
      rw [wnat (by omega)]
      exact Ev.pos (by omega) (Ev.pos (by omega) (Ev.pos (by omega) (Ev.neg (by simp) (ih (i + 1) (by omega)))))
  exact key l.length 0 (by omega)
def smallE (l : List S33) : Bool := decide (l.length ≤ 40) && l.all fun x => decide (x.f5.size ≤ 20)
theorem ev_small (l : List S33) : Ev (fun k => signalbenchlaw16_small.f k l) (smallE l) := by
  unfold signalbenchlaw16_small.f smallE
  refine Ev.ite (fun h => ?_) (fun h => ?_)
  · rw [decide_eq_false (by omega), Bool.false_and]; exact Ev.now _
  rw [decide_eq_true (show l.length ≤ 40 by omega), Bool.true_and]
  refine Ev.step (fun k => signalbenchlaw16_small.j0.eq_2 ..) ?_
  have key : ∀ (m pre : List S33) (i : Nat), l = pre ++ m → i = pre.length → Ev (fun k => signalbenchlaw16_small.l0 k l (i : Int)) (m.all fun x => decide (x.f5.size ≤ 20)) := by
    intro m
    induction m with
    | nil =>
      intro pre i he hi
      rw [List.append_nil] at he
      refine Ev.step (fun k => signalbenchlaw16_small.l0.eq_2 ..) ?_
      exact Ev.neg (by rw [he]; omega) (Ev.now _)
    | cons x m ih =>
      intro pre i he hi
      have hlen : l.length = i + (m.length + 1) := by rw [he, hi, List.length_append, List.length_cons]
      have hx : rd_T33 l (i : Int) = x := by rw [he]; exact rdE_mid pre x m i hi
      have ih2 := ih (pre ++ [x]) (i + 1) (by rw [he]; simp) (by simp [hi])
      clear ih he
      refine Ev.step (fun k => signalbenchlaw16_small.l0.eq_2 ..) ?_
      rw [hx, wnat (by omega), List.all_cons]
      refine Ev.pos (by omega) (Ev.pos (by omega) (Ev.ite (fun hb => ?_) (fun hb => ?_)))
      · rw [decide_eq_false (by omega), Bool.false_and]; exact Ev.now _
      · rw [decide_eq_true (show x.f5.size ≤ 20 by omega), Bool.true_and]; exact ih2
  exact key l [] 0 rfl rfl
theorem ev_awake : Ev (fun k => signalbenchlaw16_awake.f k) true := by
  refine Ev.of (fun k => signalbenchlaw16_awake.mono k) (k := 80) ?_
  decide +kernel
theorem ref_Valid (e : S33) : signalbenchref07_Valid.f e.f0 e.f1 e.f2 e.f3 e.f4 e.f5 e.f6 = some (validE e.f0 e.f1 e.f2 e.f3 e.f4 e.f5 e.f6) := by
  unfold signalbenchref07_Valid.f validE
  repeat' split
  all_goals first
    | (rw [decide_eq_false (by omega)])
    | (congr 1; rw [decide_eq_decide]; omega)
theorem ref_acc (at_ : Int) (e : S33) : signalbenchref16_Accepts.f e.f0 e.f1 e.f2 e.f3 e.f4 e.f5 e.f6 at_ = some (accN at_ e) := by
  unfold signalbenchref16_Accepts.f accN
  rw [ref_Valid, Option.bind_some]
  cases validE e.f0 e.f1 e.f2 e.f3 e.f4 e.f5 e.f6
  · simp
  · rw [if_pos rfl]
    by_cases h0 : e.f0 = 2
    · rw [if_pos h0, decide_eq_true h0]
      by_cases h1 : e.f1 ≥ at_
      · rw [if_pos h1, decide_eq_true (show at_ ≤ e.f1 by omega)]
        by_cases h3 : e.f3 = 0
        · rw [if_pos h3, decide_eq_true h3]; rfl
        · rw [if_neg h3, decide_eq_false h3]; rfl
      · rw [if_neg h1, decide_eq_false (show ¬ at_ ≤ e.f1 by omega)]; rfl
    · rw [if_neg h0, decide_eq_false h0]; rfl
theorem ref_step (z : Bool) (at_ p : Int) (e : S33) : signalbenchref16_Step.f z 0 at_ 0 0 0 0 p ⟨#[]⟩ e.f0 e.f1 e.f2 e.f3 e.f4 e.f5 e.f6 = some (if accN at_ e = true then (0, e.f1, 0, 0, 0, 0, e.f3, ⟨#[]⟩, [outN z p e]) else (0, at_, 0, 0, 0, 0, p, ⟨#[]⟩, [])) := by
  unfold signalbenchref16_Step.f
  rw [ref_acc, Option.bind_some]
  by_cases h : accN at_ e = true
  · rw [if_pos h, if_pos h]
    unfold outN meanN
    split <;> rfl
  · rw [if_neg h, if_neg h]
theorem ev_RefDecode (z : Bool) (l : List S33) (hl : l.length < 1000000) : Ev (fun k => signalbenchref16_Decode.f k z l) (decN z 0 1 l) := by
  have key : ∀ (q pre out : List S33) (at_ p : Int) (i : Nat), l = pre ++ q → i = pre.length → out.length ≤ i → Ev (fun k => signalbenchref16_Decode.l0 k l out (i : Int) z 0 at_ 0 0 0 0 p ⟨#[]⟩) (out ++ decN z at_ p q) := by
    intro q
    induction q with
    | nil =>
      intro pre out at_ p i he hi ho
      rw [List.append_nil] at he
      have hi' : i = l.length := by rw [hi, he]
      clear he
      unfold decN
      refine Ev.step (fun k => signalbenchref16_Decode.l0.eq_2 ..) ?_
      refine Ev.neg (by omega) (Ev.sbind (Ev.pos (by rw [List.length_nil]; omega) (Ev.now _)))
    | cons e q ih =>
      intro pre out at_ p i he hi ho
      have hlen : l.length = i + (q.length + 1) := by rw [he, hi, List.length_append, List.length_cons]
      have hx : rd_T33 l (i : Int) = e := by rw [he]; exact rdE_mid pre e q i hi
      have ih2 := fun out' a' p' => ih (pre ++ [e]) out' a' p' (i + 1) (by rw [he]; simp) (by simp [hi])
      clear ih he
      refine Ev.step (fun k => signalbenchref16_Decode.l0.eq_2 ..) ?_
      rw [hx, wnat (by omega), decN, ref_step]
      refine Ev.pos (by omega) (Ev.pos (by omega) (Ev.sbind ?_))
      by_cases ha : accN at_ e = true
      · rw [if_pos ha, if_pos ha]
        refine Ev.pos (by rw [List.length_singleton]; omega) ?_
        have := ih2 (out ++ [outN z p e]) e.f1 e.f3 (by simp; omega)
        rw [List.append_assoc] at this
        exact this
      · rw [if_neg ha, if_neg ha]
        refine Ev.pos (by rw [List.length_nil]; omega) ?_
        rw [List.append_nil]
        exact ih2 out at_ p (by omega)
  exact key l [] [] 0 1 0 rfl rfl (by simp)
theorem main : signalbenchlaw16_NrziDecodes.Pure := by
  intro z l _ _ _
  refine Ev.rounds (g := fun k => signalbenchlaw16_NrziDecodes.f k z l) ?_
  unfold signalbenchlaw16_NrziDecodes.f
  have haw : Ev (fun k => (signalbenchlaw16_awake.f k).bind fun t => some t) true := Ev.bind ev_awake (Ev.now true)
  refine Ev.bind (ev_small l) (Ev.ite (fun hs => ?_) (fun _ => haw))
  have hlen : l.length ≤ 40 := by unfold smallE at hs; rw [Bool.and_eq_true, decide_eq_true_eq] at hs; exact hs.1
  have hdl := decN_len z l 0 1
  refine Ev.step (fun k => signalbenchlaw16_NrziDecodes.j0.eq_2 ..) ?_
  refine Ev.sbind (Ev.sbind ?_)
  have key : ∀ (q pre : List S33) (at_ p : Int) (i : Nat), l = pre ++ q → i = pre.length → Ev (fun k => signalbenchlaw16_NrziDecodes.l0 k l (i : Int) z 0 at_ 0 0 0 0 p ⟨#[]⟩ 0 at_ 0 0 0 0 p ⟨#[]⟩) true := by
    intro q
    induction q with
    | nil =>
      intro pre at_ p i he hi
      rw [List.append_nil] at he
      have hi' : i = l.length := by rw [hi, he]
      clear he
      refine Ev.step (fun k => signalbenchlaw16_NrziDecodes.l0.eq_2 ..) ?_
      exact Ev.neg (by omega) (Ev.sbind (Ev.sbind (Ev.bind (ev_Same [] (by simp)) (Ev.pos rfl (Ev.bind (ev_DecodeN z l (by omega)) (Ev.bind (ev_RefDecode z l (by omega)) (Ev.bind (ev_Same _ (by omega)) (Ev.pos rfl haw))))))))
    | cons e q ih =>
      intro pre at_ p i he hi
      have hlen2 : l.length = i + (q.length + 1) := by rw [he, hi, List.length_append, List.length_cons]
      have hx : rd_T33 l (i : Int) = e := by rw [he]; exact rdE_mid pre e q i hi
      have ih2 := fun a' p' => ih (pre ++ [e]) a' p' (i + 1) (by rw [he]; simp) (by simp [hi])
      clear ih he
      refine Ev.step (fun k => signalbenchlaw16_NrziDecodes.l0.eq_2 ..) ?_
      rw [hx, wnat (by omega), ref_step]
      refine Ev.pos (by omega) (Ev.pos (by omega) (Ev.bind (ev_stepN z at_ p e) (Ev.sbind ?_)))
      by_cases ha : accN at_ e = true
      · rw [if_pos ha]
        exact Ev.bind (ev_Same _ (by simp)) (Ev.pos rfl (ih2 _ _))
      · rw [if_neg ha]
        exact Ev.bind (ev_Same _ (by simp)) (Ev.pos rfl (ih2 _ _))
  exact key l [] 0 1 0 rfl rfl
end NrziDecodes_
theorem NrziDecodes : signalbenchlaw16_NrziDecodes.Pure := NrziDecodes_.main
end Go.Proofs.Ytjgfhccibljkbaa.Pure
