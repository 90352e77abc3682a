/- Arguments that are structs of one-cell fields, and slices of them, opened to values and lists; the weights bound what they hold. No condition of its own. -/
import Derived.Test.YtmalhgidhieamaaDoorVWords
import Derived.Deep.Slices
import Derived.Deep.Fields
import Derived.ChangeSame
import Derived.ChangeArms
import Derived.ChangeShapes
import Derived.SizedLaws
import Derived.WideShapes
namespace Go.Proofs.YtmalhgidhieamaaDoorW.PrintWords
open Go.ChangeShapes Go.WideShapes Go.Deep Go.RowKit
theorem list1 {α : Type} {l : List α} {a0 : α} (h : l.length = 1) (h0 : l[0]? = some a0) : l = [a0] := by
  match l, h with
  | [b0], _ => simp at h0; subst h0; rfl
theorem list_succ {α : Type} {l : List α} {n : Nat} {a0 : α} {r : List α} (h : l.length = n + 1) (h0 : l[0]? = some a0) (hr : l.tail = r) : l = a0 :: r := by
  match l, h with
  | b0 :: t, _ => simp at h0 hr; subst h0; subst hr; rfl
theorem list_of_get {α : Type} {l r : List α} (h : l.length = r.length) (hg : ∀ j, j < r.length → l[j]? = r[j]?) : l = r := by
  apply List.ext_getElem?
  intro j
  by_cases hj : j < r.length
  · exact hg j hj
  · rw [List.getElem?_eq_none (by omega), List.getElem?_eq_none (by omega)]
section
variable {H : Type} {enc : TypeId × Value → H} {P : Program} {w : World} {base : Nat} {spare : Nat → Bool} {held : Bool} {t : TypeId} {fuel : Nat} {cs : List Value} {x : DataW H × List MemPlace}
theorem weightsAll_mem {e : TypeId} {n : Nat} {d : DataW H} (hn : n ∈ d.weights P e) : ∀ {ds : List (DataW H)}, d ∈ ds → n ∈ DataW.weightsAll P e ds
  | d0 :: r, h => by
    rcases List.mem_cons.1 h with rfl | h
    · simp [DataW.weightsAll, hn]
    · simp only [DataW.weightsAll, List.mem_append]
      exact .inr (weightsAll_mem hn h)
  | [], h => by cases h
theorem weight_field {fs : Array Field} (hu : P.underlying t = some (.struct fs)) {ys : List (DataW H × List MemPlace)} {j : Nat} {f : Field} {y : DataW H × List MemPlace} (hf : fs[j]? = some f) (hy : ys[j]? = some y) {n : Nat} (hn : n ∈ y.1.weights P f.type) :
    n ∈ (DataW.agg (ys.map (·.1))).weights P t := by
  have h : (DataW.agg (ys.map (·.1))).weights P t = DataW.weightsEach P (fs.toList.map (·.type)) (ys.map (·.1)) := by simp [DataW.weights, hu]
  rw [h]
  exact DataW.weights_mem_each (j := j) (by simp [hf]) (by simp [hy]) n hn
theorem struct_fields {fs : Array Field} (hs : P.underlying t = some (.struct fs)) (hone : oneCellFields P fs = true) (hC : P.cellsOf t = fs.size) (h : DataW.trod enc P w base spare held fuel t cs = some x) :
    ∃ (ys : List (DataW H × List MemPlace)) (n : Nat), x.1 = .agg (ys.map (·.1)) ∧ cs.length = fs.size ∧ ys.length = fs.size ∧
      ∀ (j : Nat) (f : Field), fs[j]? = some f → ∃ (v : Value) (y : DataW H × List MemPlace), cs[j]? = some v ∧ ys[j]? = some y ∧ DataW.trod enc P w base spare held n f.type [v] = some y := by
  obtain ⟨ys, n, _, hx, hcl, hyl, hf⟩ := DataW.trod_struct hs h
  rw [hC] at hcl
  refine ⟨ys, n, by rw [hx], hcl, hyl, fun j f hj => ?_⟩
  obtain ⟨ho, hk⟩ := hone_of hone j f hj
  have hjl : j < fs.size := (Array.getElem?_eq_some_iff.1 hj).1
  have h1 := hf j f hj
  rw [ho, hk] at h1
  have h2 : (cs.drop j).take 1 = [cs[j]'(by omega)] := by
    rw [List.drop_eq_getElem_cons (by omega)]
    rfl
  rw [h2] at h1
  have hys : ys[j]? = some (ys[j]'(by omega)) := List.getElem?_eq_getElem (by omega)
  exact ⟨_, _, List.getElem?_eq_getElem (by omega), hys, h1.trans hys⟩
theorem int_field {k : IntKind} {v : Value} {y : DataW H × List MemPlace} (hu : P.underlying t = some (.int k)) (h : DataW.trod enc P w base spare held fuel t [v] = some y) : ∃ n, v = .int k n ∧ (Lit.int k n).wf = true := by
  obtain ⟨n, hc, _, hw⟩ := DataW.trod_int hu h
  exact ⟨n, by simpa using hc, hw⟩
theorem bool_field {v : Value} {y : DataW H × List MemPlace} (hu : P.underlying t = some .bool) (h : DataW.trod enc P w base spare held fuel t [v] = some y) : ∃ b, v = .bool b := by
  obtain ⟨b, hc, _⟩ := DataW.trod_bool hu h
  exact ⟨b, by simpa using hc⟩
theorem string_field {v : Value} {y : DataW H × List MemPlace} (hu : P.underlying t = some .string) (h : DataW.trod enc P w base spare held fuel t [v] = some y) : ∃ s : ByteArray, v = .string s ∧ s.size ∈ y.1.weights P t := by
  obtain ⟨s, hc, hy, _⟩ := DataW.trod_string hu h
  refine ⟨s, by simpa using hc, ?_⟩
  rw [hy]
  have h2 : s.data.toList.length = s.size := Array.length_toList
  simp [DataW.weights]
theorem int_arg {k : IntKind} {r : Reach} {b0 : Nat} {v : Value} {d : DataW H} {ps : List MemPlace} (hu : P.underlying t = some (.int k)) (hv : Value.okWide P w r b0 t v) (h : DataW.Trod enc P w base spare held t v d ps) : ∃ n, v = .int k n ∧ (Lit.int k n).wf = true := by
  obtain ⟨n, hv, _, _, hw⟩ := open_int hu hv h
  exact ⟨n, hv, hw⟩
theorem bool_arg {r : Reach} {b0 : Nat} {v : Value} {d : DataW H} {ps : List MemPlace} (hu : P.underlying t = some .bool) (hv : Value.okWide P w r b0 t v) (h : DataW.Trod enc P w base spare held t v d ps) : ∃ b, v = .bool b := by
  obtain ⟨b, hv, _, _⟩ := open_bool hu hv h
  exact ⟨b, hv⟩
theorem string_arg {r : Reach} {b0 : Nat} {v : Value} {d : DataW H} {ps : List MemPlace} (hu : P.underlying t = some .string) (hv : Value.okWide P w r b0 t v) (h : DataW.Trod enc P w base spare held t v d ps) (hw : ∀ n ∈ d.weights P t, n ≤ reachBytes) : ∃ s : ByteArray, v = .string s ∧ s.size ≤ 140737488351232 := by
  obtain ⟨s, rfl⟩ := okWide_string hu hv
  obtain ⟨m, hf⟩ := h
  obtain ⟨s', hv, hm⟩ := string_field hu (v := .string s) hf
  injection hv with hv
  subst hv
  exact ⟨s, rfl, hw _ hm⟩
/-- A slice whose elements read as x's of the kind d. -/
theorem slice_arg {α : Type} (d : Kd α) (Good : α → Prop) {e B : Nat} (hu : P.underlying t = some (.slice e)) (hC : P.cellsOf e = d.sz) (hB : P.bytesOf e = B)
    (hread : ∀ {fuel : Nat} {cs : List Value} {x : DataW H × List MemPlace}, DataW.trod enc P w base spare held fuel e cs = some x → (∀ n ∈ x.1.weights P e, n ≤ reachBytes) → ∃ s, d.K w s cs ∧ Good s)
    {r : Reach} {b0 : Nat} {v : Value} {dd : DataW H} {ps : List MemPlace} (hv : Value.okWide P w r b0 t v) (h : DataW.Trod enc P w base spare held t v dd ps) (hw : ∀ n ∈ dd.weights P t, n ≤ reachBytes) :
    ∃ (A : Option Addr) (c : Nat) (l : List α), v = .slice A l.length c ∧ d.C w A l.length l ∧ l.length ≤ c ∧ l.length ≤ maxLen ∧ l.length * B ≤ 140737488351232 ∧ ∀ s ∈ l, Good s := by
  obtain ⟨A, n, c, rfl⟩ := okWide_slice hu hv
  obtain ⟨fuel, hf⟩ := h
  rcases open_slice hu hf with ⟨hcs, _⟩ | ⟨a, len, cap, m, n', D, Pl, hcs, _, hl, hm, hmm, hx, hi⟩
  · simp [Value.cells] at hcs
    obtain ⟨rfl, rfl, rfl⟩ := hcs
    exact ⟨none, 0, [], rfl, ⟨rfl, by simp, fun h => absurd h (by simp)⟩, Nat.le_refl _, by simp, by simp, fun s hs => by cases hs⟩
  · simp [Value.cells] at hcs
    obtain ⟨rfl, rfl, rfl⟩ := hcs
    obtain ⟨hx, _⟩ := Prod.mk.inj hx
    have hnm : n ≤ m := by rw [hmm]; split <;> omega
    have hwt : dd.weights P t = (n + (m - n)) * P.bytesOf e :: (DataW.weightsAll P e ((List.range n).map D) ++ DataW.weightsAll P e ((List.range (m - n)).map fun j => D (n + j))) := by
      rw [hx]; simp [DataW.weights, hu]
    have hel : ∀ i : Fin n, ∃ s, Good s ∧ ∃ cs', d.K w s cs' ∧ w.cells? base (a.add (i.1 * d.sz)) d.sz = some cs' := by
      intro i
      obtain ⟨cs', hc, ht⟩ := hi i.1 (by omega)
      rw [hC] at hc
      obtain ⟨s, hk, hg⟩ := hread ht (fun q hq => hw q (by
        rw [hwt]
        refine List.mem_cons_of_mem _ (List.mem_append.2 (.inl (weightsAll_mem hq (List.mem_map.2 ⟨i.1, List.mem_range.2 i.2, rfl⟩)))))
        )
      exact ⟨s, hg, cs', hk, hc⟩
    obtain ⟨f, hf2⟩ := Classical.axiomOfChoice hel
    have hlen : (List.ofFn f).length = n := List.length_ofFn
    have hbytes : n * B ≤ reachBytes := by
      have h1 := hw ((n + (m - n)) * P.bytesOf e) (by rw [hwt]; exact List.mem_cons_self)
      rw [hB] at h1
      exact Nat.le_trans (Nat.mul_le_mul_right _ (by omega)) h1
    refine ⟨some a, c, List.ofFn f, by rw [hlen], ⟨rfl, ?_, fun _ => ⟨a, rfl, fun j p hj => ?_⟩⟩, by rw [hlen]; exact hl, by rw [hlen]; omega, by rw [hlen]; exact hbytes, ?_⟩
    · rw [hlen]; unfold maxLen at hm; omega
    · obtain ⟨hjl, hp⟩ := List.getElem?_eq_some_iff.1 hj
      rw [hlen] at hjl
      rw [List.getElem_ofFn] at hp
      obtain ⟨_, cs', hk, hc⟩ := hf2 ⟨j, hjl⟩
      rw [hp] at hk
      obtain ⟨_, hcl, hat⟩ := World.cells?_some hc
      refine ⟨cs', hcl, hk, fun i u hu => ?_⟩
      have hil : i < d.sz := by rw [← hcl]; exact (List.getElem?_eq_some_iff.1 hu).1
      rw [← Go.Deep.add_add, hat i hil, hu]
    · intro s hs
      obtain ⟨i, rfl⟩ := List.mem_ofFn.1 hs
      exact (hf2 i).1
end
end Go.Proofs.YtmalhgidhieamaaDoorW.PrintWords
