/- append(b, c...) onto a row of bytes that came from a string (Kd.B): the result is such a row again. Condition: at most 2^47 bytes. -/
import Derived.Test.YtbggkaofkohecaaRowB
import Derived.Laws.AppendOwn
import Derived.Lib.FrozenHead
namespace Go.Proofs.YtbggkaofkohecaaW.PrintWords
open Go.RowKit
theorem numsL_ (k : IntKind) (xs : List Int) : (nums k xs).length = xs.length := by simp [nums]
theorem numsA_ (k : IntKind) (xs ys : List Int) : nums k (xs ++ ys) = nums k xs ++ nums k ys := by simp [nums]
theorem run_storeCells_atM (P : Program) (g o : Nat) (t : TypeId) (fz : Nat × Nat) : ∀ (vs : List Value) (i : Nat) (cur : Array Value) (w : World), w.heap[g]? = some (.cells cur t fz) → (fz.2 ≤ fz.1 ∨ cur.size ≤ fz.1) → o + i + vs.length ≤ cur.size → (∀ v ∈ vs, v.oneCell' = true) →
    (storeCells ⟨g, o, none⟩ vs i).run P w = .ok () (w.setRow g (cur.toList.take (o + i) ++ vs ++ cur.toList.drop (o + i + vs.length)).toArray)
  | [], i, cur, w, hg, _, _, _ => by
    simp only [storeCells, List.append_nil, List.length_nil, Nat.add_zero, List.take_append_drop, Array.toArray_toList]
    rw [setRow_self w g cur t fz hg]
    rfl
  | v :: rest, i, cur, w, hg, hfz, hl, h1 => by
    have hi : o + i < cur.size := by simp at hl; omega
    have hadd : (⟨g, o, none⟩ : Addr).add i = ⟨g, o + i, none⟩ := by unfold Addr.add; split <;> simp_all
    have hcell : w.cell? ⟨g, o + i, none⟩ = some cur[o + i] := by simp [World.cell?, hg, hi]
    have hfro : w.frozen? ⟨g, o + i, none⟩ = false := by
      obtain ⟨lo, hi'⟩ := fz
      simp only [World.frozen?, hg, Bool.and_eq_false_iff, decide_eq_false_iff_not]
      simp only at hfz
      omega
    have hst : (store ((⟨g, o, none⟩ : Addr).add i) v).run P w = .ok () (w.setRow g (cur.setIfInBounds (o + i) v)) := by
      rw [hadd, run_store P w _ v _ (h1 v (by simp)), hcell]
      simp [hfro, setCell_eq_setRow w g (o + i) cur t fz v hg]
    have ih := run_storeCells_atM P g o t fz rest (i + 1) (cur.setIfInBounds (o + i) v) (w.setRow g (cur.setIfInBounds (o + i) v)) (setRow_heap w g cur _ t _ hg) (by simpa using hfz) (by simp at hl ⊢; omega) (fun x hx => h1 x (by simp [hx]))
    simp only [storeCells, Sem.run_bind, hst, Result.andThen_ok, ih, setRow_setRow]
    congr 3
    have e := list_seg_step cur.toList (o + i) v rest (by simp at hl ⊢; omega)
    simpa [Array.toList_setIfInBounds, Nat.add_assoc] using e
namespace Kd
section
variable {P : Program} {ops : Array Oper} {rest : List Oper} {o : Oper} {a : Act} {Q : Exit → Act → World → Prop} {Kc : Act → World → Prop}
theorem B_append_run {W : World} {base e : Nat} (t ty : TypeId) {i0 : TypeInfo} {z : Value} (ht : P.underlying t = some (.slice e)) (hi : P.info? e = some i0) (hz : i0.zero = some z) (hs1 : i0.size = 1) (hb1 : i0.bytes = 1) (hzs : z.cells.size = 1)
    (v : Value) (xs ys : List Int) (A : Option Addr) (m c : Nat) (ok : Nat → Prop)
    (HO : B (Kd.int .u8) e W base ok v xs) (HR : ReadsRow (fun x cs => cs = [Value.int .u8 x]) 1 W A m ys) (hfresh : ∀ k, W.heap.size ≤ k → ok k) (hbase : base ≤ W.heap.size) (hl : xs.length + m ≤ 140737488355328) :
    ∃ v1 w1, (Builtin.append_ #[t, t] ty #[v, .slice A m c]).run P W = .ok v1 w1 ∧ B (Kd.int .u8) e w1 base ok v1 (xs ++ ys) ∧ W.grownBy w1 v.ownBlock ∧ (v1.ownBlock = v.ownBlock ∨ ∃ b, v1.ownBlock = some b ∧ W.heap.size ≤ b) := by
  have hm : ys.length = m := HR.1
  obtain ⟨h0, g, cap, cur, mk, rfl, hb, hg, hmk, hxc, hcm, hcs, htake⟩ := HO
  rcases A with _ | ad
  · have h0' : m = 0 := by
      rcases Nat.eq_zero_or_pos m with h0 | h0
      · exact h0
      · obtain ⟨ad, h, _⟩ := HR.2.2 h0
        cases h
    subst h0'
    obtain rfl : ys = [] := List.eq_nil_of_length_eq_zero hm
    refine ⟨.slice (some ⟨g, 0, none⟩) xs.length cap, W, ?_, by rw [List.append_nil]; exact ⟨h0, g, cap, cur, mk, rfl, hb, hg, hmk, hxc, hcm, hcs, htake⟩, World.grownBy.refl W _, .inl rfl⟩
    simp [Builtin.append_, run_underlying ht, sizeOf, typeInfo, hi, Builtin.lenOf, Builtin.firstCells, hxc, storeCells]
  · obtain ⟨news, hnr, hnc⟩ := ReadsRow.inner_ HR
    have hnl : news.length = m := by rw [hnr.1, hm, Nat.mul_one]
    have hne : news = nums .u8 ys := by
      refine List.ext_getElem? (fun j => ?_)
      by_cases hj : j < ys.length
      · have h2 := hnr.2 j _ (List.getElem?_eq_getElem hj)
        simp only [Nat.mul_one] at h2
        have h3 : ((news.drop j).take 1)[0]? = some (.int .u8 ys[j]) := by rw [h2]; rfl
        rw [List.getElem?_take, if_pos (by omega), List.getElem?_drop, Nat.add_zero] at h3
        rw [h3]; simp [nums, hj]
      · rw [List.getElem?_eq_none (by omega), List.getElem?_eq_none (by rw [numsL_]; omega)]
    have hone : ∀ u ∈ news, u.oneCell' = true := by
      intro u hu
      rw [hne] at hu
      obtain ⟨q, _, rfl⟩ := List.mem_map.1 hu
      rfl
    have hl1 : news.length = m * i0.size := by rw [hs1, hnl, Nat.mul_one]
    by_cases hroom : xs.length + m ≤ cap
    · have hf := run_firstCells_some (P := P) W i0.size m ad m c news hl1 hnc
      have hst := run_storeCells_atM P g (xs.length * i0.size) e mk news 0 cur W hg hmk (by rw [hs1, hnl]; omega) hone
      simp only [Nat.add_zero] at hst
      have hr : (Builtin.append_ #[t, t] ty #[.slice (some ⟨g, 0, none⟩) xs.length cap, .slice (some ad) m c]).run P W =
          .ok (.slice (some ⟨g, 0, none⟩) (xs.length + m) cap) (W.setRow g (cur.toList.take (xs.length * i0.size) ++ news ++ cur.toList.drop (xs.length * i0.size + news.length)).toArray) := by
        simp [Builtin.append_, run_underlying ht, sizeOf, typeInfo, hi, Builtin.lenOf, hroom, hf, Addr.add_lit, hst]
      refine ⟨_, _, hr, ⟨h0, g, cap, _, mk, by rw [List.length_append, hm], hb, setRow_heap W g cur _ e _ hg, ?_, by rw [List.length_append, hm]; exact hroom, hcm, ?_, ?_⟩, ⟨rfl, rfl, rfl, by simp, fun k _ hk => setRow_other W g k _ (fun e => hk (by simp [Value.ownBlock, e]))⟩, .inl rfl⟩
      · refine hmk.imp (fun h => h) (fun h => ?_)
        simp only [hs1, List.size_toArray, List.length_append, List.length_take, List.length_drop, Array.length_toList]
        omega
      · simp only [hs1, List.size_toArray, List.length_append, List.length_take, List.length_drop, Array.length_toList]
        omega
      · have h5 : cur.toList.take (xs.length * i0.size) = nums .u8 xs := by rw [hs1, Nat.mul_one]; exact htake
        rw [h5, hne, ← numsA_]
        have h6 : (xs ++ ys).length = (nums .u8 (xs ++ ys)).length := (numsL_ _ _).symm
        rw [h6]
        exact List.take_left
    · have hlx : (nums .u8 xs).length = xs.length * i0.size := by rw [numsL_, hs1, Nat.mul_one]
      have holds : ∀ j u, (nums .u8 xs)[j]? = some u → W.cell? ((⟨g, 0, none⟩ : Addr).add j) = some u := by
        intro j u hu
        have hadd : (⟨g, 0, none⟩ : Addr).add j = ⟨g, j, none⟩ := by unfold Addr.add; split <;> simp_all
        rw [hadd, cell_of_row W g j cur e mk hg]
        rw [← htake, List.getElem?_take] at hu
        split at hu
        · simpa using hu
        · cases hu
      have hr := run_append_grow (P := P) W t ty e i0 z ht hi hz ⟨g, 0, none⟩ xs.length cap (nums .u8 xs) hlx holds ad m c news hl1 hnc (by omega) (by omega) (growslice_fits (by omega) (by rw [hb1]; omega))
      have hge := grownCap_ge W (xs.length + m) cap e
      have hcm' : grownCap W (xs.length + m) cap e ≤ maxLen := grownCap_le_maxLen W (xs.length + m) cap e (by simp only [maxLen]; omega)
      refine ⟨_, _, hr, ⟨fun k hk => ?_, W.heap.size, _, _, (0, 0), by rw [List.length_append, hm], hbase, heap_alloc_new W.drew _, .inl (Nat.le_refl _), by rw [List.length_append, hm]; exact hge, hcm', ?_, ?_⟩, ⟨rfl, rfl, rfl, by simp, fun k hk _ => heap_alloc_old W.drew _ hk⟩, .inr ⟨_, rfl, Nat.le_refl _⟩⟩
      · have : W.heap.size = k := by simpa [Value.ownBlock] using hk
        exact hfresh k (by omega)
      · simp only [Array.size_append, List.size_toArray, size_zeroCells, hzs, numsL_, hnl]
        omega
      · simp only [Array.toList_append, List.append_assoc]
        rw [← List.append_assoc, hne, ← numsA_]
        have h6 : (xs ++ ys).length = (nums .u8 (xs ++ ys)).length := (numsL_ _ _).symm
        rw [h6]
        exact List.take_left
theorem B_append_rows_step (d : Kd Int) {Rr : Int → List Value → Prop} {w0 W : World} (base : Nat) (hw : Region.wanted o (yielded ops a.tmps) = true) (s x : Operand) (t e : TypeId) (z : Value) (bytes : Nat)
    (ho : o.op = .call { callee := .builtin .append, args := #[s, x], argTypes := #[t, t] })
    (ht : P.underlying t = some (.slice e)) (hinfo : (P.info? e).map (fun i => (i.zero, i.size, i.bytes)) = some (some z, 1, bytes)) (hz : z.cells.size = 1) (_hs0 : 0 < 1) (hb0 : 0 < bytes)
    (v : Value) (xs ys : List Int) (A : Option Addr) (m c : Nat) (ok okp : Nat → Prop) (hs : a.eval s = v) (hx : a.eval x = .slice A m c)
    (HO : B d e W base ok v xs) (HR : ReadsRow Rr 1 W A m ys) (hKM : ∀ x cs, Rr x cs → cs = [Value.int .u8 x]) (_hokp : ∀ k, okp k → ok k ∧ some k ≠ v.ownBlock) (hfresh : ∀ k, W.heap.size ≤ k → ok k)
    (HB : Below base w0 W) (hbase : base ≤ W.heap.size) (hl : (xs.length + m) * bytes ≤ 140737488355328)
    (h : ∀ v1 w1, B d e w1 base ok v1 (xs ++ ys) → Below base w0 w1 → W.grownBy w1 v.ownBlock → (v1.ownBlock = v.ownBlock ∨ ∃ b, v1.ownBlock = some b ∧ W.heap.size ≤ b) → Kc (a.put o.dst v1) w1) (hb1 : bytes = 1 := by rfl) :
    if Region.wanted o (yielded ops a.tmps) = true then Oper.wp P o a W Kc Q else Kc (a.put o.dst undef) W := by
  subst hb1
  obtain ⟨i0, hi, hzz⟩ := Option.map_eq_some_iff.1 hinfo
  simp only [Prod.mk.injEq] at hzz
  obtain ⟨hz0, hz1, hz2⟩ := hzz
  obtain ⟨v1, w1, hr1, h1, hg, hat⟩ := B_append_run (P := P) t o.type ht hi hz0 hz1 hz2 hz v xs ys A m c ok HO ⟨HR.1, HR.2.1, fun h => by obtain ⟨ad, h1, h2⟩ := HR.2.2 h; exact ⟨ad, h1, fun j p hj => by obtain ⟨c, hc1, hc2, hc3⟩ := h2 j p hj; exact ⟨c, hc1, hKM _ _ hc2, hc3⟩⟩⟩ hfresh hbase (by omega)
  rw [if_pos hw]
  unfold Oper.wp execOp
  simp only [ho, resolve, invoke, builtin, Sem.run_bind, Sem.run_pure, Result.andThen_ok, List.map_toArray, List.map_cons, List.map_nil, hs, hx, hr1]
  exact h v1 w1 h1 (HB.grown hg hbase (B_base HO)) hg hat
end
/-- A cut of a row of bytes of the call's own: none of its cells is frozen, whatever mark the row bears. -/
def D (_d : Kd Int) (e : Nat) (w : World) (base : Nat) (ok : Nat → Prop) (v : Value) (xs : List Int) : Prop :=
  (∀ k, v.ownBlock = some k → ok k) ∧ ∃ g off cap cur m, v = .slice (some ⟨g, off, none⟩) xs.length cap ∧ base ≤ g ∧ w.heap[g]? = some (.cells cur e m) ∧ (m.2 ≤ m.1 ∨ cur.size ≤ m.1) ∧ xs.length ≤ cap ∧ cap ≤ maxLen ∧ off + cap ≤ cur.size ∧ ∀ (j : Nat) (x : Int), xs[j]? = some x → cur[off + j]? = some (.int .u8 x)
section
variable {d : Kd Int} {e e' : Nat} {w w1 W W2 : World} {base : Nat} {ok ok' : Nat → Prop} {S : Nat → Prop} {u v v1 : Value} {xs : List Int}
theorem D_of_B (h : B d e w base ok v xs) : D d e w base ok v xs := by
  obtain ⟨h0, g, cap, cur, m, rfl, hb, hg, hm, hl, hc, hs, ht⟩ := h
  refine ⟨h0, g, 0, cap, cur, m, rfl, hb, hg, hm, hl, hc, by omega, fun j x hj => ?_⟩
  have hjl : j < xs.length := (List.getElem?_eq_some_iff.1 hj).1
  have h2 : (cur.toList.take xs.length)[j]? = some (.int .u8 x) := by rw [ht]; simp [nums, hj]
  rw [List.getElem?_take, if_pos hjl] at h2
  simpa using h2
theorem D_move (h : D d e w base ok v xs) (hm : ∀ k, v.ownBlock = some k → w1.heap[k]? = w.heap[k]?) : D d e w1 base ok v xs := by
  obtain ⟨h0, g, off, cap, cur, m, rfl, hb, hg, hr⟩ := h
  exact ⟨h0, g, off, cap, cur, m, rfl, hb, (hm g (by simp [Value.ownBlock])).trans hg, hr⟩
theorem D_in (h : D d e w base ok v xs) : ∀ k, v.ownBlock = some k → base ≤ k ∧ k < w.heap.size := by
  obtain ⟨h0, g, off, cap, cur, m, rfl, hb, hg, hr⟩ := h
  intro k hk
  have : g = k := by simpa [Value.ownBlock] using hk
  subst this
  exact ⟨hb, (Array.getElem?_eq_some_iff.1 hg).1⟩
theorem D_lt (h : D d e w base ok v xs) : ∀ k, v.ownBlock = some k → k < w.heap.size := fun k hk => (D_in h k hk).2
theorem D_base (h : D d e w base ok v xs) : ∀ k, v.ownBlock = some k → base ≤ k := fun k hk => (D_in h k hk).1
theorem D_below (h : D d e w base ok v xs) (hb : Below w.heap.size w w1) : D d e w1 base ok v xs := D_move h (fun k hk => hb.block k (D_in h k hk).2)
theorem D_alloc (h : D d e w base ok v xs) (o : Obj) : D d e (w.alloc o) base ok v xs := D_below h (below_alloc (Below.refl _ _) o)
theorem D_drew (h : D d e w base ok v xs) : D d e w.drew base ok v xs := D_below h (below_drew (Below.refl _ _))
theorem D_drewN (h : D d e w base ok v xs) (m : Nat) : D d e (w.drewN m) base ok v xs := D_below h (pw_below_drewN (Below.refl _ _) m)
theorem D_lower {base' : Nat} (h : D d e w base ok v xs) (hb : base' ≤ base) : D d e w base' ok v xs := by
  obtain ⟨h0, g, off, cap, cur, m, rfl, hb0, hr⟩ := h
  exact ⟨h0, g, off, cap, cur, m, rfl, Nat.le_trans hb hb0, hr⟩
theorem D_mono (h : D d e w base ok v xs) (hok : ∀ k, ok k → ok' k) : D d e w base ok' v xs := ⟨fun k hk => hok k (h.1 k hk), h.2⟩
theorem D_tell (h : D d e w base ok v xs) (hok : ∀ k, v.ownBlock = some k → ok' k) : D d e w base ok' v xs := ⟨hok, h.2⟩
theorem D_elder' (h : D d e w base ok v xs) (hbase : ∀ k, u.ownBlock = some k → w.heap.size ≤ k) (hb : Below w.heap.size w w1) : D d e w1 base (fun k => ok k ∧ some k ≠ u.ownBlock) v xs :=
  D_tell (D_below h hb) (fun k hk => ⟨h.1 k hk, fun he => by have h3 := D_lt h k hk; have h4 := hbase k he.symm; omega⟩)
theorem D_new' (h : D d e w1 W.heap.size ok v xs) (hlt : ∀ k, u.ownBlock = some k → k < W.heap.size) : D d e w1 W.heap.size (fun k => ok k ∧ some k ≠ u.ownBlock) v xs :=
  D_tell h (fun k hk => ⟨h.1 k hk, fun he => by have h3 := D_base h k hk; have h4 := hlt k he.symm; omega⟩)
theorem D_slice (h : D d e w base ok v xs) : ∃ A c, v = .slice A xs.length c ∧ xs.length ≤ c := by
  obtain ⟨h0, g, off, cap, cur, m, rfl, hb, hg, hm, hl, hr⟩ := h
  exact ⟨_, _, rfl, hl⟩
theorem D_typed (h : D d e w base ok v xs) : ∀ k, v.ownBlock = some k → ∃ cells m, w.heap[k]? = some (.cells cells e m) := by
  obtain ⟨h0, g, off, cap, cur, m, rfl, hb, hg, hr⟩ := h
  intro k hk
  have : g = k := by simpa [Value.ownBlock] using hk
  subst this
  exact ⟨cur, m, hg⟩
theorem D_ne (h : D d e w base ok v xs) {g t : Nat} {cells : Array Value} (hb : w.heap[g]? = some (.cells cells t (0, 0))) (ht : e ≠ t) : some g ≠ v.ownBlock := by
  intro he
  obtain ⟨cells', m, hc⟩ := D_typed h g he.symm
  rw [hb] at hc
  injection hc with hc
  injection hc with _ hc
  exact ht hc.symm
theorem D_types (h : D d e w base ok v xs) {g t : Nat} {cells : Array Value} (hb : w.heap[g]? = some (.cells cells t (0, 0))) (ht : ∀ q, q ∈ e :: d.E → q ≠ t) : D d e w base (fun k => ok k ∧ k ≠ g) v xs :=
  D_tell h (fun k hk => ⟨h.1 k hk, fun he => D_ne h hb (ht e List.mem_cons_self) (by rw [hk, he])⟩)
theorem D_far (h : D d e w base ok v xs) {p : Addr} (hok : ∀ k, ok k → k ≠ p.block) (u : Value) : D d e (w.setCell p u) base ok v xs := D_move h (fun k hk => Below.heap_setCell w p u k (hok k (h.1 k hk)))
theorem D_set (h : D d e w base ok v xs) {g t : Nat} {cells : Array Value} (hb : w.heap[g]? = some (.cells cells t (0, 0))) (ht : ∀ q, q ∈ e :: d.E → q ≠ t) (j : Nat) (u : Value) : D d e (w.setCell ⟨g, j, none⟩ u) base ok v xs :=
  D_move h (fun k hk => Below.heap_setCell w ⟨g, j, none⟩ u k (fun he => D_ne h hb (ht e List.mem_cons_self) (by rw [hk, he])))
theorem D_grown (h : D d e w base ok v xs) {row : Option Nat} (hg : w.grownBy w1 row) (hok : ∀ k, ok k → some k ≠ row) : D d e w1 base ok v xs := D_move h (fun k hk => hg.block k (D_lt h k hk) (hok k (h.1 k hk)))
theorem D_keep (h : D d e w base ok v xs) {g : Nat} (hk : KeepBut w w1 g none) (hok : ∀ k, ok k → k ≠ g) : D d e w1 base ok v xs := D_move h (fun k hk' => hk.2 k (D_lt h k hk') (hok k (h.1 k hk')) (by simp))
theorem D_kept (h : D d e W base ok v xs) (hk : Kept W W2 S) (hne : ∀ k, ok k → ¬ S k) : D d e W2 base ok v xs := D_move h (fun k hk' => hk.2 k (D_lt h k hk') (hne k (h.1 k hk')))
theorem D_keptB (h : D d e W base ok v xs) (hk : Kept W W2 S) (hne : ∀ k, ok k → ¬ S k) : D d e W2 base (fun k => ok k ∧ (¬ S k ∧ k < W.heap.size)) v xs :=
  D_tell (D_kept h hk hne) (fun k hk => ⟨h.1 k hk, hne k (h.1 k hk), D_lt h k hk⟩)
theorem D_after (h : D d e W base (fun k => ok k ∧ some k ≠ v.ownBlock) u xs) (hg : W.grownBy w1 v.ownBlock) (hat : v1.ownBlock = v.ownBlock ∨ ∃ b, v1.ownBlock = some b ∧ W.heap.size ≤ b) : D d e w1 base (fun k => ok k ∧ some k ≠ v1.ownBlock) u xs := by
  refine D_tell (D_move h (fun k hk => hg.block k (D_lt h k hk) (h.1 k hk).2)) (fun k hk => ⟨(h.1 k hk).1, fun he => ?_⟩)
  rcases hat with hat | ⟨b, hb, hle⟩
  · exact (h.1 k hk).2 (he.trans hat)
  · rw [hb] at he
    injection he with he
    have := D_lt h k hk
    omega
theorem D_tight (_hE : d.E = []) (h : D d e W base ok v xs) : D d e W base (fun k => some k = v.ownBlock) v xs := D_tell h (fun _ hk => hk.symm)
theorem D_away (h : D d e w base ok v xs) {g : Nat} (hok : ∀ k, ok k → k ≠ g) : some g ≠ v.ownBlock := fun he => hok g (h.1 g he.symm) rfl
theorem D_apart' (h : D d e W base ok u xs) (hty : ∀ k, v.ownBlock = some k → ∃ cells, W.heap[k]? = some (.cells cells e' (0, 0))) (ht : ∀ q, q ∈ e :: d.E → q ≠ e') : D d e W base (fun k => ok k ∧ some k ≠ v.ownBlock) u xs :=
  D_tell h (fun k hk => ⟨h.1 k hk, fun he => by obtain ⟨cells, hc⟩ := hty k he.symm; exact D_ne h hc (ht e List.mem_cons_self) hk.symm⟩)
theorem D_reads' {A : Option Addr} {n c : Nat} (h : D (Kd.int .u8) e w base ok (.slice A n c) xs) : n = xs.length ∧ n ≤ c ∧ (Kd.int .u8).C w A xs.length xs := by
  obtain ⟨h0, g, off, cap, cur, m, hv, hb, hg, hm, hl, hc, hs, ht⟩ := h
  injection hv with hA hn hcc
  subst hA; subst hn; subst hcc
  refine ⟨rfl, hl, rfl, by unfold maxLen at hc; omega, fun _ => ⟨_, rfl, fun j p hj => ⟨[.int .u8 p], rfl, rfl, fun i u hi => ?_⟩⟩⟩
  have hi0 : i = 0 := by
    cases i with
    | zero => rfl
    | succ i => simp at hi
  subst hi0
  have hu : u = .int .u8 p := by simpa using hi.symm
  subst hu
  have hadd : (⟨g, off, none⟩ : Addr).add (j * (Kd.int .u8).sz + 0) = ⟨g, off + j, none⟩ := by
    rw [show j * (Kd.int .u8).sz + 0 = j from by show j * 1 + 0 = j; omega]
    unfold Addr.add; split <;> simp_all
  rw [hadd, cell_of_row w g _ cur e m hg]
  exact ht j p hj
theorem D_reads (h : D d e w base ok v xs) : ∃ A c, v = .slice A xs.length c ∧ xs.length ≤ c ∧ (Kd.int .u8).C w A xs.length xs := by
  obtain ⟨A, c, rfl, hl⟩ := D_slice h
  exact ⟨A, c, rfl, hl, (D_reads' (e := e) h).2.2⟩
theorem D_string {P : Program} {src dst e1 : TypeId} (hs : P.underlying src = some (.slice e1)) (he : P.underlying e1 = some (.int .u8)) (hd : P.underlying dst = some .string) (h : D d e w base ok v xs) : (convert src dst v).run P w = .ok (.string (strOfNums xs)) w := by
  obtain ⟨A, c, rfl, _⟩ := D_slice h
  exact C_string hs he hd (D_reads' (e := e) h).2.2
theorem D_drop {A : Option Addr} {k n c : Nat} (h : D d e w base ok (.slice A n c) xs) (hk : k ≤ xs.length) : D d e w base ok (.slice (if c = k then A else A.map (·.add (k * 1))) (n - k) (c - k)) (xs.drop k) := by
  obtain ⟨h0, g, off, cap, cur, m, hv, hb, hg, hm, hl, hc, hs, ht⟩ := h
  injection hv with hA hn hcc
  subst hA; subst hn; subst hcc
  have hlen : (xs.drop k).length = xs.length - k := List.length_drop
  have hadd : (⟨g, off, none⟩ : Addr).add (k * 1) = ⟨g, off + k, none⟩ := by rw [Nat.mul_one]; unfold Addr.add; split <;> simp_all
  by_cases hck : c = k
  · rw [if_pos hck]
    refine ⟨fun q hq => h0 q hq, g, off, c - k, cur, m, by rw [hlen], hb, hg, hm, by omega, by omega, by omega, fun j x hj => ?_⟩
    have := (List.getElem?_eq_some_iff.1 hj).1
    omega
  · rw [if_neg hck]
    refine ⟨fun q hq => h0 q (by simpa [Value.ownBlock, add_block] using hq), g, off + k, c - k, cur, m, by rw [hlen]; simp only [Option.map_some, hadd], hb, hg, hm, by omega, by omega, by omega, fun j x hj => ?_⟩
    rw [List.getElem?_drop] at hj
    rw [Nat.add_assoc]
    exact ht _ _ hj
/- the same of a whole row -/
theorem B_tell (h : B d e w base ok v xs) (hok : ∀ k, v.ownBlock = some k → ok' k) : B d e w base ok' v xs := ⟨hok, h.2⟩
theorem B_tight (_hE : d.E = []) (h : B d e W base ok v xs) : B d e W base (fun k => some k = v.ownBlock) v xs := B_tell h (fun _ hk => hk.symm)
theorem B_types (h : B d e w base ok v xs) {g t : Nat} {cells : Array Value} (hb : w.heap[g]? = some (.cells cells t (0, 0))) (ht : ∀ q, q ∈ e :: d.E → q ≠ t) : B d e w base (fun k => ok k ∧ k ≠ g) v xs :=
  B_tell h (fun k hk => ⟨h.1 k hk, fun he => B_ne h hb (ht e List.mem_cons_self) (by rw [hk, he])⟩)
theorem B_far (h : B d e w base ok v xs) {p : Addr} (hok : ∀ k, ok k → k ≠ p.block) (u : Value) : B d e (w.setCell p u) base ok v xs := B_move h (fun k hk => Below.heap_setCell w p u k (hok k (h.1 k hk)))
theorem B_set (h : B d e w base ok v xs) {g t : Nat} {cells : Array Value} (hb : w.heap[g]? = some (.cells cells t (0, 0))) (ht : ∀ q, q ∈ e :: d.E → q ≠ t) (j : Nat) (u : Value) : B d e (w.setCell ⟨g, j, none⟩ u) base ok v xs :=
  B_move h (fun k hk => Below.heap_setCell w ⟨g, j, none⟩ u k (fun he => B_ne h hb (ht e List.mem_cons_self) (by rw [hk, he])))
theorem B_grown (h : B d e w base ok v xs) {row : Option Nat} (hg : w.grownBy w1 row) (hok : ∀ k, ok k → some k ≠ row) : B d e w1 base ok v xs := B_move h (fun k hk => hg.block k (B_lt h k hk) (hok k (h.1 k hk)))
theorem B_keep (h : B d e w base ok v xs) {g : Nat} (hk : KeepBut w w1 g none) (hok : ∀ k, ok k → k ≠ g) : B d e w1 base ok v xs := B_move h (fun k hk' => hk.2 k (B_lt h k hk') (hok k (h.1 k hk')) (by simp))
theorem B_kept (h : B d e W base ok v xs) (hk : Kept W W2 S) (hne : ∀ k, ok k → ¬ S k) : B d e W2 base ok v xs := B_move h (fun k hk' => hk.2 k (B_lt h k hk') (hne k (h.1 k hk')))
theorem B_keptB (h : B d e W base ok v xs) (hk : Kept W W2 S) (hne : ∀ k, ok k → ¬ S k) : B d e W2 base (fun k => ok k ∧ (¬ S k ∧ k < W.heap.size)) v xs :=
  B_tell (B_kept h hk hne) (fun k hk => ⟨h.1 k hk, hne k (h.1 k hk), B_lt h k hk⟩)
theorem B_after (h : B d e W base (fun k => ok k ∧ some k ≠ v.ownBlock) u xs) (hg : W.grownBy w1 v.ownBlock) (hat : v1.ownBlock = v.ownBlock ∨ ∃ b, v1.ownBlock = some b ∧ W.heap.size ≤ b) : B d e w1 base (fun k => ok k ∧ some k ≠ v1.ownBlock) u xs := by
  refine B_tell (B_move h (fun k hk => hg.block k (B_lt h k hk) (h.1 k hk).2)) (fun k hk => ⟨(h.1 k hk).1, fun he => ?_⟩)
  rcases hat with hat | ⟨b, hb, hle⟩
  · exact (h.1 k hk).2 (he.trans hat)
  · rw [hb] at he
    injection he with he
    have := B_lt h k hk
    omega
end
end Kd
end Go.Proofs.YtbggkaofkohecaaW.PrintWords
