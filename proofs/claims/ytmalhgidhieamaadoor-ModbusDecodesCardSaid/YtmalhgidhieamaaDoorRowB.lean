/- []byte(s): a row of bytes of the call's own that may bear a conversion's mark behind its cells. Condition: at most 2^47 bytes. -/
import Derived.Test.YtmalhgidhieamaaDoorVNEv
import Derived.Test.YtmalhgidhieamaaDoorVApart
import Derived.Test.YtmalhgidhieamaaDoorVMore
namespace Go.Proofs.YtmalhgidhieamaaDoorW.PrintWords
open Go.RowKit
theorem u8_w (n : Int) : IntKind.u8.wrap n = n % 256 := by rw [IntKind.wrap_u8]
theorem u32_w (n : Int) : IntKind.u32.wrap n = n % 4294967296 := by rw [IntKind.wrap_u32]
theorem w64_m8 (n : Int) : wrap64 (n % 256) = n % 256 := by unfold wrap64; omega
theorem w64_m32 (n : Int) : wrap64 (n % 4294967296) = n % 4294967296 := by unfold wrap64; omega
namespace Kd
/-- A row of bytes of the call's own: none of its cells is frozen, whatever mark lies behind them. -/
def B (_d : Kd Int) (e : Nat) (w : World) (base : Nat) (ok : Nat → Prop) (v : Value) (xs : List Int) : Prop :=
  (∀ k, v.ownBlock = some k → ok k) ∧ ∃ g cap cur m, v = .slice (some ⟨g, 0, none⟩) xs.length cap ∧ base ≤ g ∧ w.heap[g]? = some (.cells cur e m) ∧ (m.2 ≤ m.1 ∨ cur.size ≤ m.1) ∧ xs.length ≤ cap ∧ cap ≤ maxLen ∧ cur.size = cap ∧ cur.toList.take xs.length = nums .u8 xs
section
variable {d : Kd Int} {e : Nat} {w w1 : World} {base : Nat} {ok : Nat → Prop} {v : Value} {xs : List Int}
theorem B_move (h : B d e w base ok v xs) (hm : ∀ k, v.ownBlock = some k → w1.heap[k]? = w.heap[k]?) : B d e w1 base ok v xs := by
  obtain ⟨h0, g, cap, cur, m, rfl, hb, hg, hr⟩ := h
  exact ⟨h0, g, cap, cur, m, rfl, hb, (hm g (by simp [Value.ownBlock])).trans hg, hr⟩
theorem B_in (h : B d e w base ok v xs) : ∀ k, v.ownBlock = some k → base ≤ k ∧ k < w.heap.size := by
  obtain ⟨h0, g, cap, cur, m, rfl, hb, hg, hr⟩ := h
  intro k hk
  have : g = k := by simpa [Value.ownBlock] using hk
  subst this
  exact ⟨hb, (Array.getElem?_eq_some_iff.1 hg).1⟩
theorem B_lt (h : B d e w base ok v xs) : ∀ k, v.ownBlock = some k → k < w.heap.size := fun k hk => (B_in h k hk).2
theorem B_base (h : B d e w base ok v xs) : ∀ k, v.ownBlock = some k → base ≤ k := fun k hk => (B_in h k hk).1
theorem B_below (h : B d e w base ok v xs) (hb : Below w.heap.size w w1) : B d e w1 base ok v xs := B_move h (fun k hk => hb.block k (B_in h k hk).2)
theorem B_alloc (h : B d e w base ok v xs) (o : Obj) : B d e (w.alloc o) base ok v xs := B_below h (below_alloc (Below.refl _ _) o)
theorem B_drew (h : B d e w base ok v xs) : B d e w.drew base ok v xs := B_below h (below_drew (Below.refl _ _))
theorem B_drewN (h : B d e w base ok v xs) (m : Nat) : B d e (w.drewN m) base ok v xs := B_below h (pw_below_drewN (Below.refl _ _) m)
theorem B_lower {base' : Nat} (h : B d e w base ok v xs) (hb : base' ≤ base) : B d e w base' ok v xs := by
  obtain ⟨h0, g, cap, cur, m, rfl, hb0, hr⟩ := h
  exact ⟨h0, g, cap, cur, m, rfl, Nat.le_trans hb hb0, hr⟩
theorem B_mono {ok' : Nat → Prop} (h : B d e w base ok v xs) (hok : ∀ k, ok k → ok' k) : B d e w base ok' v xs := ⟨fun k hk => hok k (h.1 k hk), h.2⟩
theorem B_elder' {u : Value} (h : B d e w base ok v xs) (hbase : ∀ k, u.ownBlock = some k → w.heap.size ≤ k) (hb : Below w.heap.size w w1) : B d e w1 base (fun k => ok k ∧ some k ≠ u.ownBlock) v xs := by
  have h2 := B_below h hb
  refine ⟨fun k hk => ⟨h2.1 k hk, fun he => ?_⟩, h2.2⟩
  have h3 := B_lt h k hk
  have h4 := hbase k he.symm
  omega
theorem B_new' {W : World} {u : Value} (h : B d e w1 W.heap.size ok v xs) (hlt : ∀ k, u.ownBlock = some k → k < W.heap.size) : B d e w1 W.heap.size (fun k => ok k ∧ some k ≠ u.ownBlock) v xs := by
  refine ⟨fun k hk => ⟨h.1 k hk, fun he => ?_⟩, h.2⟩
  have h3 := B_base h k hk
  have h4 := hlt k he.symm
  omega
theorem B_slice (h : B d e w base ok v xs) : ∃ A c, v = .slice A xs.length c := by
  obtain ⟨h0, g, cap, cur, m, rfl, hr⟩ := h
  exact ⟨_, _, rfl⟩
theorem B_typed (h : B d e w base ok v xs) : ∀ k, v.ownBlock = some k → ∃ cells m, w.heap[k]? = some (.cells cells e m) := by
  obtain ⟨h0, g, cap, cur, m, rfl, hb, hg, hr⟩ := h
  intro k hk
  have : g = k := by simpa [Value.ownBlock] using hk
  subst this
  exact ⟨cur, m, hg⟩
theorem B_ne (h : B d e w base ok v xs) {g t : Nat} {cells : Array Value} (hb : w.heap[g]? = some (.cells cells t (0, 0))) (ht : e ≠ t) : some g ≠ v.ownBlock := by
  intro he
  obtain ⟨cells', m, hc⟩ := B_typed h g he.symm
  rw [hb] at hc
  injection hc with hc
  injection hc with _ hc
  exact ht hc.symm
theorem B_over' {e' : Nat} {u : Value} (h : B d e w base ok v xs) (hty : ∀ k, u.ownBlock = some k → ∃ cells, w.heap[k]? = some (.cells cells e' (0, 0))) (ht : ∀ q, q ∈ e :: d.E → q ≠ e') (hg : w.grownBy w1 u.ownBlock) : B d e w1 base ok v xs := by
  refine B_move h (fun k hk => hg.block k (B_in h k hk).2 (fun he => ?_))
  obtain ⟨cells, hc⟩ := hty k he.symm
  obtain ⟨cells', m, hc'⟩ := B_typed h k hk
  rw [hc] at hc'
  injection hc' with hc'
  injection hc' with _ hc'
  exact ht e (List.mem_cons_self) hc'.symm
theorem B_form (h : B d e w base ok v xs) (_hp : 0 < xs.length) : ∃ g cap, v = .slice (some ⟨g, 0, none⟩) xs.length cap ∧ base ≤ g ∧ g < w.heap.size ∧ ∃ cells m, w.heap[g]? = some (.cells cells e m) := by
  obtain ⟨h0, g, cap, cur, m, rfl, hb, hg, hr⟩ := h
  exact ⟨g, cap, rfl, hb, (Array.getElem?_eq_some_iff.1 hg).1, cur, m, hg⟩
theorem B_reads' {A : Option Addr} {n c : Nat} (h : B d e w base ok (.slice A n c) xs) : n = xs.length ∧ n ≤ c ∧ (Kd.int .u8).C w A xs.length xs := by
  obtain ⟨h0, g, cap, cur, m, hv, hb, hg, hm, hl, hc, hs, ht⟩ := h
  injection hv with hA hn hcc
  subst hA; subst hn; subst hcc
  refine ⟨rfl, hl, rfl, by unfold maxLen at hc; omega, fun _ => ⟨_, rfl, fun j p hj => ⟨[.int .u8 p], rfl, rfl, fun i u hi => ?_⟩⟩⟩
  have hi0 : i = 0 := by
    cases i with
    | zero => rfl
    | succ i => simp at hi
  subst hi0
  have hu : u = .int .u8 p := by simpa using hi.symm
  subst hu
  rw [add_plain]
  have hjl : j < xs.length := (List.getElem?_eq_some_iff.1 hj).1
  rw [show j * (Kd.int .u8).sz + 0 = j from by show j * 1 + 0 = j; omega, cell_of_row w g _ cur e m hg]
  have h2 : (cur.toList.take xs.length)[j]? = some (.int .u8 p) := by
    rw [ht]; simp [nums, hj]
  rw [List.getElem?_take, if_pos hjl] at h2
  simpa using h2
theorem B_string {P : Program} {src dst e1 : TypeId} (hs : P.underlying src = some (.slice e1)) (he : P.underlying e1 = some (.int .u8)) (hd : P.underlying dst = some .string) (h : B d e w base ok v xs) : (convert src dst v).run P w = .ok (.string (strOfNums xs)) w := by
  obtain ⟨A, c, rfl⟩ := B_slice h
  exact C_string hs he hd (B_reads' h).2.2
theorem B_celln {g n cap : Nat} (z : Int) (h : B d e w base ok (.slice (some ⟨g, 0, none⟩) n cap) xs) (i : Int) (h0 : 0 ≤ i) (hi : i < n) : w.cell? ⟨g, i.toNat, none⟩ = some (.int .u8 (rdOf z xs i)) ∧ w.frozen? ⟨g, i.toNat, none⟩ = false := by
  obtain ⟨_, g', cap', cur, m, hv, hb, hg, hm, hl, hc, hs, ht⟩ := h
  injection hv with hA hn hcc
  injection hA with hA
  injection hA with hA
  subst hA; subst hn; subst hcc
  have hjl : i.toNat < xs.length := by omega
  refine ⟨?_, ?_⟩
  · rw [cell_of_row w g _ cur e m hg]
    have h2 : (cur.toList.take xs.length)[i.toNat]? = some (.int .u8 (rdOf z xs i)) := by
      rw [ht]; simp [nums, rdOf, List.getElem?_eq_getElem hjl, List.getD_eq_getElem?_getD]
    rw [List.getElem?_take, if_pos hjl] at h2
    simpa using h2
  · obtain ⟨lo, hi2⟩ := m
    simp only [World.frozen?, hg]
    simp only at hm
    rcases hm with hm | hm
    · simp; omega
    · simp; omega
theorem B_putg {g n cap : Nat} (h : B d e w base ok (.slice (some ⟨g, 0, none⟩) n cap) xs) (i : Int) (x : Int) :
    B d e (w.setCell ⟨g, i.toNat, none⟩ (.int .u8 x)) base ok (.slice (some ⟨g, 0, none⟩) n cap) (xs.set i.toNat x) ∧ w.grownBy (w.setCell ⟨g, i.toNat, none⟩ (.int .u8 x)) (some g) := by
  obtain ⟨h0, g', cap', cur, m, hv, hb, hg, hm, hl, hc, hs, ht⟩ := h
  injection hv with hA hn hcc
  injection hA with hA
  injection hA with hA
  subst hA; subst hn; subst hcc
  refine ⟨⟨h0, g, cap, cur.setIfInBounds i.toNat (.int .u8 x), m, by rw [List.length_set], hb, ?_, by simpa using hm, by simpa using hl, hc, by simpa using hs, ?_⟩, ⟨rfl, rfl, rfl, by simp, fun k _ hk => heap_setCell_other w ⟨g, i.toNat, none⟩ k _ (fun e => hk (by simp [e]))⟩⟩
  · simp [World.setCell, Array.getElem?_modify, hg]
  · rw [Array.toList_setIfInBounds, List.length_set, List.take_set, ht]
    simp [nums, List.map_set]
theorem B_putn {g n cap : Nat} (h : B d e w base ok (.slice (some ⟨g, 0, none⟩) n cap) xs) (i : Int) (x : Int) : B d e (w.setCell ⟨g, i.toNat, none⟩ (.int .u8 x)) base ok (.slice (some ⟨g, 0, none⟩) n cap) (xs.set i.toNat x) := (B_putg h i x).1
theorem B_away (h : B d e w base ok v xs) {g : Nat} (hg : ∀ k, ok k → k ≠ g) : some g ≠ v.ownBlock := fun he => hg g (h.1 g he.symm) rfl
end
section
variable {α : Type} {d : Kd α} {e e' : Nat} {W w1 : World} {base : Nat} {ok : Nat → Prop} {u v : Value} {xs : List α}
theorem R_overM' (h : d.R e W base ok u xs) (hty : ∀ k, v.ownBlock = some k → ∃ cells m, W.heap[k]? = some (.cells cells e' m)) (ht : ∀ q, q ∈ e :: d.E → q ≠ e') (hg : W.grownBy w1 v.ownBlock) : d.R e w1 base ok u xs := by
  refine R_mono (R_move (R_bound h) (fun k hk => hg.block k hk.2.2.1 (fun he => ?_))) (fun _ hk => hk.1)
  obtain ⟨_, _, _, q, hq, cells, hc⟩ := hk
  obtain ⟨cells', m, hc'⟩ := hty k he.symm
  rw [hc] at hc'
  injection hc' with hc'
  injection hc' with _ hc'
  exact ht q hq hc'
theorem S_overM' (h : S d e W base ok u xs) (hty : ∀ k, v.ownBlock = some k → ∃ cells m, W.heap[k]? = some (.cells cells e' m)) (ht : ∀ q, q ∈ e :: d.E → q ≠ e') (hg : W.grownBy w1 v.ownBlock) : S d e w1 base ok u xs := by
  obtain ⟨f, h⟩ := h
  exact ⟨f, R_overM' h hty ht hg⟩
end
section
variable {P : Program} {ops : Array Oper} {rest : List Oper} {o : Oper} {a : Act} {Q : Exit → Act → World → Prop} {Kc : Act → World → Prop}
theorem B_made {W : World} {base e : Nat} {ok : Nat → Prop} (s : ByteArray) (hsz : s.size ≤ 140737488355328) (hfresh : ok W.heap.size) (hbase : base ≤ W.heap.size) :
    B (Kd.int .u8) e (Lib.bytesWorld W e s) base ok (.slice (some ⟨W.heap.size, 0, none⟩) s.size (grownCap W s.size 0 e)) (bytesOf s) := by
  have hge := grownCap_ge W s.size 0 e
  have hl := bytesOf_length s
  refine ⟨fun k hk => ?_, W.heap.size, grownCap W s.size 0 e, Lib.bytesCells W e s, _, by rw [hl], hbase, Lib.bytesWorld_at_new W e s, .inr (Nat.le_refl _), by rw [hl]; exact hge, grownCap_le_maxLen _ _ _ _ (by simp [maxLen]; omega), ?_, ?_⟩
  · have : W.heap.size = k := by simpa [Value.ownBlock] using hk
    subst this
    exact hfresh
  · have h2 : s.data.size = s.size := rfl
    simp only [Lib.bytesCells, Array.size_append, Array.size_map, Array.size_replicate, h2]
    omega
  · have h2 : s.data.toList.length = s.size := Array.length_toList
    simp only [Lib.bytesCells, Array.toList_append, Array.toList_map, Array.toList_replicate]
    rw [List.take_append_of_le_length (by rw [List.length_map, hl, h2]; exact Nat.le_refl _), List.take_of_length_le (by rw [List.length_map, hl, h2]; exact Nat.le_refl _)]
    simp [nums, bytesOf]
theorem B_conv {w0 W : World} (base e : Nat) (hgd : o.guard = none) {N : Tmp} (_hd : o.dst = some N) (src dst : TypeId) (x : Operand) (ho : o.op = .convert src dst x) (s : ByteArray) (hx : a.eval x = .string s) {u : TypeDesc}
    (hs : P.underlying src = some u) (hd : P.underlying dst = some (.slice e)) (he : P.underlying e = some (.int .u8)) (hsz : s.size ≤ 140737488355328) {ok : Nat → Prop} (hfresh : ok W.heap.size) (HB : Below base w0 W) (hbase : base ≤ W.heap.size)
    (h : ∀ v1 w1, B (Kd.int .u8) e w1 base ok v1 (bytesOf s) → Below base w0 w1 → W.grownBy w1 none → (∃ b, v1.ownBlock = some b ∧ W.heap.size ≤ b) → wpList P ops Q rest (a.put o.dst v1) w1) : wpList P ops Q (o :: rest) a W := by
  refine event_run hgd ?_ (h _ _ (B_made s hsz hfresh hbase) (bytes_below HB hbase e s) ⟨rfl, rfl, rfl, by rw [Lib.bytesWorld_size]; omega, fun k hk _ => Lib.bytesWorld_at_old W e s k hk⟩ ⟨W.heap.size, by simp [Value.ownBlock], Nat.le_refl _⟩)
  simp [execOp, ho, hx, print_bytes src dst e hs hd he s W]
theorem B_conv_step {w0 W : World} (base e : Nat) (hw : Region.wanted o (yielded ops a.tmps) = true) {N : Tmp} (_hd : o.dst = some N) (src dst : TypeId) (x : Operand) (ho : o.op = .convert src dst x) (s : ByteArray) (hx : a.eval x = .string s) {u : TypeDesc}
    (hs : P.underlying src = some u) (hd : P.underlying dst = some (.slice e)) (he : P.underlying e = some (.int .u8)) (hsz : s.size ≤ 140737488355328) {ok : Nat → Prop} (hfresh : ok W.heap.size) (HB : Below base w0 W) (hbase : base ≤ W.heap.size)
    (h : ∀ v1 w1, B (Kd.int .u8) e w1 base ok v1 (bytesOf s) → Below base w0 w1 → W.grownBy w1 none → (∃ b, v1.ownBlock = some b ∧ W.heap.size ≤ b) → Kc (a.put o.dst v1) w1) : if Region.wanted o (yielded ops a.tmps) = true then Oper.wp P o a W Kc Q else Kc (a.put o.dst undef) W := by
  refine event_step hw ?_ (h _ _ (B_made s hsz hfresh hbase) (bytes_below HB hbase e s) ⟨rfl, rfl, rfl, by rw [Lib.bytesWorld_size]; omega, fun k hk _ => Lib.bytesWorld_at_old W e s k hk⟩ ⟨W.heap.size, by simp [Value.ownBlock], Nat.le_refl _⟩)
  simp [execOp, ho, hx, print_bytes src dst e hs hd he s W]
end
end Kd
end Go.Proofs.YtmalhgidhieamaaDoorW.PrintWords
