/- What check.Names answers: the table's names, in order. Its condition: the table's cells are as the program's text lays them. -/
import Derived.Test.YteeejopgaegaoaaDoorTabCheck
import Derived.Test.YteeejopgaegaoaaDoorMakeC
import Derived.Test.YteeejopgaegaoaaDoorShort
import Derived.Deep.DeepCutAuto
import Derived.Deep.RegionHeld3
import Derived.ArgAppend
namespace Go.Proofs.YteeejopgaegaoaaDoorW.PrintWords
open Go.RowKit Go.Proofs.YteeejopgaegaoaaDoorW.PrintLast
set_option linter.unusedVariables false
set_option linter.unusedSimpArgs false
theorem infoStr : (Tryd.prog.info? 9).map (fun i => (i.zero, i.size, i.bytes)) = some (some (.string ⟨#[]⟩), 1, 16) := by kernel_rfl
def check_Names.f : Option (List ByteArray) := some [(⟨#[99, 97, 110, 49, 53]⟩ : ByteArray), (⟨#[99, 114, 99, 49, 54, 109, 111, 100, 98, 117, 115]⟩ : ByteArray), (⟨#[99, 114, 99, 51, 50]⟩ : ByteArray), (⟨#[99, 114, 99, 53, 117, 115, 98]⟩ : ByteArray), (⟨#[99, 114, 99, 56]⟩ : ByteArray)]
set_option maxHeartbeats 4000000 in
set_option maxRecDepth 100000 in
theorem check_Names.calls (r : List ByteArray) (w : World) (hT_ : TabOk w) (h : check_Names.f = some r) :
    Calls Tryd.prog 29 #[] w fun e w' => ∃ v0_ : Value, e = .returned (v0_) ∧ Kd.R Kd.string 9 w' w.heap.size (fun _ => True) v0_ r ∧ Below w.heap.size w w' := by
  have HT := Aside0.mk hT_
  have HB := Aside0.mk (Below.refl w.heap.size w)
  clear hT_
  unfold check_Names.f at h
  obtain rfl := Option.some.inj h
  clear h
  go_enter Tryd.func29, Tryd.ntmps29
  go_wp2_with (first | ((with_reducible refine gate_dst (N := 3) rfl ?_); refine Kd.R_makeC Kd.string _ 9 rfl (N := 3) rfl 43 _ _ rfl 0 5 rfl rfl Tryd.underlying43 (.string ⟨#[]⟩) 16 infoStr rfl (by decide) (by omega) (⟨#[]⟩ : ByteArray) (ok := fun _ => True) (okp := fun _ => True) rfl (fun _ hk => hk) trivial (Int.le_refl 0) (by omega) (by omega) (Below.refl _ _) (Nat.le_refl _) ?_; intro v0 w0 ho hb hg_ hnew_; clear hg_ hnew_; have n0_ := Aside0.mk (Kd.R_lower ho (below_size (hbw HB.out))); have n1_ := Aside0.mk (below_step (hbw HB.out) hb); clear HB; have HO := n0_; have HB := n1_; clear n0_ n1_; clear hb ho))
  refine wp_loop_rounds 6 ?_
  rw [rounds_succ]
  have t0 := (TabOk.below HT.out HB.out) 0 _ rfl
  go_wp2_with (first | ((with_reducible refine gate_builtin (b := .append) (xs := #[.tmp 7, .tmp 12]) rfl ?_); at_builtin; refine Kd.R_append Kd.string (w0 := w) w.heap.size rfl (.tmp 7) (.tmp 12) 43 9 (.string ⟨#[]⟩) 16 rfl Tryd.underlying43 infoStr rfl (by decide) (by omega) v0 (List.replicate (0 : Int).toNat (⟨#[]⟩ : ByteArray)) (⟨#[99, 97, 110, 49, 53]⟩ : ByteArray) [.string (⟨#[99, 97, 110, 49, 53]⟩ : ByteArray)] (fun _ => True) (fun _ => False) rfl rfl ?aP (fun _ hk => hk.elim) ?aF ?aO ?aB ?aS ?aL ?_; (case aP => exact rfl); (case aB => exact (hbw HB.out)); (case aF => exact (fun _ _ => trivial)); (case aO => exact (rkw HO.out)); (case aS => exact (below_size (hbw HB.out))); (case aL => simp); intro v1 w1 ho hb hg hat; have n0_ := Aside0.mk (hb); have n1_ := Aside0.mk (ho); clear HB; clear HO; have HB := n0_; have HO := n1_; clear n0_ n1_; clear ho hb hg hat t0))
  rw [rounds_succ]
  have t1 := (TabOk.below HT.out HB.out) 6 _ rfl
  go_wp2_with (first | ((with_reducible refine gate_builtin (b := .append) (xs := #[.tmp 7, .tmp 12]) rfl ?_); at_builtin; refine Kd.R_append Kd.string (w0 := w) w.heap.size rfl (.tmp 7) (.tmp 12) 43 9 (.string ⟨#[]⟩) 16 rfl Tryd.underlying43 infoStr rfl (by decide) (by omega) v1 ([(⟨#[99, 97, 110, 49, 53]⟩ : ByteArray)] : List ByteArray) (⟨#[99, 114, 99, 49, 54, 109, 111, 100, 98, 117, 115]⟩ : ByteArray) [.string (⟨#[99, 114, 99, 49, 54, 109, 111, 100, 98, 117, 115]⟩ : ByteArray)] (fun _ => True) (fun _ => False) rfl rfl ?aP (fun _ hk => hk.elim) ?aF ?aO ?aB ?aS ?aL ?_; (case aP => exact rfl); (case aB => exact (hbw HB.out)); (case aF => exact (fun _ _ => trivial)); (case aO => exact (rkw HO.out)); (case aS => exact (below_size (hbw HB.out))); (case aL => simp); intro v2 w2 ho hb hg hat; have n0_ := Aside0.mk (hb); have n1_ := Aside0.mk (ho); clear HB; clear HO; have HB := n0_; have HO := n1_; clear n0_ n1_; clear ho hb hg hat t1))
  rw [rounds_succ]
  have t2 := (TabOk.below HT.out HB.out) 12 _ rfl
  go_wp2_with (first | ((with_reducible refine gate_builtin (b := .append) (xs := #[.tmp 7, .tmp 12]) rfl ?_); at_builtin; refine Kd.R_append Kd.string (w0 := w) w.heap.size rfl (.tmp 7) (.tmp 12) 43 9 (.string ⟨#[]⟩) 16 rfl Tryd.underlying43 infoStr rfl (by decide) (by omega) v2 ([(⟨#[99, 97, 110, 49, 53]⟩ : ByteArray), (⟨#[99, 114, 99, 49, 54, 109, 111, 100, 98, 117, 115]⟩ : ByteArray)] : List ByteArray) (⟨#[99, 114, 99, 51, 50]⟩ : ByteArray) [.string (⟨#[99, 114, 99, 51, 50]⟩ : ByteArray)] (fun _ => True) (fun _ => False) rfl rfl ?aP (fun _ hk => hk.elim) ?aF ?aO ?aB ?aS ?aL ?_; (case aP => exact rfl); (case aB => exact (hbw HB.out)); (case aF => exact (fun _ _ => trivial)); (case aO => exact (rkw HO.out)); (case aS => exact (below_size (hbw HB.out))); (case aL => simp); intro v3 w3 ho hb hg hat; have n0_ := Aside0.mk (hb); have n1_ := Aside0.mk (ho); clear HB; clear HO; have HB := n0_; have HO := n1_; clear n0_ n1_; clear ho hb hg hat t2))
  rw [rounds_succ]
  have t3 := (TabOk.below HT.out HB.out) 18 _ rfl
  go_wp2_with (first | ((with_reducible refine gate_builtin (b := .append) (xs := #[.tmp 7, .tmp 12]) rfl ?_); at_builtin; refine Kd.R_append Kd.string (w0 := w) w.heap.size rfl (.tmp 7) (.tmp 12) 43 9 (.string ⟨#[]⟩) 16 rfl Tryd.underlying43 infoStr rfl (by decide) (by omega) v3 ([(⟨#[99, 97, 110, 49, 53]⟩ : ByteArray), (⟨#[99, 114, 99, 49, 54, 109, 111, 100, 98, 117, 115]⟩ : ByteArray), (⟨#[99, 114, 99, 51, 50]⟩ : ByteArray)] : List ByteArray) (⟨#[99, 114, 99, 53, 117, 115, 98]⟩ : ByteArray) [.string (⟨#[99, 114, 99, 53, 117, 115, 98]⟩ : ByteArray)] (fun _ => True) (fun _ => False) rfl rfl ?aP (fun _ hk => hk.elim) ?aF ?aO ?aB ?aS ?aL ?_; (case aP => exact rfl); (case aB => exact (hbw HB.out)); (case aF => exact (fun _ _ => trivial)); (case aO => exact (rkw HO.out)); (case aS => exact (below_size (hbw HB.out))); (case aL => simp); intro v4 w4 ho hb hg hat; have n0_ := Aside0.mk (hb); have n1_ := Aside0.mk (ho); clear HB; clear HO; have HB := n0_; have HO := n1_; clear n0_ n1_; clear ho hb hg hat t3))
  rw [rounds_succ]
  have t4 := (TabOk.below HT.out HB.out) 24 _ rfl
  go_wp2_with (first | ((with_reducible refine gate_builtin (b := .append) (xs := #[.tmp 7, .tmp 12]) rfl ?_); at_builtin; refine Kd.R_append Kd.string (w0 := w) w.heap.size rfl (.tmp 7) (.tmp 12) 43 9 (.string ⟨#[]⟩) 16 rfl Tryd.underlying43 infoStr rfl (by decide) (by omega) v4 ([(⟨#[99, 97, 110, 49, 53]⟩ : ByteArray), (⟨#[99, 114, 99, 49, 54, 109, 111, 100, 98, 117, 115]⟩ : ByteArray), (⟨#[99, 114, 99, 51, 50]⟩ : ByteArray), (⟨#[99, 114, 99, 53, 117, 115, 98]⟩ : ByteArray)] : List ByteArray) (⟨#[99, 114, 99, 56]⟩ : ByteArray) [.string (⟨#[99, 114, 99, 56]⟩ : ByteArray)] (fun _ => True) (fun _ => False) rfl rfl ?aP (fun _ hk => hk.elim) ?aF ?aO ?aB ?aS ?aL ?_; (case aP => exact rfl); (case aB => exact (hbw HB.out)); (case aF => exact (fun _ _ => trivial)); (case aO => exact (rkw HO.out)); (case aS => exact (below_size (hbw HB.out))); (case aL => simp); intro v5 w5 ho hb hg hat; have n0_ := Aside0.mk (hb); have n1_ := Aside0.mk (ho); clear HB; clear HO; have HB := n0_; have HO := n1_; clear n0_ n1_; clear ho hb hg hat t4))
  rw [rounds_succ]
  go_wp2
  go_ret
  exact ⟨_, rfl, by (with_reducible repeat (first | apply Kd.R_alloc | apply Kd.R_drewN | apply Kd.R_drew)); exact HO.out, by repeat (first | (with_reducible first | exact HB.out | apply below_alloc | apply pw_below_drewN | apply below_drew1) | exact HB.out)⟩
end Go.Proofs.YteeejopgaegaoaaDoorW.PrintWords
