-- Written by a program of this session (wip/tools/pr.py), which calls the kit's print with changes of its own.
import Derived.Test.YtbggkaofkohecaaRows
import Derived.Test.YtbggkaofkohecaaPSyncFirstx11
import Derived.Test.YtbggkaofkohecaaPureSyncFirst
import Derived.Test.YtbggkaofkohecaaOpenArgs
import Derived.WalkKit
import Derived.ProofKit
import Derived.OpenShut
import Derived.ShutString
import Derived.ChangeOld
import Derived.Below
import Derived.SizedLaws
import Derived.KernelRfl
namespace Go.Proofs.Ytbggkaofkohecaa.syncFirst
open Go.ChangeShapes Go.WideShapes Go.ChangeAt Go.RowKit Go.Proofs.YtbggkaofkohecaaW.PrintWords Go.Proofs.Ytbggkaofkohecaa.PSyncFirst
set_option linter.unusedVariables false
theorem own : ownKnob Try.prog.godebug = none := by kernel_rfl
theorem laidOut : laidOutB Try.prog = true := by kernel_rfl
theorem read_23 {H : Type} {enc : TypeId × Value → H} {w : World} {base : Nat} {spare : Nat → Bool} {held : Bool} {fuel : Nat} {cs : List Value} {x : DataW H × List MemPlace}
    (h : DataW.trod enc Try.prog w base spare held fuel 23 cs = some x) (hw : ∀ n ∈ x.1.weights Try.prog 23, n ≤ reachBytes) :
    ∃ (x0 : ByteArray) (x1 : Int) (x2 : Bool), cs = [.string x0, .int .i64 x1, .bool x2] ∧ x0.size ≤ 140737488351232 ∧ (Lit.int .i64 x1).wf = true := by
  obtain ⟨ys, n, hx, hcl, hyl, hf⟩ := struct_fields Try.underlying23 (by kernel_rfl) (by kernel_rfl) h
  obtain ⟨v0, y0, c0, e0, t0⟩ := hf 0 _ rfl
  obtain ⟨x0, rfl, m0⟩ := string_field Try.underlying9 t0
  have g0 : x0.size ≤ 140737488351232 := hw _ (by rw [hx]; exact weight_field Try.underlying23 (j := 0) rfl e0 m0)
  obtain ⟨v1, y1, c1, e1, t1⟩ := hf 1 _ rfl
  obtain ⟨x1, rfl, g1⟩ := int_field Try.underlying3 t1
  obtain ⟨v2, y2, c2, e2, t2⟩ := hf 2 _ rfl
  obtain ⟨x2, rfl⟩ := bool_field Try.underlying4 t2
  refine ⟨x0, x1, x2, list_of_get (r := [.string x0, .int .i64 x1, .bool x2]) hcl (fun j hj => ?_), ⟨g0, g1⟩⟩
  match j, hj with
  | 0, _ => exact c0
  | 1, _ => exact c1
  | 2, _ => exact c2
set_option maxRecDepth 100000 in
theorem lifted (os : Os) (started : os.Started) (H : Type) (enc : TypeId × Value → H) :
    ReturnsInHanded {} Try.checked os 6 .any (Rows.syncFirstSpec.pre6 enc Try.prog Try.f6 Rows.syncFirstRow.domain false) (Rows.syncFirstSpec.post enc Try.prog Try.f6 false true false false) := by
  refine returnsInHanded_of_change_sized (C := Try.checked) own started (by kernel_rfl) Try.func6
    (ChangeSpec.witness6 (enc := enc) (C := Try.checked) false ⟨#[], #[.agg #[.string ByteArray.empty, .int .i64 0, .bool false], .string ByteArray.empty], []⟩ 8 (by kernel_rfl) (by kernel_rfl) (by kernel_rfl) (by kernel_rfl)) ?_
  intro W base args ds gs before hval0 hW hcnd hsz0 _
  have hsz : (DataW.weightsEach Try.prog (Try.f6.params.toList ++ Rows.syncFirstSpec.plain.varTypes Try.prog) (ds ++ gs)).all (· ≤ reachBytes) = true := hsz0
  have hval : ∀ (j : Nat) t v, Try.f6.params[j]? = some t → args[j]? = some v → Value.okWide Try.prog W .any base t v := hval0
  have hW' := hW
  obtain ⟨p, q, hA0, hV, rfl, hfz, hnd⟩ := hW
  have hA : DataW.TrodAll enc Try.prog W 0 (fun _ => true) true Try.f6.params.toList args.toList ds p := hA0
  rw [Try.params6] at hA hval hsz
  obtain ⟨v0, vs0, d0, ds0, p0, q0, hargs, rfl, rfl, h0, r0⟩ := trodAll_cons hA
  obtain ⟨v1, vs1, d1, ds1, p1, q1, rfl, rfl, rfl, h1, r1⟩ := trodAll_cons r0
  obtain ⟨rfl, rfl, rfl⟩ := trodAll_nil r1
  obtain rfl : args = #[v0, v1] := by cases args; simp_all
  obtain ⟨rfl, rfl⟩ := trodVars_none hV
  have k0 := h0
  have lt0 : ∀ x ∈ p0, x.block < W.heap.size := by obtain ⟨m, hm⟩ := k0; exact DataW.trod_lt m _ _ _ hm
  have z0 : ∀ n ∈ d0.weights Try.prog 23, n ≤ reachBytes := fun n hn => by simpa using List.all_eq_true.1 hsz _ (DataW.weights_mem_each (j := 0) rfl rfl n hn)
  obtain ⟨cs0, hvc0, _⟩ := okWide_struct Try.underlying23 (hval 0 23 v0 rfl rfl)
  subst hvc0
  obtain ⟨a0_0, a0_1, a0_2, hcs0, ⟨g0_0, g0_1⟩⟩ : ∃ (x0 : ByteArray) (x1 : Int) (x2 : Bool), cs0.toList = [.string x0, .int .i64 x1, .bool x2] ∧ x0.size ≤ 140737488351232 ∧ (Lit.int .i64 x1).wf = true := by
    obtain ⟨fuel, hf⟩ := h0
    exact read_23 hf z0
  obtain rfl : cs0 = #[.string a0_0, .int .i64 a0_1, .bool a0_2] := by apply Array.toList_inj.1; rw [hcs0]
  have k1 := h1
  have lt1 : ∀ x ∈ p1, x.block < W.heap.size := by obtain ⟨m, hm⟩ := k1; exact DataW.trod_lt m _ _ _ hm
  have z1 : ∀ n ∈ d1.weights Try.prog 9, n ≤ reachBytes := fun n hn => by simpa using List.all_eq_true.1 hsz _ (DataW.weights_mem_each (j := 1) rfl rfl n hn)
  obtain ⟨a1, rfl, g1⟩ := string_arg Try.underlying9 (hval 1 9 v1 rfl rfl) h1 z1
  clear hA0 hval0 hsz0 hsz
  refine (signalbenchlaw21_SyncFirst.walk Pure.SyncFirst a0_0 a0_1 a0_2 a1 W  g0_0 g0_1 g1).mono fun e W' ⟨he, bel⟩ => ?_
  subst he
  exact ⟨_, rfl, _, _, _, [], _, [], hW', trodAll_mk1 (shut_bool Try.underlying4 _), (trodAll_cons_mk (Below.trod laidOut (by kernel_rfl) (of_decide_eq_true (by kernel_rfl)) k0 bel lt0) (trodAll_cons_mk (Below.trod laidOut (by kernel_rfl) (of_decide_eq_true (by kernel_rfl)) k1 bel lt1) trodAll_mk0)), rfl, bel.frame _, fun h => by cases h⟩
theorem over : Rows.syncFirstRow.holds Try.pinned (OpenSpec.ofChange Rows.syncFirstSpec) :=
  OpenClaim.holds_of_wide 6 Try.f6 rfl rfl rfl rfl rfl rfl rfl ⟨rfl, rfl, rfl, rfl, rfl⟩ rfl rfl rfl rfl rfl (by kernel_rfl) Try.func6 (by kernel_rfl)
    (of_decide_eq_true (by kernel_rfl)) (by unfold Func.isWrapper; first | (rw [if_pos (by decide +kernel)]; kernel_rfl) | (rw [if_neg (by decide +kernel)]; exact ⟨rfl, rfl⟩))
    (fun os started H enc _ => lifted os started H enc)
theorem proved : Rows.SyncFirstSaid := over
end Go.Proofs.Ytbggkaofkohecaa.syncFirst
namespace Go.Proofs.Ytbggkaofkohecaa
/-- The row, under a short name, for the claim. -/
theorem syncFirst_holds : Rows.SyncFirstSaid := syncFirst.proved
#print axioms syncFirst_holds
end Go.Proofs.Ytbggkaofkohecaa
