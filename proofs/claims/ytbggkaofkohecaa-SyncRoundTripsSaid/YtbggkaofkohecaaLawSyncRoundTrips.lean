-- Written by a program of this session (wip/tools/pr.py), which calls the kit's print with changes of its own.
import Derived.Test.YtbggkaofkohecaaRows
import Derived.Test.YtbggkaofkohecaaPSyncRoundTripsx11
import Derived.Test.YtbggkaofkohecaaPureSyncRoundTrips
import Derived.Test.YtbggkaofkohecaaOpenArgs
import Derived.WalkKit
import Derived.ProofKit
import Derived.OpenShut
import Derived.ShutString
import Derived.ChangeOld
import Derived.Below
import Derived.SizedLaws
import Derived.KernelRfl
namespace Go.Proofs.Ytbggkaofkohecaa.syncRoundTrips
open Go.ChangeShapes Go.WideShapes Go.ChangeAt Go.RowKit Go.Proofs.YtbggkaofkohecaaW.PrintWords Go.Proofs.Ytbggkaofkohecaa.PSyncRoundTrips
set_option linter.unusedVariables false
theorem own : ownKnob Try.prog.godebug = none := by kernel_rfl
theorem laidOut : laidOutB Try.prog = true := by kernel_rfl
theorem read_23 {H : Type} {enc : TypeId × Value → H} {w : World} {base : Nat} {spare : Nat → Bool} {held : Bool} {fuel : Nat} {cs : List Value} {x : DataW H × List MemPlace}
    (h : DataW.trod enc Try.prog w base spare held fuel 23 cs = some x) (hw : ∀ n ∈ x.1.weights Try.prog 23, n ≤ reachBytes) :
    ∃ (x0 : ByteArray) (x1 : Int) (x2 : Bool), cs = [.string x0, .int .i64 x1, .bool x2] ∧ x0.size ≤ 140737488351232 ∧ (Lit.int .i64 x1).wf = true := by
  obtain ⟨ys, n, hx, hcl, hyl, hf⟩ := struct_fields Try.underlying23 (by kernel_rfl) (by kernel_rfl) h
  obtain ⟨v0, y0, c0, e0, t0⟩ := hf 0 _ rfl
  obtain ⟨x0, rfl, m0⟩ := string_field Try.underlying9 t0
  have g0 : x0.size ≤ 140737488351232 := hw _ (by rw [hx]; exact weight_field Try.underlying23 (j := 0) rfl e0 m0)
  obtain ⟨v1, y1, c1, e1, t1⟩ := hf 1 _ rfl
  obtain ⟨x1, rfl, g1⟩ := int_field Try.underlying3 t1
  obtain ⟨v2, y2, c2, e2, t2⟩ := hf 2 _ rfl
  obtain ⟨x2, rfl⟩ := bool_field Try.underlying4 t2
  refine ⟨x0, x1, x2, list_of_get (r := [.string x0, .int .i64 x1, .bool x2]) hcl (fun j hj => ?_), ⟨g0, g1⟩⟩
  match j, hj with
  | 0, _ => exact c0
  | 1, _ => exact c1
  | 2, _ => exact c2
theorem read_46 {H : Type} {enc : TypeId × Value → H} {w : World} {base : Nat} {spare : Nat → Bool} {held : Bool} {fuel : Nat} {cs : List Value} {x : DataW H × List MemPlace}
    (h : DataW.trod enc Try.prog w base spare held fuel 46 cs = some x) (hw : ∀ n ∈ x.1.weights Try.prog 46, n ≤ reachBytes) :
    ∃ (x0 : Int) (x1 : Int) (x2 : Int) (x3 : ByteArray) (x4 : Int), cs = [.int .i64 x0, .int .i64 x1, .int .i64 x2, .string x3, .int .i64 x4] ∧ (Lit.int .i64 x0).wf = true ∧ (Lit.int .i64 x1).wf = true ∧ (Lit.int .i64 x2).wf = true ∧ x3.size ≤ 140737488351232 ∧ (Lit.int .i64 x4).wf = true := by
  obtain ⟨ys, n, hx, hcl, hyl, hf⟩ := struct_fields Try.underlying46 (by kernel_rfl) (by kernel_rfl) h
  obtain ⟨v0, y0, c0, e0, t0⟩ := hf 0 _ rfl
  obtain ⟨x0, rfl, g0⟩ := int_field Try.underlying3 t0
  obtain ⟨v1, y1, c1, e1, t1⟩ := hf 1 _ rfl
  obtain ⟨x1, rfl, g1⟩ := int_field Try.underlying3 t1
  obtain ⟨v2, y2, c2, e2, t2⟩ := hf 2 _ rfl
  obtain ⟨x2, rfl, g2⟩ := int_field Try.underlying3 t2
  obtain ⟨v3, y3, c3, e3, t3⟩ := hf 3 _ rfl
  obtain ⟨x3, rfl, m3⟩ := string_field Try.underlying9 t3
  have g3 : x3.size ≤ 140737488351232 := hw _ (by rw [hx]; exact weight_field Try.underlying46 (j := 3) rfl e3 m3)
  obtain ⟨v4, y4, c4, e4, t4⟩ := hf 4 _ rfl
  obtain ⟨x4, rfl, g4⟩ := int_field Try.underlying3 t4
  refine ⟨x0, x1, x2, x3, x4, list_of_get (r := [.int .i64 x0, .int .i64 x1, .int .i64 x2, .string x3, .int .i64 x4]) hcl (fun j hj => ?_), ⟨g0, g1, g2, g3, g4⟩⟩
  match j, hj with
  | 0, _ => exact c0
  | 1, _ => exact c1
  | 2, _ => exact c2
  | 3, _ => exact c3
  | 4, _ => exact c4
set_option maxRecDepth 100000 in
theorem lifted (os : Os) (started : os.Started) (H : Type) (enc : TypeId × Value → H) :
    ReturnsInHanded {} Try.checked os 5 .any (Rows.syncRoundTripsSpec.pre6 enc Try.prog Try.f5 Rows.syncRoundTripsRow.domain false) (Rows.syncRoundTripsSpec.post enc Try.prog Try.f5 false true false false) := by
  refine returnsInHanded_of_change_sized (C := Try.checked) own started (by kernel_rfl) Try.func5
    (ChangeSpec.witness6 (enc := enc) (C := Try.checked) false ⟨#[], #[.agg #[.string ByteArray.empty, .int .i64 0, .bool false], .slice none 0 0, .int .i64 0], []⟩ 8 (by kernel_rfl) (by kernel_rfl) (by kernel_rfl) (by kernel_rfl)) ?_
  intro W base args ds gs before hval0 hW hcnd hsz0 _
  have hsz : (DataW.weightsEach Try.prog (Try.f5.params.toList ++ Rows.syncRoundTripsSpec.plain.varTypes Try.prog) (ds ++ gs)).all (· ≤ reachBytes) = true := hsz0
  have hval : ∀ (j : Nat) t v, Try.f5.params[j]? = some t → args[j]? = some v → Value.okWide Try.prog W .any base t v := hval0
  have hW' := hW
  obtain ⟨p, q, hA0, hV, rfl, hfz, hnd⟩ := hW
  have hA : DataW.TrodAll enc Try.prog W 0 (fun _ => true) true Try.f5.params.toList args.toList ds p := hA0
  rw [Try.params5] at hA hval hsz
  obtain ⟨v0, vs0, d0, ds0, p0, q0, hargs, rfl, rfl, h0, r0⟩ := trodAll_cons hA
  obtain ⟨v1, vs1, d1, ds1, p1, q1, rfl, rfl, rfl, h1, r1⟩ := trodAll_cons r0
  obtain ⟨v2, vs2, d2, ds2, p2, q2, rfl, rfl, rfl, h2, r2⟩ := trodAll_cons r1
  obtain ⟨rfl, rfl, rfl⟩ := trodAll_nil r2
  obtain rfl : args = #[v0, v1, v2] := by cases args; simp_all
  obtain ⟨rfl, rfl⟩ := trodVars_none hV
  have k0 := h0
  have lt0 : ∀ x ∈ p0, x.block < W.heap.size := by obtain ⟨m, hm⟩ := k0; exact DataW.trod_lt m _ _ _ hm
  have z0 : ∀ n ∈ d0.weights Try.prog 23, n ≤ reachBytes := fun n hn => by simpa using List.all_eq_true.1 hsz _ (DataW.weights_mem_each (j := 0) rfl rfl n hn)
  obtain ⟨cs0, hvc0, _⟩ := okWide_struct Try.underlying23 (hval 0 23 v0 rfl rfl)
  subst hvc0
  obtain ⟨a0_0, a0_1, a0_2, hcs0, ⟨g0_0, g0_1⟩⟩ : ∃ (x0 : ByteArray) (x1 : Int) (x2 : Bool), cs0.toList = [.string x0, .int .i64 x1, .bool x2] ∧ x0.size ≤ 140737488351232 ∧ (Lit.int .i64 x1).wf = true := by
    obtain ⟨fuel, hf⟩ := h0
    exact read_23 hf z0
  obtain rfl : cs0 = #[.string a0_0, .int .i64 a0_1, .bool a0_2] := by apply Array.toList_inj.1; rw [hcs0]
  have k1 := h1
  have lt1 : ∀ x ∈ p1, x.block < W.heap.size := by obtain ⟨m, hm⟩ := k1; exact DataW.trod_lt m _ _ _ hm
  have z1 : ∀ n ∈ d1.weights Try.prog 37, n ≤ reachBytes := fun n hn => by simpa using List.all_eq_true.1 hsz _ (DataW.weights_mem_each (j := 1) rfl rfl n hn)
  obtain ⟨A1, c1, l1, rfl, hr1, hc1, m1, b1, g1⟩ := slice_arg k46 (fun x => (Lit.int .i64 x.f0).wf = true ∧ (Lit.int .i64 x.f1).wf = true ∧ (Lit.int .i64 x.f2).wf = true ∧ x.f3.size ≤ 140737488351232 ∧ (Lit.int .i64 x.f4).wf = true) (B := 48) Try.underlying37 (by kernel_rfl) (by kernel_rfl) (fun hf hw => by obtain ⟨x0, x1, x2, x3, x4, rfl, hg⟩ := read_46 hf hw; exact ⟨⟨x0, x1, x2, x3, x4⟩, k46_mk _ ⟨x0, x1, x2, x3, x4⟩, hg⟩) (hval 1 37 v1 rfl rfl) h1 z1
  have k2 := h2
  have lt2 : ∀ x ∈ p2, x.block < W.heap.size := by obtain ⟨m, hm⟩ := k2; exact DataW.trod_lt m _ _ _ hm
  have z2 : ∀ n ∈ d2.weights Try.prog 3, n ≤ reachBytes := fun n hn => by simpa using List.all_eq_true.1 hsz _ (DataW.weights_mem_each (j := 2) rfl rfl n hn)
  obtain ⟨a2, rfl, g2⟩ := int_arg Try.underlying3 (hval 2 3 v2 rfl rfl) h2
  clear hA0 hval0 hsz0 hsz
  refine (signalbenchlaw21_SyncRoundTrips.walk Pure.SyncRoundTrips a0_0 a0_1 a0_2 A1 c1 l1 a2 W hr1 hc1 g0_0 g0_1 m1 b1 g1 g2).mono fun e W' ⟨he, bel⟩ => ?_
  subst he
  exact ⟨_, rfl, _, _, _, [], _, [], hW', trodAll_mk1 (shut_bool Try.underlying4 _), (trodAll_cons_mk (Below.trod laidOut (by kernel_rfl) (of_decide_eq_true (by kernel_rfl)) k0 bel lt0) (trodAll_cons_mk (Below.trod laidOut (by kernel_rfl) (of_decide_eq_true (by kernel_rfl)) k1 bel lt1) (trodAll_cons_mk (Below.trod laidOut (by kernel_rfl) (of_decide_eq_true (by kernel_rfl)) k2 bel lt2) trodAll_mk0))), rfl, bel.frame _, fun h => by cases h⟩
theorem over : Rows.syncRoundTripsRow.holds Try.pinned (OpenSpec.ofChange Rows.syncRoundTripsSpec) :=
  OpenClaim.holds_of_wide 5 Try.f5 rfl rfl rfl rfl rfl rfl rfl ⟨rfl, rfl, rfl, rfl, rfl⟩ rfl rfl rfl rfl rfl (by kernel_rfl) Try.func5 (by kernel_rfl)
    (of_decide_eq_true (by kernel_rfl)) (by unfold Func.isWrapper; first | (rw [if_pos (by decide +kernel)]; kernel_rfl) | (rw [if_neg (by decide +kernel)]; exact ⟨rfl, rfl⟩))
    (fun os started H enc _ => lifted os started H enc)
theorem proved : Rows.SyncRoundTripsSaid := over
end Go.Proofs.Ytbggkaofkohecaa.syncRoundTrips
namespace Go.Proofs.Ytbggkaofkohecaa
/-- The row, under a short name, for the claim. -/
theorem syncRoundTrips_holds : Rows.SyncRoundTripsSaid := syncRoundTrips.proved
#print axioms syncRoundTrips_holds
end Go.Proofs.Ytbggkaofkohecaa
