-- Written by a program of this session (wip/tools/pr.py), which calls the kit's print with changes of its own.
import Derived.Test.YtmalhgidhieamaaDoorRows
import Derived.Test.YtmalhgidhieamaaDoorTie
import Derived.Test.YtmalhgidhieamaaDoorCards
import Derived.Test.YtmalhgidhieamaaDoorTabTie
import Derived.SevenTiedAt
import Derived.LaidMore
import Derived.Stop.Joined
import Derived.Test.YtmalhgidhieamaaDoorPModbusDecodesx16
import Derived.Test.YtmalhgidhieamaaDoorPureModbusDecodes
import Derived.Test.YtmalhgidhieamaaDoorOpenArgs
import Derived.WalkKit
import Derived.ProofKit
import Derived.OpenShut
import Derived.ShutString
import Derived.ChangeOld
import Derived.Below
import Derived.SizedLaws
import Derived.KernelRfl
namespace Go.Proofs.YtmalhgidhieamaaDoor.modbusDecodes
open Go.ChangeShapes Go.WideShapes Go.ChangeAt Go.RowKit Go.Proofs.YtmalhgidhieamaaDoorW.PrintWords Go.Proofs.YtmalhgidhieamaaDoor.PModbusDecodes
set_option linter.unusedVariables false
theorem own : ownKnob Tryd.prog.godebug = none := by kernel_rfl
theorem laidOut : laidOutB Tryd.prog = true := by kernel_rfl
theorem read_23 {H : Type} {enc : TypeId × Value → H} {w : World} {base : Nat} {spare : Nat → Bool} {held : Bool} {fuel : Nat} {cs : List Value} {x : DataW H × List MemPlace}
    (h : DataW.trod enc Tryd.prog w base spare held fuel 23 cs = some x) (hw : ∀ n ∈ x.1.weights Tryd.prog 23, n ≤ reachBytes) :
    ∃ (x0 : Int), cs = [.int .i64 x0] ∧ (Lit.int .i64 x0).wf = true := by
  obtain ⟨ys, n, hx, hcl, hyl, hf⟩ := struct_fields Tryd.underlying23 (by kernel_rfl) (by kernel_rfl) h
  obtain ⟨v0, y0, c0, e0, t0⟩ := hf 0 _ rfl
  obtain ⟨x0, rfl, g0⟩ := int_field Tryd.underlying3 t0
  refine ⟨x0, list_of_get (r := [.int .i64 x0]) hcl (fun j hj => ?_), g0⟩
  match j, hj with
  | 0, _ => exact c0
theorem read_32 {H : Type} {enc : TypeId × Value → H} {w : World} {base : Nat} {spare : Nat → Bool} {held : Bool} {fuel : Nat} {cs : List Value} {x : DataW H × List MemPlace}
    (h : DataW.trod enc Tryd.prog w base spare held fuel 32 cs = some x) (hw : ∀ n ∈ x.1.weights Tryd.prog 32, n ≤ reachBytes) :
    ∃ (x0 : Int) (x1 : Int) (x2 : Int) (x3 : Int) (x4 : Int) (x5 : ByteArray) (x6 : Int), cs = [.int .i64 x0, .int .i64 x1, .int .i64 x2, .int .i64 x3, .int .i64 x4, .string x5, .int .i64 x6] ∧ (Lit.int .i64 x0).wf = true ∧ (Lit.int .i64 x1).wf = true ∧ (Lit.int .i64 x2).wf = true ∧ (Lit.int .i64 x3).wf = true ∧ (Lit.int .i64 x4).wf = true ∧ x5.size ≤ 140737488351232 ∧ (Lit.int .i64 x6).wf = true := by
  obtain ⟨ys, n, hx, hcl, hyl, hf⟩ := struct_fields Tryd.underlying32 (by kernel_rfl) (by kernel_rfl) h
  obtain ⟨v0, y0, c0, e0, t0⟩ := hf 0 _ rfl
  obtain ⟨x0, rfl, g0⟩ := int_field Tryd.underlying3 t0
  obtain ⟨v1, y1, c1, e1, t1⟩ := hf 1 _ rfl
  obtain ⟨x1, rfl, g1⟩ := int_field Tryd.underlying3 t1
  obtain ⟨v2, y2, c2, e2, t2⟩ := hf 2 _ rfl
  obtain ⟨x2, rfl, g2⟩ := int_field Tryd.underlying3 t2
  obtain ⟨v3, y3, c3, e3, t3⟩ := hf 3 _ rfl
  obtain ⟨x3, rfl, g3⟩ := int_field Tryd.underlying3 t3
  obtain ⟨v4, y4, c4, e4, t4⟩ := hf 4 _ rfl
  obtain ⟨x4, rfl, g4⟩ := int_field Tryd.underlying3 t4
  obtain ⟨v5, y5, c5, e5, t5⟩ := hf 5 _ rfl
  obtain ⟨x5, rfl, m5⟩ := string_field Tryd.underlying9 t5
  have g5 : x5.size ≤ 140737488351232 := hw _ (by rw [hx]; exact weight_field Tryd.underlying32 (j := 5) rfl e5 m5)
  obtain ⟨v6, y6, c6, e6, t6⟩ := hf 6 _ rfl
  obtain ⟨x6, rfl, g6⟩ := int_field Tryd.underlying3 t6
  refine ⟨x0, x1, x2, x3, x4, x5, x6, list_of_get (r := [.int .i64 x0, .int .i64 x1, .int .i64 x2, .int .i64 x3, .int .i64 x4, .string x5, .int .i64 x6]) hcl (fun j hj => ?_), ⟨g0, g1, g2, g3, g4, g5, g6⟩⟩
  match j, hj with
  | 0, _ => exact c0
  | 1, _ => exact c1
  | 2, _ => exact c2
  | 3, _ => exact c3
  | 4, _ => exact c4
  | 5, _ => exact c5
  | 6, _ => exact c6
set_option maxRecDepth 100000 in
theorem lifted (os : Os) (started : os.Started) (H : Type) (enc : TypeId × Value → H) :
    ReturnsInHanded {} Tryd.checked os 3 .any (fun w args => (Rows.modbusDecodesSpec.pre enc Tryd.prog Tryd.f3 [] false w args ∧ laidMetH Tryd.prog Tab.tabLaid w) ∧ sizedMet enc Tryd.prog Tryd.f3 (OpenSpec.ofChange Rows.modbusDecodesSpec) false w args) (Rows.modbusDecodesSpec.post enc Tryd.prog Tryd.f3 false true false false) := by
  refine returnsInHanded_of_change_and (C := Tryd.checked) (X := fun w _ => laidMetH Tryd.prog Tab.tabLaid w) (fun _ _ _ hh h => h.of_heap hh) own started (by kernel_rfl) Tryd.func3
    (ChangeSpec.witness_shaped (enc := enc) (C := Tryd.checked) (os := os) (X := fun w _ => laidMetH Tryd.prog Tab.tabLaid w) false (World.doorLaid Tryd.prog 24 os) #[.agg #[.int .i64 0], .slice none 0 0] 8 rfl (World.shaped_of_RefB (by kernel_rfl) (by kernel_rfl)) (by kernel_rfl) (by kernel_rfl) (by kernel_rfl) (Tab.door_met os _)) ?_
  intro W base args ds gs before hval0 hW hcnd hsz0 hL _
  have hsz : (DataW.weightsEach Tryd.prog (Tryd.f3.params.toList ++ Rows.modbusDecodesSpec.plain.varTypes Tryd.prog) (ds ++ gs)).all (· ≤ reachBytes) = true := hsz0
  have hval : ∀ (j : Nat) t v, Tryd.f3.params[j]? = some t → args[j]? = some v → Value.okWide Tryd.prog W .any base t v := hval0
  have hW' := hW
  obtain ⟨p, q, hA0, hV, rfl, hfz, hnd⟩ := hW
  have hA : DataW.TrodAll enc Tryd.prog W 0 (fun _ => true) true Tryd.f3.params.toList args.toList ds p := hA0
  rw [Tryd.params3] at hA hval hsz
  obtain ⟨v0, vs0, d0, ds0, p0, q0, hargs, rfl, rfl, h0, r0⟩ := trodAll_cons hA
  obtain ⟨v1, vs1, d1, ds1, p1, q1, rfl, rfl, rfl, h1, r1⟩ := trodAll_cons r0
  obtain ⟨rfl, rfl, rfl⟩ := trodAll_nil r1
  obtain rfl : args = #[v0, v1] := by cases args; simp_all
  obtain ⟨rfl, rfl⟩ := trodVars_none hV
  have k0 := h0
  have lt0 : ∀ x ∈ p0, x.block < W.heap.size := by obtain ⟨m, hm⟩ := k0; exact DataW.trod_lt m _ _ _ hm
  have z0 : ∀ n ∈ d0.weights Tryd.prog 23, n ≤ reachBytes := fun n hn => by simpa using List.all_eq_true.1 hsz _ (DataW.weights_mem_each (j := 0) rfl rfl n hn)
  obtain ⟨cs0, hvc0, _⟩ := okWide_struct Tryd.underlying23 (hval 0 23 v0 rfl rfl)
  subst hvc0
  obtain ⟨a0_0, hcs0, g0_0⟩ : ∃ (x0 : Int), cs0.toList = [.int .i64 x0] ∧ (Lit.int .i64 x0).wf = true := by
    obtain ⟨fuel, hf⟩ := h0
    exact read_23 hf z0
  obtain rfl : cs0 = #[.int .i64 a0_0] := by apply Array.toList_inj.1; rw [hcs0]
  have k1 := h1
  have lt1 : ∀ x ∈ p1, x.block < W.heap.size := by obtain ⟨m, hm⟩ := k1; exact DataW.trod_lt m _ _ _ hm
  have z1 : ∀ n ∈ d1.weights Tryd.prog 24, n ≤ reachBytes := fun n hn => by simpa using List.all_eq_true.1 hsz _ (DataW.weights_mem_each (j := 1) rfl rfl n hn)
  obtain ⟨A1, c1, l1, rfl, hr1, hc1, m1, b1, g1⟩ := slice_arg k32 (fun x => (Lit.int .i64 x.f0).wf = true ∧ (Lit.int .i64 x.f1).wf = true ∧ (Lit.int .i64 x.f2).wf = true ∧ (Lit.int .i64 x.f3).wf = true ∧ (Lit.int .i64 x.f4).wf = true ∧ x.f5.size ≤ 140737488351232 ∧ (Lit.int .i64 x.f6).wf = true) (B := 64) Tryd.underlying24 (by kernel_rfl) (by kernel_rfl) (fun hf hw => by obtain ⟨x0, x1, x2, x3, x4, x5, x6, rfl, hg⟩ := read_32 hf hw; exact ⟨⟨x0, x1, x2, x3, x4, x5, x6⟩, k32_mk _ ⟨x0, x1, x2, x3, x4, x5, x6⟩, hg⟩) (hval 1 24 v1 rfl rfl) h1 z1
  clear hA0 hval0 hsz0 hsz
  refine (signalbenchlaw30_ModbusDecodes.walk Pure.ModbusDecodes a0_0 A1 c1 l1 W (Tab.tab_of_laid hL) hr1 hc1 g0_0 m1 b1 g1).mono fun e W' ⟨he, bel⟩ => ?_
  subst he
  exact ⟨_, rfl, _, _, _, [], _, [], hW', trodAll_mk1 (shut_bool Tryd.underlying4 _), (trodAll_cons_mk (Below.trod laidOut (by kernel_rfl) (of_decide_eq_true (by kernel_rfl)) k0 bel lt0) (trodAll_cons_mk (Below.trod laidOut (by kernel_rfl) (of_decide_eq_true (by kernel_rfl)) k1 bel lt1) trodAll_mk0)), rfl, bel.frame _, fun h => by cases h⟩
theorem over : Rows.modbusDecodesRow.holds Tryd.pinned (OpenSpec.ofChange Rows.modbusDecodesSpec) :=
  OpenClaim.holds_of_wide 3 Tryd.f3 rfl rfl rfl rfl rfl rfl rfl ⟨rfl, rfl, rfl, rfl, rfl⟩ rfl rfl rfl rfl rfl (by kernel_rfl) Tryd.func3 (by kernel_rfl)
    (of_decide_eq_true (by kernel_rfl)) (by unfold Func.isWrapper; first | (rw [if_pos (by decide +kernel)]; kernel_rfl) | (rw [if_neg (by decide +kernel)]; exact ⟨rfl, rfl⟩))
    (fun os started H enc _ => lifted os started H enc)
theorem proved : Rows.ModbusDecodesSaid := over
theorem card_holds : Rows.ModbusDecodesCardSaid :=
  Claim7.holds_tied_plain_at .later [] [.data] true (true, "f773fa12aaad2539bb970bf24055bb3dfbdaf1786eb5d4c94eb70bdcc7e089b6") false
    proved (fun _ h => by cases h) (by kernel_rfl) (fun _ h => by cases h) modbusDecodes_row_tie rfl ⟨rfl, rfl⟩ (by kernel_rfl) rfl
    (fun f fn hf hfn => by
      obtain rfl : f = 3 := Option.some.inj ((show Tryd.prog.funcNamed "signalbench/signalbenchlaw30.ModbusDecodes" = some 3 by kernel_rfl).symm.trans hf) |>.symm
      obtain rfl : fn = Tryd.f3 := (Option.some.inj (Tryd.func3.symm.trans hfn)).symm
      exact ⟨by kernel_rfl, fun j t ht => by
        rw [Tryd.params3] at ht
        have hm : t ∈ [23, 24] := by simpa using Array.mem_of_getElem? ht
        have hall : ([23, 24].all fun u => !Tryd.prog.wantsStandIn u) = true := by kernel_rfl
        exact (show Tryd.prog.wantsStandIn t = false by simpa using List.all_eq_true.1 hall t hm)⟩)
    (by kernel_rfl)
end Go.Proofs.YtmalhgidhieamaaDoor.modbusDecodes
namespace Go.Proofs.YtmalhgidhieamaaDoor
/-- The row, under a short name, for the claim. -/
theorem modbusDecodes_holds : Rows.ModbusDecodesCardSaid := modbusDecodes.card_holds
#print axioms modbusDecodes_holds
end Go.Proofs.YtmalhgidhieamaaDoor
