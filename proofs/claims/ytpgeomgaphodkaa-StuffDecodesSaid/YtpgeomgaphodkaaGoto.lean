/- A scope in which the run jumps back to one label: what holds at every jump, by a number that every pass lowers and that stands in no slot. No condition of its own. -/
import Derived.ScopeJumps
import Derived.Deep.LoopGhost
import Derived.Tactics
namespace Go.Proofs.YtpgeomgaphodkaaW.PrintWords
theorem wp_scope_ghost {P : Program} {a : Act} {w : World} {Q : Exit → Act → World → Prop} {c rest : Code} (l : Nat) (J : Nat → Act → World → Prop) (hf : findLabel c l = some rest)
    (first : (∀ n a w, J n a w → rest.wp P (Exit.jump l (fun a' w' => ∃ n, J n a' w') Q) a w) → c.wp P (Exit.jump l (fun a' w' => ∃ n, J n a' w') Q) a w)
    (pass : ∀ n a w, J n a w → rest.wp P (Exit.jump l (Handed J n) Q) a w) : (Code.scope c).wp P Q a w := by
  refine wp_scope_jumps l (fun a' w' => ∃ n, J n a' w') (fun a' w' => leastOf (fun n => J n a' w')) hf (first fun n a w h => ?_) (fun a w h => ?_)
  · refine wp_mono (pass n a w h) (fun e a w q => ?_)
    cases e with
    | goto l' => exact ⟨q.1, q.2.imp fun _ h => h.2⟩
    | normal => exact q
    | exit _ => exact q
    | ret => exact q
    | panic _ => exact q
    | outgrown => exact q
  · obtain ⟨hJ, _⟩ := leastOf_spec h
    refine wp_mono (pass _ a w hJ) (fun e a' w' q => ?_)
    cases e with
    | goto l' =>
      obtain ⟨h1, n', hlt, hJ'⟩ := q
      exact ⟨h1, ⟨n', hJ'⟩, Nat.lt_of_le_of_lt ((leastOf_spec ⟨n', hJ'⟩).2 n' hJ') hlt⟩
    | normal => exact q
    | exit _ => exact q
    | ret => exact q
    | panic _ => exact q
    | outgrown => exact q
/-- The same where the label's rest is told behind its skip. -/
theorem wp_scope_ghost2 {P : Program} {a : Act} {w : World} {Q : Exit → Act → World → Prop} {c X : Code} (l : Nat) (J : Nat → Act → World → Prop) (hf : findLabel c l = some (Code.skip.seq X))
    (first : (∀ n a w, J n a w → X.wp P (Exit.jump l (fun a' w' => ∃ n, J n a' w') Q) a w) → c.wp P (Exit.jump l (fun a' w' => ∃ n, J n a' w') Q) a w)
    (pass : ∀ n a w, J n a w → X.wp P (Exit.jump l (Handed J n) Q) a w) : (Code.scope c).wp P Q a w := by
  refine wp_scope_ghost l J hf (fun _ => first fun n a w h => wp_mono (pass n a w h) (fun e a w q => ?_)) (fun n a w h => wp_seq (wp_skip (pass n a w h)))
  cases e with
  | goto l' => exact ⟨q.1, q.2.imp fun _ h => h.2⟩
  | normal => exact q
  | exit _ => exact q
  | ret => exact q
  | panic _ => exact q
  | outgrown => exact q
theorem results_tmp4 {fn : Func} {t u v x : Tmp} (h : fn.results = #[.tmp t, .tmp u, .tmp v, .tmp x]) (tmps : Array Value) (P : Program) (w : World) :
    (results fn tmps).run P w = .ok (.tuple #[tmps.getD t undef, tmps.getD u undef, tmps.getD v undef, tmps.getD x undef]) w := by
  simp [results, h]
end Go.Proofs.YtpgeomgaphodkaaW.PrintWords
