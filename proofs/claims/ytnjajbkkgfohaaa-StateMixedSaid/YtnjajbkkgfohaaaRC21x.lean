/- The facts of the joined program that the claim asks. -/
import Derived.Test.YtnjajbkkgfohaaaRows
import Derived.JoinedOf
set_option linter.all false
namespace Go.Proofs.Ytnjajbkkgfohaaa
open Go.ChangeShapes Go.WideShapes Go.Proofs
set_option maxHeartbeats 4000000 in
theorem stateMixed_joined : joinedFacts Try.prog 21 Try.f21 Rows.stateMixedSpec Rows.stateMixedRow = true := by
  unfold joinedFacts
  set_option maxRecDepth 100000 in
  simp only [Bool.and_eq_true]
  refine ⟨⟨⟨⟨⟨⟨⟨⟨⟨⟨⟨⟨⟨⟨⟨⟨⟨⟨⟨⟨⟨⟨⟨⟨⟨⟨⟨⟨⟨⟨⟨?_, ?_⟩, ?_⟩, ?_⟩, ?_⟩, ?_⟩, ?_⟩, ?_⟩, ?_⟩, ?_⟩, ?_⟩, ?_⟩, ?_⟩, ?_⟩, ?_⟩, ?_⟩, ?_⟩, ?_⟩, ?_⟩, ?_⟩, ?_⟩, ?_⟩, ?_⟩, ?_⟩, ?_⟩, ?_⟩, ?_⟩, ?_⟩, ?_⟩, ?_⟩, ?_⟩, ?_⟩
  all_goals (as_aux_lemma => kernel_rfl)
end Go.Proofs.Ytnjajbkkgfohaaa
