/- The claim: StateMixed, for every input. -/
import Derived.Test.YtnjajbkkgfohaaaRows
import Derived.Test.YtnjajbkkgfohaaaRC21x
import Derived.Test.YtnjajbkkgfohaaaRC21y
import Derived.ProofKit
import Derived.JoinedOf
import Derived.OpenShut
set_option linter.all false
namespace Go.Proofs.Ytnjajbkkgfohaaa
open Go.ChangeShapes Go.WideShapes Go.RowKit Go.Wk Go.Proofs
theorem stateMixed_holds : Rows.StateMixedSaid :=
  OpenClaim.holds_of_wide 21 Try.f21 rfl rfl rfl rfl rfl rfl rfl ⟨rfl, rfl, rfl, rfl, rfl⟩ rfl rfl rfl rfl rfl (by kernel_rfl) Try.func21 stateMixed_joined
    (of_decide_eq_true (by kernel_rfl)) (by unfold Func.isWrapper; first | (rw [if_pos (by decide +kernel)]; kernel_rfl) | (rw [if_neg (by decide +kernel)]; exact ⟨rfl, rfl⟩))
    (fun os started H enc _ => stateMixed_lifted os started H enc)
#print axioms stateMixed_holds
end Go.Proofs.Ytnjajbkkgfohaaa
