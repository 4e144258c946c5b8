/- For every input, in whatever memory: StateSources returns true, and its arguments read as before. No condition. -/
import Derived.Test.YtnjajbkkgfohaaaRows
import Derived.Test.YtnjajbkkgfohaaaX2
import Derived.Test.YtnjajbkkgfohaaaB6
import Derived.Test.YtnjajbkkgfohaaaX1
import Derived.ProofKit
import Derived.JoinedOf
import Derived.OpenShut
set_option linter.all false
namespace Go.Proofs.Ytnjajbkkgfohaaa
open Go.ChangeShapes Go.WideShapes Go.RowKit Go.Wk Go.Proofs

theorem own : ownKnob Try.prog.godebug = none := by kernel_rfl
theorem laidOut : laidOutB Try.prog = true := by kernel_rfl
set_option maxRecDepth 100000 in
theorem stateSources_lifted (os : Os) (started : os.Started) (H : Type) (enc : TypeId × Value → H) :
    ReturnsInHanded {} Try.checked os 13 .any (Rows.stateSourcesSpec.pre6 enc Try.prog Try.f13 Rows.stateSourcesRow.domain false) (Rows.stateSourcesSpec.post enc Try.prog Try.f13 false true false false) := by
  refine returnsInHanded_of_change_sized (C := Try.checked) own started (by kernel_rfl) Try.func13
    (ChangeSpec.witness6 (enc := enc) (C := Try.checked) false ⟨#[], #[.slice none 0 0, .agg #[.slice none 0 0, .int .i64 0, .int .i64 0, .int .i64 0]], []⟩ 8 (by kernel_rfl) (by kernel_rfl) (by kernel_rfl) (by kernel_rfl)) ?_
  intro W base args ds gs before hval0 hW0 _ hsz0 _; have hval : ∀ (j : Nat) t v, Try.f13.params[j]? = some t → args[j]? = some v → Value.okWide Try.prog W .any base t v := hval0; have hW : DataW.Whole enc Try.prog Try.f13.params.toList [] false W args.toList ds gs before := hW0; have hsz : (DataW.weightsEach Try.prog (Try.f13.params.toList ++ []) (ds ++ gs)).all (· ≤ reachBytes) = true := hsz0; clear hval0 hsz0; obtain ⟨p, q, hA, hV, -, -, -⟩ := hW; obtain ⟨rfl, -⟩ := trodVars_none hV; rw [List.append_nil, List.append_nil] at hsz; rw [Try.params13] at hA hsz hval; obtain ⟨hlen, hR⟩ := Rd.of_args hA hsz; obtain ⟨v0, v1, d0, d1, p0, p1, rfl, rfl, -, -, -⟩ := trodAll_two hA; have r0 := hR 0 _ v0 rfl rfl; have r1 := hR 1 _ v1 rfl rfl; obtain ⟨A0, n0, c0, rfl⟩ := okWide_slice Try.underlying81 (hval 0 _ v0 rfl rfl); obtain ⟨cs1, rfl, -⟩ := okWide_struct Try.underlying27 (hval 1 _ v1 rfl rfl); obtain ⟨x0, h0, f0, g0⟩ := openLS (v := .slice A0 n0 c0) r0; obtain ⟨x1, h1, f1⟩ := openCp ⟨cs1, rfl⟩ r1; refine (sources_c _ _ x0 x1 W h0 h1 f0 g0 f1).calls.mono fun e W' ⟨v, he, hv, hE⟩ => ?_; subst he; subst hv; exact ⟨_, rfl, law_post hW0 laidOut rfl (by rw [Try.params13]; intro t ht; simp at ht; rcases ht with rfl | rfl <;> exact ⟨by kernel_rfl, of_decide_eq_true (by kernel_rfl)⟩) rfl Try.underlying4 rfl rfl rfl hE⟩
theorem stateSources_holds : Rows.StateSourcesSaid :=
  OpenClaim.holds_of_wide 13 Try.f13 rfl rfl rfl rfl rfl rfl rfl ⟨rfl, rfl, rfl, rfl, rfl⟩ rfl rfl rfl rfl rfl (by kernel_rfl) Try.func13 (by kernel_rfl)
    (of_decide_eq_true (by kernel_rfl)) (by unfold Func.isWrapper; first | (rw [if_pos (by decide +kernel)]; kernel_rfl) | (rw [if_neg (by decide +kernel)]; exact ⟨rfl, rfl⟩))
    (fun os started H enc _ => stateSources_lifted os started H enc)
#print axioms stateSources_holds
end Go.Proofs.Ytnjajbkkgfohaaa
