/- For every input, in whatever memory: MendExchange returns true, and its arguments read as before. No condition. -/
import Derived.Test.YtnklbepeoicgpaaRows
import Derived.Test.YtnklbepeoicgpaaBC51
import Derived.Test.YtnklbepeoicgpaaB6
import Derived.ProofKit
import Derived.JoinedOf
import Derived.OpenShut
set_option linter.all false
namespace Go.Proofs.Ytnklbepeoicgpaa
open Go.ChangeShapes Go.WideShapes Go.RowKit Go.Wk Go.Proofs

theorem own : ownKnob Try.prog.godebug = none := by kernel_rfl
theorem laidOut : laidOutB Try.prog = true := by kernel_rfl
set_option maxRecDepth 100000 in
theorem mendExchange_lifted (os : Os) (started : os.Started) (H : Type) (enc : TypeId × Value → H) :
    ReturnsInHanded {} Try.checked os 6 .any (Rows.mendExchangeSpec.pre6 enc Try.prog Try.f6 Rows.mendExchangeRow.domain false) (Rows.mendExchangeSpec.post enc Try.prog Try.f6 false true false false) := by
  refine returnsInHanded_of_change_sized (C := Try.checked) own started (by kernel_rfl) Try.func6
    (ChangeSpec.witness6 (enc := enc) (C := Try.checked) false ⟨#[], #[.agg #[.int .i64 0, .slice none 0 0, .slice none 0 0], .slice none 0 0, .slice none 0 0], []⟩ 8 (by kernel_rfl) (by kernel_rfl) (by kernel_rfl) (by kernel_rfl)) ?_
  intro W base args ds gs before hval0 hW0 _ hsz0 _; have hval : ∀ (j : Nat) t v, Try.f6.params[j]? = some t → args[j]? = some v → Value.okWide Try.prog W .any base t v := hval0; have hW : DataW.Whole enc Try.prog Try.f6.params.toList [] false W args.toList ds gs before := hW0; have hsz : (DataW.weightsEach Try.prog (Try.f6.params.toList ++ []) (ds ++ gs)).all (· ≤ reachBytes) = true := hsz0; clear hval0 hsz0; obtain ⟨p, q, hA, hV, -, -, -⟩ := hW; obtain ⟨rfl, -⟩ := trodVars_none hV; rw [List.append_nil, List.append_nil] at hsz; rw [Try.params6] at hA hsz hval; obtain ⟨hlen, hR⟩ := Rd.of_args hA hsz; obtain ⟨v0, v1, v2, d0, d1, d2, p0, p1, p2, rfl, rfl, -, -, -, -⟩ := trodAll_three hA; have r0 := hR 0 _ v0 rfl rfl; have r1 := hR 1 _ v1 rfl rfl; have r2 := hR 2 _ v2 rfl rfl; obtain ⟨cs0, rfl, -⟩ := okWide_struct Try.underlying25 (hval 0 _ v0 rfl rfl); obtain ⟨A1, n1, c1, rfl⟩ := okWide_slice Try.underlying22 (hval 1 _ v1 rfl rfl); obtain ⟨A2, n2, c2, rfl⟩ := okWide_slice Try.underlying22 (hval 2 _ v2 rfl rfl); obtain ⟨x0, h0⟩ := openTr ⟨cs0, rfl⟩ r0; obtain ⟨x1, h1, f1⟩ := openI (v := .slice A1 n1 c1) r1; obtain ⟨x2, h2, f2⟩ := openI (v := .slice A2 n2 c2) r2; refine (exch_c _ _ _ x0 x1 x2 W h0 h1 h2 f1 f2).calls.mono fun e W' ⟨v, he, hv, hE⟩ => ?_; subst he; subst hv; exact ⟨_, rfl, law_post hW0 laidOut rfl (by rw [Try.params6]; intro t ht; simp at ht; rcases ht with rfl | rfl | rfl <;> exact ⟨by kernel_rfl, of_decide_eq_true (by kernel_rfl)⟩) rfl Try.underlying4 rfl rfl rfl hE⟩
theorem mendExchange_holds : Rows.MendExchangeSaid :=
  OpenClaim.holds_of_wide 6 Try.f6 rfl rfl rfl rfl rfl rfl rfl ⟨rfl, rfl, rfl, rfl, rfl⟩ rfl rfl rfl rfl rfl (by kernel_rfl) Try.func6 (by kernel_rfl)
    (of_decide_eq_true (by kernel_rfl)) (by unfold Func.isWrapper; first | (rw [if_pos (by decide +kernel)]; kernel_rfl) | (rw [if_neg (by decide +kernel)]; exact ⟨rfl, rfl⟩))
    (fun os started H enc _ => mendExchange_lifted os started H enc)
#print axioms mendExchange_holds
end Go.Proofs.Ytnklbepeoicgpaa
