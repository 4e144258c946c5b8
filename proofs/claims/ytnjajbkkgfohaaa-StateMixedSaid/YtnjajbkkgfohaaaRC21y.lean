/- For every input, in whatever memory: StateMixed returns true, and its arguments read as before. No condition. -/
import Derived.Test.YtnjajbkkgfohaaaRows
import Derived.Test.YtnjajbkkgfohaaaR6
import Derived.ProofKit
import Derived.JoinedOf
import Derived.OpenShut
set_option linter.all false
namespace Go.Proofs.Ytnjajbkkgfohaaa
open Go.ChangeShapes Go.WideShapes Go.RowKit Go.Wk Go.Proofs

section
variable {H : Type} {enc : TypeId × Value → H} {P : Program} {w : World} {base : Nat} {spare : Nat → Bool} {held : Bool}
theorem trodAll_five {t0 t1 t2 t3 t4 : TypeId} {args : Array Value} {ds : List (DataW H)} {ps : List MemPlace} (h : DataW.TrodAll enc P w base spare held [t0, t1, t2, t3, t4] args.toList ds ps) :
    ∃ v0 v1 v2 v3 v4 d0 d1 d2 d3 d4, args = #[v0, v1, v2, v3, v4] ∧ ds = [d0, d1, d2, d3, d4] := by
  obtain ⟨v0, vs, d0, ds1, p, q, hargs, rfl, rfl, -, h⟩ := trodAll_cons h; obtain ⟨v1, vs1, d1, ds2, p1, q1, rfl, rfl, rfl, -, h⟩ := trodAll_cons h; obtain ⟨v2, vs2, d2, ds3, p2, q2, rfl, rfl, rfl, -, h⟩ := trodAll_cons h; obtain ⟨v3, vs3, d3, ds4, p3, q3, rfl, rfl, rfl, -, h⟩ := trodAll_cons h; obtain ⟨v4, vs4, d4, ds5, p4, q4, rfl, rfl, rfl, -, h⟩ := trodAll_cons h; obtain ⟨rfl, rfl, rfl⟩ := trodAll_nil h; exact ⟨v0, v1, v2, v3, v4, d0, d1, d2, d3, d4, by cases args; simp_all, rfl⟩
end
theorem own : ownKnob Try.prog.godebug = none := by kernel_rfl
theorem laidOut : laidOutB Try.prog = true := by kernel_rfl
set_option maxRecDepth 100000 in
theorem stateMixed_lifted (os : Os) (started : os.Started) (H : Type) (enc : TypeId × Value → H) :
    ReturnsInHanded {} Try.checked os 21 .any (Rows.stateMixedSpec.pre6 enc Try.prog Try.f21 Rows.stateMixedRow.domain false) (Rows.stateMixedSpec.post enc Try.prog Try.f21 false true false false) := by
  refine returnsInHanded_of_change_sized (C := Try.checked) own started (by kernel_rfl) Try.func21
    (ChangeSpec.witness6 (enc := enc) (C := Try.checked) false ⟨#[], #[.slice none 0 0, .agg #[.slice none 0 0, .int .i64 0, .int .i64 0, .int .i64 0], .slice none 0 0, .slice none 0 0, .agg #[.int .i64 0, .int .i64 0, .int .i64 0, .int .i64 0, .int .i64 0, .int .i64 0]], []⟩ 8 (by kernel_rfl) (by kernel_rfl) (by kernel_rfl) (by kernel_rfl)) ?_
  intro W base args ds gs before hval0 hW0 _ hsz0 _; have hval : ∀ (j : Nat) t v, Try.f21.params[j]? = some t → args[j]? = some v → Value.okWide Try.prog W .any base t v := hval0; have hW : DataW.Whole enc Try.prog Try.f21.params.toList [] false W args.toList ds gs before := hW0; have hsz : (DataW.weightsEach Try.prog (Try.f21.params.toList ++ []) (ds ++ gs)).all (· ≤ reachBytes) = true := hsz0; clear hval0 hsz0; obtain ⟨p, q, hA, hV, -, -, -⟩ := hW; obtain ⟨rfl, -⟩ := trodVars_none hV; rw [List.append_nil, List.append_nil] at hsz; rw [Try.params21] at hA hsz hval; obtain ⟨hlen, hR⟩ := Rd.of_args hA hsz; obtain ⟨v0, v1, v2, v3, v4, d0, d1, d2, d3, d4, rfl, rfl⟩ := trodAll_five hA; have r0 := hR 0 _ v0 rfl rfl; have r1 := hR 1 _ v1 rfl rfl; have r2 := hR 2 _ v2 rfl rfl; have r3 := hR 3 _ v3 rfl rfl; have r4 := hR 4 _ v4 rfl rfl; obtain ⟨A0, n0, c0, rfl⟩ := okWide_slice Try.underlying81 (hval 0 _ v0 rfl rfl); obtain ⟨cs1, rfl, -⟩ := okWide_struct Try.underlying27 (hval 1 _ v1 rfl rfl); obtain ⟨A2, n2, c2, rfl⟩ := okWide_slice Try.underlying22 (hval 2 _ v2 rfl rfl); obtain ⟨A3, n3, c3, rfl⟩ := okWide_slice Try.underlying22 (hval 3 _ v3 rfl rfl); obtain ⟨cs4, rfl, -⟩ := okWide_struct Try.underlying51 (hval 4 _ v4 rfl rfl); obtain ⟨x0, h0, f0, g0⟩ := openLS (v := .slice A0 n0 c0) r0; obtain ⟨x1, h1, f1⟩ := openCp ⟨cs1, rfl⟩ r1; obtain ⟨x2, h2, f2⟩ := openI (v := .slice A2 n2 c2) r2; obtain ⟨x3, h3, f3⟩ := openI (v := .slice A3 n3 c3) r3; obtain ⟨x4, h4⟩ := openAlV (cs := cs4) r4; subst h4
  refine (mixed_law _ _ _ _ x0 x1 x2 x3 x4 W h0 h1 h2 h3 f0 g0 f1 f2 f3).calls.mono fun e W' ⟨v, he, hv, hE⟩ => ?_; subst he; subst hv; exact ⟨_, rfl, law_post hW0 laidOut rfl (by rw [Try.params21]; intro t ht; simp at ht; rcases ht with rfl | rfl | rfl | rfl | rfl <;> exact ⟨by kernel_rfl, of_decide_eq_true (by kernel_rfl)⟩) rfl Try.underlying4 rfl rfl rfl hE⟩
end Go.Proofs.Ytnjajbkkgfohaaa
