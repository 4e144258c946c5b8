/- For every input, in whatever memory: StateTrue returns true, and its arguments read as before. No condition. -/
import Derived.Test.YtnjajbkkgfohaaaRows
import Derived.Test.YtnjajbkkgfohaaaQ15b
import Derived.Test.YtnjajbkkgfohaaaP6
import Derived.ProofKit
import Derived.JoinedOf
import Derived.OpenShut
set_option linter.all false
namespace Go.Proofs.Ytnjajbkkgfohaaa
open Go.ChangeShapes Go.WideShapes Go.RowKit Go.Wk Go.Proofs

section
variable {H : Type} {enc : TypeId × Value → H} {P : Program} {w : World} {base : Nat} {spare : Nat → Bool} {held : Bool}
theorem trodAll_five {t0 t1 t2 t3 t4 : TypeId} {args : Array Value} {ds : List (DataW H)} {ps : List MemPlace} (h : DataW.TrodAll enc P w base spare held [t0, t1, t2, t3, t4] args.toList ds ps) :
    ∃ v0 v1 v2 v3 v4 d0 d1 d2 d3 d4, args = #[v0, v1, v2, v3, v4] ∧ ds = [d0, d1, d2, d3, d4] := by
  obtain ⟨v0, vs, d0, ds', p, q, hargs, rfl, rfl, -, h⟩ := trodAll_cons h
  obtain ⟨v1, vs1, d1, ds1, p1, q1, rfl, rfl, rfl, -, h⟩ := trodAll_cons h
  obtain ⟨v2, vs2, d2, ds2, p2, q2, rfl, rfl, rfl, -, h⟩ := trodAll_cons h
  obtain ⟨v3, vs3, d3, ds3, p3, q3, rfl, rfl, rfl, -, h⟩ := trodAll_cons h
  obtain ⟨v4, vs4, d4, ds4, p4, q4, rfl, rfl, rfl, -, h⟩ := trodAll_cons h
  obtain ⟨rfl, rfl, rfl⟩ := trodAll_nil h
  exact ⟨v0, v1, v2, v3, v4, d0, d1, d2, d3, d4, by cases args; simp_all, rfl⟩
end
theorem own : ownKnob Try.prog.godebug = none := by kernel_rfl
theorem laidOut : laidOutB Try.prog = true := by kernel_rfl
set_option maxRecDepth 100000 in
theorem stateTrue_lifted (os : Os) (started : os.Started) (H : Type) (enc : TypeId × Value → H) :
    ReturnsInHanded {} Try.checked os 9 .any (Rows.stateTrueSpec.pre6 enc Try.prog Try.f9 Rows.stateTrueRow.domain false) (Rows.stateTrueSpec.post enc Try.prog Try.f9 false true false false) := by
  refine returnsInHanded_of_change_sized (C := Try.checked) own started (by kernel_rfl) Try.func9
    (ChangeSpec.witness6 (enc := enc) (C := Try.checked) false ⟨#[], #[.agg #[.slice none 0 0, .slice none 0 0], .int .u16 0, .int .u8 0, .slice none 0 0, .slice none 0 0], []⟩ 8 (by kernel_rfl) (by kernel_rfl) (by kernel_rfl) (by kernel_rfl)) ?_
  intro W base args ds gs before hval0 hW0 _ hsz0 _
  have hval : ∀ (j : Nat) t v, Try.f9.params[j]? = some t → args[j]? = some v → Value.okWide Try.prog W .any base t v := hval0
  have hW : DataW.Whole enc Try.prog Try.f9.params.toList [] false W args.toList ds gs before := hW0
  have hsz : (DataW.weightsEach Try.prog (Try.f9.params.toList ++ []) (ds ++ gs)).all (· ≤ reachBytes) = true := hsz0
  clear hval0 hsz0
  obtain ⟨p, q, hA, hV, -, -, -⟩ := hW
  obtain ⟨rfl, -⟩ := trodVars_none hV
  rw [List.append_nil, List.append_nil] at hsz
  rw [Try.params9] at hA hsz hval
  obtain ⟨hlen, hR⟩ := Rd.of_args hA hsz
  obtain ⟨v0, v1, v2, v3, v4, d0, d1, d2, d3, d4, rfl, rfl⟩ := trodAll_five hA
  have r0 := hR 0 _ v0 rfl rfl
  have r1 := hR 1 _ v1 rfl rfl
  have r2 := hR 2 _ v2 rfl rfl
  have r3 := hR 3 _ v3 rfl rfl
  have r4 := hR 4 _ v4 rfl rfl
  obtain ⟨cs0, rfl, -⟩ := okWide_struct Try.underlying25 (hval 0 _ v0 rfl rfl)
  obtain ⟨m1, rfl⟩ := okWide_int Try.underlying67 (hval 1 _ v1 rfl rfl)
  obtain ⟨m2, rfl⟩ := okWide_int Try.underlying5 (hval 2 _ v2 rfl rfl)
  obtain ⟨A3, n3, c3, rfl⟩ := okWide_slice Try.underlying68 (hval 3 _ v3 rfl rfl)
  obtain ⟨A4, n4, c4, rfl⟩ := okWide_slice Try.underlying69 (hval 4 _ v4 rfl rfl)
  obtain ⟨x0, h0, f0⟩ := openSh ⟨cs0, rfl⟩ r0
  obtain ⟨x1, hm1, f1⟩ := r1.int Try.underlying67
  have e1 : x1 = m1 := by
    have e : [Value.int .u16 m1] = [Value.int .u16 x1] := hm1
    injection e with e _
    injection e with _ e
    exact e.symm
  subst e1
  obtain ⟨x2, hm2, f2⟩ := r2.int Try.underlying5
  have e2 : x2 = m2 := by
    have e : [Value.int .u8 m2] = [Value.int .u8 x2] := hm2
    injection e with e _
    injection e with _ e
    exact e.symm
  subst e2
  obtain ⟨x3, h3, f3⟩ := openBy (v := .slice A3 n3 c3) r3
  obtain ⟨x4, h4, f4⟩ := openBo (v := .slice A4 n4 c4) r4
  refine (true_c _ _ _ x0 x1 x2 x3 x4 W h0 (Go.bounds_u16 f1) (Go.bounds_u8 f2) h3 h4 f0 f3 f4).calls.mono fun e W' ⟨v, he, hv, hE⟩ => ?_
  subst he; subst hv
  exact ⟨_, rfl, law_post hW0 laidOut rfl (by rw [Try.params9]; intro t ht; simp at ht; rcases ht with rfl | rfl | rfl | rfl | rfl <;> exact ⟨by kernel_rfl, of_decide_eq_true (by kernel_rfl)⟩) rfl Try.underlying4 rfl rfl rfl hE⟩
theorem stateTrue_holds : Rows.StateTrueSaid :=
  OpenClaim.holds_of_wide 9 Try.f9 rfl rfl rfl rfl rfl rfl rfl ⟨rfl, rfl, rfl, rfl, rfl⟩ rfl rfl rfl rfl rfl (by kernel_rfl) Try.func9 (by kernel_rfl)
    (of_decide_eq_true (by kernel_rfl)) (by unfold Func.isWrapper; first | (rw [if_pos (by decide +kernel)]; kernel_rfl) | (rw [if_neg (by decide +kernel)]; exact ⟨rfl, rfl⟩))
    (fun os started H enc _ => stateTrue_lifted os started H enc)
#print axioms stateTrue_holds
end Go.Proofs.Ytnjajbkkgfohaaa
