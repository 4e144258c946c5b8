/- For every input, in whatever memory: TopRoundsReach returns true, and its arguments read as before. No condition. -/
import Derived.Test.YtnklbepeoicgpaaGreatRows
import Derived.Test.YtnklbepeoicgpaaGreatA7
import Derived.ProofKit
import Derived.JoinedOf
import Derived.OpenShut
set_option linter.all false
namespace Go.Proofs.YtnklbepeoicgpaaGreat
open Go.ChangeShapes Go.WideShapes Go.RowKit Go.Wk Go.Proofs

theorem own : ownKnob Tryz.prog.godebug = none := by kernel_rfl
theorem laidOut : laidOutB Tryz.prog = true := by kernel_rfl
set_option maxRecDepth 100000 in
theorem topRoundsReach_lifted (os : Os) (started : os.Started) (H : Type) (enc : TypeId × Value → H) :
  ReturnsInHanded {} Tryz.checked os 3 .any (Rows.topRoundsReachSpec.pre6 enc Tryz.prog Tryz.f3 Rows.topRoundsReachRow.domain false) (Rows.topRoundsReachSpec.post enc Tryz.prog Tryz.f3 false true false false) := by
 refine returnsInHanded_of_change_sized (C := Tryz.checked) own started (by kernel_rfl) Tryz.func3
  (ChangeSpec.witness6 (enc := enc) (C := Tryz.checked) false ⟨#[],#[.agg #[.int .i64 0,.slice none 0 0,.slice none 0 0],.int .u8 0,.int .u8 0,.int .u8 0],[]⟩ 8 (by kernel_rfl) (by kernel_rfl) (by kernel_rfl) (by kernel_rfl)) ?_
 intro W base args ds gs before hval0 hW0 _ hsz0 _;have hval : ∀ (j : Nat) t v,Tryz.f3.params[j]? = some t → args[j]? = some v → Value.okWide Tryz.prog W .any base t v := hval0;have hW : DataW.Whole enc Tryz.prog Tryz.f3.params.toList [] false W args.toList ds gs before := hW0;have hsz : (DataW.weightsEach Tryz.prog (Tryz.f3.params.toList ++ []) (ds ++ gs)).all (· ≤ reachBytes) = true := hsz0;clear hval0 hsz0;obtain ⟨p,q,hA,hV,-,-,-⟩ := hW;obtain ⟨rfl,-⟩ := trodVars_none hV;rw [List.append_nil,List.append_nil] at hsz;rw [Tryz.params3] at hA hsz hval;obtain ⟨hlen,hR⟩ := Rd.of_args hA hsz;obtain ⟨v0,v1,v2,v3,d0,d1,d2,d3,p0,p1,p2,p3,rfl,rfl,-,-,-,-,-⟩ := trodAll_four hA;have r0 := hR 0 _ v0 rfl rfl;have r1 := hR 1 _ v1 rfl rfl;have r2 := hR 2 _ v2 rfl rfl;have r3 := hR 3 _ v3 rfl rfl;obtain ⟨cs0,rfl,-⟩ := okWide_struct Tryz.underlying25 (hval 0 _ v0 rfl rfl);obtain ⟨m1,rfl⟩ := okWide_int Tryz.underlying5 (hval 1 _ v1 rfl rfl);obtain ⟨m2,rfl⟩ := okWide_int Tryz.underlying5 (hval 2 _ v2 rfl rfl);obtain ⟨m3,rfl⟩ := okWide_int Tryz.underlying5 (hval 3 _ v3 rfl rfl);obtain ⟨x0,h0⟩ := openTr ⟨cs0,rfl⟩ r0;obtain ⟨x1,hm1,f1⟩ := r1.int Tryz.underlying5
 have e1 : x1 = m1 := by
  have e : [Value.int .u8 m1] = [Value.int .u8 x1] := hm1
  injection e with e _
  injection e with _ e
  exact e.symm
 subst e1;obtain ⟨x2,hm2,f2⟩ := r2.int Tryz.underlying5
 have e2 : x2 = m2 := by
  have e : [Value.int .u8 m2] = [Value.int .u8 x2] := hm2
  injection e with e _
  injection e with _ e
  exact e.symm
 subst e2;obtain ⟨x3,hm3,f3⟩ := r3.int Tryz.underlying5
 have e3 : x3 = m3 := by
  have e : [Value.int .u8 m3] = [Value.int .u8 x3] := hm3
  injection e with e _
  injection e with _ e
  exact e.symm
 subst e3;refine (St.reach_law _ x0 x1 x2 x3 W h0 (Go.bounds_u8 f1) (Go.bounds_u8 f2) (Go.bounds_u8 f3)).calls.mono fun e W' ⟨v,he,hv,hE⟩ => ?_;subst he;subst hv;exact ⟨_,rfl,law_post hW0 laidOut rfl (by rw [Tryz.params3];intro t ht;simp at ht;rcases ht with rfl | rfl | rfl | rfl <;> exact ⟨by kernel_rfl,of_decide_eq_true (by kernel_rfl)⟩) rfl Tryz.underlying4 rfl rfl rfl hE⟩
theorem topRoundsReach_holds : Rows.TopRoundsReachSaid :=
 OpenClaim.holds_of_wide 3 Tryz.f3 rfl rfl rfl rfl rfl rfl rfl ⟨rfl,rfl,rfl,rfl,rfl⟩ rfl rfl rfl rfl rfl (by kernel_rfl) Tryz.func3 (by kernel_rfl)
  (of_decide_eq_true (by kernel_rfl)) (by unfold Func.isWrapper;first | (rw [if_pos (by decide +kernel)];kernel_rfl) | (rw [if_neg (by decide +kernel)];exact ⟨rfl,rfl⟩))
  (fun os started H enc _ => topRoundsReach_lifted os started H enc)
#print axioms topRoundsReach_holds
end Go.Proofs.YtnklbepeoicgpaaGreat
