/- For every input, in whatever memory: MendBoth returns true, and its arguments read as before. No condition. -/
import Derived.Test.YtnklbepeoicgpaaGreatRows
import Derived.Test.YtnklbepeoicgpaaGreatB7
import Derived.ProofKit
import Derived.JoinedOf
import Derived.OpenShut
set_option linter.all false
namespace Go.Proofs.YtnklbepeoicgpaaGreat
open Go.ChangeShapes Go.WideShapes Go.RowKit Go.Wk Go.Proofs

section
variable {H : Type} {enc : TypeId × Value → H} {P : Program} {w : World} {base : Nat} {spare : Nat → Bool} {held : Bool}
theorem trodAll_six {t0 t1 t2 t3 t4 t5 : TypeId} {args : Array Value} {ds : List (DataW H)} {ps : List MemPlace} (h : DataW.TrodAll enc P w base spare held [t0,t1,t2,t3,t4,t5] args.toList ds ps) :
  ∃ v0 v1 v2 v3 v4 v5 d0 d1 d2 d3 d4 d5,args = #[v0,v1,v2,v3,v4,v5] ∧ ds = [d0,d1,d2,d3,d4,d5] := by
 obtain ⟨v0,vs,d0,ds1,p,q,hargs,rfl,rfl,-,h⟩ := trodAll_cons h;obtain ⟨v1,vs1,d1,ds2,p1,q1,rfl,rfl,rfl,-,h⟩ := trodAll_cons h;obtain ⟨v2,vs2,d2,ds3,p2,q2,rfl,rfl,rfl,-,h⟩ := trodAll_cons h;obtain ⟨v3,vs3,d3,ds4,p3,q3,rfl,rfl,rfl,-,h⟩ := trodAll_cons h;obtain ⟨v4,vs4,d4,ds5,p4,q4,rfl,rfl,rfl,-,h⟩ := trodAll_cons h;obtain ⟨v5,vs5,d5,ds6,p5,q5,rfl,rfl,rfl,-,h⟩ := trodAll_cons h;obtain ⟨rfl,rfl,rfl⟩ := trodAll_nil h;exact ⟨v0,v1,v2,v3,v4,v5,d0,d1,d2,d3,d4,d5,by cases args;simp_all,rfl⟩
end
theorem own : ownKnob Tryz.prog.godebug = none := by kernel_rfl
theorem laidOut : laidOutB Tryz.prog = true := by kernel_rfl
set_option maxRecDepth 100000 in
theorem mendBoth_lifted (os : Os) (started : os.Started) (H : Type) (enc : TypeId × Value → H) :
  ReturnsInHanded {} Tryz.checked os 11 .any (Rows.mendBothSpec.pre6 enc Tryz.prog Tryz.f11 Rows.mendBothRow.domain false) (Rows.mendBothSpec.post enc Tryz.prog Tryz.f11 false true false false) := by
 refine returnsInHanded_of_change_sized (C := Tryz.checked) own started (by kernel_rfl) Tryz.func11
  (ChangeSpec.witness6 (enc := enc) (C := Tryz.checked) false ⟨#[],#[.agg #[.int .i64 0,.slice none 0 0,.slice none 0 0],.slice none 0 0,.slice none 0 0,.slice none 0 0,.int .u8 0,.int .i64 0],[]⟩ 8 (by kernel_rfl) (by kernel_rfl) (by kernel_rfl) (by kernel_rfl)) ?_
 intro W base args ds gs before hval0 hW0 _ hsz0 _;have hval : ∀ (j : Nat) t v,Tryz.f11.params[j]? = some t → args[j]? = some v → Value.okWide Tryz.prog W .any base t v := hval0;have hW : DataW.Whole enc Tryz.prog Tryz.f11.params.toList [] false W args.toList ds gs before := hW0;have hsz : (DataW.weightsEach Tryz.prog (Tryz.f11.params.toList ++ []) (ds ++ gs)).all (· ≤ reachBytes) = true := hsz0;clear hval0 hsz0;obtain ⟨p,q,hA,hV,-,-,-⟩ := hW;obtain ⟨rfl,-⟩ := trodVars_none hV;rw [List.append_nil,List.append_nil] at hsz;rw [Tryz.params11] at hA hsz hval;obtain ⟨hlen,hR⟩ := Rd.of_args hA hsz;obtain ⟨v0,v1,v2,v3,v4,v5,d0,d1,d2,d3,d4,d5,rfl,rfl⟩ := trodAll_six hA;have r0 := hR 0 _ v0 rfl rfl;have r1 := hR 1 _ v1 rfl rfl;have r2 := hR 2 _ v2 rfl rfl;have r3 := hR 3 _ v3 rfl rfl;have r4 := hR 4 _ v4 rfl rfl;have r5 := hR 5 _ v5 rfl rfl;obtain ⟨cs0,rfl,-⟩ := okWide_struct Tryz.underlying25 (hval 0 _ v0 rfl rfl);obtain ⟨A1,n1,c1,rfl⟩ := okWide_slice Tryz.underlying22 (hval 1 _ v1 rfl rfl);obtain ⟨A2,n2,c2,rfl⟩ := okWide_slice Tryz.underlying22 (hval 2 _ v2 rfl rfl);obtain ⟨A3,n3,c3,rfl⟩ := okWide_slice Tryz.underlying22 (hval 3 _ v3 rfl rfl);obtain ⟨m4,rfl⟩ := okWide_int Tryz.underlying5 (hval 4 _ v4 rfl rfl);obtain ⟨m5,rfl⟩ := okWide_int Tryz.underlying3 (hval 5 _ v5 rfl rfl);obtain ⟨x0,h0⟩ := openTr ⟨cs0,rfl⟩ r0;obtain ⟨x1,h1,f1⟩ := openI (v := .slice A1 n1 c1) r1;obtain ⟨x2,h2,f2⟩ := openI (v := .slice A2 n2 c2) r2
 obtain ⟨x3,h3,f3⟩ := openI (v := .slice A3 n3 c3) r3;obtain ⟨x4,hm4,f4⟩ := r4.int Tryz.underlying5
 have e4 : x4 = m4 := by
  have e : [Value.int .u8 m4] = [Value.int .u8 x4] := hm4
  injection e with e _
  injection e with _ e
  exact e.symm
 subst e4;obtain ⟨x5,hm5,f5⟩ := r5.int Tryz.underlying3
 have e5 : x5 = m5 := by
  have e : [Value.int .i64 m5] = [Value.int .i64 x5] := hm5
  injection e with e _
  injection e with _ e
  exact e.symm
 subst e5;refine (both_law _ _ _ _ x0 x1 x2 x3 x4 x5 W h0 h1 h2 h3 (Go.bounds_u8 f4) f1 f2 f3).calls.mono fun e W' ⟨v,he,hv,hE⟩ => ?_;subst he;subst hv;exact ⟨_,rfl,law_post hW0 laidOut rfl (by rw [Tryz.params11];intro t ht;simp at ht;rcases ht with rfl | rfl | rfl | rfl | rfl | rfl <;> exact ⟨by kernel_rfl,of_decide_eq_true (by kernel_rfl)⟩) rfl Tryz.underlying4 rfl rfl rfl hE⟩
theorem mendBoth_holds : Rows.MendBothSaid :=
 OpenClaim.holds_of_wide 11 Tryz.f11 rfl rfl rfl rfl rfl rfl rfl ⟨rfl,rfl,rfl,rfl,rfl⟩ rfl rfl rfl rfl rfl (by kernel_rfl) Tryz.func11 (by kernel_rfl)
  (of_decide_eq_true (by kernel_rfl)) (by unfold Func.isWrapper;first | (rw [if_pos (by decide +kernel)];kernel_rfl) | (rw [if_neg (by decide +kernel)];exact ⟨rfl,rfl⟩))
  (fun os started H enc _ => mendBoth_lifted os started H enc)
#print axioms mendBoth_holds
end Go.Proofs.YtnklbepeoicgpaaGreat
