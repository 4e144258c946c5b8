/- The document's Check, lists and jams. The document's first jam; Can, Jam, CheckJam. Can, Jam, CheckJam of the document; CheckJam. The document's Fits. Plain laws of the best mending: exchange, parts, gains, days. Plain law of a further flaw. Plain laws at right tours: gains, wider days, places of flaws. The document's search for a day. The document's days of another corrector: whether they rise. What days for two correctors are worth. Two correctors: the days of the second one stand behind those of the first one. Two correctors and one. Two correctors: the document's plan, in any order that fa -/
import Derived.Test.YtnklbepeoicgpaaGreatB5
import Derived.Test.YtnklbepeoicgpaaGreatB4
set_option linter.all false
namespace Go.Proofs.YtnklbepeoicgpaaGreat
open Go.RowKit Go.Wk Go.Proofs
attribute [local irreducible] Go.Wk.Wops Go.Wk.Wp Go.Wk.Mtree Go.Wk.Mops
set_option maxHeartbeats 8000000
set_option maxRecDepth 20000
theorem posF_first {fl : List Fl} {id : Int} {i : Nat} : posF fl id < (i : Int) ∧ 0 ≤ posF fl id ↔ ∃ j : Nat,j < i ∧ ∃ h : j < fl.length,fl[j].id = id := by
 unfold posF
 cases e : fl.findIdx? (fun f => decide (f.id = id)) with
 | none =>
   refine ⟨fun h => absurd h.2 (by show ¬ (0 : Int) ≤ -1;decide),?_⟩;rintro ⟨j,-,hj,q⟩;rw [List.findIdx?_eq_none_iff] at e;have := e _ (List.getElem_mem hj);rw [decide_eq_false_iff_not] at this;exact absurd q this
 | some k =>
   show ((k : Int) < (i : Int) ∧ 0 ≤ (k : Int)) ↔ _
   rw [List.findIdx?_eq_some_iff_getElem] at e;obtain ⟨h1,h2,h3⟩ := e;rw [decide_eq_true_iff] at h2
   constructor
   ·rintro ⟨h,-⟩;exact ⟨k,by omega,h1,h2⟩
   ·rintro ⟨j,hj,hjl,q⟩;refine ⟨?_,by omega⟩
    by_cases c : j < k
    ·have := h3 j c;rw [decide_eq_true_iff] at this;exact absurd q this
    ·omega
theorem rcheck_c (t : Tr) (v : Value) (w : World) (hV : TourV w w.heap.size v t) (hf : FitT t) :
  CallsV Tryz.prog 66 #[v] w fun v' w' => v' = .int .i64 (checkT t) ∧ Ext w w' := by
 obtain ⟨A,c,A2,c2,rfl,hI,hF⟩ := hV.open';have hIS : IntsS w w.heap.size (.slice A t.cl.length c) t.cl := ⟨hI⟩;have hFS : FlawsS w w.heap.size (.slice A2 t.fl.length c2) t.fl := ⟨hF⟩;have hTS : TourS w w.heap.size (.agg #[.int .i64 t.n,.slice A t.cl.length c,.slice A2 t.fl.length c2]) t := ⟨hV⟩;obtain ⟨n,hn⟩ : ∃ n,∃ _u : Unit,t.n = n := ⟨_,(),rfl⟩;have hfc := hf.cl;have hff := hf.fl;clear hV hI hF;rw [hn.choose_spec] at hTS ⊢;refine Wp.fn Tryz.func66 rfl Tryz.ntmps66 (by simp) ?_;have xw := Ext.refl w;refine Wp.keep [0] ?_;rintro r1 ⟨H,-⟩;simp [go_sem] at H
 by_cases h1 : 1 ≤ n ∧ n ≤ 60
 ·skip;refine sRg fun K' gd hK => ?_;refine cu1 fun K1 hK1 => ?_;go_simp;apply hK1;clear hK1 K1;refine Wops.absA fun aY n1 B => ?_;obtain ⟨q1,B,s1,Q,f1,r1⟩ := B;try simp only [q1] at Q f1 r1 ⊢
  replace hIS := hIS.ext B;replace hFS := hFS.ext B;replace hTS := hTS.ext B;replace xw := xw.trans B;have d := Q 0 _ rfl;have a := Q 1 _ rfl;have f := Q 2 _ rfl;clear Q B;clear r1;go_simp;apply hK;clear hK K' gd;refine Wp.keep [1] ?_;rintro r2 ⟨W,-⟩;simp [go_sem,H] at W;clear H;refine Wp.seq ?_;refine sRg fun K' gd hK => ?_;refine cu3 fun K1 hK1 => ?_;go_simp;refine Wcall (.inl rfl) (rin_T h1 _) ?_;rintro v w2 ⟨rfl,hE⟩;go_simp;apply hK1;clear hK1 K1;replace hIS := hIS.ext hE;replace hFS := hFS.ext hE;replace hTS := hTS.ext hE;replace xw := xw.trans hE;replace d := hE.cell d;replace a := hE.cell a;replace f := hE.cell f;clear hE;go_simp;apply hK;clear hK K' gd;refine Wp.keep [1,9] ?_;rintro r4 ⟨ab,aE,-⟩;simp [go_sem,W] at ab aE;clear W;refine cFf ?_;have hw1 : IntKind.i64.wrap (n - 1) = n - 1 := IntWalk.i64_in _ (by omega);refine skN ?_;refine Wp.seq ?_;refine sRg fun K' gd hK => ?_;go_simp;apply hK;clear hK K' gd;refine Wp.keep [1,3] ?_;rintro r5 ⟨R,aV,-⟩;simp [go_sem,ab,aE] at R aV
  clear ab aE;refine Wp.block ?_;refine Wp.loop (fun k ρ ds wk => AllEq [1] ρ r5 ∧ ds = [] ∧ (Ext w2 wk) ∧ (ρ 3 = .int .i64 (k : Int) ∧ (∃ _u : Unit,∀ j,j < k → ClAt n t.cl j))) (t.cl.length) ?_ ?_
  ·refine ⟨AllEq.refl _ _,rfl,Ext.refl _,?_⟩;exact ⟨by rw [aV];rfl,(),fun j hj => absurd hj (Nat.not_lt_zero _)⟩
  ·rintro k r6 _ wk hk ⟨hA,rfl,xl2,⟨e3,hq⟩⟩;obtain ⟨ag,-⟩ := hA;rw [R] at ag;replace hIS := hIS.ext xl2;replace hFS := hFS.ext xl2;replace hTS := hTS.ext xl2;replace xw := Ext.trans xw xl2;replace d := Ext.cell xl2 d;replace a := Ext.cell xl2 a;replace f := Ext.cell xl2 f;refine Wp.seq ?_;refine sRg fun K' gd hK => ?_;go_simp;apply hK;clear hK K' gd;refine Wp.keep [1,3,14] ?_;rintro r7 ⟨p,r,l,-⟩;simp [go_sem,ag,e3] at p r l;clear ag e3
   by_cases hk : k < t.cl.length
   ·refine cTt ?_;have hkl : (k : Int) < (t.cl.length : Int) := by omega
    obtain ⟨b,o,cc,ev,hb,hcc⟩ := hIS.v.get hk
    injection ev with ev1 _ ev2
    subst ev1;subst ev2;have x1 := hcc k hk;refine skN ?_;refine sBk ?_
    by_cases h2 : 0 ≤ gI t.cl k ∧ gI t.cl k ≤ n - 1
    ·skip
     by_cases h3 : 0 < k
     ·skip;obtain ⟨j,hj⟩ : ∃ j,∃ _u : Unit,k = j + 1 := ⟨k - 1,(),by omega⟩;have hj2 : ∃ _u : Unit,j < t.cl.length := ⟨(),by have := hj.choose_spec;omega⟩;have x2 := hcc j hj2.choose_spec;have hk0 : (0 : Int) < (k : Int) := by omega
      have hkw : IntKind.i64.wrap ((k : Int) - 1) = (j : Int) := by have := hj.choose_spec;rw [IntWalk.i64_in _ (by omega)];omega
      have hjl : (j : Int) < (t.cl.length : Int) := by have := hj2.choose_spec;omega
      clear hcc
      by_cases h4 : gI t.cl k ≤ gI t.cl j
      ·skip;refine Wp.seqDraw (.inl rfl) mixed [([0,1,2,3,4],none),([5,6,7],some (8,false)),([9,10],none),([11,12,13],none),([14,15,16,17,18],none),([19,20,21,22,23],none),([24,25,26,27],none)] (by kernel_rfl) fun K' gd hK hg => ?_;have g10 : gd 10 = some 27 := hg 10;have g13 : gd 13 = some 30 := hg 13;clear hg;simp only [pick,nth,List.map_cons,List.map_nil,Option.map_none,Option.map_some];refine Mops.absD fun D3 hD3 zD3 => ?_;replace xw := xw.trans hD3;replace xl2 := xl2.trans hD3;replace d := hD3.cell d;replace a := hD3.cell a;replace x1 := hD3.cell x1;replace x2 := hD3.cell x2;clear hD3;refine mNo ?_
       refine mAc ?_
       intro K1 hK1;go_simp;refine Wcall (.inl rfl) (rin_T h2 _) ?_;rintro v w3 ⟨rfl,hE⟩;go_simp;refine hK1 _ _ (by assumption) ?_;clear hK1 K1;replace xw := xw.trans hE;replace xl2 := xl2.trans hE;replace a := hE.cell a;replace x1 := hE.cell x1;replace x2 := hE.cell x2;clear hE;apply Mops.none
       ·intro w' hE';go_simp;with_reducible rfl
       apply Mops.none
       ·intro w' hE';go_simp;with_reducible rfl
       refine mNo ?_
       refine mNo ?_
       refine mNo ?_
       refine Mops.done ?_;apply hK;clear hK K' gd g10 g13;refine Wp.keep [1,3,44] ?_;rintro r9 ⟨ah,al,ap,-⟩;simp [go_sem,p,r,l] at ah al ap;clear p r l;refine cTt ?_;refine sRg fun K' gd hK => ?_;go_simp;apply hK;clear hK K' gd;refine Wp.keep [2] ?_;rintro r10 ⟨aK,-⟩;simp [go_sem,ah,al,ap] at aK;clear ah al ap;refine Wp.ret ?_;refine bRe ?_;refine tRe ?_;refine tRe ?_;refine bRe ?_;refine tRe ?_;refine endK_tmp Tryz.results66 (by decide) ?_;rw [aK];exact ⟨by unfold checkT;rw [hn.choose_spec,if_neg (by simpa using h1),if_pos fun hc => by have := (hc k hk).2 h3;rw [show k - 1 = j by have := hj.choose_spec;omega] at this;omega],xw⟩
      ·skip;refine Wp.seqDraw (.inl rfl) mixed [([0,1,2,3,4],none),([5,6,7],some (8,false)),([9,10],none),([11,12,13],none),([14,15,16,17,18],none),([19,20,21,22,23],none),([24,25,26,27],none)] (by kernel_rfl) fun K' gd hK hg => ?_;have g10 : gd 10 = some 27 := hg 10;have g13 : gd 13 = some 30 := hg 13;clear hg;simp only [pick,nth,List.map_cons,List.map_nil,Option.map_none,Option.map_some];refine Mops.absD fun D4 hD4 zD4 => ?_;replace xw := xw.trans hD4;replace xl2 := xl2.trans hD4;replace d := hD4.cell d;replace a := hD4.cell a;replace x1 := hD4.cell x1;replace x2 := hD4.cell x2;clear hD4;refine mNo ?_
       refine mAc ?_
       intro K1 hK1;go_simp;refine Wcall (.inl rfl) (rin_T h2 _) ?_;rintro v w3 ⟨rfl,hE⟩;go_simp;refine hK1 _ _ (by assumption) ?_;clear hK1 K1;replace xw := xw.trans hE;replace xl2 := xl2.trans hE;replace a := hE.cell a;replace x1 := hE.cell x1;replace x2 := hE.cell x2;clear hE;apply Mops.none
       ·intro w' hE';go_simp;with_reducible rfl
       apply Mops.none
       ·intro w' hE';go_simp;with_reducible rfl
       refine mNo ?_
       refine mNo ?_
       refine mNo ?_
       refine Mops.done ?_;apply hK;clear hK K' gd g10 g13;refine Wp.keep [1,3,44] ?_;rintro r12 ⟨T,ai,am,-⟩;simp [go_sem,p,r,l] at T ai am;clear p r l;refine cFf ?_;refine Wp.skip ?_;refine bNo ?_;refine tNo ?_;refine lRg fun K' gd hK => ?_;go_simp;apply hK;clear hK K' gd;refine Ends.keep [1,3] ?_;rintro r13 ⟨aH,aT,-⟩;simp [go_sem,T,ai,am] at aH aT;clear T ai am;refine Ends.mk ?_;refine thenK_normal ⟨by omega,⟨by rw [aH,R],trivial⟩,rfl,xl2,?_⟩;exact ⟨by rw [aT,IntWalk.i64_in _ (by omega)];rfl,(),fun i hi => by by_cases e : i = k;(subst e;exact ⟨h2,fun _ => by rw [show i - 1 = j by have := hj.choose_spec;omega];omega⟩);exact hq.choose_spec i (by omega)⟩
     ·skip;have hk0 : ¬ (0 : Int) < (k : Int) := by omega
      clear hcc;refine Wp.seqDraw (.inl rfl) mixed [([0,1,2,3,4],none),([5,6,7],some (8,false)),([9,10],none),([11,12,13],none),([14,15,16,17,18],none),([19,20,21,22,23],none),([24,25,26,27],none)] (by kernel_rfl) fun K' gd hK hg => ?_;have g10 : gd 10 = some 27 := hg 10;have g13 : gd 13 = some 30 := hg 13;clear hg;simp only [pick,nth,List.map_cons,List.map_nil,Option.map_none,Option.map_some];refine Mops.absD fun D5 hD5 zD5 => ?_;replace xw := xw.trans hD5;replace xl2 := xl2.trans hD5;replace d := hD5.cell d;replace a := hD5.cell a;replace x1 := hD5.cell x1;clear hD5;refine mNo ?_
      refine mAc ?_
      intro K1 hK1;go_simp;refine Wcall (.inl rfl) (rin_T h2 _) ?_;rintro v w3 ⟨rfl,hE⟩;go_simp;refine hK1 _ _ (by assumption) ?_;clear hK1 K1;replace xw := xw.trans hE;replace xl2 := xl2.trans hE;replace x1 := hE.cell x1;clear hE;apply Mops.none
      ·intro w' hE';go_simp;with_reducible rfl
      apply Mops.none
      ·intro w' hE';go_simp;with_reducible rfl
      apply Mops.none
      ·intro w' hE';go_simp;with_reducible rfl
      apply Mops.none
      ·intro w' hE';go_simp;with_reducible rfl
      apply Mops.none
      ·intro w' hE';go_simp;with_reducible rfl
      refine Mops.done ?_;apply hK;clear hK K' gd g10 g13;refine Wp.keep [1,3,44] ?_;rintro r15 ⟨U,aj,an,-⟩;simp [go_sem,p,r,l] at U aj an;clear p r l;refine cFf ?_;refine Wp.skip ?_;refine bNo ?_;refine tNo ?_;refine lRg fun K' gd hK => ?_;go_simp;apply hK;clear hK K' gd;refine Ends.keep [1,3] ?_;rintro r16 ⟨aI,aU,-⟩;simp [go_sem,U,aj,an] at aI aU;clear U aj an;refine Ends.mk ?_;refine thenK_normal ⟨by omega,⟨by rw [aI,R],trivial⟩,rfl,xl2,?_⟩;exact ⟨by rw [aU,IntWalk.i64_in _ (by omega)];rfl,(),fun i hi => by by_cases e : i = k;(subst e;exact ⟨h2,fun h => absurd h h3⟩);exact hq.choose_spec i (by omega)⟩
    ·skip;clear hcc;refine Wp.seqDraw (.inl rfl) mixed [([0,1,2,3,4],none),([5,6,7],some (8,false)),([9,10],none),([11,12,13],none),([14,15,16,17,18],none),([19,20,21,22,23],none),([24,25,26,27],none)] (by kernel_rfl) fun K' gd hK hg => ?_;have g10 : gd 10 = some 27 := hg 10;have g13 : gd 13 = some 30 := hg 13;clear hg;simp only [pick,nth,List.map_cons,List.map_nil,Option.map_none,Option.map_some];refine Mops.absD fun D6 hD6 zD6 => ?_;replace xw := xw.trans hD6;replace xl2 := xl2.trans hD6;replace d := hD6.cell d;replace a := hD6.cell a;replace x1 := hD6.cell x1;clear hD6;refine mNo ?_
     refine mAc ?_
     intro K1 hK1;go_simp;refine Wcall (.inl rfl) (rin_F h2 _) ?_;rintro v w3 ⟨rfl,hE⟩;go_simp;refine hK1 _ _ (by assumption) ?_;clear hK1 K1;replace xw := xw.trans hE;replace xl2 := xl2.trans hE;clear hE;apply Mops.none
     ·intro w' hE';go_simp;with_reducible rfl
     apply Mops.none
     ·intro w' hE';go_simp;with_reducible rfl
     apply Mops.none
     ·intro w' hE';go_simp;with_reducible rfl
     apply Mops.none
     ·intro w' hE';go_simp;with_reducible rfl
     apply Mops.none
     ·intro w' hE';go_simp;with_reducible rfl
     refine Mops.done ?_;apply hK;clear hK K' gd g10 g13;refine Wp.keep [1,3,44] ?_;rintro r18 ⟨V,ak,ao,-⟩;simp [go_sem,p,r,l] at V ak ao;clear p r l;refine cTt ?_;refine sRg fun K' gd hK => ?_;go_simp;apply hK;clear hK K' gd;refine Wp.keep [2] ?_;rintro r19 ⟨aL,-⟩;simp [go_sem,V,ak,ao] at aL;clear V ak ao;refine Wp.ret ?_;refine bRe ?_;refine tRe ?_;refine tRe ?_;refine bRe ?_;refine tRe ?_;refine endK_tmp Tryz.results66 (by decide) ?_;rw [aL];exact ⟨by unfold checkT;rw [hn.choose_spec,if_neg (by simpa using h1),if_pos fun hc => h2 (hc k hk).1],xw⟩
   ·refine cFf ?_;have hcl : ∃ _u : Unit,ClOk n t.cl := ⟨(),fun j hj => hq.choose_spec j (by omega)⟩;refine Wp.exit ?_;refine tEx ?_;refine tEx ?_;refine blockK_here ?_;refine tNo ?_;refine Wp.seq ?_;refine sRg fun K' gd hK => ?_;go_simp;apply hK;clear hK K' gd;refine Wp.keep [1,48] ?_;rintro r20 ⟨I,L,-⟩;simp [go_sem,p,r,l] at I L;clear p r l
    by_cases h5 : (40 : Int) < (t.fl.length : Int)
    ·refine cTt ?_;refine sRg fun K' gd hK => ?_;go_simp;apply hK;clear hK K' gd;refine Wp.keep [2] ?_;rintro r21 ⟨aM,-⟩;simp [go_sem,I,L] at aM;clear I L;refine Wp.ret ?_;refine tRe ?_;refine endK_tmp Tryz.results66 (by decide) ?_;rw [aM];exact ⟨by unfold checkT;rw [hn.choose_spec,if_neg (by simpa using h1),if_neg (by simpa using hcl.choose_spec),if_pos (by omega)],xw⟩
    ·refine cFf ?_;have hcs : ∃ _u : Unit,checkT t = chkFl n [] t.fl := ⟨(),by unfold checkT;rw [hn.choose_spec,if_neg (by simpa using h1),if_neg (by simpa using hcl.choose_spec),if_neg (by omega)]⟩;refine skN ?_;refine Wp.seq ?_;refine sRg fun K' gd hK => ?_;go_simp;apply hK;clear hK K' gd;refine Wp.keep [1,4] ?_;rintro r22 ⟨X,aW,-⟩;simp [go_sem,I,L] at X aW;clear I L;refine Wp.block ?_;refine Wp.loop (fun i ρ ds wi => AllEq [1] ρ r22 ∧ ds = [] ∧ (Ext wk wi) ∧ (∃ ids,ρ 4 = .int .i64 (i : Int) ∧ (∃ _u : Unit,(∀ x : Int,x ∈ ids ↔ ∃ j : Nat,j < i ∧ ∃ h : j < t.fl.length,t.fl[j].id = x) ∧ chkFl n ids (t.fl.drop i) = checkT t))) (t.fl.length) ?_ ?_
     ·refine ⟨AllEq.refl _ _,rfl,Ext.refl _,?_⟩;exact ⟨[],by rw [aW];rfl,(),fun x => ⟨fun h => absurd h List.not_mem_nil,fun ⟨j,hj,_⟩ => absurd hj (Nat.not_lt_zero _)⟩,by rw [List.drop_zero];exact hcs.choose_spec.symm⟩
     ·rintro i r23 _ wi hi ⟨hA,rfl,xl7,⟨ids,e4,hil⟩⟩;obtain ⟨Y,-⟩ := hA;rw [X] at Y;replace hFS := hFS.ext xl7;replace hTS := hTS.ext xl7;replace xw := Ext.trans xw xl7;replace xl2 := Ext.trans xl2 xl7;replace d := Ext.cell xl7 d;replace a := Ext.cell xl7 a;replace f := Ext.cell xl7 f;refine Wp.seq ?_;refine sRg fun K' gd hK => ?_;go_simp;apply hK;clear hK K' gd;refine Wp.keep [1,4,53] ?_;rintro r24 ⟨J,M,O,-⟩;simp [go_sem,Y,e4] at J M O;clear Y e4
      by_cases hi : i < t.fl.length
      ·refine cTt ?_;have hif2 : (i : Int) < (t.fl.length : Int) := by omega
       obtain ⟨b2,o2,eA,hb2,x0,x1,x2,x3⟩ := FlawsV.at hFS.v hi;subst eA;obtain ⟨G,hG⟩ : ∃ G,∃ _u : Unit,t.fl[i] = G := ⟨_,(),rfl⟩;rw [hG.choose_spec] at x0 x1 x2 x3;have hck : ∃ _u : Unit,chkFl n ids (G :: t.fl.drop (i + 1)) = checkT t := ⟨(),by have := hil.choose_spec.2;rwa [drop_cons hi,hG.choose_spec] at this⟩;refine skN ?_;refine sBk ?_;refine sRg fun K' gd hK => ?_;refine cu7 fun K1 hK1 => ?_;go_simp;apply hK1;clear hK1 K1;refine Wops.absA fun a0 n5 g => ?_;obtain ⟨q5,g,s5,F,f5,r5⟩ := g;try simp only [q5] at F f5 r5 ⊢
       replace hTS := hTS.ext g;replace xw := xw.trans g;replace xl2 := xl2.trans g;replace xl7 := xl7.trans g;replace d := g.cell d;replace a := g.cell a;replace f := g.cell f;replace x0 := g.cell x0;replace x1 := g.cell x1;replace x2 := g.cell x2;replace x3 := g.cell x3;have C := F 0 _ rfl;have D := F 1 _ rfl;have E := F 2 _ rfl;have z := F 3 _ rfl;clear F g;clear r5;try simp only [Wops_nil,updO_some,updO_none]
       apply hK;clear hK K' gd;refine Wp.keep [1,4,5] ?_;rintro r25 ⟨s,u,y,-⟩;simp [go_sem,J,M,O] at s u y;clear J M O;refine Wp.seq ?_
       by_cases k1 : 1 ≤ G.id ∧ G.id ≤ 1099511627776
       ·skip
        by_cases k2 : 0 ≤ G.lo ∧ G.lo ≤ G.hi ∧ G.hi < n
        ·skip
         by_cases k3 : 1 ≤ G.m ∧ G.m ≤ 1000
         ·skip;refine sRh fun K' gd hK hg => ?_;have g4 : gd 4 = some 65 := hg 4;have g11 : gd 11 = some 72 := hg 11;clear hg;refine cu3 fun K1 hK1 => ?_;go_simp;refine Wcall (.inl rfl) (rin_T k1 _) ?_;rintro v w3 ⟨rfl,hE⟩;go_simp;apply hK1;clear hK1 K1;replace hTS := hTS.ext hE;replace xw := xw.trans hE;replace xl2 := xl2.trans hE;replace xl7 := xl7.trans hE;replace d := hE.cell d;replace a := hE.cell a;replace f := hE.cell f;replace x0 := hE.cell x0;replace x1 := hE.cell x1;replace x2 := hE.cell x2;replace x3 := hE.cell x3;replace C := hE.cell C;replace D := hE.cell D;replace E := hE.cell E;replace z := hE.cell z;clear hE;refine cu6 fun K1 hK1 => ?_;go_simp;refine Wcall (.inl rfl) (rspan_T k2 _) ?_;rintro v w4 ⟨rfl,hE⟩;go_simp;apply hK1;clear hK1 K1;replace hTS := hTS.ext hE;replace xw := xw.trans hE;replace xl2 := xl2.trans hE;replace xl7 := xl7.trans hE;replace d := hE.cell d;replace a := hE.cell a;replace f := hE.cell f;replace x0 := hE.cell x0;replace x1 := hE.cell x1;replace x2 := hE.cell x2;replace x3 := hE.cell x3
          replace C := hE.cell C;replace z := hE.cell z;clear hE;refine cu6 fun K1 hK1 => ?_;go_simp;refine Wcall (.inl rfl) (rin_T k3 _) ?_;rintro v w5 ⟨rfl,hE⟩;go_simp;apply hK1;clear hK1 K1;replace hTS := hTS.ext hE;replace xw := xw.trans hE;replace xl2 := xl2.trans hE;replace xl7 := xl7.trans hE;replace d := hE.cell d;replace a := hE.cell a;replace f := hE.cell f;replace x0 := hE.cell x0;replace x1 := hE.cell x1;replace x2 := hE.cell x2;replace x3 := hE.cell x3;replace C := hE.cell C;clear hE;go_simp;apply hK;clear hK K' gd g4 g11;refine Wp.keep [1,4,5,77] ?_;rintro r29 ⟨Z,aq,aw,aA,-⟩;simp [go_sem,s,u,y] at Z aq aw aA;clear s u y;refine cFf ?_;have hpf := posF_first (fl := t.fl) (id := G.id) (i := i);have hpn : 0 ≤ posF t.fl G.id := ((posF_first (fl := t.fl) (id := G.id) (i := i + 1)).2 ⟨i,Nat.lt_succ_self _,hi,by rw [hG.choose_spec]⟩).2;replace hpf : ∃ _u : Unit,_ := ⟨(),hpf⟩;have hmi : ∃ _u : Unit,(G.id ∈ ids ↔ posF t.fl G.id < (i : Int)) := ⟨(),⟨fun h => (hpf.choose_spec.2 ((hil.choose_spec.1 _).1 h)).1,fun h => (hil.choose_spec.1 _).2 (hpf.choose_spec.1 ⟨h,hpn⟩)⟩⟩;refine skN ?_;refine sRg fun K' gd hK => ?_;refine cu4 fun K1 hK1 => ?_;go_simp;refine Wcall (.inl rfl) (rflaw_c t G.id _ _ (hTS.v.more (Below.size (XE))) (by omega)) ?_;rintro v w6 ⟨rfl,hE⟩;go_simp;apply hK1;clear hK1 K1;replace xw := xw.trans hE;replace xl2 := xl2.trans hE;replace xl7 := xl7.trans hE;replace x0 := hE.cell x0;replace x1 := hE.cell x1;replace x2 := hE.cell x2;replace x3 := hE.cell x3;clear hE;go_simp;apply hK;clear hK K' gd;refine Wp.keep [1,4,83] ?_;rintro r31 ⟨K,N,P,-⟩;simp [go_sem,Z,aq,aw,aA] at K N P;clear Z aq aw aA
          by_cases k4 : posF t.fl G.id < (i : Int)
          ·refine cTt ?_;refine sRg fun K' gd hK => ?_;go_simp;apply hK;clear hK K' gd;refine Wp.keep [2] ?_;rintro r32 ⟨aN,-⟩;simp [go_sem,K,N,P] at aN;clear K N P;refine Wp.ret ?_;refine bRe ?_;refine tRe ?_;refine tRe ?_;refine bRe ?_;refine tRe ?_;refine endK_tmp Tryz.results66 (by decide) ?_;rw [aN];exact ⟨by rw [← hck.choose_spec,chkFl,if_neg (not_not_intro ⟨k1,k2,k3⟩),if_pos (hmi.choose_spec.2 k4)],xw⟩
          ·refine cFf ?_;refine Wp.skip ?_;refine bNo ?_;refine tNo ?_;refine lRg fun K' gd hK => ?_;go_simp;apply hK;clear hK K' gd;refine Ends.keep [1,4] ?_;rintro r33 ⟨aJ,aX,-⟩;simp [go_sem,K,N,P] at aJ aX;clear K N P;refine Ends.mk ?_;refine thenK_normal ⟨by omega,⟨by rw [aJ,X],trivial⟩,rfl,xl7,?_⟩;exact ⟨G.id :: ids,by rw [aX,IntWalk.i64_in _ (by omega)];rfl,(),fun x => by rw [List.mem_cons,hil.choose_spec.1];exact ⟨fun h => h.elim (fun e => ⟨i,Nat.lt_succ_self _,hi,by rw [hG.choose_spec,e]⟩) fun ⟨j,hj,hl,e⟩ => ⟨j,by omega,hl,e⟩,fun ⟨j,hj,hl,e⟩ => by by_cases q : j = i;(subst q;rw [hG.choose_spec] at e;exact .inl e.symm);exact .inr ⟨j,by omega,hl,e⟩⟩,by rw [← hck.choose_spec];conv => rhs;rw [chkFl,if_neg (not_not_intro ⟨k1,k2,k3⟩),if_neg fun h => k4 (hmi.choose_spec.1 h)]⟩
         ·skip;refine sRh fun K' gd hK hg => ?_;have g4 : gd 4 = some 65 := hg 4;have g11 : gd 11 = some 72 := hg 11;clear hg;refine cu3 fun K1 hK1 => ?_;go_simp;refine Wcall (.inl rfl) (rin_T k1 _) ?_;rintro v w3 ⟨rfl,hE⟩;go_simp;apply hK1;clear hK1 K1;replace xw := xw.trans hE;replace xl2 := xl2.trans hE;replace xl7 := xl7.trans hE;replace d := hE.cell d;replace a := hE.cell a;replace f := hE.cell f;replace D := hE.cell D;replace E := hE.cell E;replace z := hE.cell z;clear hE;refine cu6 fun K1 hK1 => ?_;go_simp;refine Wcall (.inl rfl) (rspan_T k2 _) ?_;rintro v w4 ⟨rfl,hE⟩;go_simp;apply hK1;clear hK1 K1;replace xw := xw.trans hE;replace xl2 := xl2.trans hE;replace xl7 := xl7.trans hE;replace z := hE.cell z;clear hE;refine cu6 fun K1 hK1 => ?_;go_simp;refine Wcall (.inl rfl) (rin_F k3 _) ?_;rintro v w5 ⟨rfl,hE⟩;go_simp;apply hK1;clear hK1 K1;replace xw := xw.trans hE;replace xl2 := xl2.trans hE;replace xl7 := xl7.trans hE;clear hE;go_simp;apply hK
          clear hK K' gd g4 g11;refine Wp.keep [1,4,5,77] ?_;rintro r37 ⟨aa,ar,ax,aB,-⟩;simp [go_sem,s,u,y] at aa ar ax aB;clear s u y;refine cTt ?_;refine sRg fun K' gd hK => ?_;go_simp;apply hK;clear hK K' gd;refine Wp.keep [2] ?_;rintro r38 ⟨aO,-⟩;simp [go_sem,aa,ar,ax,aB] at aO;clear aa ar ax aB;refine Wp.ret ?_;refine tRe ?_;refine bRe ?_;refine tRe ?_;refine tRe ?_;refine bRe ?_;refine tRe ?_;refine endK_tmp Tryz.results66 (by decide) ?_;rw [aO];exact ⟨by rw [← hck.choose_spec,chkFl,if_pos fun h => k3 h.2.2],xw⟩
        ·skip;refine sRh fun K' gd hK hg => ?_;have g4 : gd 4 = some 65 := hg 4;have g11 : gd 11 = some 72 := hg 11;clear hg;refine cu3 fun K1 hK1 => ?_;go_simp;refine Wcall (.inl rfl) (rin_T k1 _) ?_;rintro v w3 ⟨rfl,hE⟩;go_simp;apply hK1;clear hK1 K1;replace xw := xw.trans hE;replace xl2 := xl2.trans hE;replace xl7 := xl7.trans hE;replace d := hE.cell d;replace a := hE.cell a;replace f := hE.cell f;replace D := hE.cell D;replace E := hE.cell E;clear hE;refine cu6 fun K1 hK1 => ?_;go_simp;refine Wcall (.inl rfl) (rspan_F k2 _) ?_;rintro v w4 ⟨rfl,hE⟩;go_simp;apply hK1;clear hK1 K1;replace xw := xw.trans hE;replace xl2 := xl2.trans hE;replace xl7 := xl7.trans hE;clear hE;refine cu6 fun K1 hK1 => ?_;go_simp;apply hK1;clear hK1 K1;go_simp;apply hK;clear hK K' gd g4 g11;refine Wp.keep [1,4,5,77] ?_;rintro r41 ⟨ac,au,ay,aC,-⟩;simp [go_sem,s,u,y] at ac au ay aC;clear s u y;refine cTt ?_
         refine sRg fun K' gd hK => ?_;go_simp;apply hK;clear hK K' gd;refine Wp.keep [2] ?_;rintro r42 ⟨aP,-⟩;simp [go_sem,ac,au,ay,aC] at aP;clear ac au ay aC;refine Wp.ret ?_;refine tRe ?_;refine bRe ?_;refine tRe ?_;refine tRe ?_;refine bRe ?_;refine tRe ?_;refine endK_tmp Tryz.results66 (by decide) ?_;rw [aP];exact ⟨by rw [← hck.choose_spec,chkFl,if_pos fun h => k2 h.2.1],xw⟩
       ·skip;refine sRh fun K' gd hK hg => ?_;have g4 : gd 4 = some 65 := hg 4;have g11 : gd 11 = some 72 := hg 11;clear hg;refine cu3 fun K1 hK1 => ?_;go_simp;refine Wcall (.inl rfl) (rin_F k1 _) ?_;rintro v w3 ⟨rfl,hE⟩;go_simp;apply hK1;clear hK1 K1;replace xw := xw.trans hE;replace xl2 := xl2.trans hE;replace xl7 := xl7.trans hE;clear hE;refine cu6 fun K1 hK1 => ?_;go_simp;apply hK1;clear hK1 K1;refine cu6 fun K1 hK1 => ?_;go_simp;apply hK1;clear hK1 K1;go_simp;apply hK;clear hK K' gd g4 g11;refine Wp.keep [1,4,5,77] ?_;rintro r44 ⟨ad,av,az,aD,-⟩;simp [go_sem,s,u,y] at ad av az aD;clear s u y;refine cTt ?_;refine sRg fun K' gd hK => ?_;go_simp;apply hK;clear hK K' gd;refine Wp.keep [2] ?_;rintro r45 ⟨aQ,-⟩;simp [go_sem,ad,av,az,aD] at aQ;clear ad av az aD;refine Wp.ret ?_;refine tRe ?_;refine bRe ?_;refine tRe ?_
        refine tRe ?_;refine bRe ?_;refine tRe ?_;refine endK_tmp Tryz.results66 (by decide) ?_;rw [aQ];exact ⟨by rw [← hck.choose_spec,chkFl,if_pos fun h => k1 h.1],xw⟩
      ·refine cFf ?_;have him : i = t.fl.length := by omega
       refine Wp.exit ?_;refine tEx ?_;refine tEx ?_;refine blockK_here ?_;refine tNo ?_;refine sRg fun K' gd hK => ?_;go_simp;apply hK;clear hK K' gd;refine Wp.keep [2] ?_;rintro r46 ⟨aR,-⟩;simp [go_sem,J,M,O] at aR;clear J M O;refine Wp.ret ?_;refine endK_tmp Tryz.results66 (by decide) ?_;rw [aR];exact ⟨by rw [← hil.choose_spec.2,him,List.drop_length];rfl,xw⟩
 ·skip;refine sRg fun K' gd hK => ?_;refine cu1 fun K1 hK1 => ?_;go_simp;apply hK1;clear hK1 K1;refine Wops.absA fun aZ n1 S => ?_;obtain ⟨q1,S,s1,aG,f1,r1⟩ := S;try simp only [q1] at aG f1 r1 ⊢
  replace xw := xw.trans S;have d := aG 0 _ rfl;clear aG S;clear r1;go_simp;apply hK;clear hK K' gd;refine Wp.keep [1] ?_;rintro r47 ⟨ae,-⟩;simp [go_sem,H] at ae;clear H;refine Wp.seq ?_;refine sRg fun K' gd hK => ?_;refine cu3 fun K1 hK1 => ?_;go_simp;refine Wcall (.inl rfl) (rin_F h1 _) ?_;rintro v w2 ⟨rfl,hE⟩;go_simp;apply hK1;clear hK1 K1;replace xw := xw.trans hE;clear hE;go_simp;apply hK;clear hK K' gd;refine Wp.keep [1,9] ?_;rintro r49 ⟨af,aF,-⟩;simp [go_sem,ae] at af aF;clear ae;refine cTt ?_;refine sRg fun K' gd hK => ?_;go_simp;apply hK;clear hK K' gd;refine Wp.keep [2] ?_;rintro r50 ⟨aS,-⟩;simp [go_sem,af,aF] at aS;clear af aF;refine Wp.ret ?_;refine tRe ?_;refine endK_tmp Tryz.results66 (by decide) ?_;rw [aS];exact ⟨by unfold checkT;rw [hn.choose_spec,if_pos (by simpa using h1)],xw⟩
end Go.Proofs.YtnklbepeoicgpaaGreat
namespace Go.Proofs.YtnklbepeoicgpaaGreat
theorem GoodT.opt {t : Tr} (h : GoodT t) : OptT t t.n.toNat := ⟨fun f hf => by
 have h1 := (h.ok f hf).2.1;have := h.n;exact ⟨h1.1,by omega⟩,fun f hf => by have := (h.ok f hf).2.2;omega⟩
theorem GoodT.le {t : Tr} (h : GoodT t) : ∀ f ∈ t.fl,f.lo ≤ f.hi := fun f hf => (h.ok f hf).2.1.2.1
theorem GoodT.pos {t : Tr} (h : GoodT t) : ∀ f ∈ t.fl,0 < f.m := fun f hf => by have := (h.ok f hf).2.2;omega
section
variable {N : Int → List Nat} {n m : Nat}
theorem len_sum {l : List Int} : l.Nodup → (∀ x ∈ l,∃ k : Nat,x = (k : Int) ∧ k < m) → (l.length : Int) = sumN (fun j => if (j : Int) ∈ l then 1 else 0) m := by
 induction l with
 | nil => intro _ _;rw [sumN_eq m (g := fun _ => 0) fun d _ => if_neg List.not_mem_nil,sumN_zero];rfl
 | cons x l ih =>
   intro hd hm;have hd := List.nodup_cons.1 hd;obtain ⟨k,rfl,hk⟩ := hm x List.mem_cons_self
   rw [sumN_eq m (g := fun j => (if (j : Int) ∈ l then 1 else 0) + if j = k then 1 else 0) fun j _ => by
    by_cases e : j = k
    ·subst e;rw [if_pos List.mem_cons_self,if_neg hd.1,if_pos rfl];rfl
    ·rw [if_neg e]
     by_cases hj : (j : Int) ∈ l
     ·rw [if_pos hj,if_pos (List.mem_cons_of_mem _ hj)];rfl
     ·rw [if_neg hj,if_neg (by rw [List.mem_cons];rintro (x | x);omega;exact hj x)];rfl,sumN_add,← ih hd.2 fun y hy => hm y (List.mem_cons_of_mem _ hy),sumN_one (F := fun _ => 1),if_pos hk,List.length_cons]
   omega
theorem canF_plan {l : List Int} (hN : ∀ i,∀ d ∈ N i,d < n) (hd : l.Nodup) (hm : ∀ x ∈ l,∃ k : Nat,x = (k : Int) ∧ k < m) (hc : canF N n l noPlan = true) :
  OkP N n m (l.foldl (addF N n) noPlan) ∧ ∀ j : Nat,cntN (l.foldl (addF N n) noPlan) (j : Int) n = if (j : Int) ∈ l then 1 else 0 := by
 obtain ⟨h1,h2⟩ := canF_true hN l noPlan noPlan_ok hd (fun x hx => by obtain ⟨k,rfl,hk⟩ := hm x hx;exact ⟨k,rfl,hk,noPlan_cnt⟩) hc;exact ⟨h1,fun j => by rw [h2,noPlan_cnt,Int.zero_add]⟩
end
theorem OptT.wider {t : Tr} {n i : Nat} {lo hi : Int} (hT : OptT t n) (h : i < t.fl.length) (hs : 0 ≤ lo ∧ hi < n) : OptT (widerT t i lo hi) n := by
 constructor
 ·intro f hf;rw [widerT_at h] at hf
  rcases List.mem_or_eq_of_mem_set hf with hf | rfl
  ·exact hT.sp f hf
  ·exact hs
 ·intro f hf;rw [widerT_at h] at hf
  rcases List.mem_or_eq_of_mem_set hf with hf | rfl
  ·exact hT.mr f hf
  ·show 0 ≤ t.fl[i].m
   exact hT.mr _ (List.getElem_mem h)
section
variable {N N' : Int → List Nat} {n m : Nat} {W : Int → Int} {w v v' : Int} {g h : Nat → Int}
theorem cnt_worth {L : List Int} (hh : OkP N n m h) (hc : ∀ j : Nat,j < m → cntN h (j : Int) n = if (j : Int) ∈ L then 1 else 0) : worthW W h n = sumN (fun j => if (j : Int) ∈ L then W j else 0) m := by
 rw [worth_cnt n fun d _ => (hh.lt d).2];refine sumN_eq m fun j hj => ?_;rw [hc j hj]
 split
 ·exact Int.one_mul _
 ·exact Int.zero_mul _
end
def moreT (t : Tr) (f : Fl) : Tr := ⟨t.n,t.cl,t.fl ++ [f]⟩
section
variable {t : Tr} {f : Fl} {n : Nat}
theorem moreT_len : (moreT t f).fl.length = t.fl.length + 1 := by show (t.fl ++ [f]).length = _;rw [List.length_append,List.length_singleton]
theorem moreT_at {j : Nat} (hj : j < t.fl.length) : (moreT t f).fl[j]? = t.fl[j]? := List.getElem?_append_left hj
theorem moreT_last : (moreT t f).fl[t.fl.length]? = some f := by show (t.fl ++ [f])[t.fl.length]? = _;rw [List.getElem?_append_right (Nat.le_refl _),Nat.sub_self];rfl
theorem moreT_m {j : Nat} (hj : j < t.fl.length) : mAt (moreT t f).fl (j : Int) = mAt t.fl (j : Int) := mAt_eq (moreT_at hj)
theorem moreT_mf : mAt (moreT t f).fl (t.fl.length : Int) = f.m := by unfold mAt;rw [Int.toNat_natCast,moreT_last]
end
structure LatP (N : Int → List Nat) (n m : Nat) (l L : List Int) : Prop where
 can : canF N n L noPlan = true
 nd : L.Nodup
 mem : ∀ x ∈ L,x ∈ l ∨ x = (m : Int)
 one : ∀ x ∈ l,∀ y ∈ l,x ∉ L → y ∉ L → x = y
section
variable {t : Tr} {f : Fl} {n : Nat} {h : Nat → Int} {l : List Int}
structure LatS (t : Tr) (f : Fl) (n : Nat) (h : Nat → Int) (l : List Int) : Prop where
 hT : OptT t n
 hM : OptT (moreT t f) n
 pos : ∀ x ∈ t.fl,0 < x.m
 hb : BestP t n h
 nd : l.Nodup
 mm : ∀ x ∈ l,∃ k : Nat,x = (k : Int) ∧ k < t.fl.length
 srt : l.Pairwise fun a b => mAt t.fl a ≤ mAt t.fl b
 cnt : ∀ j : Nat,j < t.fl.length → cntN h (j : Int) n = if (j : Int) ∈ l then 1 else 0
theorem LatS.mm' (s : LatS t f n h l) {L : List Int} (hL : ∀ x ∈ L,x ∈ l ∨ x = (t.fl.length : Int)) : ∀ x ∈ L,∃ k : Nat,x = (k : Int) ∧ k < t.fl.length + 1 := fun x hx => by
 rcases hL x hx with q | q
 ·obtain ⟨k,e,hk⟩ := s.mm x q;exact ⟨k,e,by omega⟩
 ·exact ⟨_,q,Nat.lt_succ_self _⟩
theorem LatS.in (s : LatS t f n h l) {x : Int} (hx : x ∈ l) : cntN h x n = 1 := by
 obtain ⟨k,rfl,hk⟩ := s.mm x hx;rw [s.cnt k hk,if_pos hx]
theorem LatS.worth (s : LatS t f n h l) : sumN (fun j => if (j : Int) ∈ l then mAt t.fl j else 0) t.fl.length = meritF t n := by
 rw [← s.hb.w];exact (cnt_worth s.hb.ok s.cnt).symm
theorem LatS.val (s : LatS t f n h l) {L : List Int} (hL : LatP (moreT t f).N n t.fl.length l L) : OkP (moreT t f).N n (t.fl.length + 1) (L.foldl (addF (moreT t f).N n) noPlan) ∧
  (∀ j : Nat,cntN (L.foldl (addF (moreT t f).N n) noPlan) (j : Int) n = if (j : Int) ∈ L then 1 else 0) ∧
  worthW (mAt (moreT t f).fl) (L.foldl (addF (moreT t f).N n) noPlan) n = sumN (fun j => if (j : Int) ∈ L then mAt t.fl j else 0) t.fl.length + if ((t.fl.length : Nat) : Int) ∈ L then f.m else 0 := by
 obtain ⟨h1,h2⟩ := canF_plan (m := t.fl.length + 1) (trN_lt s.hM.span) hL.nd (s.mm' hL.mem) hL.can;refine ⟨h1,h2,?_⟩;rw [cnt_worth h1 fun j _ => h2 j]
 show sumN _ t.fl.length + (if ((t.fl.length : Nat) : Int) ∈ L then mAt (moreT t f).fl (t.fl.length : Nat) else 0) = _
 rw [moreT_mf,sumN_eq t.fl.length (g := fun j => if (j : Int) ∈ L then mAt t.fl j else 0) fun j hj => by rw [moreT_m hj]]
theorem LatS.one (s : LatS t f n h l) {L : List Int} (hL : LatP (moreT t f).N n t.fl.length l L)
  (hle : ∀ g,OkP (moreT t f).N n (t.fl.length + 1) g → worthW (mAt (moreT t f).fl) g n ≤ sumN (fun j => if (j : Int) ∈ L then mAt t.fl j else 0) t.fl.length + if ((t.fl.length : Nat) : Int) ∈ L then f.m else 0) :
  BestP (moreT t f) n (L.foldl (addF (moreT t f).N n) noPlan) := by
 obtain ⟨h1,-,h3⟩ := s.val hL;have o := meritF_opt s.hM;rw [moreT_len] at o;have ok : OkP (moreT t f).N n (moreT t f).fl.length (L.foldl (addF (moreT t f).N n) noPlan) := by rw [moreT_len];exact h1
 exact ⟨ok,IsOpt.eq (N := (moreT t f).N) (n := n) (m := t.fl.length + 1) (W := mAt (moreT t f).fl) ⟨⟨_,h1,rfl⟩,fun g hg => by rw [h3];exact hle g hg⟩ o⟩
end
theorem ClOk.of {n : Int} {cl : List Int} (hr : Rising cl) (hb : ∀ x ∈ cl,0 ≤ x ∧ x ≤ n - 1) : ClOk n cl := fun k hk => ⟨hb _ (gI_mem hk),fun h0 => hr (k - 1) k (by omega) hk⟩
end Go.Proofs.YtnklbepeoicgpaaGreat
namespace Go.Proofs.YtnklbepeoicgpaaGreat
open Go.RowKit Go.Wk Go.Proofs
attribute [local irreducible] Go.Wk.Wops Go.Wk.Wp Go.Wk.Mtree Go.Wk.Mops
set_option maxHeartbeats 8000000
set_option maxRecDepth 20000
structure PlaceD (W : World) (S sb hb tb n : Nat) (A : Option Addr) (c : Nat) (A2 : Option Addr) (c2 : Nat) (t : Tr) : Prop where
 k0 : W.cell? ⟨sb,0,none⟩ = some (.int .i64 t.n)
 k1 : W.cell? ⟨sb,1,none⟩ = some (.slice A t.cl.length c)
 k2 : W.cell? ⟨sb,2,none⟩ = some (.slice A2 t.fl.length c2)
 k3 : W.cell? ⟨sb,3,none⟩ = some (.slice (some ⟨hb,0,none⟩) n n)
 k4 : W.cell? ⟨sb,4,none⟩ = some (.slice (some ⟨tb,0,none⟩) n n)
 tour : TourS W S (.agg #[.int .i64 t.n,.slice A t.cl.length c,.slice A2 t.fl.length c2]) t
 s : S ≤ hb ∧ S ≤ tb ∧ S ≤ W.heap.size
 ne : sb ≠ hb ∧ sb ≠ tb ∧ hb ≠ tb
section
variable {W V : World} {S sb hb tb n : Nat} {A : Option Addr} {c : Nat} {A2 : Option Addr} {c2 : Nat} {t : Tr}
theorem PlaceD.chg {L : List Nat} (h : PlaceD W S sb hb tb n A c A2 c2 t) (hC : Chg L W V) (hL : ∀ b,b ≠ hb ∧ b ≠ tb → b ∉ L) : PlaceD V S sb hb tb n A c A2 c2 t := by
 obtain ⟨n1,n2,n3⟩ := h.ne;have e := hL sb ⟨n1,n2⟩;refine ⟨Chg.cell hC h.k0 e,Chg.cell hC h.k1 e,Chg.cell hC h.k2 e,Chg.cell hC h.k3 e,Chg.cell hC h.k4 e,h.tour.chg hC fun b hb2 => ?_,⟨h.s.1,h.s.2.1,Nat.le_trans h.s.2.2 hC.size⟩,h.ne⟩
 by_cases q : b = hb ∨ b = tb
 ·have := h.s;omega
 ·exact absurd hb2 (hL b (by omega))
theorem PlaceD.ext (h : PlaceD W S sb hb tb n A c A2 c2 t) (hE : Ext W V) : PlaceD V S sb hb tb n A c A2 c2 t := h.chg ((Chg.refl [] W).ext hE) (fun _ _ => by simp)
theorem PlaceD.put {k i : Nat} {vs : List Value} (h : PlaceD W S sb hb tb n A c A2 c2 t) (p : Put W V k i vs) (hk : k = hb ∨ k = tb) : PlaceD V S sb hb tb n A c A2 c2 t := h.chg p.chg (fun b hb2 => by simp;omega)
end
theorem sec_cl {t : Tr} {other : List Int} (h : checkT t = 0) : checkT (secT t other) = 0 ↔ ClOk t.n other := by
 have hg := checkT_zero.1 h;rw [checkT_zero];exact ⟨fun g => g.cl,fun hc => ⟨hg.n,hc,hg.fl,hg.ok,hg.ids⟩⟩
theorem secE_val {t : Tr} {other : List Int} : secE t other = if checkT t = 0 then (if ClOk t.n other then 0 else 1) else checkT t := by
 unfold secE
 by_cases h : checkT t = 0
 ·rw [if_pos h,if_pos h]
  by_cases c : ClOk t.n other
  ·rw [if_pos c,if_pos ((sec_cl h).2 c)]
  ·rw [if_neg c,if_neg fun q => c ((sec_cl h).1 q)]
 ·rw [if_neg h,if_neg h]
theorem rising_c (t : Tr) (l : List Int) (v lv : Value) (w : World) (hV : TourV w w.heap.size v t) (hL : IntsV w w.heap.size lv l) (hn : 1 ≤ t.n ∧ t.n ≤ 60) (hl : l.length ≤ 1000000) :
  CallsV Tryz.prog 142 #[v,lv] w fun v' w' => v' = .bool (decide (ClOk t.n l)) ∧ Ext w w' := by
 obtain ⟨A,c,A2,c2,rfl,-,-⟩ := hV.open';obtain ⟨A1,c1,rfl,-,-⟩ := id hL;have hIS : IntsS w w.heap.size (.slice A1 l.length c1) l := ⟨hL⟩;clear hL hV;obtain ⟨n,hn9⟩ : ∃ n,∃ _u : Unit,t.n = n := ⟨_,(),rfl⟩;rw [hn9.choose_spec] at hn ⊢;have hw1 : IntKind.i64.wrap (n - 1) = n - 1 := IntWalk.i64_in _ (by omega);refine Wp.fn Tryz.func142 rfl Tryz.ntmps142 (by simp) ?_;have xw := Ext.refl w;refine Wp.keep [0,1] ?_;rintro r1 ⟨x,y,-⟩;simp [go_sem] at x y;refine sRg fun K' gd hK => ?_;refine cu1 fun K1 hK1 => ?_;go_simp;apply hK1;clear hK1 K1;refine Wops.absA fun ah n2 r => ?_;obtain ⟨q2,r,s2,W,f2,r2⟩ := r;try simp only [q2] at W f2 r2 ⊢
 replace hIS := hIS.ext r;replace xw := xw.trans r;have a := W 0 _ rfl;clear W r;clear r2;go_simp;apply hK;clear hK K' gd;refine Wp.keep [1,2] ?_;rintro r2 ⟨E,K,-⟩;simp [go_sem,x,y] at E K;clear x y;refine Wp.seq ?_;refine sRg fun K' gd hK => ?_;go_simp;apply hK;clear hK K' gd;refine Wp.keep [1,2,5] ?_;rintro r3 ⟨s,u,ag,-⟩;simp [go_sem,E,K] at s u ag;clear E K;refine Wp.block ?_;refine Wp.loop (fun k ρ ds wk => AllEq [1,2] ρ r3 ∧ ds = [] ∧ (Ext ah wk) ∧ (ρ 5 = .int .i64 (k : Int) ∧ (∃ _u : Unit,∀ j,j < k → ClAt n l j))) (l.length) ?_ ?_
 ·refine ⟨AllEq.refl _ _,rfl,Ext.refl _,?_⟩;exact ⟨by rw [ag];rfl,(),fun j hj => absurd hj (Nat.not_lt_zero _)⟩
 ·rintro k r4 _ wk hk ⟨hA,rfl,xl2,⟨e5,hq⟩⟩;obtain ⟨p,q,-⟩ := hA;rw [s] at p;rw [u] at q;replace hIS := hIS.ext xl2;replace xw := Ext.trans xw xl2;replace a := Ext.cell xl2 a
  by_cases hk : k < l.length
  ·skip;have hkl : (k : Int) < (l.length : Int) := by omega
   obtain ⟨b,o,cc,ev,hb,hcc⟩ := hIS.v.get hk
   injection ev with ev1 _ ev2
   subst ev1;subst ev2;have x1 := hcc k hk;refine Wp.seq ?_;refine sRg fun K' gd hK => ?_;go_simp;apply hK;clear hK K' gd;refine Wp.keep [1,2,5,9] ?_;rintro r5 ⟨d,f,g,m,-⟩;simp [go_sem,p,q,e5] at d f g m;clear p q e5;refine cTt ?_
   by_cases h2 : 0 ≤ gI l k ∧ gI l k ≤ n - 1
   ·skip
    by_cases h3 : 0 < k
    ·skip;obtain ⟨j,hj⟩ : ∃ j,∃ _u : Unit,k = j + 1 := ⟨k - 1,(),by omega⟩;have hj2 : ∃ _u : Unit,j < l.length := ⟨(),by have := hj.choose_spec;omega⟩;have x2 := hcc j hj2.choose_spec;have hk0 : (0 : Int) < (k : Int) := by omega
     have hkw : IntKind.i64.wrap ((k : Int) - 1) = (j : Int) := by have := hj.choose_spec;rw [IntWalk.i64_in _ (by omega)];omega
     have hjl : (j : Int) < (l.length : Int) := by have := hj2.choose_spec;omega
     clear hcc
     by_cases h4 : gI l k ≤ gI l j
     ·skip;refine skN ?_;refine sBk ?_;refine Wp.seqDraw (.inl rfl) mixed [([0,1,2,3,4],none),([5,6],some (7,false)),([8,9],none),([10,11,12],none),([13,14,15,16,17],none),([18,19,20,21,22],none),([23,24],none)] (by kernel_rfl) fun K' gd hK hg => ?_;have g9 : gd 9 = some 21 := hg 9;have g12 : gd 12 = some 24 := hg 12;clear hg;simp only [pick,nth,List.map_cons,List.map_nil,Option.map_none,Option.map_some];refine Mops.absD fun D3 hD3 zD3 => ?_;replace xw := xw.trans hD3;replace xl2 := xl2.trans hD3;replace a := hD3.cell a;replace x1 := hD3.cell x1;replace x2 := hD3.cell x2;clear hD3;refine mNo ?_
      refine mAc ?_
      intro K1 hK1;go_simp;refine Wcall (.inl rfl) (rin_T h2 _) ?_;rintro v w3 ⟨rfl,hE⟩;go_simp;refine hK1 _ _ (by assumption) ?_;clear hK1 K1;replace xw := xw.trans hE;replace xl2 := xl2.trans hE;replace x1 := hE.cell x1;replace x2 := hE.cell x2;clear hE;apply Mops.none
      ·intro w' hE';go_simp;with_reducible rfl
      apply Mops.none
      ·intro w' hE';go_simp;with_reducible rfl
      refine mNo ?_
      refine mNo ?_
      apply Mops.none
      ·intro w' hE';go_simp;with_reducible rfl
      refine Mops.done ?_;apply hK;clear hK K' gd g9 g12;refine Wp.keep [1,2,5,36] ?_;rintro r7 ⟨F,L,U,P,-⟩;simp [go_sem,d,f,g,m] at F L U P;clear d f g m;refine cTt ?_;refine sRg fun K' gd hK => ?_;go_simp;apply hK;clear hK K' gd;refine Wp.keep [4] ?_;rintro r8 ⟨ad,-⟩;simp [go_sem,F,L,U,P] at ad;clear F L U P;refine Wp.ret ?_;refine bRe ?_;refine tRe ?_;refine tRe ?_;refine bRe ?_;refine tRe ?_;refine endK_tmp Tryz.results142 (by decide) ?_;rw [ad];exact ⟨by rw [decide_eq_false fun hc : ClOk n l => by have := (hc k hk).2 h3;rw [show k - 1 = j by have := hj.choose_spec;omega] at this;omega],xw⟩
     ·skip;refine skN ?_;refine sBk ?_;refine Wp.seqDraw (.inl rfl) mixed [([0,1,2,3,4],none),([5,6],some (7,false)),([8,9],none),([10,11,12],none),([13,14,15,16,17],none),([18,19,20,21,22],none),([23,24],none)] (by kernel_rfl) fun K' gd hK hg => ?_;have g9 : gd 9 = some 21 := hg 9;have g12 : gd 12 = some 24 := hg 12;clear hg;simp only [pick,nth,List.map_cons,List.map_nil,Option.map_none,Option.map_some];refine Mops.absD fun D4 hD4 zD4 => ?_;replace xw := xw.trans hD4;replace xl2 := xl2.trans hD4;replace a := hD4.cell a;replace x1 := hD4.cell x1;replace x2 := hD4.cell x2;clear hD4;refine mNo ?_
      refine mAc ?_
      intro K1 hK1;go_simp;refine Wcall (.inl rfl) (rin_T h2 _) ?_;rintro v w3 ⟨rfl,hE⟩;go_simp;refine hK1 _ _ (by assumption) ?_;clear hK1 K1;replace xw := xw.trans hE;replace xl2 := xl2.trans hE;replace x1 := hE.cell x1;replace x2 := hE.cell x2;clear hE;apply Mops.none
      ·intro w' hE';go_simp;with_reducible rfl
      apply Mops.none
      ·intro w' hE';go_simp;with_reducible rfl
      refine mNo ?_
      refine mNo ?_
      apply Mops.none
      ·intro w' hE';go_simp;with_reducible rfl
      refine Mops.done ?_;apply hK;clear hK K' gd g9 g12;refine Wp.keep [1,2,5,36] ?_;rintro r10 ⟨z,G,Q,M,-⟩;simp [go_sem,d,f,g,m] at z G Q M;clear d f g m;refine cFf ?_;refine Wp.skip ?_;refine bNo ?_;refine tNo ?_;refine lRg fun K' gd hK => ?_;go_simp;apply hK;clear hK K' gd;refine Ends.keep [1,2,5] ?_;rintro r11 ⟨X,Z,ae,-⟩;simp [go_sem,z,G,Q,M] at X Z ae;clear z G Q M;refine Ends.mk ?_;refine thenK_normal ⟨by omega,⟨by rw [X,s],by rw [Z,u],trivial⟩,rfl,xl2,?_⟩;exact ⟨by rw [ae,IntWalk.i64_in _ (by omega)];rfl,(),fun i hi => by by_cases e : i = k;(subst e;exact ⟨h2,fun _ => by rw [show i - 1 = j by have := hj.choose_spec;omega];omega⟩);exact hq.choose_spec i (by omega)⟩
    ·skip;have hk0 : ¬ (0 : Int) < (k : Int) := by omega
     clear hcc;refine skN ?_;refine sBk ?_;refine Wp.seqDraw (.inl rfl) mixed [([0,1,2,3,4],none),([5,6],some (7,false)),([8,9],none),([10,11,12],none),([13,14,15,16,17],none),([18,19,20,21,22],none),([23,24],none)] (by kernel_rfl) fun K' gd hK hg => ?_;have g9 : gd 9 = some 21 := hg 9;have g12 : gd 12 = some 24 := hg 12;clear hg;simp only [pick,nth,List.map_cons,List.map_nil,Option.map_none,Option.map_some];refine Mops.absD fun D5 hD5 zD5 => ?_;replace xw := xw.trans hD5;replace xl2 := xl2.trans hD5;replace a := hD5.cell a;replace x1 := hD5.cell x1;clear hD5;refine mNo ?_
     refine mAc ?_
     intro K1 hK1;go_simp;refine Wcall (.inl rfl) (rin_T h2 _) ?_;rintro v w3 ⟨rfl,hE⟩;go_simp;refine hK1 _ _ (by assumption) ?_;clear hK1 K1;replace xw := xw.trans hE;replace xl2 := xl2.trans hE;replace x1 := hE.cell x1;clear hE;apply Mops.none
     ·intro w' hE';go_simp;with_reducible rfl
     apply Mops.none
     ·intro w' hE';go_simp;with_reducible rfl
     apply Mops.none
     ·intro w' hE';go_simp;with_reducible rfl
     apply Mops.none
     ·intro w' hE';go_simp;with_reducible rfl
     apply Mops.none
     ·intro w' hE';go_simp;with_reducible rfl
     refine Mops.done ?_;apply hK;clear hK K' gd g9 g12;refine Wp.keep [1,2,5,36] ?_;rintro r13 ⟨B,H,R,N,-⟩;simp [go_sem,d,f,g,m] at B H R N;clear d f g m;refine cFf ?_;refine Wp.skip ?_;refine bNo ?_;refine tNo ?_;refine lRg fun K' gd hK => ?_;go_simp;apply hK;clear hK K' gd;refine Ends.keep [1,2,5] ?_;rintro r14 ⟨Y,aa,af,-⟩;simp [go_sem,B,H,R,N] at Y aa af;clear B H R N;refine Ends.mk ?_;refine thenK_normal ⟨by omega,⟨by rw [Y,s],by rw [aa,u],trivial⟩,rfl,xl2,?_⟩;exact ⟨by rw [af,IntWalk.i64_in _ (by omega)];rfl,(),fun i hi => by by_cases e : i = k;(subst e;exact ⟨h2,fun h => absurd h h3⟩);exact hq.choose_spec i (by omega)⟩
   ·skip;clear hcc;refine skN ?_;refine sBk ?_;refine Wp.seqDraw (.inl rfl) mixed [([0,1,2,3,4],none),([5,6],some (7,false)),([8,9],none),([10,11,12],none),([13,14,15,16,17],none),([18,19,20,21,22],none),([23,24],none)] (by kernel_rfl) fun K' gd hK hg => ?_;have g9 : gd 9 = some 21 := hg 9;have g12 : gd 12 = some 24 := hg 12;clear hg;simp only [pick,nth,List.map_cons,List.map_nil,Option.map_none,Option.map_some];refine Mops.absD fun D6 hD6 zD6 => ?_;replace xw := xw.trans hD6;replace xl2 := xl2.trans hD6;replace a := hD6.cell a;replace x1 := hD6.cell x1;clear hD6;refine mNo ?_
    refine mAc ?_
    intro K1 hK1;go_simp;refine Wcall (.inl rfl) (rin_F h2 _) ?_;rintro v w3 ⟨rfl,hE⟩;go_simp;refine hK1 _ _ (by assumption) ?_;clear hK1 K1;replace xw := xw.trans hE;replace xl2 := xl2.trans hE;clear hE;apply Mops.none
    ·intro w' hE';go_simp;with_reducible rfl
    apply Mops.none
    ·intro w' hE';go_simp;with_reducible rfl
    apply Mops.none
    ·intro w' hE';go_simp;with_reducible rfl
    apply Mops.none
    ·intro w' hE';go_simp;with_reducible rfl
    apply Mops.none
    ·intro w' hE';go_simp;with_reducible rfl
    refine Mops.done ?_;apply hK;clear hK K' gd g9 g12;refine Wp.keep [1,2,5,36] ?_;rintro r16 ⟨C,I,S,O,-⟩;simp [go_sem,d,f,g,m] at C I S O;clear d f g m;refine cTt ?_;refine sRg fun K' gd hK => ?_;go_simp;apply hK;clear hK K' gd;refine Wp.keep [4] ?_;rintro r17 ⟨ab,-⟩;simp [go_sem,C,I,S,O] at ab;clear C I S O;refine Wp.ret ?_;refine bRe ?_;refine tRe ?_;refine tRe ?_;refine bRe ?_;refine tRe ?_;refine endK_tmp Tryz.results142 (by decide) ?_;rw [ab];exact ⟨by rw [decide_eq_false fun hc : ClOk n l => h2 (hc k hk).1],xw⟩
  ·skip;have hkl : ¬ (k : Int) < (l.length : Int) := by omega
   refine Wp.seq ?_;refine sRg fun K' gd hK => ?_;go_simp;apply hK;clear hK K' gd;refine Wp.keep [1,2,5,9] ?_;rintro r18 ⟨D,J,T,V,-⟩;simp [go_sem,p,q,e5] at D J T V;clear p q e5;refine cFf ?_;refine Wp.exit ?_;refine tEx ?_;refine tEx ?_;refine blockK_here ?_;refine tNo ?_;refine sRg fun K' gd hK => ?_;go_simp;apply hK;clear hK K' gd;refine Wp.keep [4] ?_;rintro r19 ⟨ac,-⟩;simp [go_sem,D,J,T,V] at ac;clear D J T V;refine Wp.ret ?_;refine endK_tmp Tryz.results142 (by decide) ?_;rw [ac];exact ⟨by rw [decide_eq_true (show ClOk n l from fun j hj => hq.choose_spec j (by omega))],xw⟩
def secC (t : Tr) (other : List Int) (b : Int) : Tr := if b = 0 then t else secT t other
def cmbL (on by' : List Int) : List Int := (List.range on.length).map fun i => if gI on i = -1 ∧ gI by' i = -1 then -1 else gI by' i * 60 + gI on i
theorem cmb_at {on by' : List Int} {i : Nat} (hi : i < on.length) : gI (cmbL on by') i = if gI on i = -1 ∧ gI by' i = -1 then -1 else gI by' i * 60 + gI on i := by
 unfold cmbL;rw [gI_lt (by simpa using hi),List.getElem_map,List.getElem_range]
def badB (t : Tr) (other on by' : List Int) (k : Nat) : Bool := match t.fl[k]? with
 | some f => decide (¬ (gI on k = -1 ∧ gI by' k = -1)) && (decide (¬ (0 ≤ gI by' k ∧ gI by' k ≤ 1)) || (!okDay (secC t other (gI by' k)) f.lo f.hi (gI on k) || takN (cmbL on by') k (gI by' k * 60 + gI on k).toNat))
 | none => false
theorem badB_at {t : Tr} {other on by' : List Int} {k : Nat} (hk : k < t.fl.length) : badB t other on by' k = (decide (¬ (gI on k = -1 ∧ gI by' k = -1)) && (decide (¬ (0 ≤ gI by' k ∧ gI by' k ≤ 1)) || (!okDay (secC t other (gI by' k)) t.fl[k].lo t.fl[k].hi (gI on k) || takN (cmbL on by') k (gI by' k * 60 + gI on k).toNat))) := by
 unfold badB;rw [List.getElem?_eq_getElem hk]
def anyB (t : Tr) (other on by' : List Int) : Bool := (List.range on.length).any (badB t other on by')
theorem anyB_no {t : Tr} {other on by' : List Int} (h : ∀ j,j < on.length → badB t other on by' j = false) : anyB t other on by' = false := by
 unfold anyB;rw [List.any_eq_false];intro j hj;rw [h j (List.mem_range.1 hj)];decide
theorem anyB_yes {t : Tr} {other on by' : List Int} {k : Nat} (hk : k < on.length) (h : badB t other on by' k = true) : anyB t other on by' = true :=
 List.any_eq_true.2 ⟨k,List.mem_range.2 hk,h⟩
def bothE (t : Tr) (other on by' : List Int) : Int := if secE t other = 0 then if on.length = t.fl.length ∧ by'.length = t.fl.length then if anyB t other on by' = true then 8 else 0 else 1 else secE t other
def bothM (t : Tr) (other on by' : List Int) : Int := if bothE t other on by' = 0 then wrthK t on t.fl.length else 0
theorem both_8 {t : Tr} {other on by' : List Int} (h0 : secE t other = 0) (h1 : on.length = t.fl.length) (h2 : by'.length = t.fl.length) (h : anyB t other on by' = true) : bothE t other on by' = 8 ∧ bothM t other on by' = 0 := by
 have e : bothE t other on by' = 8 := by unfold bothE;rw [if_pos h0,if_pos ⟨h1,h2⟩,if_pos h]
 exact ⟨e,by unfold bothM;rw [e];rfl⟩
theorem both_0 {t : Tr} {other on by' : List Int} (h0 : secE t other = 0) (h1 : on.length = t.fl.length) (h2 : by'.length = t.fl.length) (h : anyB t other on by' = false) : bothE t other on by' = 0 ∧ bothM t other on by' = wrthK t on t.fl.length := by
 have e : bothE t other on by' = 0 := by unfold bothE;rw [if_pos h0,if_pos ⟨h1,h2⟩,if_neg (by rw [h];decide)]
 exact ⟨e,by unfold bothM;rw [if_pos e]⟩
theorem both_1 {t : Tr} {other on by' : List Int} (h0 : secE t other = 0) (h : ¬ (on.length = t.fl.length ∧ by'.length = t.fl.length)) : bothE t other on by' = 1 ∧ bothM t other on by' = 0 := by
 have e : bothE t other on by' = 1 := by unfold bothE;rw [if_pos h0,if_neg h]
 exact ⟨e,by unfold bothM;rw [e];rfl⟩
theorem both_s {t : Tr} {other on by' : List Int} {se : Int} (h : secE t other = se) (h0 : ¬ se = 0) : bothE t other on by' = se ∧ bothM t other on by' = 0 := by
 have e : bothE t other on by' = se := by unfold bothE;rw [if_neg (by rw [h];exact h0),h]
 exact ⟨e,by unfold bothM;rw [if_neg (by rw [e];exact h0)]⟩
theorem both_r {t : Tr} {other on by' : List Int} {k : Nat} {w w' : World} (h0 : secE t other = 0) (h1 : on.length = t.fl.length) (h2 : by'.length = t.fl.length) (hk : k < on.length) (h : badB t other on by' k = true) (hE : Ext w w') :
  Value.tuple #[.int .i64 0,.int .i64 8] = .tuple #[.int .i64 (bothM t other on by'),.int .i64 (bothE t other on by')] ∧ Ext w w' := by
 obtain ⟨q1,q2⟩ := both_8 h0 h1 h2 (anyB_yes hk h);rw [q1,q2];exact ⟨rfl,hE⟩
theorem bad_day {t : Tr} {other on by' : List Int} {k : Nat} (hk : k < t.fl.length) (h1 : ¬ (gI on k = -1 ∧ gI by' k = -1)) (ho : okDay (secC t other (gI by' k)) t.fl[k].lo t.fl[k].hi (gI on k) = false) : badB t other on by' k = true := by
 rw [badB_at hk,decide_eq_true h1,ho,Bool.not_false,Bool.true_or,Bool.or_true];rfl
theorem bad_who {t : Tr} {other on by' : List Int} {k : Nat} (hk : k < t.fl.length) (h1 : ¬ (gI on k = -1 ∧ gI by' k = -1)) (hw : ¬ (0 ≤ gI by' k ∧ gI by' k ≤ 1)) : badB t other on by' k = true := by
 rw [badB_at hk,decide_eq_true h1,decide_eq_true hw,Bool.true_or];rfl
theorem secE_zero {t : Tr} {other : List Int} : secE t other = 0 ↔ checkT t = 0 ∧ checkT (secT t other) = 0 := by
 unfold secE
 by_cases h : checkT t = 0
 ·rw [if_pos h]
  by_cases h2 : checkT (secT t other) = 0
  ·rw [if_pos h2];exact ⟨fun _ => ⟨h,h2⟩,fun _ => rfl⟩
  ·rw [if_neg h2];exact ⟨fun q => (by cases q),fun q => absurd q.2 h2⟩
 ·rw [if_neg h];exact ⟨fun q => absurd q h,fun q => absurd q.1 h⟩
theorem tried2_of {W : World} {b : Nat} {cs : List Value} (a : RowX W b cs) (hcs : cs = List.replicate 120 (.bool false) := by rfl) : RowT W b 120 (fun _ => false) := by
 obtain ⟨t,h⟩ := a.ex;subst hcs;exact ⟨fun d hd => by rw [h.cell,List.getElem?_replicate,if_pos hd],fun j => h.frozen j,h.lt⟩
theorem right_b {t : Tr} {other on by' : List Int} {n i : Nat} (hi : i < t.fl.length) (hb : badB t other on by' i = false) (hno : ¬ (gI on i = -1 ∧ gI by' i = -1)) (hP : PlanT t n) :
  ∃ x b : Nat,∃ _u : Unit,gI on i = (x : Int) ∧ gI by' i = (b : Int) ∧ b ≤ 1 ∧ x < 60 := by
 rw [badB_at hi,decide_eq_true hno,Bool.true_and,Bool.or_eq_false_iff,decide_eq_false_iff_not] at hb;obtain ⟨hw,hb⟩ := hb;have hw : 0 ≤ gI by' i ∧ gI by' i ≤ 1 := Classical.byContradiction fun q => hw q
 rw [Bool.or_eq_false_iff] at hb;have ho : okDay (secC t other (gI by' i)) t.fl[i].lo t.fl[i].hi (gI on i) = true := by simpa using hb.1
 have hs := hP.sp i hi;have hn := hP.n2;have q := (of_decide_eq_true ho).1;exact ⟨(gI on i).toNat,(gI by' i).toNat,(),by omega,by omega,by omega,by omega⟩
theorem isOpen2_c (t : Tr) (other : List Int) (lo hi x : Int) (A : Option Addr) (c : Nat) (fv : Value) (w : World) (hI : IntsV w w.heap.size (.slice A other.length c) other) (hcl : other.length ≤ 1000000000000000) :
  CallsV Tryz.prog 144 #[.agg #[.int .i64 t.n,.slice A other.length c,fv],.agg #[.int .i64 lo,.int .i64 hi],.int .i64 x] w fun v w' => v = .bool (okDay (secT t other) lo hi x) ∧ Ext w w' := isOpen_c (secT t other) lo hi x A c fv w hI hcl
theorem CheckBoth_c (t : Tr) (other on by' : List Int) (v ov xv yv : Value) (w : World) (hV : TourV w w.heap.size v t) (hO : IntsV w w.heap.size ov other) (hX : IntsV w w.heap.size xv on) (hY : IntsV w w.heap.size yv by') (hf : FitT t) (hl : other.length ≤ 1000000) (hl2 : checkT t = 0 → t.fl.length ≤ 12) :
  CallsV Tryz.prog 73 #[v,ov,xv,yv] w fun v' w' => v' = .tuple #[.int .i64 (bothM t other on by'),.int .i64 (bothE t other on by')] ∧ Ext w w' := by
 obtain ⟨A,c,A2,c2,rfl,hCl,hF⟩ := hV.open';obtain ⟨A1,c1,rfl,-,-⟩ := id hO;obtain ⟨A3,c3,rfl,-,-⟩ := id hX;obtain ⟨A4,c4,rfl,-,-⟩ := id hY;have hFS : FlawsS w w.heap.size (.slice A2 t.fl.length c2) t.fl := ⟨hF⟩;have hXS : IntsS w w.heap.size (.slice A3 on.length c3) on := ⟨hX⟩;have hYS : IntsS w w.heap.size (.slice A4 by'.length c4) by' := ⟨hY⟩
 have hIS : IntsS w w.heap.size (.slice A t.cl.length c) t.cl := ⟨hCl⟩;clear hF hX hY hCl;obtain ⟨se,hse⟩ : ∃ e : Int,∃ _u : Unit,secE t other = e := ⟨_,(),rfl⟩;refine Wp.fn Tryz.func73 rfl Tryz.ntmps73 (by simp) ?_;have xw := Ext.refl w;refine Wp.keep [0,1,2,3] ?_;rintro r1 ⟨aP,a4,a7,bl,-⟩;simp [go_sem] at aP a4 a7 bl;refine sRg fun K' gd hK => ?_;refine cu1 fun K1 hK1 => ?_;go_simp;apply hK1;clear hK1 K1;refine Wops.absA fun d7 n4 Z => ?_;obtain ⟨q4,Z,s4,aO,f4,r4⟩ := Z;try simp only [q4] at aO f4 r4 ⊢
 replace hFS := hFS.ext Z;replace hXS := hXS.ext Z;replace hYS := hYS.ext Z;replace hIS := hIS.ext Z;replace xw := xw.trans Z;have a := aO 0 _ rfl;have g := aO 1 _ rfl;have h := aO 2 _ rfl;clear aO Z;clear r4;go_simp;apply hK;clear hK K' gd;refine Wp.keep [1,2,3,4] ?_;rintro r2 ⟨a5,a9,bn,bG,-⟩;simp [go_sem,aP,a4,a7,bl] at a5 a9 bn bG;clear aP a4 a7 bl;refine sRg fun K' gd hK => ?_;refine cu3 fun K1 hK1 => ?_;go_simp;refine Wcall (.inl rfl) (second_c t other _ _ _ (hV.ext xw) (hO.ext xw) hf hl) ?_;rintro v w2 ⟨⟨n1,B1,k1,q1,D1,l1,r1,hv,hTa⟩,hE⟩;rw [hse.choose_spec] at hv hTa;subst hv;have x7 := Ext.refl w2;go_simp;apply hK1;clear hK1 K1;have z3 := Below.size hE;replace f4 := hE.fz a f4;replace hFS := hFS.ext hE;replace hXS := hXS.ext hE;replace hYS := hYS.ext hE;replace hIS := hIS.ext hE;replace xw := xw.trans hE;replace a := hE.cell a;replace g := hE.cell g;replace h := hE.cell h;clear hE;refine cu5 fun K1 hK1 => ?_;go_simp;apply hK1;clear hK1 K1;refine Wops.absA fun d5 n10 M => ?_;obtain ⟨q10,M,s10,aN,f10,r10⟩ := M
 try simp only [q10] at aN f10 r10 ⊢
 replace f4 := M.fz a f4;replace hFS := hFS.ext M;replace hXS := hXS.ext M;replace hYS := hYS.ext M;replace hIS := hIS.ext M;replace xw := xw.trans M;replace x7 := x7.trans M;replace a := M.cell a;replace g := M.cell g;replace h := M.cell h;have d := aN 0 _ rfl;have l := aN 1 _ rfl;have m := aN 2 _ rfl;clear aN M;clear r10;go_simp;apply hK;clear hK K' gd;refine Wp.keep [2,3,4,10,11] ?_;rintro r4 ⟨az,aC,aL,aq,ar,-⟩;simp [go_sem,a5,a9,bn,bG] at az aC aL aq ar;clear a5 a9 bn bG
 by_cases h0 : se = 0
 ·skip;have hz := secE_zero.1 (hse.choose_spec.trans h0);have hg := checkT_zero.1 hz.1;have hl12 := hl2 hz.1;have hP : PlanT t t.n.toNat := hg.plan hl12;obtain ⟨A5,c5,A6,c6,e9,hCu,-⟩ := (hTa h0).1.open'
  injection e9 with e9
  simp only [Array.mk.injEq,List.cons.injEq,and_true] at e9;obtain ⟨e91,e92,-⟩ := e9
  injection e91 with _ e91
  injection e92 with e92 e93 e94
  replace e91 : n1 = t.n := e91;replace e93 : k1 = other.length := e93;subst e91;subst e92;subst e93;subst e94;replace hz : ∃ _u : Unit,_ := ⟨(),hz⟩;have hOS : IntsS w2 w2.heap.size (.slice B1 other.length q1) other := ⟨hCu⟩;subst h0;refine Wp.seq ?_;refine sRg fun K' gd hK => ?_;go_simp;apply hK;clear hK K' gd;refine Wp.keep [2,3,4,10,11,23] ?_;rintro r5 ⟨ai,ak,ap,ab,ac,ag,-⟩;simp [go_sem,az,aC,aL,aq,ar] at ai ak ap ab ac ag;clear az aC aL aq ar;refine cFf ?_
  by_cases hn1 : on.length = t.fl.length
  ·skip;have hn2 : (on.length : Int) = (t.fl.length : Int) := by omega
   by_cases hn3 : by'.length = t.fl.length
   ·skip;have hn4 : (by'.length : Int) = (t.fl.length : Int) := by omega
    refine skN ?_;refine Wp.seq ?_;refine sRh fun K' gd hK hg => ?_;have g6 : gd 6 = some 31 := hg 6;clear hg;go_simp;apply hK;clear hK K' gd g6;refine Wp.keep [2,3,4,10,38] ?_;rintro r6 ⟨bf,bt,bM,aT,bk,-⟩;simp [go_sem,ai,ak,ap,ab,ac,ag] at bf bt bM aT bk;clear ai ak ap ab ac ag;refine cFf ?_;clear hn2 hn4;replace hn1 : ∃ _u : Unit,_ := ⟨(),hn1⟩;replace hn3 : ∃ _u : Unit,_ := ⟨(),hn3⟩;refine skN ?_;refine sRg fun K' gd hK => ?_;refine cu5 fun K1 hK1 => ?_;go_simp;apply hK1;clear hK1 K1;refine Wops.absA fun d6 n12 C => ?_;obtain ⟨q12,C,s12,aa,f12,r12⟩ := C;try simp only [q12] at aa f12 r12 ⊢
    replace f4 := C.fz a f4;replace f10 := C.fz d f10;replace hFS := hFS.ext C;replace hXS := hXS.ext C;replace hYS := hYS.ext C;replace hIS := hIS.ext C;replace xw := xw.trans C;replace x7 := x7.trans C;replace a := C.cell a;replace g := C.cell g;replace h := C.cell h;replace d := C.cell d;replace l := C.cell l;replace m := C.cell m;have f := aa 0 _ rfl;have p := aa 1 _ rfl;have r := aa 2 _ rfl;have s := aa 3 _ rfl;have u := aa 4 _ rfl;have y := aa 5 _ rfl;clear aa C;clear r12;try simp only [Wops_nil,updO_some,updO_none]
    apply hK;clear hK K' gd;refine Wp.keep [2,3,4,12] ?_;rintro r7 ⟨bg,bu,bN,aY,-⟩;simp [go_sem,bf,bt,bM,aT,bk] at bg bu bN aY;clear bf bt bM aT bk;refine sRg fun K' gd hK => ?_;refine cu1 fun K1 hK1 => ?_;go_simp;apply hK1;clear hK1 K1;refine Wops.absA fun bP n13 z => ?_;obtain ⟨q13,z,s13,d4,f13,r13⟩ := z;try simp only [q13] at d4 f13 r13 ⊢
    replace f4 := z.fz a f4;replace f10 := z.fz d f10;replace f12 := z.fz f f12;replace hFS := hFS.ext z;replace hXS := hXS.ext z;replace hYS := hYS.ext z;replace hIS := hIS.ext z;replace xw := xw.trans z;replace x7 := x7.trans z;replace a := z.cell a;replace g := z.cell g;replace h := z.cell h;replace d := z.cell d;replace l := z.cell l;replace m := z.cell m;replace f := z.cell f;replace p := z.cell p;replace r := z.cell r;replace s := z.cell s;replace u := z.cell u;replace y := z.cell y;clear z;have rx13 := RowX.mk2 r13;clear r13;try simp only [Wops_nil,updO_some,updO_none]
    apply hK;clear hK K' gd;refine Wp.keep [2,3,4,12,13] ?_;rintro r8 ⟨bh,bv,bO,aZ,a3,-⟩;simp [go_sem,bg,bu,bN,aY] at bh bv bO aZ a3;clear bg bu bN aY;refine Wp.seq ?_;have hR0 : RowT bP n13 120 (takN (cmbL on by') 0) := by have q := tried2_of rx13;have e : takN (cmbL on by') 0 = fun _ => false := rfl;rw [e];exact q
    refine sRg fun K' gd hK => ?_;go_simp;apply hK;clear hK K' gd;refine Wp.keep [2,3,4,12,13,42,43,44] ?_;rintro r9 ⟨aA,aD,aM,av,ax,aF,aH,dy,-⟩;simp [go_sem,bh,bv,bO,aZ,a3] at aA aD aM av ax aF aH dy;clear bh bv bO aZ a3;refine Wp.block ?_;refine Wp.loop (fun k ρ ds wk => AllEq [2,3,4,12,13,42,43] ρ r9 ∧ ds = [] ∧ (Chg [n13] bP wk) ∧ (ρ 44 = .int .i64 (k : Int) ∧ RowT wk n13 120 (takN (cmbL on by') k) ∧ (∃ _u : Unit,∀ j,j < k → badB t other on by' j = false))) (on.length) ?_ ?_
    ·refine ⟨AllEq.refl _ _,rfl,Chg.refl _ _,?_⟩;exact ⟨by rw [dy];rfl,hR0,(),fun j hj => absurd hj (Nat.not_lt_zero _)⟩
    ·rintro k r10 _ wk hk ⟨hA,rfl,xl6,⟨e44,hR,hq⟩⟩;obtain ⟨a8,bm,bF,aV,a0,bw,bA,-⟩ := hA;rw [aA] at a8;rw [aD] at bm;rw [aM] at bF;rw [av] at aV;rw [ax] at a0;rw [aF] at bw;rw [aH] at bA;have zxl6 := Chg.size xl6;replace f4 := Chg.fz xl6 a f4 XN;replace f10 := Chg.fz xl6 d f10 XN;replace f12 := Chg.fz xl6 f f12 XN;replace hFS := hFS.chg xl6 XB;replace hXS := hXS.chg xl6 XB;replace hYS := hYS.chg xl6 XB;replace hIS := hIS.chg xl6 XB;replace xw := Chg.to xw xl6 XL;replace x7 := Chg.to x7 xl6 XL;replace a := Chg.cell xl6 a XN;replace g := Chg.cell xl6 g XN;replace h := Chg.cell xl6 h XN;replace d := Chg.cell xl6 d XN;replace l := Chg.cell xl6 l XN;replace m := Chg.cell xl6 m XN;replace f := Chg.cell xl6 f XN;replace p := Chg.cell xl6 p XN;replace r := Chg.cell xl6 r XN;replace s := Chg.cell xl6 s XN;replace u := Chg.cell xl6 u XN;replace y := Chg.cell xl6 y XN;refine sRg fun K' gd hK => ?_;go_simp;apply hK;clear hK K' gd;refine Wp.keep [2,3,4,12,13,42,43,44,45] ?_;rintro r11 ⟨ay,aB,aK,au,aw,aE,aG,aI,aJ,-⟩;simp [go_sem,a8,bm,bF,aV,a0,bw,bA,e44] at ay aB aK au aw aE aG aI aJ
     clear a8 bm bF aV a0 bw bA e44;refine Wp.seq ?_
     by_cases hk : k < on.length
     ·refine cTt ?_;have hkl : (k : Int) < (on.length : Int) := by omega
      have hkf : k < t.fl.length := by have := hn1.choose_spec;omega
      have hkf2 : (k : Int) < (t.fl.length : Int) := by omega
      have hky : k < by'.length := by have := hn1.choose_spec;have := hn3.choose_spec;omega
      have hky2 : (k : Int) < (by'.length : Int) := by omega
      obtain ⟨b,o,cc,ev,hb,hcc⟩ := hXS.v.get hk
      injection ev with ev1 _ ev2
      subst ev1;subst ev2;have d1 := hcc k hk;clear hcc;obtain ⟨b3,o3,cc3,ev,hb3,hcc⟩ := hYS.v.get hky
      injection ev with ev1 _ ev2
      subst ev1;subst ev2;have d2 := hcc k hky;clear hcc;obtain ⟨b2,o2,eA,hb2,x0,x1,x2,x3⟩ := FlawsV.at hFS.v hkf;subst eA;have hbk : ∃ _u : Unit,badB t other on by' k = _ := ⟨(),badB_at hkf⟩
      have hck : ∃ _u : Unit,gI (cmbL on by') k = _ := ⟨(),cmb_at hk⟩;refine skN ?_;refine sBk ?_;refine sRg fun K' gd hK => ?_;go_simp;apply hK;clear hK K' gd;refine Wp.keep [2,3,4,12,13,14,15,42,43,44] ?_;rintro r12 ⟨R,S,X,N,O,P,Q,T,U,V,-⟩;simp [go_sem,ay,aB,aK,au,aw,aE,aG,aI,aJ] at R S X N O P Q T U V;clear ay aB aK au aw aE aG aI aJ;refine Wp.seq ?_;refine Wp.seq ?_;refine Wp.cut (fun ρ ds W => AllEq [2,3,4,12,13,14,15,42,43,44] ρ r12 ∧ ds = [] ∧ (Ext wk W) ∧ (ρ 57 = .bool (decide (gI on k = -1 ∧ gI by' k = -1)))) ?_ ?_
      ·have xq7 := Ext.refl wk
       by_cases ha : gI on k = -1
       ·skip;rw [ha] at d1
        by_cases hb1 : gI by' k = -1
        ·skip;rw [hb1] at d2;refine Wp.loneRegion (.inl rfl) (by kernel_rfl) fun K' gd hK hg => ?_;have g2 : gd 2 = some 51 := hg 2;clear hg;go_simp;apply hK;clear hK K' gd g2;refine Ends.keep [2,3,4,12,13,14,15,42,43,44,57] ?_;rintro r13 ⟨cx,cI,dz,bQ,b1,cg,cp,cT,da,dl,dK,-⟩;simp [go_sem,R,S,X,N,O,P,Q,T,U,V] at cx cI dz bQ b1 cg cp cT da dl dK;refine Ends.mk ?_;refine cutK_normal ⟨⟨by rw [cx,R],by rw [cI,S],by rw [dz,X],by rw [bQ,N],by rw [b1,O],by rw [cg,P],by rw [cp,Q],by rw [cT,T],by rw [da,U],by rw [dl,V],trivial⟩,rfl,xq7,?_⟩;rw [decide_eq_true ⟨ha,hb1⟩];exact dK
        ·skip;refine Wp.loneRegion (.inl rfl) (by kernel_rfl) fun K' gd hK hg => ?_;have g2 : gd 2 = some 51 := hg 2;clear hg;go_simp;apply hK;clear hK K' gd g2;refine Ends.keep [2,3,4,12,13,14,15,42,43,44,57] ?_;rintro r14 ⟨cy,cJ,dA,bR,b4,ch,cq,cU,db,dm,dL,-⟩;simp [go_sem,R,S,X,N,O,P,Q,T,U,V] at cy cJ dA bR b4 ch cq cU db dm dL;refine Ends.mk ?_;refine cutK_normal ⟨⟨by rw [cy,R],by rw [cJ,S],by rw [dA,X],by rw [bR,N],by rw [b4,O],by rw [ch,P],by rw [cq,Q],by rw [cU,T],by rw [db,U],by rw [dm,V],trivial⟩,rfl,xq7,?_⟩;rw [decide_eq_false fun q => hb1 q.2,dL,show (gI by' k == -1) = false by simpa using hb1]
       ·skip;refine Wp.loneRegion (.inl rfl) (by kernel_rfl) fun K' gd hK hg => ?_;have g2 : gd 2 = some 51 := hg 2;clear hg;go_simp;apply hK;clear hK K' gd g2;refine Ends.keep [2,3,4,12,13,14,15,42,43,44,57] ?_;rintro r15 ⟨cz,cK,dB,bS,b5,ci,cr,cV,dc,dn,dM,-⟩;simp [go_sem,R,S,X,N,O,P,Q,T,U,V] at cz cK dB bS b5 ci cr cV dc dn dM;refine Ends.mk ?_;refine cutK_normal ⟨⟨by rw [cz,R],by rw [cK,S],by rw [dB,X],by rw [bS,N],by rw [b5,O],by rw [ci,P],by rw [cr,Q],by rw [cV,T],by rw [dc,U],by rw [dn,V],trivial⟩,rfl,xq7,?_⟩;rw [decide_eq_false fun q => ha q.1];exact dM
      ·rintro r16 _ W7 ⟨hA,rfl,xq7,e57⟩;obtain ⟨G,H,L,D,E,F,B,I,J,K,-⟩ := hA;rw [R] at G;rw [S] at H;rw [X] at L;rw [N] at D;rw [O] at E;rw [P] at F;rw [Q] at B;rw [T] at I;rw [U] at J;rw [V] at K;clear R S X N O P Q T U V;have zxq7 := Below.size xq7;replace f4 := Ext.fz xq7 a f4;replace f10 := Ext.fz xq7 d f10;replace f12 := Ext.fz xq7 f f12;replace hFS := hFS.ext xq7;replace hXS := hXS.ext xq7;replace hYS := hYS.ext xq7;replace hIS := hIS.ext xq7;replace hR := hR.ext xq7;replace xw := Ext.trans xw xq7;replace x7 := Ext.trans x7 xq7;replace xl6 := Chg.ext xl6 xq7;replace a := Ext.cell xq7 a;replace g := Ext.cell xq7 g;replace h := Ext.cell xq7 h;replace d := Ext.cell xq7 d;replace l := Ext.cell xq7 l;replace m := Ext.cell xq7 m;replace f := Ext.cell xq7 f;replace p := Ext.cell xq7 p;replace r := Ext.cell xq7 r;replace s := Ext.cell xq7 s;replace u := Ext.cell xq7 u;replace y := Ext.cell xq7 y;replace d1 := Ext.cell xq7 d1;replace d2 := Ext.cell xq7 d2;replace x1 := Ext.cell xq7 x1;replace x2 := Ext.cell xq7 x2;refine tNo ?_
       by_cases hno : gI on k = -1 ∧ gI by' k = -1
       ·skip;rw [decide_eq_true hno] at e57;refine cTt ?_;refine Wp.exit ?_;refine tEx ?_;refine blockK_here ?_;refine tNo ?_;refine lRg fun K' gd hK => ?_;go_simp;apply hK;clear hK K' gd;refine Ends.keep [2,3,4,12,13,42,43,44] ?_;rintro r17 ⟨cA,cL,dC,bT,b6,cW,dd,dp,-⟩;simp [go_sem,G,H,L,D,E,F,B,I,J,K,e57] at cA cL dC bT b6 cW dd dp;clear G H L D E F B I J K e57;refine Ends.mk ?_;refine thenK_normal ⟨by omega,⟨by rw [cA,aA],by rw [cL,aD],by rw [dC,aM],by rw [bT,av],by rw [b6,ax],by rw [cW,aF],by rw [dd,aH],trivial⟩,rfl,xl6,?_⟩;exact ⟨by rw [dp,IntWalk.i64_in _ (by omega)];rfl,by rw [takN_none (by rw [hck.choose_spec,if_pos hno];decide)];exact hR,(),fun j hj => by by_cases e : j = k;(subst e;rw [hbk.choose_spec,decide_eq_false (not_not_intro hno)];rfl);exact hq.choose_spec j (by omega)⟩
       ·skip;rw [decide_eq_false hno] at e57;replace hno : ∃ _u : Unit,_ := ⟨(),hno⟩;refine cFf ?_;refine skN ?_;refine Wp.seq ?_;refine Wp.seq ?_;refine Wp.cut (fun ρ ds W => AllEq [2,3,4,12,13,14,15,42,43,44] ρ r16 ∧ ds = [] ∧ (Ext W7 W) ∧ (ρ 90 = .bool (badB t other on by' k))) ?_ ?_
        ·have xq8 := Ext.refl W7
         by_cases hw : 0 ≤ gI by' k ∧ gI by' k ≤ 1
         ·skip
          by_cases hb0 : gI by' k = 0
          ·skip;rw [hb0] at d2;have hsc : ∃ _u : Unit,secC t other (gI by' k) = t := ⟨(),if_pos hb0⟩
           by_cases ho : okDay t t.fl[k].lo t.fl[k].hi (gI on k) = true
           ·skip;obtain ⟨x,hx⟩ : ∃ x : Nat,∃ _u : Unit,gI on k = (x : Int) ∧ x < 60 := ⟨(gI on k).toNat,(),by have q := (of_decide_eq_true ho).1;have := hP.sp k hkf;have := hP.n2;omega⟩;have hx60 := hx.choose_spec.2;have hx61 : (x : Int) < 60 := by omega
            have ho2 : ∃ _u : Unit,okDay t t.fl[k].lo t.fl[k].hi (x : Int) = true := ⟨(),by rw [← hx.choose_spec.1];exact ho⟩;have z1 := hR.c x (by omega);have hbt : ∃ _u : Unit,badB t other on by' k = takN (cmbL on by') k x := ⟨(),by rw [hbk.choose_spec,hsc.choose_spec,hb0,hx.choose_spec.1,ho2.choose_spec];rw [decide_eq_true (show ¬ ((x : Int) = -1 ∧ (0 : Int) = -1) by omega),decide_eq_false (show ¬ ¬ ((0 : Int) ≤ 0 ∧ (0 : Int) ≤ 1) by decide),show ((0 : Int) * 60 + (x : Int)).toNat = x by omega];rfl⟩
            rw [hx.choose_spec.1] at d1 B;refine Wp.loneDraw (.inl rfl) mixed [([0,1,2,3],some (4,false)),([5,6],none),([7,8,9,10,11],none),([12,13,14,15,16],none),([17,18,19],some (20,false)),([21,22,23],none),([24,25,26,27,28],none),([29,30,31,32],none)] (by kernel_rfl) fun K' gd hK hg => ?_;have g6 : gd 6 = some 64 := hg 6;have g23 : gd 23 = some 81 := hg 23;clear hg;simp only [pick,nth,List.map_cons,List.map_nil,Option.map_none,Option.map_some];refine Mops.absD fun D9 hD9 zD9 => ?_;replace f4 := hD9.fz a f4;replace f10 := hD9.fz d f10;replace f12 := hD9.fz f f12;replace hFS := hFS.ext hD9;replace hXS := hXS.ext hD9;replace hYS := hYS.ext hD9;replace hIS := hIS.ext hD9;replace hR := hR.ext hD9;replace xw := xw.trans hD9;replace x7 := x7.trans hD9;replace xl6 := Chg.ext xl6 hD9;replace xq8 := xq8.trans hD9;replace a := hD9.cell a;replace g := hD9.cell g;replace h := hD9.cell h;replace d := hD9.cell d;replace l := hD9.cell l;replace m := hD9.cell m;replace f := hD9.cell f;replace p := hD9.cell p;replace r := hD9.cell r;replace s := hD9.cell s;replace u := hD9.cell u;replace y := hD9.cell y;replace d1 := hD9.cell d1;replace d2 := hD9.cell d2;replace x1 := hD9.cell x1;replace x2 := hD9.cell x2;replace z1 := hD9.cell z1
            clear hD9;refine mAc ?_
            intro K1 hK1;go_simp;refine Wcall (.inl rfl) (within_T (show (0 : Int) ≤ 0 ∧ (0 : Int) ≤ 1 by decide) _) ?_;rintro v w5 ⟨rfl,hE⟩;go_simp;refine hK1 _ _ (by assumption) ?_;clear hK1 K1;have z18 := Below.size hE;replace f4 := hE.fz a f4;replace f10 := hE.fz d f10;replace f12 := hE.fz f f12;replace hFS := hFS.ext hE;replace hXS := hXS.ext hE;replace hYS := hYS.ext hE;replace hIS := hIS.ext hE;replace hR := hR.ext hE;replace xw := xw.trans hE;replace x7 := x7.trans hE;replace xl6 := Chg.ext xl6 hE;replace xq8 := xq8.trans hE;replace a := hE.cell a;replace g := hE.cell g;replace h := hE.cell h;replace d := hE.cell d;replace l := hE.cell l;replace m := hE.cell m;replace f := hE.cell f;replace p := hE.cell p;replace r := hE.cell r;replace s := hE.cell s;replace u := hE.cell u;replace y := hE.cell y;replace d1 := hE.cell d1;replace d2 := hE.cell d2;replace x1 := hE.cell x1;replace x2 := hE.cell x2;replace z1 := hE.cell z1;clear hE;refine mNo ?_
            refine mNo ?_
            refine mNo ?_
            refine mAc ?_
            intro K1 hK1;go_simp;refine Wcall (.inl rfl) (isOpen_c t t.fl[k].lo t.fl[k].hi (x : Int) A c (.slice (some ⟨b2,o2,none⟩) t.fl.length c2) _ (hIS.v.more (Below.size (XE))) hf.cl) ?_;rintro v w3 ⟨hv,hE⟩;rw [ho2.choose_spec] at hv;subst hv;go_simp;refine hK1 _ _ (by assumption) ?_;clear hK1 K1;have z19 := Below.size hE;replace f4 := hE.fz a f4;replace f10 := hE.fz d f10;replace f12 := hE.fz f f12;replace hFS := hFS.ext hE;replace hXS := hXS.ext hE;replace hYS := hYS.ext hE;replace hIS := hIS.ext hE;replace hR := hR.ext hE;replace xw := xw.trans hE;replace x7 := x7.trans hE;replace xl6 := Chg.ext xl6 hE;replace xq8 := xq8.trans hE;replace a := hE.cell a;replace g := hE.cell g;replace h := hE.cell h;replace d := hE.cell d;replace l := hE.cell l;replace m := hE.cell m;replace f := hE.cell f;replace p := hE.cell p;replace r := hE.cell r;replace s := hE.cell s;replace u := hE.cell u;replace y := hE.cell y;replace d1 := hE.cell d1;replace d2 := hE.cell d2;replace x1 := hE.cell x1;replace x2 := hE.cell x2;replace z1 := hE.cell z1;clear hE;refine mNo ?_
            refine mNo ?_
            refine mNo ?_
            refine Mops.done ?_;apply hK;clear hK K' gd g6 g23;refine Ends.keep [2,3,4,12,13,14,15,42,43,44,90] ?_;rintro r20 ⟨cB,cM,dD,bU,b7,cj,cs,cX,de,dq,dS,-⟩;simp [go_sem,G,H,L,D,E,F,B,I,J,K,e57] at cB cM dD bU b7 cj cs cX de dq dS;clear e57;refine Ends.mk ?_;refine cutK_normal ⟨⟨by rw [cB,G],by rw [cM,H],by rw [dD,L],by rw [bU,D],by rw [b7,E],by rw [cj,F],by rw [cs,B],by rw [cX,I],by rw [de,J],by rw [dq,K],trivial⟩,rfl,xq8,?_⟩;rw [hbt.choose_spec];exact dS
           ·skip;have ho2 : okDay t t.fl[k].lo t.fl[k].hi (gI on k) = false := by simpa using ho
            refine Wp.loneDraw (.inl rfl) mixed [([0,1,2,3],some (4,false)),([5,6],none),([7,8,9,10,11],none),([12,13,14,15,16],none),([17,18,19],some (20,false)),([21,22,23],none),([24,25,26,27,28],none),([29,30,31,32],none)] (by kernel_rfl) fun K' gd hK hg => ?_;have g6 : gd 6 = some 64 := hg 6;have g23 : gd 23 = some 81 := hg 23;clear hg;simp only [pick,nth,List.map_cons,List.map_nil,Option.map_none,Option.map_some];refine Mops.absD fun D10 hD10 zD10 => ?_;replace f4 := hD10.fz a f4;replace f10 := hD10.fz d f10;replace f12 := hD10.fz f f12;replace hFS := hFS.ext hD10;replace hXS := hXS.ext hD10;replace hYS := hYS.ext hD10;replace hIS := hIS.ext hD10;replace hR := hR.ext hD10;replace xw := xw.trans hD10;replace x7 := x7.trans hD10;replace xl6 := Chg.ext xl6 hD10;replace xq8 := xq8.trans hD10;replace a := hD10.cell a;replace g := hD10.cell g;replace h := hD10.cell h;replace d := hD10.cell d;replace l := hD10.cell l;replace m := hD10.cell m;replace f := hD10.cell f;replace p := hD10.cell p;replace r := hD10.cell r;replace s := hD10.cell s;replace u := hD10.cell u;replace y := hD10.cell y;replace d1 := hD10.cell d1;replace d2 := hD10.cell d2;replace x1 := hD10.cell x1;replace x2 := hD10.cell x2;clear hD10
            refine mAc ?_
            intro K1 hK1;go_simp;refine Wcall (.inl rfl) (within_T (show (0 : Int) ≤ 0 ∧ (0 : Int) ≤ 1 by decide) _) ?_;rintro v w5 ⟨rfl,hE⟩;go_simp;refine hK1 _ _ (by assumption) ?_;clear hK1 K1;have z21 := Below.size hE;replace f4 := hE.fz a f4;replace f10 := hE.fz d f10;replace f12 := hE.fz f f12;replace hFS := hFS.ext hE;replace hXS := hXS.ext hE;replace hYS := hYS.ext hE;replace hIS := hIS.ext hE;replace hR := hR.ext hE;replace xw := xw.trans hE;replace x7 := x7.trans hE;replace xl6 := Chg.ext xl6 hE;replace xq8 := xq8.trans hE;replace a := hE.cell a;replace g := hE.cell g;replace h := hE.cell h;replace d := hE.cell d;replace l := hE.cell l;replace m := hE.cell m;replace f := hE.cell f;replace p := hE.cell p;replace r := hE.cell r;replace s := hE.cell s;replace u := hE.cell u;replace y := hE.cell y;replace d1 := hE.cell d1;replace d2 := hE.cell d2;replace x1 := hE.cell x1;replace x2 := hE.cell x2;clear hE;refine mNo ?_
            refine mNo ?_
            refine mNo ?_
            refine mAc ?_
            intro K1 hK1;go_simp;refine Wcall (.inl rfl) (isOpen_c t t.fl[k].lo t.fl[k].hi (gI on k) A c (.slice (some ⟨b2,o2,none⟩) t.fl.length c2) _ (hIS.v.more (Below.size (XE))) hf.cl) ?_;rintro v w3 ⟨hv,hE⟩;rw [ho2] at hv;subst hv;go_simp;refine hK1 _ _ (by assumption) ?_;clear hK1 K1;have z22 := Below.size hE;replace f4 := hE.fz a f4;replace f10 := hE.fz d f10;replace f12 := hE.fz f f12;replace hFS := hFS.ext hE;replace hXS := hXS.ext hE;replace hYS := hYS.ext hE;replace hIS := hIS.ext hE;replace hR := hR.ext hE;replace xw := xw.trans hE;replace x7 := x7.trans hE;replace xl6 := Chg.ext xl6 hE;replace xq8 := xq8.trans hE;replace a := hE.cell a;replace g := hE.cell g;replace h := hE.cell h;replace d := hE.cell d;replace l := hE.cell l;replace m := hE.cell m;replace f := hE.cell f;replace p := hE.cell p;replace r := hE.cell r;replace s := hE.cell s;replace u := hE.cell u;replace y := hE.cell y;replace d1 := hE.cell d1;replace d2 := hE.cell d2;replace x1 := hE.cell x1;replace x2 := hE.cell x2;clear hE;refine mNo ?_
            refine mNo ?_
            refine mNo ?_
            refine Mops.done ?_;apply hK;clear hK K' gd g6 g23;refine Ends.keep [2,3,4,12,13,14,15,42,43,44,90] ?_;rintro r23 ⟨cC,cN,dE,bV,b8,ck,ct,cY,df,dr,dT,-⟩;simp [go_sem,G,H,L,D,E,F,B,I,J,K,e57] at cC cN dE bV b8 ck ct cY df dr dT;clear e57;refine Ends.mk ?_;refine cutK_normal ⟨⟨by rw [cC,G],by rw [cN,H],by rw [dE,L],by rw [bV,D],by rw [b8,E],by rw [ck,F],by rw [ct,B],by rw [cY,I],by rw [df,J],by rw [dr,K],trivial⟩,rfl,xq8,?_⟩;rw [bad_day hkf hno.choose_spec (by rw [hsc.choose_spec];exact ho2)];exact dT
          ·skip;have hb2 : gI by' k = 1 := by omega
           rw [hb2] at d2;have hsc : ∃ _u : Unit,secC t other (gI by' k) = (secT t other) := ⟨(),if_neg (by rw [hb2];decide)⟩
           by_cases ho : okDay (secT t other) t.fl[k].lo t.fl[k].hi (gI on k) = true
           ·skip;obtain ⟨x,hx⟩ : ∃ x : Nat,∃ _u : Unit,gI on k = (x : Int) ∧ x < 60 := ⟨(gI on k).toNat,(),by have q := (of_decide_eq_true ho).1;have := hP.sp k hkf;have := hP.n2;omega⟩;have hx60 := hx.choose_spec.2;have hx61 : (x : Int) < 60 := by omega
            have ho2 : ∃ _u : Unit,okDay (secT t other) t.fl[k].lo t.fl[k].hi (x : Int) = true := ⟨(),by rw [← hx.choose_spec.1];exact ho⟩;have z1 := hR.c (60 + x) (by omega);have hbt : ∃ _u : Unit,badB t other on by' k = takN (cmbL on by') k (60 + x) := ⟨(),by rw [hbk.choose_spec,hsc.choose_spec,hb2,hx.choose_spec.1,ho2.choose_spec];rw [decide_eq_true (show ¬ ((x : Int) = -1 ∧ (1 : Int) = -1) by omega),decide_eq_false (show ¬ ¬ ((0 : Int) ≤ 1 ∧ (1 : Int) ≤ 1) by decide),show ((1 : Int) * 60 + (x : Int)).toNat = (60 + x) by omega];rfl⟩
            rw [hx.choose_spec.1] at d1 B;refine Wp.loneDraw (.inl rfl) mixed [([0,1,2,3],some (4,false)),([5,6],none),([7,8,9,10,11],none),([12,13,14,15,16],none),([17,18,19],some (20,false)),([21,22,23],none),([24,25,26,27,28],none),([29,30,31,32],none)] (by kernel_rfl) fun K' gd hK hg => ?_;have g6 : gd 6 = some 64 := hg 6;have g23 : gd 23 = some 81 := hg 23;clear hg;simp only [pick,nth,List.map_cons,List.map_nil,Option.map_none,Option.map_some];refine Mops.absD fun D11 hD11 zD11 => ?_;replace f4 := hD11.fz a f4;replace f10 := hD11.fz d f10;replace f12 := hD11.fz f f12;replace hFS := hFS.ext hD11;replace hXS := hXS.ext hD11;replace hYS := hYS.ext hD11;replace hIS := hIS.ext hD11;replace hR := hR.ext hD11;replace xw := xw.trans hD11;replace x7 := x7.trans hD11;replace xl6 := Chg.ext xl6 hD11;replace xq8 := xq8.trans hD11;replace a := hD11.cell a;replace g := hD11.cell g;replace h := hD11.cell h;replace d := hD11.cell d;replace l := hD11.cell l;replace m := hD11.cell m;replace f := hD11.cell f;replace p := hD11.cell p;replace r := hD11.cell r;replace s := hD11.cell s;replace u := hD11.cell u;replace y := hD11.cell y;replace d1 := hD11.cell d1;replace d2 := hD11.cell d2;replace x1 := hD11.cell x1;replace x2 := hD11.cell x2
            replace z1 := hD11.cell z1;clear hD11;refine mAc ?_
            intro K1 hK1;go_simp;refine Wcall (.inl rfl) (within_T (show (0 : Int) ≤ 1 ∧ (1 : Int) ≤ 1 by decide) _) ?_;rintro v w5 ⟨rfl,hE⟩;go_simp;refine hK1 _ _ (by assumption) ?_;clear hK1 K1;have z24 := Below.size hE;replace f4 := hE.fz a f4;replace f10 := hE.fz d f10;replace f12 := hE.fz f f12;replace hFS := hFS.ext hE;replace hXS := hXS.ext hE;replace hYS := hYS.ext hE;replace hIS := hIS.ext hE;replace hR := hR.ext hE;replace xw := xw.trans hE;replace x7 := x7.trans hE;replace xl6 := Chg.ext xl6 hE;replace xq8 := xq8.trans hE;replace a := hE.cell a;replace g := hE.cell g;replace h := hE.cell h;replace d := hE.cell d;replace l := hE.cell l;replace m := hE.cell m;replace f := hE.cell f;replace p := hE.cell p;replace r := hE.cell r;replace s := hE.cell s;replace u := hE.cell u;replace y := hE.cell y;replace d1 := hE.cell d1;replace d2 := hE.cell d2;replace x1 := hE.cell x1;replace x2 := hE.cell x2;replace z1 := hE.cell z1;clear hE;refine mNo ?_
            refine mNo ?_
            refine mNo ?_
            refine mAc ?_
            intro K1 hK1;go_simp;refine Wcall (.inl rfl) (isOpen2_c t other t.fl[k].lo t.fl[k].hi (x : Int) B1 q1 _ _ (hOS.v.ext (x7.trans (XE))) (by omega)) ?_;rintro v w3 ⟨hv,hE⟩;rw [ho2.choose_spec] at hv;subst hv;go_simp;refine hK1 _ _ (by assumption) ?_;clear hK1 K1;have z25 := Below.size hE;replace f4 := hE.fz a f4;replace f10 := hE.fz d f10;replace f12 := hE.fz f f12;replace hFS := hFS.ext hE;replace hXS := hXS.ext hE;replace hYS := hYS.ext hE;replace hIS := hIS.ext hE;replace hR := hR.ext hE;replace xw := xw.trans hE;replace x7 := x7.trans hE;replace xl6 := Chg.ext xl6 hE;replace xq8 := xq8.trans hE;replace a := hE.cell a;replace g := hE.cell g;replace h := hE.cell h;replace d := hE.cell d;replace l := hE.cell l;replace m := hE.cell m;replace f := hE.cell f;replace p := hE.cell p;replace r := hE.cell r;replace s := hE.cell s;replace u := hE.cell u;replace y := hE.cell y;replace d1 := hE.cell d1;replace d2 := hE.cell d2;replace x1 := hE.cell x1;replace x2 := hE.cell x2;replace z1 := hE.cell z1;clear hE;refine mNo ?_
            refine mNo ?_
            refine mNo ?_
            refine Mops.done ?_;apply hK;clear hK K' gd g6 g23;refine Ends.keep [2,3,4,12,13,14,15,42,43,44,90] ?_;rintro r26 ⟨cD,cO,dF,bW,ca,cm,cu,cZ,dg,dt,dU,-⟩;simp [go_sem,G,H,L,D,E,F,B,I,J,K,e57] at cD cO dF bW ca cm cu cZ dg dt dU;clear e57;refine Ends.mk ?_;refine cutK_normal ⟨⟨by rw [cD,G],by rw [cO,H],by rw [dF,L],by rw [bW,D],by rw [ca,E],by rw [cm,F],by rw [cu,B],by rw [cZ,I],by rw [dg,J],by rw [dt,K],trivial⟩,rfl,xq8,?_⟩;rw [hbt.choose_spec];exact dU
           ·skip;have ho2 : okDay (secT t other) t.fl[k].lo t.fl[k].hi (gI on k) = false := by simpa using ho
            refine Wp.loneDraw (.inl rfl) mixed [([0,1,2,3],some (4,false)),([5,6],none),([7,8,9,10,11],none),([12,13,14,15,16],none),([17,18,19],some (20,false)),([21,22,23],none),([24,25,26,27,28],none),([29,30,31,32],none)] (by kernel_rfl) fun K' gd hK hg => ?_;have g6 : gd 6 = some 64 := hg 6;have g23 : gd 23 = some 81 := hg 23;clear hg;simp only [pick,nth,List.map_cons,List.map_nil,Option.map_none,Option.map_some];refine Mops.absD fun D12 hD12 zD12 => ?_;replace f4 := hD12.fz a f4;replace f10 := hD12.fz d f10;replace f12 := hD12.fz f f12;replace hFS := hFS.ext hD12;replace hXS := hXS.ext hD12;replace hYS := hYS.ext hD12;replace hIS := hIS.ext hD12;replace hR := hR.ext hD12;replace xw := xw.trans hD12;replace x7 := x7.trans hD12;replace xl6 := Chg.ext xl6 hD12;replace xq8 := xq8.trans hD12;replace a := hD12.cell a;replace g := hD12.cell g;replace h := hD12.cell h;replace d := hD12.cell d;replace l := hD12.cell l;replace m := hD12.cell m;replace f := hD12.cell f;replace p := hD12.cell p;replace r := hD12.cell r;replace s := hD12.cell s;replace u := hD12.cell u;replace y := hD12.cell y;replace d1 := hD12.cell d1;replace d2 := hD12.cell d2;replace x1 := hD12.cell x1;replace x2 := hD12.cell x2;clear hD12
            refine mAc ?_
            intro K1 hK1;go_simp;refine Wcall (.inl rfl) (within_T (show (0 : Int) ≤ 1 ∧ (1 : Int) ≤ 1 by decide) _) ?_;rintro v w5 ⟨rfl,hE⟩;go_simp;refine hK1 _ _ (by assumption) ?_;clear hK1 K1;have z27 := Below.size hE;replace f4 := hE.fz a f4;replace f10 := hE.fz d f10;replace f12 := hE.fz f f12;replace hFS := hFS.ext hE;replace hXS := hXS.ext hE;replace hYS := hYS.ext hE;replace hIS := hIS.ext hE;replace hR := hR.ext hE;replace xw := xw.trans hE;replace x7 := x7.trans hE;replace xl6 := Chg.ext xl6 hE;replace xq8 := xq8.trans hE;replace a := hE.cell a;replace g := hE.cell g;replace h := hE.cell h;replace d := hE.cell d;replace l := hE.cell l;replace m := hE.cell m;replace f := hE.cell f;replace p := hE.cell p;replace r := hE.cell r;replace s := hE.cell s;replace u := hE.cell u;replace y := hE.cell y;replace d1 := hE.cell d1;replace d2 := hE.cell d2;replace x1 := hE.cell x1;replace x2 := hE.cell x2;clear hE;refine mNo ?_
            refine mNo ?_
            refine mNo ?_
            refine mAc ?_
            intro K1 hK1;go_simp;refine Wcall (.inl rfl) (isOpen2_c t other t.fl[k].lo t.fl[k].hi (gI on k) B1 q1 _ _ (hOS.v.ext (x7.trans (XE))) (by omega)) ?_;rintro v w3 ⟨hv,hE⟩;rw [ho2] at hv;subst hv;go_simp;refine hK1 _ _ (by assumption) ?_;clear hK1 K1;have z28 := Below.size hE;replace f4 := hE.fz a f4;replace f10 := hE.fz d f10;replace f12 := hE.fz f f12;replace hFS := hFS.ext hE;replace hXS := hXS.ext hE;replace hYS := hYS.ext hE;replace hIS := hIS.ext hE;replace hR := hR.ext hE;replace xw := xw.trans hE;replace x7 := x7.trans hE;replace xl6 := Chg.ext xl6 hE;replace xq8 := xq8.trans hE;replace a := hE.cell a;replace g := hE.cell g;replace h := hE.cell h;replace d := hE.cell d;replace l := hE.cell l;replace m := hE.cell m;replace f := hE.cell f;replace p := hE.cell p;replace r := hE.cell r;replace s := hE.cell s;replace u := hE.cell u;replace y := hE.cell y;replace d1 := hE.cell d1;replace d2 := hE.cell d2;replace x1 := hE.cell x1;replace x2 := hE.cell x2;clear hE;refine mNo ?_
            refine mNo ?_
            refine mNo ?_
            refine Mops.done ?_;apply hK;clear hK K' gd g6 g23;refine Ends.keep [2,3,4,12,13,14,15,42,43,44,90] ?_;rintro r29 ⟨cE,cP,dG,bX,cb,cn,cv,c0,dh,du,dV,-⟩;simp [go_sem,G,H,L,D,E,F,B,I,J,K,e57] at cE cP dG bX cb cn cv c0 dh du dV;clear e57;refine Ends.mk ?_;refine cutK_normal ⟨⟨by rw [cE,G],by rw [cP,H],by rw [dG,L],by rw [bX,D],by rw [cb,E],by rw [cn,F],by rw [cv,B],by rw [c0,I],by rw [dh,J],by rw [du,K],trivial⟩,rfl,xq8,?_⟩;rw [bad_day hkf hno.choose_spec (by rw [hsc.choose_spec];exact ho2)];exact dV
         ·skip;refine Wp.loneDraw (.inl rfl) mixed [([0,1,2,3],some (4,false)),([5,6],none),([7,8,9,10,11],none),([12,13,14,15,16],none),([17,18,19],some (20,false)),([21,22,23],none),([24,25,26,27,28],none),([29,30,31,32],none)] (by kernel_rfl) fun K' gd hK hg => ?_;have g6 : gd 6 = some 64 := hg 6;have g23 : gd 23 = some 81 := hg 23;clear hg;simp only [pick,nth,List.map_cons,List.map_nil,Option.map_none,Option.map_some];refine Mops.absD fun D13 hD13 zD13 => ?_;replace f4 := hD13.fz a f4;replace f10 := hD13.fz d f10;replace f12 := hD13.fz f f12;replace hFS := hFS.ext hD13;replace hXS := hXS.ext hD13;replace hYS := hYS.ext hD13;replace hIS := hIS.ext hD13;replace hR := hR.ext hD13;replace xw := xw.trans hD13;replace x7 := x7.trans hD13;replace xl6 := Chg.ext xl6 hD13;replace xq8 := xq8.trans hD13;replace a := hD13.cell a;replace g := hD13.cell g;replace h := hD13.cell h;replace d := hD13.cell d;replace l := hD13.cell l;replace m := hD13.cell m;replace f := hD13.cell f;replace p := hD13.cell p;replace r := hD13.cell r;replace s := hD13.cell s;replace u := hD13.cell u;replace y := hD13.cell y;replace d1 := hD13.cell d1;replace d2 := hD13.cell d2;replace x1 := hD13.cell x1;replace x2 := hD13.cell x2;clear hD13
          refine mAc ?_
          intro K1 hK1;go_simp;refine Wcall (.inl rfl) (within_F hw _) ?_;rintro v w5 ⟨rfl,hE⟩;go_simp;refine hK1 _ _ (by assumption) ?_;clear hK1 K1;have z30 := Below.size hE;replace f4 := hE.fz a f4;replace f10 := hE.fz d f10;replace f12 := hE.fz f f12;replace hFS := hFS.ext hE;replace hXS := hXS.ext hE;replace hYS := hYS.ext hE;replace hIS := hIS.ext hE;replace hR := hR.ext hE;replace xw := xw.trans hE;replace x7 := x7.trans hE;replace xl6 := Chg.ext xl6 hE;replace xq8 := xq8.trans hE;replace a := hE.cell a;replace g := hE.cell g;replace h := hE.cell h;replace d := hE.cell d;replace l := hE.cell l;replace m := hE.cell m;replace f := hE.cell f;replace p := hE.cell p;replace r := hE.cell r;replace s := hE.cell s;replace u := hE.cell u;replace y := hE.cell y;replace d1 := hE.cell d1;replace d2 := hE.cell d2;replace x1 := hE.cell x1;replace x2 := hE.cell x2;clear hE;refine mNo ?_
          refine mNo ?_
          refine mNo ?_
          refine mAc ?_
          intro K1 hK1;go_simp;refine hK1 _ _ (Ext.refl _) ?_;clear hK1 K1;refine mNo ?_
          refine mNo ?_
          refine mNo ?_
          refine Mops.done ?_;apply hK;clear hK K' gd g6 g23;refine Ends.keep [2,3,4,12,13,14,15,42,43,44,90] ?_;rintro r31 ⟨cF,cQ,dH,bY,cd,co,cw,c7,di,dv,dW,-⟩;simp [go_sem,G,H,L,D,E,F,B,I,J,K,e57] at cF cQ dH bY cd co cw c7 di dv dW;clear e57;refine Ends.mk ?_;refine cutK_normal ⟨⟨by rw [cF,G],by rw [cQ,H],by rw [dH,L],by rw [bY,D],by rw [cd,E],by rw [co,F],by rw [cw,B],by rw [c7,I],by rw [di,J],by rw [dv,K],trivial⟩,rfl,xq8,?_⟩;rw [bad_who hkf hno.choose_spec hw];exact dW
        ·rintro r32 _ W8 ⟨hA,rfl,xq8,e90⟩;obtain ⟨ah,aj,ao,ad,ae,af,Y,al,am,an,-⟩ := hA;rw [G] at ah;rw [H] at aj;rw [L] at ao;rw [D] at ad;rw [E] at ae;rw [F] at af;rw [B] at Y;rw [I] at al;rw [J] at am;rw [K] at an;clear G H L D E F B I J K e57;have zxq8 := Below.size xq8;replace f4 := Ext.fz xq8 a f4;replace f10 := Ext.fz xq8 d f10;replace f12 := Ext.fz xq8 f f12;replace hFS := hFS.ext xq8;replace hXS := hXS.ext xq8;replace hYS := hYS.ext xq8;replace hIS := hIS.ext xq8;replace hR := hR.ext xq8;replace xw := Ext.trans xw xq8;replace x7 := Ext.trans x7 xq8;replace xl6 := Chg.ext xl6 xq8;replace a := Ext.cell xq8 a;replace g := Ext.cell xq8 g;replace h := Ext.cell xq8 h;replace d := Ext.cell xq8 d;replace l := Ext.cell xq8 l;replace m := Ext.cell xq8 m;replace f := Ext.cell xq8 f;replace p := Ext.cell xq8 p;replace r := Ext.cell xq8 r;replace s := Ext.cell xq8 s;replace u := Ext.cell xq8 u;replace y := Ext.cell xq8 y;replace d1 := Ext.cell xq8 d1;replace d2 := Ext.cell xq8 d2;replace x1 := Ext.cell xq8 x1;replace x2 := Ext.cell xq8 x2;refine tNo ?_
         by_cases hbad : badB t other on by' k = true
         ·skip;rw [hbad] at e90;refine cTt ?_;refine sRg fun K' gd hK => ?_;go_simp;apply hK;clear hK K' gd;refine Wp.keep [8,9] ?_;rintro r33 ⟨dN,dX,-⟩;simp [go_sem,ah,aj,ao,ad,ae,af,Y,al,am,an,e90] at dN dX;clear ah aj ao ad ae af Y al am an e90;refine Wp.ret ?_;refine tRe ?_;refine bRe ?_;refine tRe ?_;refine tRe ?_;refine bRe ?_;refine tRe ?_;refine endK_tmp2 Tryz.results73 (by decide) (by decide) ?_;rw [dN,dX];exact both_r hse.choose_spec hn1.choose_spec hn3.choose_spec hk hbad xw
         ·skip;have hbad2 : badB t other on by' k = false := (by simpa using hbad)
          rw [hbad2] at e90;obtain ⟨x,b9,hx⟩ := right_b hkf hbad2 hno.choose_spec hP;have hx60 := hx.choose_spec.2.2.2;have hx61 : (x : Int) < 60 := by omega
          have hcx : ∃ _u : Unit,gI (cmbL on by') k = ((b9 * 60 + x : Nat) : Int) := ⟨(),by rw [hck.choose_spec,if_neg hno.choose_spec,hx.choose_spec.1,hx.choose_spec.2.1];omega⟩;rw [hx.choose_spec.1] at d1 Y;rw [hx.choose_spec.2.1] at d2;have ft := hR.fz;refine cFf ?_
          by_cases hb0 : b9 = 0
          ·skip;subst hb0;have z1 := hR.c x (by omega);refine skN ?_;refine lRg fun K' gd hK => ?_;refine cu8 fun K1 hK1 => ?_;go_simp;apply hK1;clear hK1 K1;refine Wops.absS (b := n13) (i := x) [_] (hR.some (by omega)) fun P1 hP1 => ?_;have zP1 := hP1.same;replace f4 := hP1.frz f4;replace f10 := hP1.frz f10;replace f12 := hP1.frz f12;replace hFS := hFS.put hP1 (by omega);replace hXS := hXS.put hP1 (by omega);replace hYS := hYS.put hP1 (by omega);replace hIS := hIS.put hP1 (by omega);replace xw := Put.to xw hP1 (by omega);replace x7 := Put.to x7 hP1 (by omega);replace xl6 := Put.more xl6 hP1 (.inr (by simp));replace a := hP1.cell a (by omega);replace g := hP1.cell g (by omega);replace h := hP1.cell h (by omega);replace d := hP1.cell d (by omega);replace l := hP1.cell l (by omega);replace m := hP1.cell m (by omega);replace f := hP1.cell f (by omega);replace p := hP1.cell p (by omega);replace r := hP1.cell r (by omega);replace s := hP1.cell s (by omega);replace u := hP1.cell u (by omega);replace y := hP1.cell y (by omega);replace d1 := hP1.cell d1 (by omega);replace d2 := hP1.cell d2 (by omega)
           replace x1 := hP1.cell x1 (by omega);replace x2 := hP1.cell x2 (by omega);try simp only [Wops_nil,updO_some,updO_none]
           apply hK;clear hK K' gd;refine Ends.keep [2,3,4,12,13,42,43,44] ?_;rintro r34 ⟨ba,bo,bH,aW,a1,bx,bB,bD,-⟩;simp [go_sem,ah,aj,ao,ad,ae,af,Y,al,am,an,e90] at ba bo bH aW a1 bx bB bD;clear ah aj ao ad ae af Y al am an e90;refine Ends.mk ?_;refine bNo ?_;refine tNo ?_;refine lRg fun K' gd hK => ?_;go_simp;apply hK;clear hK K' gd;refine Ends.keep [2,3,4,12,13,42,43,44] ?_;rintro r35 ⟨cG,cR,dI,bZ,ce,c8,dj,dw,-⟩;simp [go_sem,ba,bo,bH,aW,a1,bx,bB,bD] at cG cR dI bZ ce c8 dj dw;clear ba bo bH aW a1 bx bB bD;refine Ends.mk ?_;refine thenK_normal ⟨by omega,⟨by rw [cG,aA],by rw [cR,aD],by rw [dI,aM],by rw [bZ,av],by rw [ce,ax],by rw [c8,aF],by rw [dj,aH],trivial⟩,rfl,xl6,?_⟩;exact ⟨by rw [dw,IntWalk.i64_in _ (by omega)];rfl,by rw [takN_mark hcx.choose_spec,Nat.zero_mul,Nat.zero_add];exact hR.mark hP1,(),fun j hj => by by_cases e : j = k;(subst e;exact hbad2);exact hq.choose_spec j (by omega)⟩
          ·skip;obtain rfl : b9 = 1 := by have := hx.choose_spec.2.2.1;omega
           have z1 := hR.c (60 + x) (by omega);refine skN ?_;refine lRg fun K' gd hK => ?_;refine cu8 fun K1 hK1 => ?_;go_simp;apply hK1;clear hK1 K1;refine Wops.absS (b := n13) (i := (60 + x)) [_] (hR.some (by omega)) fun P1 hP1 => ?_;have zP1 := hP1.same;replace f4 := hP1.frz f4;replace f10 := hP1.frz f10;replace f12 := hP1.frz f12;replace hFS := hFS.put hP1 (by omega);replace hXS := hXS.put hP1 (by omega);replace hYS := hYS.put hP1 (by omega);replace hIS := hIS.put hP1 (by omega);replace xw := Put.to xw hP1 (by omega);replace x7 := Put.to x7 hP1 (by omega);replace xl6 := Put.more xl6 hP1 (.inr (by simp));replace a := hP1.cell a (by omega);replace g := hP1.cell g (by omega);replace h := hP1.cell h (by omega);replace d := hP1.cell d (by omega);replace l := hP1.cell l (by omega);replace m := hP1.cell m (by omega);replace f := hP1.cell f (by omega);replace p := hP1.cell p (by omega);replace r := hP1.cell r (by omega);replace s := hP1.cell s (by omega);replace u := hP1.cell u (by omega);replace y := hP1.cell y (by omega);replace d1 := hP1.cell d1 (by omega);replace d2 := hP1.cell d2 (by omega);replace x1 := hP1.cell x1 (by omega)
           replace x2 := hP1.cell x2 (by omega);try simp only [Wops_nil,updO_some,updO_none]
           apply hK;clear hK K' gd;refine Ends.keep [2,3,4,12,13,42,43,44] ?_;rintro r36 ⟨bb,bp,bI,aX,a2,bz,bC,bE,-⟩;simp [go_sem,ah,aj,ao,ad,ae,af,Y,al,am,an,e90] at bb bp bI aX a2 bz bC bE;clear ah aj ao ad ae af Y al am an e90;refine Ends.mk ?_;refine bNo ?_;refine tNo ?_;refine lRg fun K' gd hK => ?_;go_simp;apply hK;clear hK K' gd;refine Ends.keep [2,3,4,12,13,42,43,44] ?_;rintro r37 ⟨cH,cS,dJ,b0,cf,c9,dk,dx,-⟩;simp [go_sem,bb,bp,bI,aX,a2,bz,bC,bE] at cH cS dJ b0 cf c9 dk dx;clear bb bp bI aX a2 bz bC bE;refine Ends.mk ?_;refine thenK_normal ⟨by omega,⟨by rw [cH,aA],by rw [cS,aD],by rw [dJ,aM],by rw [b0,av],by rw [cf,ax],by rw [c9,aF],by rw [dk,aH],trivial⟩,rfl,xl6,?_⟩;exact ⟨by rw [dx,IntWalk.i64_in _ (by omega)];rfl,by rw [takN_mark hcx.choose_spec,Nat.one_mul];exact hR.mark hP1,(),fun j hj => by by_cases e : j = k;(subst e;exact hbad2);exact hq.choose_spec j (by omega)⟩
     ·refine cFf ?_;have hkk : k = on.length := by omega
      have hne : anyB t other on by' = false := anyB_no fun j hj => hq.choose_spec j (by omega)
      refine Wp.exit ?_;refine tEx ?_;refine tEx ?_;refine blockK_here ?_;refine tNo ?_;refine sRg fun K' gd hK => ?_;refine cu3 fun K1 hK1 => ?_;go_simp;refine Wcall (.inl rfl) (worthM_c t t.n.toNat on _ _ _ hP (hV.ext xw) (hXS.v.more (Below.size (XE))) hn1.choose_spec) ?_;rintro v w9 ⟨hv,hE⟩;subst hv;go_simp;apply hK1;clear hK1 K1;have z38 := Below.size hE;replace f4 := hE.fz a f4;replace f10 := hE.fz d f10;replace f12 := hE.fz f f12;replace hFS := hFS.ext hE;replace hXS := hXS.ext hE;replace hYS := hYS.ext hE;replace hIS := hIS.ext hE;replace hR := hR.ext hE;replace xw := xw.trans hE;replace x7 := x7.trans hE;replace xl6 := Chg.ext xl6 hE;replace a := hE.cell a;replace g := hE.cell g;replace h := hE.cell h;replace d := hE.cell d;replace l := hE.cell l;replace m := hE.cell m;replace f := hE.cell f;replace p := hE.cell p;replace r := hE.cell r;replace s := hE.cell s;replace u := hE.cell u;replace y := hE.cell y;clear hE;go_simp;apply hK;clear hK K' gd;refine Wp.keep [8,9] ?_;rintro r39 ⟨dO,dY,-⟩;simp [go_sem,ay,aB,aK,au,aw,aE,aG,aI,aJ] at dO dY
      clear ay aB aK au aw aE aG aI aJ;refine Wp.ret ?_;refine endK_tmp2 Tryz.results73 (by decide) (by decide) ?_;rw [dO,dY];exact ⟨by obtain ⟨r1,r2⟩ := both_0 hse.choose_spec hn1.choose_spec hn3.choose_spec hne;rw [r1,r2],xw⟩
   ·skip;have hn4 : ¬ (by'.length : Int) = (t.fl.length : Int) := by omega
    refine skN ?_;refine Wp.seq ?_;refine sRh fun K' gd hK hg => ?_;have g6 : gd 6 = some 31 := hg 6;clear hg;go_simp;apply hK;clear hK K' gd g6;refine Wp.keep [2,3,4,10,38] ?_;rintro r40 ⟨bc,bq,bJ,aQ,bi,-⟩;simp [go_sem,ai,ak,ap,ab,ac,ag] at bc bq bJ aQ bi;clear ai ak ap ab ac ag;refine cTt ?_;refine sRg fun K' gd hK => ?_;go_simp;apply hK;clear hK K' gd;refine Wp.keep [8,9] ?_;rintro r41 ⟨dP,dZ,-⟩;simp [go_sem,bc,bq,bJ,aQ,bi] at dP dZ;clear bc bq bJ aQ bi;refine Wp.ret ?_;refine tRe ?_;refine endK_tmp2 Tryz.results73 (by decide) (by decide) ?_;rw [dP,dZ];exact ⟨by obtain ⟨r1,r2⟩ := both_1 (on := on) (by' := by') hse.choose_spec fun q => hn3 q.2;rw [r1,r2],xw⟩
  ·skip;have hn2 : ¬ (on.length : Int) = (t.fl.length : Int) := by omega
   refine skN ?_;refine Wp.seq ?_;refine sRh fun K' gd hK hg => ?_;have g6 : gd 6 = some 31 := hg 6;clear hg;go_simp;apply hK;clear hK K' gd g6;refine Wp.keep [2,3,4,10,38] ?_;rintro r42 ⟨bd,br,bK,aR,bj,-⟩;simp [go_sem,ai,ak,ap,ab,ac,ag] at bd br bK aR bj;clear ai ak ap ab ac ag;refine cTt ?_;refine sRg fun K' gd hK => ?_;go_simp;apply hK;clear hK K' gd;refine Wp.keep [8,9] ?_;rintro r43 ⟨dQ,d0,-⟩;simp [go_sem,bd,br,bK,aR,bj] at dQ d0;clear bd br bK aR bj;refine Wp.ret ?_;refine tRe ?_;refine endK_tmp2 Tryz.results73 (by decide) (by decide) ?_;rw [dQ,d0];exact ⟨by obtain ⟨r1,r2⟩ := both_1 (on := on) (by' := by') hse.choose_spec fun q => hn1 q.1;rw [r1,r2],xw⟩
 ·skip;refine Wp.seq ?_;refine sRg fun K' gd hK => ?_;go_simp;apply hK;clear hK K' gd;refine Wp.keep [2,3,4,10,11,23] ?_;rintro r44 ⟨be,bs,bL,aS,aU,a6,-⟩;simp [go_sem,az,aC,aL,aq,ar] at be bs bL aS aU a6;clear az aC aL aq ar;refine cTt ?_;refine sRg fun K' gd hK => ?_;go_simp;apply hK;clear hK K' gd;refine Wp.keep [8,9] ?_;rintro r45 ⟨dR,d3,-⟩;simp [go_sem,be,bs,bL,aS,aU,a6] at dR d3;clear be bs bL aS aU a6;refine Wp.ret ?_;refine tRe ?_;refine endK_tmp2 Tryz.results73 (by decide) (by decide) ?_;rw [dR,d3];exact ⟨by obtain ⟨r1,r2⟩ := both_s (on := on) (by' := by') hse.choose_spec h0;rw [r1,r2],xw⟩
end Go.Proofs.YtnklbepeoicgpaaGreat
namespace Go.Proofs.YtnklbepeoicgpaaGreat
section
variable {t : Tr} {other on by' : List Int} {n : Nat}
theorem cmb_on {h : Nat → Int} {m i : Nat} (hi : i < m) : gI (cmbL (onB h m) (byB h m)) i = onN h 120 i := by
 rw [cmb_at (by rw [onB_len];exact hi),onB_at hi,byB_at hi];unfold dayB whoB
 rcases onN_spec h i 120 with ⟨h1,-⟩ | ⟨d,h1,h2,-⟩
 ·rw [h1];rfl
 ·rw [h2,if_neg (show ¬ (d : Int) < 0 by omega)]
  by_cases q : (d : Int) < 60
  ·rw [if_pos q,if_pos q,if_neg (by omega)];omega
  ·rw [if_neg q,if_neg q,if_neg (by omega)];omega
theorem okDay_iff {i : Nat} {d : Nat} (hT : OptT t n) (hi : i < t.fl.length) : okDay t t.fl[i].lo t.fl[i].hi (d : Int) = true ↔ d ∈ t.N (i : Int) := by
 have hs := hT.sp _ (List.getElem_mem hi);unfold okDay;rw [decide_eq_true_iff,trN_at hi,openN_in hs.1];exact ⟨fun h => ⟨h.1.1,h.1.2,h.2⟩,fun h => ⟨⟨h.1,h.2.1⟩,h.2.2⟩⟩
theorem plan_right {g : Nat → Int} (hT : OptT t n) (hn : n ≤ 60) (hg : OkP (dN t other) 120 t.fl.length g) : anyB t other (onB g t.fl.length) (byB g t.fl.length) = false := by
 refine anyB_no fun i hi => ?_;rw [onB_len] at hi;rw [badB_at hi]
 rcases onN_spec g i 120 with ⟨e,-⟩ | ⟨d,hd,e,e2⟩
 ·rw [onB_at hi,byB_at hi,e];rfl
 ·have hday := hg.day d hd (by omega);rw [e2] at hday
  have htk : takN (cmbL (onB g t.fl.length) (byB g t.fl.length)) i d = false := by
   by_cases c : takN (cmbL (onB g t.fl.length) (byB g t.fl.length)) i d = true
   ·obtain ⟨j,hj,ej⟩ := takN_true.1 c
    exfalso
    rw [cmb_on (show j < t.fl.length by omega)] at ej
    rcases onN_spec g j 120 with ⟨e3,-⟩ | ⟨d',hd',e3,e4⟩
    ·omega
    ·obtain rfl : d' = d := by omega
     omega
   ·simpa using c
  rw [onB_at hi,byB_at hi,e];unfold dayB whoB;rw [if_neg (show ¬ (d : Int) < 0 by omega)]
  by_cases q : d < 60
  ·have q' : (d : Int) < 60 := by omega
   rw [if_pos q',if_pos q'];have ho : okDay t t.fl[i].lo t.fl[i].hi (d : Int) = true := (okDay_iff hT hi).2 ((dN_one hT hn q).1 hday);have hs : secC t other 0 = t := if_pos rfl;rw [hs,ho,show ((0 : Int) * 60 + (d : Int)).toNat = d by omega,htk,decide_eq_false (show ¬ ¬ ((0 : Int) ≤ 0 ∧ (0 : Int) ≤ 1) by decide)];simp
  ·have q' : ¬ (d : Int) < 60 := by omega
   obtain ⟨k,rfl⟩ : ∃ k,d = 60 + k := ⟨d - 60,by omega⟩;rw [if_neg q',if_neg q',show ((60 + k : Nat) : Int) - 60 = (k : Int) by omega];have ho : okDay (secT t other) t.fl[i].lo t.fl[i].hi (k : Int) = true := (okDay_iff (hT.sec other) hi).2 ((dN_two hT hn).1 hday);have hs : secC t other 1 = secT t other := if_neg (by decide);rw [hs,ho,show ((1 : Int) * 60 + (k : Int)).toNat = 60 + k by omega,htk,decide_eq_false (show ¬ ¬ ((0 : Int) ≤ 1 ∧ (1 : Int) ≤ 1) by decide)];simp
end
theorem IsOpt.days_le {N N' : Int → List Nat} {n n' m : Nat} {W : Int → Int} {v v' : Int} (h : IsOpt N n m W v) (h' : IsOpt N' n' m W v') (hW : ∀ j : Nat,j < m → 0 ≤ W j) (φ : Nat → Nat)
  (hφ : ∀ j : Nat,j < m → ∀ d,d < n → d ∈ N j → φ d < n' ∧ φ d ∈ N' j) (hi : ∀ d e,d < n → e < n → φ d = φ e → d = e) : v ≤ v' := by
 obtain ⟨g,g1,g2⟩ := h.ex
 have ch : ∀ e : Nat,∃ x : Int,(∃ d,d < n ∧ 0 ≤ g d ∧ φ d = e ∧ x = g d) ∨ ((∀ d,d < n → 0 ≤ g d → φ d ≠ e) ∧ x = -1) := fun e => by
  by_cases q : ∃ d,d < n ∧ 0 ≤ g d ∧ φ d = e
  ·obtain ⟨d,h1,h2,h3⟩ := q;exact ⟨g d,.inl ⟨d,h1,h2,h3,rfl⟩⟩
  ·exact ⟨-1,.inr ⟨fun d h1 h2 h3 => q ⟨d,h1,h2,h3⟩,rfl⟩⟩
 obtain ⟨p,hp⟩ := Classical.axiomOfChoice ch
 have ok : OkP N' n' m p := OkP.of (fun e => by
  rcases hp e with ⟨d,h1,h2,h3,e1⟩ | ⟨-,e1⟩
  ·rw [e1];exact g1.lt d
  ·omega) (fun e he h0 => by
  rcases hp e with ⟨d,h1,h2,h3,e1⟩ | ⟨-,e1⟩
  ·obtain ⟨j,hj,hjm⟩ := g1.at' h2;have hday := g1.day d h1 h2;rw [hj] at hday;rw [e1,hj,← h3];exact (hφ j hjm d h1 hday).2
  ·omega) (fun e k he hk h0 q => by
  rcases hp e with ⟨d,h1,h2,h3,e1⟩ | ⟨-,e1⟩
  ·rcases hp k with ⟨d',h1',h2',h3',e1'⟩ | ⟨-,e1'⟩
   ·obtain rfl : d = d' := g1.inj h1 h1' h2 (by omega);omega
   ·omega
  ·omega)
 have key : worthW W g n ≤ worthW W p n' := by
  rw [worth_cnt n fun d _ => (g1.lt d).2,worth_cnt n' fun d _ => (ok.lt d).2];refine sumN_le m fun j hj => ?_;refine Int.mul_le_mul_of_nonneg_right ?_ (hW j hj)
  by_cases z : cntN g (j : Int) n = 0
  ·rw [z];exact cntN_pos
  ·obtain ⟨d,hd,e⟩ := cntN_some z;have hday := g1.day d hd (by omega);rw [e] at hday;have hφd := hφ j hj d hd hday
   have e1 : p (φ d) = (j : Int) := by
    rcases hp (φ d) with ⟨d',h1',h2',h3',e1'⟩ | ⟨hn,-⟩
    ·obtain rfl : d' = d := hi d' d h1' hd h3';omega
    ·exact absurd rfl (hn d hd (by omega))
   have := cntN_ge hφd.1 e1;have := g1.one j;omega
 have := h'.le p ok;omega
set_option maxHeartbeats 8000000
section
variable {t : Tr} {other : List Int} {n : Nat}
end
end Go.Proofs.YtnklbepeoicgpaaGreat
namespace Go.Proofs.YtnklbepeoicgpaaGreat
set_option maxHeartbeats 8000000
def okM (t : Tr) (other : List Int) (lo hi : Int) (n d : Nat) : Bool := if d < n then okDay t lo hi (d : Int) else okDay (secT t other) lo hi ((d : Int) - n)
def restM (t : Tr) (other : List Int) (lo hi : Int) (n m d : Nat) : List Nat := (List.range' d (m - d)).filter (okM t other lo hi n)
def dM (t : Tr) (other : List Int) (n m : Nat) : Int → List Nat := fun i => match t.fl[i.toNat]? with | some f => restM t other f.lo f.hi n m 0 | none => []
section
variable {t : Tr} {other : List Int} {n m : Nat}
theorem dM_at {i : Nat} (hi : i < t.fl.length) : dM t other n m (i : Int) = restM t other t.fl[i].lo t.fl[i].hi n m 0 := by
 unfold dM;rw [Int.toNat_natCast,List.getElem?_eq_getElem hi]
theorem restM_T {lo hi : Int} {d : Nat} (hd : d < m) (h : okM t other lo hi n d = true) : restM t other lo hi n m d = d :: restM t other lo hi n m (d + 1) := by
 unfold restM;rw [show m - d = (m - (d + 1)) + 1 by omega,List.range'_succ];exact List.filter_cons_of_pos h
theorem restM_F {lo hi : Int} {d : Nat} (hd : d < m) (h : okM t other lo hi n d = false) : restM t other lo hi n m d = restM t other lo hi n m (d + 1) := by
 unfold restM;rw [show m - d = (m - (d + 1)) + 1 by omega,List.range'_succ];exact List.filter_cons_of_neg (by rw [h];decide)
theorem restM_end {lo hi : Int} : restM t other lo hi n m m = [] := by unfold restM;rw [Nat.sub_self];rfl
theorem dM_lt (i : Int) (d : Nat) (hd : d ∈ dM t other n m i) : d < m := by
 unfold dM at hd
 split at hd
 ·unfold restM at hd;have q := (List.mem_filter.1 hd).1;rw [List.mem_range'_1] at q;omega
 ·cases hd
theorem dM_mem {i d : Nat} (hT : OptT t n) (hi : i < t.fl.length) : d ∈ dM t other n m (i : Int) ↔ d < m ∧ ((d < n ∧ d ∈ t.N (i : Int)) ∨ ∃ e,d = n + e ∧ e ∈ (secT t other).N (i : Int)) := by
 rw [dM_at hi];unfold restM;rw [List.mem_filter,List.mem_range'_1];unfold okM
 by_cases c : d < n
 ·rw [if_pos c,okDay_iff hT hi];exact ⟨fun h => ⟨by omega,.inl ⟨c,h.2⟩⟩,fun h => ⟨by omega,h.2.elim (·.2) fun ⟨e,q,_⟩ => by omega⟩⟩
 ·obtain ⟨k,rfl⟩ : ∃ k,d = n + k := ⟨d - n,by omega⟩;rw [if_neg c,show ((n + k : Nat) : Int) - n = (k : Int) by omega];have q := okDay_iff (hT.sec other) (d := k) (i := i) hi;have q : okDay (secT t other) t.fl[i].lo t.fl[i].hi (k : Int) = true ↔ k ∈ (secT t other).N (i : Int) := q;rw [q];exact ⟨fun h => ⟨by omega,.inr ⟨k,rfl,h.2⟩⟩,fun h => ⟨by omega,h.2.elim (fun h => absurd h.1 c) fun ⟨e,q,h⟩ => (show k = e by omega) ▸ h⟩⟩
end
structure OrdP (t : Tr) (Z : List Int) : Prop where
 nd : Z.Nodup
 so : Z.Pairwise fun a b => mAt t.fl b ≤ mAt t.fl a
 mem : ∀ x ∈ Z,∃ k : Nat,x = (k : Int) ∧ k < t.fl.length
 low : ∀ a ∈ Z,∀ i : Nat,i < t.fl.length → (i : Int) ∉ Z → mAt t.fl (i : Int) ≤ mAt t.fl a
section
variable {t : Tr} {Z : List Int}
theorem OrdP.nil : OrdP t [] := ⟨List.nodup_nil,List.Pairwise.nil,fun _ h => absurd h List.not_mem_nil,fun _ h => absurd h List.not_mem_nil⟩
theorem OrdP.snoc (h : OrdP t Z) {a : Nat} (ha : a < t.fl.length) (hn : (a : Int) ∉ Z) (hl : ∀ i : Nat,i < t.fl.length → (i : Int) ∉ Z → mAt t.fl (i : Int) ≤ mAt t.fl (a : Int)) : OrdP t (Z ++ [(a : Int)]) := by
 refine ⟨List.nodup_append.2 ⟨h.nd,List.nodup_cons.2 ⟨List.not_mem_nil,List.nodup_nil⟩,fun x hx y hy e => ?_⟩,List.pairwise_append.2 ⟨h.so,List.pairwise_singleton _ _,fun x hx y hy => ?_⟩,fun x hx => ?_,fun x hx i hi hni => ?_⟩
 ·rw [List.mem_singleton] at hy;subst hy;subst e;exact hn hx
 ·rw [List.mem_singleton] at hy;subst hy;exact h.low x hx a ha hn
 ·rcases List.mem_append.1 hx with hx | hx
  ·exact h.mem x hx
  ·rw [List.mem_singleton] at hx;exact ⟨a,hx,ha⟩
 ·have h1 : (i : Int) ∉ Z := fun q => hni (List.mem_append.2 (.inl q))
  rcases List.mem_append.1 hx with hx | hx
  ·exact h.low x hx i hi h1
  ·rw [List.mem_singleton] at hx;subst hx;exact hl i hi h1
theorem OrdP.len (h : OrdP t Z) : (Z.length : Int) = sumN (fun j => if (j : Int) ∈ Z then 1 else 0) t.fl.length := len_sum h.nd h.mem
theorem sumN_ones : ∀ m,sumN (fun _ => 1) m = (m : Int)
 | 0 => rfl
 | m + 1 => by show sumN _ m + 1 = _;rw [sumN_ones m];omega
theorem OrdP.more (h : OrdP t Z) (hl : Z.length < t.fl.length) : ∃ i : Nat,i < t.fl.length ∧ (i : Int) ∉ Z := by
 refine Classical.byContradiction fun q => ?_;have e := h.len;rw [sumN_eq t.fl.length (g := fun _ => 1) fun d hd => if_pos (Classical.byContradiction fun c => q ⟨d,hd,c⟩),sumN_ones] at e;omega
theorem OrdP.full (h : OrdP t Z) (hl : Z.length = t.fl.length) (i : Nat) (hi : i < t.fl.length) : (i : Int) ∈ Z := by
 refine Classical.byContradiction fun q => ?_;have e := h.len;have q := sumN_le_at (f := fun j => if (j : Int) ∈ Z then (1 : Int) else 0) (g := fun _ => 1) (c := 1) t.fl.length hi (fun d _ _ => by show (if (d : Int) ∈ Z then (1 : Int) else 0) ≤ 1;split <;> decide) (by show (if (i : Int) ∈ Z then (1 : Int) else 0) + 1 ≤ 1;rw [if_neg q];decide);rw [← e,sumN_ones] at q;omega
end
section
variable {t : Tr} {Z : List Int} {N : Int → List Nat} {n : Nat}
theorem ordP_step (hN : ∀ i,∀ d ∈ N i,d < n) (h : OrdP t Z) {i : Nat} (him : i < t.fl.length) (hnot : (i : Int) ∉ Z) :
  (addR N n (planF N n Z) i).2.1 = planF N n (Z ++ [(i : Int)]) ∧
  worthN t.fl (planF N n (Z ++ [(i : Int)])) n = worthN t.fl (planF N n Z) n + (if (addR N n (planF N n Z) i).1 = true then mAt t.fl i else 0) ∧
  ∀ d,planF N n Z d < t.fl.length := by
 have hC : PlanC N n t.fl.length (fun a b => mAt t.fl b ≤ mAt t.fl a) Z (planF N n Z) := planF_C hN h.nd h.so h.mem;have h0 : cntN (planF N n Z) (i : Int) n = 0 := Decidable.byContradiction fun hc => hnot (hC.only i hc);have e : planF N n (Z ++ [(i : Int)]) = addF N n (planF N n Z) i := by unfold planF;rw [List.foldl_append];rfl
 rw [e,worthN_W,worthN_W];refine ⟨?_,?_,fun d => (hC.ok.lt d).2⟩
 ·unfold addF
  split
  ·rfl
  ·rename_i hb
   exact (addR_R (i := i) hN hC.ok).same (by simpa using hb)
 ·cases hb : addB N n (planF N n Z) i with
  | true =>
    obtain ⟨a1,a2⟩ := add_true hN hC.ok him h0 hb;have hb2 : (addR N n (planF N n Z) i).1 = true := hb;rw [if_pos hb2,worth_one (fun d _ => (a1.lt d).2) (fun d _ => (hC.ok.lt d).2) him a2]
  | false =>
    have hb2 : (addR N n (planF N n Z) i).1 = false := hb;rw [hb2,(add_false hN hC.ok him h0 hb).1,if_neg (by decide),Int.add_zero]
theorem ordP_opt (hN : ∀ i,∀ d ∈ N i,d < n) (h : OrdP t Z) (hm : ∀ f ∈ t.fl,0 ≤ f.m) (hl : Z.length = t.fl.length) : IsOpt N n t.fl.length (mAt t.fl) (worthN t.fl (planF N n Z) n) := by
 have hC : PlanC N n t.fl.length (fun a b => mAt t.fl b ≤ mAt t.fl a) Z (planF N n Z) := planF_C hN h.nd h.so h.mem;have e : worthW (mAt t.fl) (planF N n Z) n = worthN t.fl (planF N n Z) n := (worthN_W _ _ _).symm;refine ⟨⟨_,hC.ok,e⟩,fun g hg => ?_⟩;rw [← e];refine dual_max (S := fun _ => True) hC.ok hg (fun _ _ _ => .inl trivial) (mAt_pos hm) fun i hi _ hz => ?_;obtain ⟨X,h1,h2,h3⟩ := hC.cert i (h.full hl i hi) hz;exact ⟨X,h1,h2,h3⟩
end
section
variable {t : Tr} {other : List Int} {n m : Nat}
theorem meritM_eq {Z : List Int} (hT : OptT t n) (hn : n ≤ 60) (hm : m = 2 * n) (h : OrdP t Z) (hl : Z.length = t.fl.length) : worthN t.fl (planF (dM t other n m) m Z) m = meritB t other := by
 have h1 := ordP_opt (N := dM t other n m) (n := m) dM_lt h hT.mr hl;have h2 := meritB_opt (other := other) hT hn;subst hm
 refine Int.le_antisymm (h1.days_le h2 (fun _ _ => mAt_pos hT.mr _) (fun d => if d < n then d else 60 + (d - n)) (fun j hj d hd hm => ?_) fun d e hd he h => ?_)
  (h2.days_le h1 (fun _ _ => mAt_pos hT.mr _) (fun d => if d < n then d else if d < 60 then 200 + d else n + (d - 60)) (fun j hj d hd hm => ?_) ?_)
 ·rcases ((dM_mem hT hj).1 hm).2 with ⟨q,q2⟩ | ⟨e,rfl,q⟩
  ·rw [if_pos q];exact ⟨by omega,dN_mem.2 (.inl q2)⟩
  ·rw [if_neg (by omega),show n + e - n = e by omega];have := trN_lt (hT.sec other).span _ _ q;exact ⟨by omega,dN_mem.2 (.inr ⟨e,q,rfl⟩)⟩
 ·split at h <;> split at h <;> omega
 ·rcases dN_mem.1 hm with q | ⟨e,q,rfl⟩
  ·have hlt := trN_lt hT.span _ _ q;rw [if_pos (by omega)];exact ⟨by omega,(dM_mem hT hj).2 ⟨by omega,.inl ⟨hlt,q⟩⟩⟩
  ·have hlt := trN_lt (hT.sec other).span _ _ q;rw [if_neg (by omega),if_neg (by omega),show 60 + e - 60 = e by omega];exact ⟨by omega,(dM_mem hT hj).2 ⟨by omega,.inr ⟨e,rfl,q⟩⟩⟩
 ·intro d e hd he h;have c1 : d < n ∨ n ≤ d ∧ d < 60 ∨ 60 ≤ d := by omega
  have c2 : e < n ∨ n ≤ e ∧ e < 60 ∨ 60 ≤ e := by omega
  rcases c1 with c1 | c1 | c1 <;> rcases c2 with c2 | c2 | c2
  ·rw [if_pos c1,if_pos c2] at h;exact h
  ·rw [if_pos c1,if_neg (by omega),if_pos c2.2] at h;omega
  ·rw [if_pos c1,if_neg (by omega),if_neg (by omega)] at h;omega
  ·rw [if_neg (by omega),if_pos c1.2,if_pos c2] at h;omega
  ·rw [if_neg (by omega),if_pos c1.2,if_neg (by omega),if_pos c2.2] at h;omega
  ·rw [if_neg (by omega),if_pos c1.2,if_neg (by omega),if_neg (by omega)] at h;omega
  ·rw [if_neg (by omega),if_neg (by omega),if_pos c2] at h;omega
  ·rw [if_neg (by omega),if_neg (by omega),if_neg (by omega),if_pos c2.2] at h;omega
  ·rw [if_neg (by omega),if_neg (by omega),if_neg (by omega),if_neg (by omega)] at h;omega
end
end Go.Proofs.YtnklbepeoicgpaaGreat
namespace Go.Proofs.YtnklbepeoicgpaaGreat
open Go.RowKit Go.Wk Go.Proofs
attribute [local irreducible] Go.Wk.Wops Go.Wk.Wp Go.Wk.Mtree Go.Wk.Mops
set_option maxHeartbeats 8000000
set_option maxRecDepth 20000
structure DuoD (W : World) (S sb hb tb m : Nat) (A : Option Addr) (c : Nat) (A2 : Option Addr) (c2 : Nat) (A1 : Option Addr) (c1 : Nat) (t : Tr) (other : List Int) : Prop where
 k0 : W.cell? ⟨sb,0,none⟩ = some (.int .i64 t.n)
 k1 : W.cell? ⟨sb,1,none⟩ = some (.slice A t.cl.length c)
 k2 : W.cell? ⟨sb,2,none⟩ = some (.slice A2 t.fl.length c2)
 k3 : W.cell? ⟨sb,3,none⟩ = some (.int .i64 t.n)
 k4 : W.cell? ⟨sb,4,none⟩ = some (.slice A1 other.length c1)
 k5 : W.cell? ⟨sb,5,none⟩ = some (.slice A2 t.fl.length c2)
 k6 : W.cell? ⟨sb,6,none⟩ = some (.slice (some ⟨hb,0,none⟩) m m)
 k7 : W.cell? ⟨sb,7,none⟩ = some (.slice (some ⟨tb,0,none⟩) m m)
 tour : TourS W S (.agg #[.int .i64 t.n,.slice A t.cl.length c,.slice A2 t.fl.length c2]) t
 oth : TourS W S (.agg #[.int .i64 t.n,.slice A1 other.length c1,.slice A2 t.fl.length c2]) (secT t other)
 s : S ≤ hb ∧ S ≤ tb ∧ S ≤ W.heap.size
 ne : sb ≠ hb ∧ sb ≠ tb ∧ hb ≠ tb
section
variable {W V : World} {S sb hb tb m : Nat} {A : Option Addr} {c : Nat} {A2 : Option Addr} {c2 : Nat} {A1 : Option Addr} {c1 : Nat} {t : Tr} {other : List Int}
theorem DuoD.chg {L : List Nat} (h : DuoD W S sb hb tb m A c A2 c2 A1 c1 t other) (hC : Chg L W V) (hL : ∀ b,b ≠ hb ∧ b ≠ tb → b ∉ L) : DuoD V S sb hb tb m A c A2 c2 A1 c1 t other := by
 obtain ⟨n1,n2,n3⟩ := h.ne;have e := hL sb ⟨n1,n2⟩
 have hs : ∀ b ∈ L,S ≤ b := fun b hb2 => by
  by_cases q : b = hb ∨ b = tb
  ·have := h.s;omega
  ·exact absurd hb2 (hL b (by omega))
 exact ⟨Chg.cell hC h.k0 e,Chg.cell hC h.k1 e,Chg.cell hC h.k2 e,Chg.cell hC h.k3 e,Chg.cell hC h.k4 e,Chg.cell hC h.k5 e,Chg.cell hC h.k6 e,Chg.cell hC h.k7 e,h.tour.chg hC hs,h.oth.chg hC hs,⟨h.s.1,h.s.2.1,Nat.le_trans h.s.2.2 hC.size⟩,h.ne⟩
theorem DuoD.ext (h : DuoD W S sb hb tb m A c A2 c2 A1 c1 t other) (hE : Ext W V) : DuoD V S sb hb tb m A c A2 c2 A1 c1 t other := h.chg ((Chg.refl [] W).ext hE) (fun _ _ => by simp)
theorem DuoD.put {k i : Nat} {vs : List Value} (h : DuoD W S sb hb tb m A c A2 c2 A1 c1 t other) (p : Put W V k i vs) (hk : k = hb ∨ k = tb) : DuoD V S sb hb tb m A c A2 c2 A1 c1 t other := h.chg p.chg (fun b hb2 => by simp;omega)
end
theorem okM_1 {t : Tr} {other : List Int} {lo hi : Int} {n d : Nat} (h : d < n) : okM t other lo hi n d = okDay t lo hi (d : Int) := if_pos h
theorem okM_2 {t : Tr} {other : List Int} {lo hi : Int} {n d : Nat} (h : ¬ d < n) : okM t other lo hi n d = okDay (secT t other) lo hi ((d - n : Nat) : Int) := by
 unfold okM;rw [if_neg h,show (d : Int) - n = ((d - n : Nat) : Int) by omega]
theorem place2_c (t : Tr) (other : List Int) (S sb hb tb n m : Nat) (A : Option Addr) (c : Nat) (A2 : Option Addr) (c2 : Nat) (A1 : Option Addr) (c1 : Nat) (hn : n ≤ 60) (hm : m = 2 * n) (hnn : ∃ _u : Unit,t.n = (n : Int)) (hcl : t.cl.length ≤ 1000000000000000) (hol : other.length ≤ 1000000000000000) (hfl : t.fl.length ≤ 1000) :
  ∀ (f i : Nat) (h : Nat → Int) (tr : Nat → Bool) (w : World),untr m tr < f → i < t.fl.length → (∀ d,h d < t.fl.length) → DuoD w S sb hb tb m A c A2 c2 A1 c1 t other → RowF w hb m h → RowT w tb m tr →
  CallsV Tryz.prog 143 #[.pointer (some ⟨sb,0,none⟩),.int .i64 (i : Int)] w fun v w' =>
   v = .bool (giveF (dM t other n m) f i h tr).1 ∧ RowF w' hb m (giveF (dM t other n m) f i h tr).2.1 ∧ RowT w' tb m (giveF (dM t other n m) f i h tr).2.2 ∧ Chg [hb,tb] w w'
 | 0,_,_,_,_,h0,_,_,_,_,_ => absurd h0 (Nat.not_lt_zero _)
 | f + 1,i,h,tr,w,hun,hi,hhl,hD,hR,hT => by
   have IH := place2_c t other S sb hb tb n m A c A2 c2 A1 c1 hn hm hnn hcl hol hfl f;obtain ⟨m1,m2,m3⟩ := hD.ne;obtain ⟨s1,s2,s3⟩ := hD.s;have hFS : FlawsS w S (.slice A2 t.fl.length c2) t.fl := ⟨by obtain ⟨cv,fv,e,h1,h2⟩ := hD.tour.v;injection e with e;simp only [Array.mk.injEq,List.cons.injEq,and_true] at e;obtain ⟨-,rfl,rfl⟩ := e;exact h2⟩;obtain ⟨b4,o4,rfl,hb4,x0,x1,x2,x3⟩ := FlawsV.at hFS.v hi;obtain ⟨F,hF⟩ : ∃ F,∃ _u : Unit,t.fl[i] = F := ⟨_,(),rfl⟩;rw [hF.choose_spec] at x0 x1 x2 x3;obtain ⟨R,hRR⟩ : ∃ R,∃ _u : Unit,giveF (dM t other n m) (f + 1) i h tr = R ∧ loopF (giveF (dM t other n m) f) i (restM t other F.lo F.hi n m 0) h tr = R := ⟨_,(),rfl,by show loopF _ _ _ _ _ = loopF _ _ (dM t other n m i) _ _;rw [dM_at hi,hF.choose_spec]⟩;rw [hRR.choose_spec.1];have y0 := hD.k0;have y1 := hD.k1;have y2 := hD.k2;have y3 := hD.k3;have y4 := hD.k4;have y5 := hD.k5;have y6 := hD.k6;have y7 := hD.k7;have hii : (i : Int) < (t.fl.length : Int) := by omega
   have hfl4 : ∃ _u : Unit,flV F = .agg #[.int .i64 F.id,.int .i64 F.lo,.int .i64 F.hi,.int .i64 F.m] := ⟨(),rfl⟩;replace hhl : ∃ _u : Unit,_ := ⟨(),hhl⟩;have htn := hnn.choose_spec;rw [htn] at y0 y3;have hwm : IntKind.i64.wrap (2 * (n : Int)) = (m : Int) := by rw [IntWalk.i64_in _ (by omega)];omega
   clear hFS htn;have hm60 : m ≤ 120 := by omega
   replace hm : ∃ _u : Unit,_ := ⟨(),hm⟩;refine Wp.fn Tryz.func143 rfl Tryz.ntmps143 (by simp) ?_;have xw := Ext.refl w;refine Wp.keep [0,1] ?_;rintro r1 ⟨L,Y,-⟩;simp [go_sem] at L Y;have xg := Chg.refl [hb,tb] w;refine sRg fun K' gd hK => ?_;go_simp;apply hK;clear hK K' gd;refine Wp.keep [0,1] ?_;rintro r2 ⟨O,ab,-⟩;simp [go_sem,L,Y] at O ab;clear L Y;refine sRg fun K' gd hK => ?_;go_simp;apply hK;clear hK K' gd;refine Wp.keep [0,1,5] ?_;rintro r3 ⟨T,ad,aj,-⟩;simp [go_sem,O,ab] at T ad aj;clear O ab;refine Wp.seq ?_;refine sRg fun K' gd hK => ?_;go_simp;apply hK;clear hK K' gd;refine Wp.keep [0,1,5,6] ?_;rintro r4 ⟨E,H,J,a9,-⟩;simp [go_sem,T,ad,aj] at E H J a9;clear T ad aj;refine Wp.block ?_;refine Wp.loop (fun d ρ ds wd => AllEq [0,1,5] ρ r4 ∧ ds = [] ∧ (Chg [hb,tb] w wd) ∧ (∃ (h1 : Nat → Int) (t1 : Nat → Bool),ρ 6 = .int .i64 (d : Int) ∧ RowF wd hb m h1 ∧ RowT wd tb m t1 ∧ (∃ _u : Unit,loopF (giveF (dM t other n m) f) i (restM t other F.lo F.hi n m d) h1 t1 = R ∧ untr m t1 ≤ f ∧ ∀ d,h1 d < t.fl.length))) (m) ?_ ?_
   ·refine ⟨AllEq.refl _ _,rfl,Chg.refl _ _,?_⟩;exact ⟨h,tr,by rw [a9];rfl,hR,hT,(),hRR.choose_spec.2,by omega,hhl.choose_spec⟩
   ·rintro d r5 _ wd hd ⟨hA,rfl,xl2,⟨h1,t1,e6,hR1,hT1,hq⟩⟩;obtain ⟨G,I,K,-⟩ := hA;rw [E] at G;rw [H] at I;rw [J] at K;replace hD := hD.chg xl2 XB;clear xw;replace xg := Chg.more xg xl2 (by intro b hm;simp only [List.mem_cons,List.not_mem_nil,or_false] at hm;first | (left;omega) | (right;simp [hm];done) | (rcases hm with hm | hm <;> first | (left;omega) | (right;simp [hm])));replace y0 := Chg.cell xl2 y0 XN;replace y1 := Chg.cell xl2 y1 XN;replace y2 := Chg.cell xl2 y2 XN;replace y3 := Chg.cell xl2 y3 XN;replace y4 := Chg.cell xl2 y4 XN;replace y5 := Chg.cell xl2 y5 XN;replace y6 := Chg.cell xl2 y6 XN;replace y7 := Chg.cell xl2 y7 XN;replace x0 := Chg.cell xl2 x0 XN;replace x1 := Chg.cell xl2 x1 XN;replace x2 := Chg.cell xl2 x2 XN;replace x3 := Chg.cell xl2 x3 XN
    by_cases hdn : d < m
    ·skip;have hdl : (d : Int) < (m : Int) := by omega
     refine Wp.seq ?_;refine sRg fun K' gd hK => ?_;go_simp;apply hK;clear hK K' gd;refine Wp.keep [0,1,5,6,16] ?_;rintro r6 ⟨a,g,k,l,o,-⟩;simp [go_sem,G,I,K,e6] at a g k l o;clear G I K e6;refine cTt ?_;have z1 := hT1.c d hdn;have z2 := hR1.c d hdn;refine skN ?_;refine sBk ?_;refine Wp.seq ?_;refine Wp.cut (fun ρ ds W => AllEq [0,1,5,6] ρ r6 ∧ ds = [] ∧ (Ext wd W) ∧ (ρ 7 = .bool (okM t other F.lo F.hi n d))) ?_ ?_
     ·have xq3 := Ext.refl wd
      by_cases hdo : d < n
      ·skip;have hdo1 : (d : Int) < (n : Int) := by omega
       by_cases ho : okM t other F.lo F.hi n d = true
       ·skip;refine Wp.loneDraw (.inl rfl) mixed [([0,1,2,3],none),([4,5,6,7,8],none),([9,10,11,12,13],none),([14,15,16],some (17,false)),([18,19],none),([20,21,22,23],none),([24,25,26,27,28],none),([29,30,31,32,33],none),([34,35,36,37,38],some (39,false)),([40,41,42],none)] (by kernel_rfl) fun K' gd hK hg => ?_;have g3 : gd 3 = some 22 := hg 3;have g19 : gd 19 = some 38 := hg 19;have g23 : gd 23 = some 42 := hg 23;clear hg;simp only [pick,nth,List.map_cons,List.map_nil,Option.map_none,Option.map_some];refine Mops.absD fun D4 hD4 zD4 => ?_;replace hD := hD.ext hD4;replace xg := Chg.ext xg hD4;replace xl2 := Chg.ext xl2 hD4;replace xq3 := xq3.trans hD4;replace y0 := hD4.cell y0;replace y1 := hD4.cell y1;replace y2 := hD4.cell y2;replace x0 := hD4.cell x0;replace x1 := hD4.cell x1;replace x2 := hD4.cell x2;replace x3 := hD4.cell x3;clear hD4;apply Mops.none
        ·intro w' hE';go_simp;with_reducible rfl
        refine mNo ?_
        refine mNo ?_
        refine mAc ?_
        intro K1 hK1;go_simp;refine Wcall (.inl rfl) ((by have q := rmay_c t F (d : Int) (.agg #[.int .i64 t.n,.slice A t.cl.length c,.slice (some ⟨b4,o4,none⟩) t.fl.length c2]) _ (hD.tour.v.more hD.s.2.2) hcl;rw [hfl4.choose_spec,hnn.choose_spec,← okM_1 hdo,ho] at q;exact q)) ?_;rintro v w3 ⟨rfl,hE⟩;go_simp;refine hK1 _ _ (by assumption) ?_;clear hK1 K1;replace xg := Chg.ext xg hE;replace xl2 := Chg.ext xl2 hE;replace xq3 := xq3.trans hE;clear hE;apply Mops.none
        ·intro w' hE';go_simp;with_reducible rfl
        apply Mops.none
        ·intro w' hE';go_simp;with_reducible rfl
        apply Mops.none
        ·intro w' hE';go_simp;with_reducible rfl
        apply Mops.none
        ·intro w' hE';go_simp;with_reducible rfl
        apply Mops.act
        ·intro w' hE';go_simp;with_reducible rfl
        intro K1 hK1;go_simp;refine hK1 _ _ (Ext.refl _) ?_;clear hK1 K1;apply Mops.none
        ·intro w' hE';go_simp;with_reducible rfl
        refine Mops.done ?_;apply hK;clear hK K' gd g3 g19 g23;refine Ends.keep [0,1,5,6,7] ?_;rintro r8 ⟨aF,aO,a0,ba,be,-⟩;simp [go_sem,a,g,k,l,o] at aF aO a0 ba be;clear o;refine Ends.mk ?_;refine cutK_normal ⟨⟨by rw [aF,a],by rw [aO,g],by rw [a0,k],by rw [ba,l],trivial⟩,rfl,xq3,?_⟩;rw [ho];exact be
       ·skip;have ho2 : okM t other F.lo F.hi n d = false := by simpa using ho
        have hdo2 : ¬ (n : Int) ≤ (d : Int) := by omega
        refine Wp.loneDraw (.inl rfl) mixed [([0,1,2,3],none),([4,5,6,7,8],none),([9,10,11,12,13],none),([14,15,16],some (17,false)),([18,19],none),([20,21,22,23],none),([24,25,26,27,28],none),([29,30,31,32,33],none),([34,35,36,37,38],some (39,false)),([40,41,42],none)] (by kernel_rfl) fun K' gd hK hg => ?_;have g3 : gd 3 = some 22 := hg 3;have g19 : gd 19 = some 38 := hg 19;have g23 : gd 23 = some 42 := hg 23;clear hg;simp only [pick,nth,List.map_cons,List.map_nil,Option.map_none,Option.map_some];refine Mops.absD fun D5 hD5 zD5 => ?_;replace hD := hD.ext hD5;replace xg := Chg.ext xg hD5;replace xl2 := Chg.ext xl2 hD5;replace xq3 := xq3.trans hD5;replace y0 := hD5.cell y0;replace y1 := hD5.cell y1;replace y2 := hD5.cell y2;replace x0 := hD5.cell x0;replace x1 := hD5.cell x1;replace x2 := hD5.cell x2;replace x3 := hD5.cell x3;clear hD5;apply Mops.none
        ·intro w' hE';go_simp;with_reducible rfl
        refine mNo ?_
        refine mNo ?_
        refine mAc ?_
        intro K1 hK1;go_simp;refine Wcall (.inl rfl) ((by have q := rmay_c t F (d : Int) (.agg #[.int .i64 t.n,.slice A t.cl.length c,.slice (some ⟨b4,o4,none⟩) t.fl.length c2]) _ (hD.tour.v.more hD.s.2.2) hcl;rw [hfl4.choose_spec,hnn.choose_spec,← okM_1 hdo,ho2] at q;exact q)) ?_;rintro v w3 ⟨rfl,hE⟩;go_simp;refine hK1 _ _ (by assumption) ?_;clear hK1 K1;replace xg := Chg.ext xg hE;replace xl2 := Chg.ext xl2 hE;replace xq3 := xq3.trans hE;clear hE;apply Mops.none
        ·intro w' hE';go_simp;with_reducible rfl
        apply Mops.none
        ·intro w' hE';go_simp;with_reducible rfl
        apply Mops.none
        ·intro w' hE';go_simp;with_reducible rfl
        apply Mops.none
        ·intro w' hE';go_simp;with_reducible rfl
        apply Mops.act
        ·intro w' hE';go_simp;with_reducible rfl
        intro K1 hK1;go_simp;refine hK1 _ _ (Ext.refl _) ?_;clear hK1 K1;apply Mops.none
        ·intro w' hE';go_simp;with_reducible rfl
        refine Mops.done ?_;apply hK;clear hK K' gd g3 g19 g23;refine Ends.keep [0,1,5,6,7] ?_;rintro r10 ⟨ax,aG,aS,a1,bb,-⟩;simp [go_sem,a,g,k,l,o] at ax aG aS a1 bb;clear o;refine Ends.mk ?_;refine cutK_normal ⟨⟨by rw [ax,a],by rw [aG,g],by rw [aS,k],by rw [a1,l],trivial⟩,rfl,xq3,?_⟩;rw [ho2];exact bb
      ·skip;have hdo1 : ¬ (d : Int) < (n : Int) := by omega
       have hdo2 : (n : Int) ≤ (d : Int) := by omega
       have hdw : IntKind.i64.wrap ((d : Int) - (n : Int)) = ((d - n : Nat) : Int) := by rw [IntWalk.i64_in _ (by omega)];omega
       by_cases ho : okM t other F.lo F.hi n d = true
       ·skip;refine Wp.loneDraw (.inl rfl) mixed [([0,1,2,3],none),([4,5,6,7,8],none),([9,10,11,12,13],none),([14,15,16],some (17,false)),([18,19],none),([20,21,22,23],none),([24,25,26,27,28],none),([29,30,31,32,33],none),([34,35,36,37,38],some (39,false)),([40,41,42],none)] (by kernel_rfl) fun K' gd hK hg => ?_;have g3 : gd 3 = some 22 := hg 3;have g19 : gd 19 = some 38 := hg 19;have g23 : gd 23 = some 42 := hg 23;clear hg;simp only [pick,nth,List.map_cons,List.map_nil,Option.map_none,Option.map_some];refine Mops.absD fun D6 hD6 zD6 => ?_;replace hD := hD.ext hD6;replace xg := Chg.ext xg hD6;replace xl2 := Chg.ext xl2 hD6;replace xq3 := xq3.trans hD6;replace y3 := hD6.cell y3;replace y4 := hD6.cell y4;replace y5 := hD6.cell y5;replace x0 := hD6.cell x0;replace x1 := hD6.cell x1;replace x2 := hD6.cell x2;replace x3 := hD6.cell x3;clear hD6;apply Mops.none
        ·intro w' hE';go_simp;with_reducible rfl
        apply Mops.none
        ·intro w' hE';go_simp;with_reducible rfl
        apply Mops.none
        ·intro w' hE';go_simp;with_reducible rfl
        apply Mops.act
        ·intro w' hE';go_simp;with_reducible rfl
        intro K1 hK1;go_simp;refine hK1 _ _ (Ext.refl _) ?_;clear hK1 K1;apply Mops.none
        ·intro w' hE';go_simp;with_reducible rfl
        apply Mops.none
        ·intro w' hE';go_simp;with_reducible rfl
        refine mNo ?_
        refine mNo ?_
        refine mAc ?_
        intro K1 hK1;go_simp;refine Wcall (.inl rfl) ((by have q := rmay_c (secT t other) F ((d - n : Nat) : Int) (.agg #[.int .i64 t.n,.slice A1 other.length c1,.slice (some ⟨b4,o4,none⟩) t.fl.length c2]) _ (hD.oth.v.more hD.s.2.2) hol;rw [hfl4.choose_spec,hnn.choose_spec,← okM_2 hdo,ho] at q;exact q)) ?_;rintro v w3 ⟨rfl,hE⟩;go_simp;refine hK1 _ _ (by assumption) ?_;clear hK1 K1;replace xg := Chg.ext xg hE;replace xl2 := Chg.ext xl2 hE;replace xq3 := xq3.trans hE;clear hE;apply Mops.none
        ·intro w' hE';go_simp;with_reducible rfl
        refine Mops.done ?_;apply hK;clear hK K' gd g3 g19 g23;refine Ends.keep [0,1,5,6,7] ?_;rintro r12 ⟨ay,aH,aT,a2,bc,-⟩;simp [go_sem,a,g,k,l,o] at ay aH aT a2 bc;clear o;refine Ends.mk ?_;refine cutK_normal ⟨⟨by rw [ay,a],by rw [aH,g],by rw [aT,k],by rw [a2,l],trivial⟩,rfl,xq3,?_⟩;rw [ho];exact bc
       ·skip;have ho2 : okM t other F.lo F.hi n d = false := by simpa using ho
        refine Wp.loneDraw (.inl rfl) mixed [([0,1,2,3],none),([4,5,6,7,8],none),([9,10,11,12,13],none),([14,15,16],some (17,false)),([18,19],none),([20,21,22,23],none),([24,25,26,27,28],none),([29,30,31,32,33],none),([34,35,36,37,38],some (39,false)),([40,41,42],none)] (by kernel_rfl) fun K' gd hK hg => ?_;have g3 : gd 3 = some 22 := hg 3;have g19 : gd 19 = some 38 := hg 19;have g23 : gd 23 = some 42 := hg 23;clear hg;simp only [pick,nth,List.map_cons,List.map_nil,Option.map_none,Option.map_some];refine Mops.absD fun D7 hD7 zD7 => ?_;replace hD := hD.ext hD7;replace xg := Chg.ext xg hD7;replace xl2 := Chg.ext xl2 hD7;replace xq3 := xq3.trans hD7;replace y3 := hD7.cell y3;replace y4 := hD7.cell y4;replace y5 := hD7.cell y5;replace x0 := hD7.cell x0;replace x1 := hD7.cell x1;replace x2 := hD7.cell x2;replace x3 := hD7.cell x3;clear hD7;apply Mops.none
        ·intro w' hE';go_simp;with_reducible rfl
        apply Mops.none
        ·intro w' hE';go_simp;with_reducible rfl
        apply Mops.none
        ·intro w' hE';go_simp;with_reducible rfl
        apply Mops.act
        ·intro w' hE';go_simp;with_reducible rfl
        intro K1 hK1;go_simp;refine hK1 _ _ (Ext.refl _) ?_;clear hK1 K1;apply Mops.none
        ·intro w' hE';go_simp;with_reducible rfl
        apply Mops.none
        ·intro w' hE';go_simp;with_reducible rfl
        refine mNo ?_
        refine mNo ?_
        refine mAc ?_
        intro K1 hK1;go_simp;refine Wcall (.inl rfl) ((by have q := rmay_c (secT t other) F ((d - n : Nat) : Int) (.agg #[.int .i64 t.n,.slice A1 other.length c1,.slice (some ⟨b4,o4,none⟩) t.fl.length c2]) _ (hD.oth.v.more hD.s.2.2) hol;rw [hfl4.choose_spec,hnn.choose_spec,← okM_2 hdo,ho2] at q;exact q)) ?_;rintro v w3 ⟨rfl,hE⟩;go_simp;refine hK1 _ _ (by assumption) ?_;clear hK1 K1;replace xg := Chg.ext xg hE;replace xl2 := Chg.ext xl2 hE;replace xq3 := xq3.trans hE;clear hE;apply Mops.none
        ·intro w' hE';go_simp;with_reducible rfl
        refine Mops.done ?_;apply hK;clear hK K' gd g3 g19 g23;refine Ends.keep [0,1,5,6,7] ?_;rintro r14 ⟨az,aI,aU,a3,bd,-⟩;simp [go_sem,a,g,k,l,o] at az aI aU a3 bd;clear o;refine Ends.mk ?_;refine cutK_normal ⟨⟨by rw [az,a],by rw [aI,g],by rw [aU,k],by rw [a3,l],trivial⟩,rfl,xq3,?_⟩;rw [ho2];exact bd
     ·rintro r15 _ W3 ⟨hA,rfl,xq3,e7⟩;obtain ⟨p,u,z,C,-⟩ := hA;rw [a] at p;rw [g] at u;rw [k] at z;rw [l] at C;clear a g k l o;replace hD := hD.ext xq3;replace hR1 := hR1.ext xq3;replace hT1 := hT1.ext xq3;replace xg := Chg.ext xg xq3;replace xl2 := Chg.ext xl2 xq3;replace y6 := Ext.cell xq3 y6;replace y7 := Ext.cell xq3 y7;replace z1 := Ext.cell xq3 z1;replace z2 := Ext.cell xq3 z2;refine tNo ?_
      by_cases ho : okM t other F.lo F.hi n d = true
      ·skip;rw [ho] at e7;have hq0 : ∃ _u : Unit,loopF (giveF (dM t other n m) f) i (d :: restM t other F.lo F.hi n m (d + 1)) h1 t1 = R := ⟨(),by rw [← restM_T hdn ho];exact hq.choose_spec.1⟩
       by_cases ht : t1 d = true
       ·skip;rw [ht] at z1;refine Wp.seq ?_;refine sRh fun K' gd hK hg => ?_;have g2 : gd 2 = some 63 := hg 2;clear hg;go_simp;apply hK;clear hK K' gd g2;refine Wp.keep [0,1,5,6,71] ?_;rintro r16 ⟨M,Z,ag,am,ar,-⟩;simp [go_sem,p,u,z,C,e7] at M Z ag am ar;clear p u z C e7;refine cTt ?_;refine Wp.exit ?_;refine tEx ?_;refine blockK_here ?_;refine tNo ?_;refine lRg fun K' gd hK => ?_;go_simp;apply hK;clear hK K' gd;refine Ends.keep [0,1,5,6] ?_;rintro r17 ⟨aA,aJ,aV,a4,-⟩;simp [go_sem,M,Z,ag,am,ar] at aA aJ aV a4;clear M Z ag am ar;refine Ends.mk ?_;refine thenK_normal ⟨by omega,⟨by rw [aA,E],by rw [aJ,H],by rw [aV,J],trivial⟩,rfl,xl2,?_⟩;exact ⟨h1,t1,by rw [a4,IntWalk.i64_in _ (by omega)];rfl,hR1,hT1,(),by rw [← hq0.choose_spec,loopF,if_pos ht],hq.choose_spec.2⟩
       ·skip;have ht2 : t1 d = false := by simpa using ht
        rw [ht2] at z1;refine Wp.seq ?_;refine sRh fun K' gd hK hg => ?_;have g2 : gd 2 = some 63 := hg 2;clear hg;go_simp;apply hK;clear hK K' gd g2;refine Wp.keep [0,1,5,6,71] ?_;rintro r18 ⟨N,aa,ah,an,au,-⟩;simp [go_sem,p,u,z,C,e7] at N aa ah an au;clear p u z C e7;refine cFf ?_;have ft := hT1.fz;refine skN ?_;refine sRg fun K' gd hK => ?_;refine cu7 fun K1 hK1 => ?_;go_simp;apply hK1;clear hK1 K1;refine Wops.absS (b := tb) (i := d) [_] (hT1.some hdn) fun P1 hP1 => ?_;replace hD := hD.put hP1 (by omega);replace hR1 := hR1.put hP1 (by omega);replace xg := Put.more xg hP1 (.inr (by simp));replace xl2 := Put.more xl2 hP1 (.inr (by simp));replace y6 := hP1.cell y6 (by omega);replace z2 := hP1.cell z2 (by omega);try simp only [Wops_nil,updO_some,updO_none]
        apply hK;clear hK K' gd;refine Wp.keep [0,1,5,6] ?_;rintro r19 ⟨r,x,B,D,-⟩;simp [go_sem,N,aa,ah,an,au] at r x B D;clear N aa ah an au;have hT2 : RowT P1 tb m (markT t1 d) := hT1.mark hP1
        by_cases hneg : h1 d < 0
        ·skip;refine sRh fun K' gd hK hg => ?_;have g8 : gd 8 = some 86 := hg 8;clear hg;refine cu18 fun K1 hK1 => ?_;go_simp;apply hK1;clear hK1 K1;go_simp;apply hK;clear hK K' gd g8;refine Wp.keep [0,1,5,6,96] ?_;rintro r20 ⟨aB,aK,aW,a5,bf,-⟩;simp [go_sem,r,x,B,D] at aB aK aW a5 bf;clear r x B D;refine cTt ?_;have fh := hR1.fz;refine sRg fun K' gd hK => ?_;refine cu8 fun K1 hK1 => ?_;go_simp;apply hK1;clear hK1 K1;refine Wops.absS (b := hb) (i := d) [_] (hR1.some hdn) fun P2 hP2 => ?_;replace hT2 := hT2.put hP2 (by omega);replace xg := Put.more xg hP2 (.inr (by simp));replace xl2 := Put.more xl2 hP2 (.inr (by simp));try simp only [Wops_nil,updO_some,updO_none]
         apply hK;clear hK K' gd;refine Wp.keep [] fun r21 hkeep => ?_;clear hkeep;clear aB aK aW a5 bf;have hR2 : RowF P2 hb m (updI h1 d i) := hR1.store hP2;have hRe : ∃ _u : Unit,R = (true,updI h1 d i,markT t1 d) := ⟨(),by rw [← hq0.choose_spec,loopF,if_neg ht,if_pos hneg]⟩;refine sRg fun K' gd hK => ?_;go_simp;apply hK;clear hK K' gd;refine Wp.keep [4] ?_;rintro r22 ⟨aP,-⟩;simp [go_sem] at aP;refine Wp.ret ?_;refine bRe ?_;refine tRe ?_;refine tRe ?_;refine bRe ?_;refine tRe ?_;refine endK_tmp Tryz.results143 (by decide) ?_;rw [aP];exact ⟨by rw [hRe.choose_spec],by rw [hRe.choose_spec];exact hR2,by rw [hRe.choose_spec];exact hT2,xg⟩
        ·skip;obtain ⟨j,hj⟩ : ∃ j : Nat,∃ _u : Unit,h1 d = (j : Int) ∧ j < t.fl.length := ⟨(h1 d).toNat,(),by omega,by have := hq.choose_spec.2.2 d;omega⟩;rw [hj.choose_spec.1] at z2;have hjn : ¬ (j : Int) < 0 := by omega
         have hu2 : ∃ _u : Unit,untr m (markT t1 d) < f := ⟨(),by have := untr_mark hdn ht2;have := hq.choose_spec.2.1;omega⟩;obtain ⟨r1,hr1⟩ : ∃ r1,∃ _u : Unit,giveF (dM t other n m) f (j : Int) h1 (markT t1 d) = r1 := ⟨_,(),rfl⟩;have hstep : ∃ _u : Unit,(if r1.1 = true then (true,updI r1.2.1 d i,r1.2.2) else loopF (giveF (dM t other n m) f) i (restM t other F.lo F.hi n m (d + 1)) r1.2.1 r1.2.2) = R := ⟨(),by rw [← hq0.choose_spec,loopF,if_neg ht,if_neg hneg];dsimp only;rw [hj.choose_spec.1,hr1.choose_spec]⟩
         by_cases hb1 : r1.1 = true
         ·skip;refine sRh fun K' gd hK hg => ?_;have g8 : gd 8 = some 86 := hg 8;clear hg;refine cu18 fun K1 hK1 => ?_;go_simp;refine Wcall (.inl rfl) (IH j h1 (markT t1 d) _ hu2.choose_spec hj.choose_spec.2 hq.choose_spec.2.2 hD hR1 hT2) ?_;rintro v w5 ⟨hv,hR3,hT3,hC⟩;rw [hr1.choose_spec] at hv hR3 hT3;rw [hb1] at hv;subst hv;go_simp;apply hK1;clear hK1 K1;replace xg := Chg.more xg hC (by intro b hm;simp only [List.mem_cons,List.not_mem_nil,or_false] at hm;first | (left;omega) | (right;simp [hm];done) | (rcases hm with hm | hm <;> first | (left;omega) | (right;simp [hm])));replace xl2 := Chg.more xl2 hC (by intro b hm;simp only [List.mem_cons,List.not_mem_nil,or_false] at hm;first | (left;omega) | (right;simp [hm];done) | (rcases hm with hm | hm <;> first | (left;omega) | (right;simp [hm])));replace y6 := Chg.cell hC y6 XN;go_simp;apply hK;clear hK K' gd g8;refine Wp.keep [0,1,5,6,96] ?_;rintro r24 ⟨aC,aL,aX,a6,bg,-⟩;simp [go_sem,r,x,B,D] at aC aL aX a6 bg;clear r x B D;refine cTt ?_;have z3 := hR3.c d hdn;have fh := hR3.fz;refine sRg fun K' gd hK => ?_;refine cu8 fun K1 hK1 => ?_
          go_simp;apply hK1;clear hK1 K1;refine Wops.absS (b := hb) (i := d) [_] (hR3.some hdn) fun P2 hP2 => ?_;replace hT3 := hT3.put hP2 (by omega);replace xg := Put.more xg hP2 (.inr (by simp));replace xl2 := Put.more xl2 hP2 (.inr (by simp));try simp only [Wops_nil,updO_some,updO_none]
          apply hK;clear hK K' gd;refine Wp.keep [] fun r25 hkeep => ?_;clear hkeep;clear aC aL aX a6 bg;have hR4 : RowF P2 hb m (updI r1.2.1 d i) := hR3.store hP2;have hRe : ∃ _u : Unit,R = (true,updI r1.2.1 d i,r1.2.2) := ⟨(),by rw [← hstep.choose_spec,if_pos hb1]⟩;refine sRg fun K' gd hK => ?_;go_simp;apply hK;clear hK K' gd;refine Wp.keep [4] ?_;rintro r26 ⟨aQ,-⟩;simp [go_sem] at aQ;refine Wp.ret ?_;refine bRe ?_;refine tRe ?_;refine tRe ?_;refine bRe ?_;refine tRe ?_;refine endK_tmp Tryz.results143 (by decide) ?_;rw [aQ];exact ⟨by rw [hRe.choose_spec],by rw [hRe.choose_spec];exact hR4,by rw [hRe.choose_spec];exact hT3,xg⟩
         ·skip;refine sRh fun K' gd hK hg => ?_;have g8 : gd 8 = some 86 := hg 8;clear hg;refine cu18 fun K1 hK1 => ?_;go_simp;refine Wcall (.inl rfl) (IH j h1 (markT t1 d) _ hu2.choose_spec hj.choose_spec.2 hq.choose_spec.2.2 hD hR1 hT2) ?_;rintro v w5 ⟨hv,hR3,hT3,hC⟩;rw [hr1.choose_spec] at hv hR3 hT3;rw [show r1.1 = false by simpa using hb1] at hv;subst hv;go_simp;apply hK1;clear hK1 K1;replace xg := Chg.more xg hC (by intro b hm;simp only [List.mem_cons,List.not_mem_nil,or_false] at hm;first | (left;omega) | (right;simp [hm];done) | (rcases hm with hm | hm <;> first | (left;omega) | (right;simp [hm])));replace xl2 := Chg.more xl2 hC (by intro b hm;simp only [List.mem_cons,List.not_mem_nil,or_false] at hm;first | (left;omega) | (right;simp [hm];done) | (rcases hm with hm | hm <;> first | (left;omega) | (right;simp [hm])));go_simp;apply hK;clear hK K' gd g8;refine Wp.keep [0,1,5,6,96] ?_;rintro r28 ⟨Q,ac,ai,ao,aw,-⟩;simp [go_sem,r,x,B,D] at Q ac ai ao aw;clear r x B D;refine cFf ?_;refine Wp.skip ?_;refine bNo ?_;refine tNo ?_;refine lRg fun K' gd hK => ?_;go_simp;apply hK
          clear hK K' gd;refine Ends.keep [0,1,5,6] ?_;rintro r29 ⟨aD,aM,aY,a7,-⟩;simp [go_sem,Q,ac,ai,ao,aw] at aD aM aY a7;clear Q ac ai ao aw;refine Ends.mk ?_;refine thenK_normal ⟨by omega,⟨by rw [aD,E],by rw [aM,H],by rw [aY,J],trivial⟩,rfl,xl2,?_⟩;exact ⟨r1.2.1,r1.2.2,by rw [a7,IntWalk.i64_in _ (by omega)];rfl,hR3,hT3,(),by rw [← hstep.choose_spec,if_neg hb1],by have g1 := hu2.choose_spec;have g2 := untr_le (n := m) (t := markT t1 d) (t2 := r1.2.2) (fun e he => by rw [← hr1.choose_spec];exact giveF_mono f j h1 _ e he);omega,by rw [← hr1.choose_spec];exact giveF_vals (P := fun y => y < (t.fl.length : Int)) f j h1 _ (by have := hj.choose_spec.2;omega) hq.choose_spec.2.2⟩
      ·skip;have ho2 : okM t other F.lo F.hi n d = false := by simpa using ho
       rw [ho2] at e7;refine Wp.seq ?_;refine sRh fun K' gd hK hg => ?_;have g2 : gd 2 = some 63 := hg 2;clear hg;go_simp;apply hK;clear hK K' gd g2;refine Wp.keep [0,1,5,6,71] ?_;rintro r30 ⟨U,ae,ak,ap,av,-⟩;simp [go_sem,p,u,z,C,e7] at U ae ak ap av;clear p u z C e7;refine cTt ?_;refine Wp.exit ?_;refine tEx ?_;refine blockK_here ?_;refine tNo ?_;refine lRg fun K' gd hK => ?_;go_simp;apply hK;clear hK K' gd;refine Ends.keep [0,1,5,6] ?_;rintro r31 ⟨aE,aN,aZ,a8,-⟩;simp [go_sem,U,ae,ak,ap,av] at aE aN aZ a8;clear U ae ak ap av;refine Ends.mk ?_;refine thenK_normal ⟨by omega,⟨by rw [aE,E],by rw [aN,H],by rw [aZ,J],trivial⟩,rfl,xl2,?_⟩;exact ⟨h1,t1,by rw [a8,IntWalk.i64_in _ (by omega)];rfl,hR1,hT1,(),by rw [← restM_F hdn ho2];exact hq.choose_spec.1,hq.choose_spec.2⟩
    ·skip;obtain rfl : d = m := by omega
     have hdl : ¬ (d : Int) < (d : Int) := by omega
     have hRe : ∃ _u : Unit,R = (false,h1,t1) := ⟨(),by have := hq.choose_spec.1;rw [restM_end] at this;exact this.symm⟩;refine Wp.seq ?_;refine sRg fun K' gd hK => ?_;go_simp;apply hK;clear hK K' gd;refine Wp.keep [0,1,5,6,16] ?_;rintro r32 ⟨V,af,al,aq,X,-⟩;simp [go_sem,G,I,K,e6] at V af al aq X;clear G I K e6;refine cFf ?_;refine Wp.exit ?_;refine tEx ?_;refine tEx ?_;refine blockK_here ?_;refine tNo ?_;refine sRg fun K' gd hK => ?_;go_simp;apply hK;clear hK K' gd;refine Wp.keep [4] ?_;rintro r33 ⟨aR,-⟩;simp [go_sem,V,af,al,aq,X] at aR;clear V af al aq X;refine Wp.ret ?_;refine endK_tmp Tryz.results143 (by decide) ?_;rw [aR];exact ⟨by rw [hRe.choose_spec],by rw [hRe.choose_spec];exact hR1,by rw [hRe.choose_spec];exact hT1,xg⟩
theorem bools_T : ElemT Tryz.prog 180 4 1 := elemT_of (by kernel_rfl)
@[go_sem] theorem makeB (n : Nat) (hn : n ≤ 1000000000) (w : World) : (Instr.makeSlice 180 (.int .i64 (n : Int)) (.int .i64 (n : Int))).run Tryz.prog w = .ok (.slice (some ⟨w.heap.size,0,none⟩) n n) (w.alloc (.cells (List.replicate n (.bool false)).toArray 4)) :=
 make_one bools_T (by kernel_rfl) rfl n hn w
theorem rowT_of {W : World} {b n : Nat} {cs : List Value} (a : RowX W b cs) (hcs : cs = List.replicate n (.bool false)) : RowT W b n (fun _ => false) := by
 obtain ⟨t,h⟩ := a.ex;subst hcs;exact ⟨fun d hd => by rw [h.cell,List.getElem?_replicate,if_pos hd],fun j => h.frozen j,h.lt⟩
theorem rowF_of {W : World} {b n : Nat} {cs : List Value} (a : RowX W b cs) (hcs : cs = List.replicate n (.int .i64 0)) : RowF W b n (fun _ => 0) := by
 obtain ⟨t,h⟩ := a.ex;subst hcs;exact ⟨fun d hd => by rw [h.cell,List.getElem?_replicate,if_pos hd],fun j => h.frozen j,h.lt⟩
theorem IntsB.at {w : World} {base b o l c : Nat} {xs : List Int} (h : IntsB w base (.slice (some ⟨b,o,none⟩) l c) xs) : b < w.heap.size ∧ xs.length ≤ c ∨ xs = [] := by
 obtain ⟨A,c2,e,h1,h2⟩ := h
 injection e with e1 e2 e3
 subst e3
 by_cases hn : xs = []
 ·exact .inr hn
 ·obtain ⟨b2,o2,e4,-,h4,-⟩ := h1 hn;rw [← e1] at e4;injection e4 with e4;injection e4 with e5;subst e5;exact .inl ⟨h4,h2⟩
theorem IntsB.cells {w : World} {base b o l c : Nat} {xs : List Int} (h : IntsB w base (.slice (some ⟨b,o,none⟩) l c) xs) : ∀ k,k < xs.length → w.cell? ⟨b,o + k,none⟩ = some (.int .i64 (gI xs k)) := by
 intro k hk;obtain ⟨A,c2,e,h1,h2⟩ := h
 injection e with e1 e2 e3
 obtain ⟨b2,o2,e4,-,h4,h5⟩ := h1 (by rintro rfl;exact absurd hk (Nat.not_lt_zero _));rw [← e1] at e4;injection e4 with e4;injection e4 with e5 e6;subst e5 e6;rw [h5 k hk,gI_lt hk]
theorem IntsS.cells {w : World} {S b o l c : Nat} {xs : List Int} (h : IntsS w S (.slice (some ⟨b,o,none⟩) l c) xs) : ∀ k,k < xs.length → w.cell? ⟨b,o + k,none⟩ = some (.int .i64 (gI xs k)) := by
 intro k hk;obtain ⟨b2,o2,c2,ev,_,hcc⟩ := h.v.get (by omega : 0 < xs.length)
 injection ev with e1 _ _
 injection e1 with e1
 injection e1 with e1 e2
 subst e1 e2;exact hcc k hk
theorem IntsB.open {w : World} {base : Nat} {v : Value} {xs : List Int} (h : IntsB w base v xs) (hn : 0 < xs.length) : ∃ b o c,v = .slice (some ⟨b,o,none⟩) xs.length c ∧ xs.length ≤ c ∧ b < w.heap.size := by
 obtain ⟨A,c,e,h1,h2⟩ := h;obtain ⟨b,o,rfl,-,h4,-⟩ := h1 (by rintro rfl;exact absurd hn (Nat.not_lt_zero _));exact ⟨b,o,c,e,h2,h4⟩
structure SearchD (W : World) (S sb hb n : Nat) (A : Option Addr) (c : Nat) (A2 : Option Addr) (c2 : Nat) (t : Tr) : Prop where
 k0 : W.cell? ⟨sb,0,none⟩ = some (.int .i64 t.n)
 k1 : W.cell? ⟨sb,1,none⟩ = some (.slice A t.cl.length c)
 k2 : W.cell? ⟨sb,2,none⟩ = some (.slice A2 t.fl.length c2)
 k3 : W.cell? ⟨sb,3,none⟩ = some (.slice (some ⟨hb,0,none⟩) n n)
 k4 : ∃ x,W.cell? ⟨sb,4,none⟩ = some x
 fz : ∀ j,W.frozen? ⟨sb,j,none⟩ = false
 s : S ≤ hb ∧ S ≤ sb ∧ S ≤ W.heap.size
 ne : sb ≠ hb
section
variable {W V : World} {S sb hb n : Nat} {A : Option Addr} {c : Nat} {A2 : Option Addr} {c2 : Nat} {t : Tr}
theorem SearchD.chg {L : List Nat} (h : SearchD W S sb hb n A c A2 c2 t) (hC : Chg L W V) (hL : sb ∉ L) : SearchD V S sb hb n A c A2 c2 t := by
 obtain ⟨x,hx⟩ := h.k4;exact ⟨Chg.cell hC h.k0 hL,Chg.cell hC h.k1 hL,Chg.cell hC h.k2 hL,Chg.cell hC h.k3 hL,⟨x,Chg.cell hC hx hL⟩,fun j => by rw [← h.fz j];simp only [World.frozen?,hC.block sb (cell_lt h.k0) hL],⟨h.s.1,h.s.2.1,Nat.le_trans h.s.2.2 hC.size⟩,h.ne⟩
theorem SearchD.ext (h : SearchD W S sb hb n A c A2 c2 t) (hE : Ext W V) : SearchD V S sb hb n A c A2 c2 t := h.chg ((Chg.refl [] W).ext hE) (by simp)
theorem SearchD.put {k i : Nat} {vs : List Value} (h : SearchD W S sb hb n A c A2 c2 t) (p : Put W V k i vs) (hk : sb ≠ k) : SearchD V S sb hb n A c A2 c2 t := h.chg p.chg (by simpa using hk)
end
theorem SearchD.tried {W V : World} {S sb hb n : Nat} {A : Option Addr} {c : Nat} {A2 : Option Addr} {c2 : Nat} {t : Tr} {x : Value} (h : SearchD W S sb hb n A c A2 c2 t) (p : Put W V sb 4 [x]) : SearchD V S sb hb n A c A2 c2 t :=
 ⟨by rw [p.old 0 (by simp)];exact h.k0,by rw [p.old 1 (by simp)];exact h.k1,by rw [p.old 2 (by simp)];exact h.k2,by rw [p.old 3 (by simp)];exact h.k3,⟨x,p.new 0 _ rfl⟩,fun j => (p.fz _).trans (h.fz j),⟨h.s.1,h.s.2.1,Nat.le_trans h.s.2.2 p.same.2⟩,h.ne⟩
structure DuoS (W : World) (S sb hb m : Nat) (A : Option Addr) (c : Nat) (A2 : Option Addr) (c2 : Nat) (A1 : Option Addr) (c1 : Nat) (t : Tr) (other : List Int) : Prop where
 k0 : W.cell? ⟨sb,0,none⟩ = some (.int .i64 t.n)
 k1 : W.cell? ⟨sb,1,none⟩ = some (.slice A t.cl.length c)
 k2 : W.cell? ⟨sb,2,none⟩ = some (.slice A2 t.fl.length c2)
 k3 : W.cell? ⟨sb,3,none⟩ = some (.int .i64 t.n)
 k4 : W.cell? ⟨sb,4,none⟩ = some (.slice A1 other.length c1)
 k5 : W.cell? ⟨sb,5,none⟩ = some (.slice A2 t.fl.length c2)
 k6 : W.cell? ⟨sb,6,none⟩ = some (.slice (some ⟨hb,0,none⟩) m m)
 k7 : ∃ x,W.cell? ⟨sb,7,none⟩ = some x
 fz : ∀ j,W.frozen? ⟨sb,j,none⟩ = false
 s : S ≤ hb ∧ S ≤ sb ∧ S ≤ W.heap.size
 ne : sb ≠ hb
section
variable {W V : World} {S sb hb tb m : Nat} {A : Option Addr} {c : Nat} {A2 : Option Addr} {c2 : Nat} {A1 : Option Addr} {c1 : Nat} {t : Tr} {other : List Int}
theorem DuoS.chg {L : List Nat} (h : DuoS W S sb hb m A c A2 c2 A1 c1 t other) (hC : Chg L W V) (hL : sb ∉ L) : DuoS V S sb hb m A c A2 c2 A1 c1 t other := by
 obtain ⟨x,hx⟩ := h.k7;exact ⟨Chg.cell hC h.k0 hL,Chg.cell hC h.k1 hL,Chg.cell hC h.k2 hL,Chg.cell hC h.k3 hL,Chg.cell hC h.k4 hL,Chg.cell hC h.k5 hL,Chg.cell hC h.k6 hL,⟨x,Chg.cell hC hx hL⟩,fun j => by rw [← h.fz j];simp only [World.frozen?,hC.block sb (cell_lt h.k0) hL],⟨h.s.1,h.s.2.1,Nat.le_trans h.s.2.2 hC.size⟩,h.ne⟩
theorem DuoS.ext (h : DuoS W S sb hb m A c A2 c2 A1 c1 t other) (hE : Ext W V) : DuoS V S sb hb m A c A2 c2 A1 c1 t other := h.chg ((Chg.refl [] W).ext hE) (by simp)
theorem DuoS.put {k i : Nat} {vs : List Value} (h : DuoS W S sb hb m A c A2 c2 A1 c1 t other) (p : Put W V k i vs) (hk : sb ≠ k) : DuoS V S sb hb m A c A2 c2 A1 c1 t other := h.chg p.chg (by simpa using hk)
theorem DuoS.tried {x : Value} (h : DuoS W S sb hb m A c A2 c2 A1 c1 t other) (p : Put W V sb 7 [x]) : DuoS V S sb hb m A c A2 c2 A1 c1 t other :=
 ⟨by rw [p.old 0 (by simp)];exact h.k0,by rw [p.old 1 (by simp)];exact h.k1,by rw [p.old 2 (by simp)];exact h.k2,by rw [p.old 3 (by simp)];exact h.k3,by rw [p.old 4 (by simp)];exact h.k4,by rw [p.old 5 (by simp)];exact h.k5,by rw [p.old 6 (by simp)];exact h.k6,⟨x,p.new 0 _ rfl⟩,fun j => (p.fz _).trans (h.fz j),⟨h.s.1,h.s.2.1,Nat.le_trans h.s.2.2 p.same.2⟩,h.ne⟩
theorem DuoS.duoD (h : DuoS W S sb hb m A c A2 c2 A1 c1 t other) (hT : TourS W S (.agg #[.int .i64 t.n,.slice A t.cl.length c,.slice A2 t.fl.length c2]) t) (hU : TourS W S (.agg #[.int .i64 t.n,.slice A1 other.length c1,.slice A2 t.fl.length c2]) (secT t other))
  (y : W.cell? ⟨sb,7,none⟩ = some (.slice (some ⟨tb,0,none⟩) m m)) (hs : S ≤ tb) (h1 : sb ≠ tb) (h2 : hb ≠ tb) : DuoD W S sb hb tb m A c A2 c2 A1 c1 t other :=
 ⟨h.k0,h.k1,h.k2,h.k3,h.k4,h.k5,h.k6,y,hT,hU,⟨h.s.1,hs,h.s.2.2⟩,⟨h.ne,h1,h2⟩⟩
end
def SelP (t : Tr) (Z : List Int) (i : Nat) (a : Int) : Prop :=
 (a = -1 ∧ ∀ j : Nat,j < i → (j : Int) ∈ Z) ∨ ∃ q : Nat,a = (q : Int) ∧ q < i ∧ (q : Int) ∉ Z ∧ ∀ j : Nat,j < i → (j : Int) ∉ Z → mAt t.fl (j : Int) ≤ mAt t.fl (q : Int)
theorem SelP.zero {t : Tr} {Z : List Int} : SelP t Z 0 (-1) := .inl ⟨rfl,fun _ h => absurd h (Nat.not_lt_zero _)⟩
theorem SelP.had {t : Tr} {Z : List Int} {i : Nat} {a : Int} (h : SelP t Z i a) (hi : (i : Int) ∈ Z) : SelP t Z (i + 1) a := by
 rcases h with ⟨e,h⟩ | ⟨q,e,h1,h2,h3⟩
 ·exact .inl ⟨e,fun j hj => by by_cases c : j = i;(subst c;exact hi);exact h j (by omega)⟩
 ·exact .inr ⟨q,e,by omega,h2,fun j hj hn => by by_cases c : j = i;(subst c;exact absurd hi hn);exact h3 j (by omega) hn⟩
theorem SelP.first {t : Tr} {Z : List Int} {i : Nat} (h : SelP t Z i (-1)) (hi : (i : Int) ∉ Z) : SelP t Z (i + 1) (i : Int) := by
 rcases h with ⟨-,h⟩ | ⟨q,e,-⟩
 ·exact .inr ⟨i,rfl,by omega,hi,fun j hj hn => by by_cases c : j = i;(subst c;exact Int.le_refl _);exact absurd (h j (by omega)) hn⟩
 ·omega
theorem SelP.more {t : Tr} {Z : List Int} {i q : Nat} (h : SelP t Z i (q : Int)) (hi : (i : Int) ∉ Z) (hm : mAt t.fl (q : Int) < mAt t.fl (i : Int)) : SelP t Z (i + 1) (i : Int) := by
 rcases h with ⟨e,-⟩ | ⟨q',e,h1,h2,h3⟩
 ·omega
 ·obtain rfl : q = q' := by omega
  exact .inr ⟨i,rfl,by omega,hi,fun j hj hn => by by_cases c : j = i;(subst c;exact Int.le_refl _);have := h3 j (by omega) hn;omega⟩
theorem SelP.keep {t : Tr} {Z : List Int} {i q : Nat} (h : SelP t Z i (q : Int)) (hm : ¬ mAt t.fl (q : Int) < mAt t.fl (i : Int)) : SelP t Z (i + 1) (q : Int) := by
 rcases h with ⟨e,-⟩ | ⟨q',e,h1,h2,h3⟩
 ·omega
 ·obtain rfl : q = q' := by omega
  exact .inr ⟨q,rfl,by omega,h2,fun j hj hn => by by_cases c : j = i;(subst c;omega);exact h3 j (by omega) hn⟩
theorem SelP.end' {t : Tr} {Z : List Int} {a : Int} (h : SelP t Z t.fl.length a) (ho : OrdP t Z) (hl : Z.length < t.fl.length) : ∃ q : Nat,a = (q : Int) ∧ q < t.fl.length ∧ (q : Int) ∉ Z ∧ OrdP t (Z ++ [(q : Int)]) := by
 rcases h with ⟨-,h⟩ | ⟨q,e,h1,h2,h3⟩
 ·obtain ⟨i,hi,hn⟩ := ho.more hl;exact absurd (h i hi) hn
 ·exact ⟨q,e,h1,h2,ho.snoc h1 h2 h3⟩
def hadZ (Z : List Int) : Nat → Bool := fun i => decide ((i : Int) ∈ Z)
theorem hadZ_nil : hadZ [] = fun _ => false := by funext i;simp [hadZ]
theorem hadZ_mark {Z : List Int} {q : Nat} : markT (hadZ Z) q = hadZ (Z ++ [(q : Int)]) := by
 funext i
 unfold markT hadZ
 by_cases e : i = q
 ·subst e;rw [if_pos rfl];exact (decide_eq_true (List.mem_append.2 (.inr List.mem_cons_self))).symm
 ·rw [if_neg e];refine decide_eq_decide.2 ⟨fun h => List.mem_append.2 (.inl h),fun h => (List.mem_append.1 h).elim id fun h => ?_⟩;rw [List.mem_singleton] at h;omega
theorem BothMerit_c (t : Tr) (other : List Int) (v ov : Value) (w : World) (hV : TourV w w.heap.size v t) (hO : IntsV w w.heap.size ov other) (hf : FitT t) (hl : other.length ≤ 1000000) (hl2 : checkT t = 0 → t.fl.length ≤ 12) :
  CallsV Tryz.prog 69 #[v,ov] w fun v' w' => v' = .tuple #[.int .i64 (if secE t other = 0 then meritB t other else 0),.int .i64 (secE t other)] ∧ Ext w w' := by
 obtain ⟨A,c,A2,c2,rfl,hI,hF⟩ := hV.open';obtain ⟨A1,c1,rfl,-,-⟩ := id hO;have hU : TourV w w.heap.size (.agg #[.int .i64 t.n,.slice A1 other.length c1,.slice A2 t.fl.length c2]) (secT t other) := ⟨_,_,rfl,hO,hF⟩;have hFS : FlawsS w w.heap.size (.slice A2 t.fl.length c2) t.fl := ⟨hF⟩;have hTS : TourS w w.heap.size (.agg #[.int .i64 t.n,.slice A t.cl.length c,.slice A2 t.fl.length c2]) t := ⟨hV⟩;have hUS : TourS w w.heap.size (.agg #[.int .i64 t.n,.slice A1 other.length c1,.slice A2 t.fl.length c2]) (secT t other) := ⟨hU⟩;have hOS : IntsS w w.heap.size (.slice A1 other.length c1) other := ⟨hO⟩;obtain ⟨e,he⟩ : ∃ e : Int,∃ _u : Unit,checkT t = e := ⟨_,(),rfl⟩;obtain ⟨se,hse⟩ : ∃ e : Int,∃ _u : Unit,secE t other = e := ⟨_,(),rfl⟩;have hsv : ∃ _u : Unit,se = if e = 0 then (if ClOk t.n other then 0 else 1) else e := ⟨(),by rw [← hse.choose_spec,secE_val,he.choose_spec]⟩;rw [hse.choose_spec];clear hV hI hF hO hU;refine Wp.fn Tryz.func69 rfl Tryz.ntmps69 (by simp) ?_;have xw := Ext.refl w;refine Wp.keep [0,1] ?_;rintro r1 ⟨aF,bK,-⟩;simp [go_sem] at aF bK;refine sRg fun K' gd hK => ?_;refine cu1 fun K1 hK1 => ?_;go_simp;apply hK1;clear hK1 K1;refine Wops.absA fun eb n2 L => ?_;obtain ⟨q2,L,s2,ap,f2,r2⟩ := L;try simp only [q2] at ap f2 r2 ⊢
 replace hFS := hFS.ext L;replace hTS := hTS.ext L;replace hUS := hUS.ext L;replace hOS := hOS.ext L;replace xw := xw.trans L;have g := ap 0 _ rfl;have s := ap 1 _ rfl;have f := ap 2 _ rfl;clear ap L;clear r2;go_simp;apply hK;clear hK K' gd;refine Wp.keep [1,2] ?_;rintro r2 ⟨bL,b8,-⟩;simp [go_sem,aF,bK] at bL b8;clear aF bK;refine sRg fun K' gd hK => ?_;refine cu2 fun K1 hK1 => ?_;go_simp;refine Wcall (.inl rfl) (rcheck_c t _ _ (hTS.v.more (Below.size (XE))) hf) ?_;rintro v w2 ⟨hv,hE⟩;rw [he.choose_spec] at hv;subst hv;go_simp;apply hK1;clear hK1 K1;have z3 := Below.size hE;replace hFS := hFS.ext hE;replace hTS := hTS.ext hE;replace hUS := hUS.ext hE;replace hOS := hOS.ext hE;replace xw := xw.trans hE;replace g := hE.cell g;replace s := hE.cell s;replace f := hE.cell f;clear hE;go_simp;apply hK;clear hK K' gd;refine Wp.keep [1,2,6] ?_;rintro r4 ⟨O,P,Q,-⟩;simp [go_sem,bL,b8] at O P Q;clear bL b8
 by_cases h0 : e = 0
 ·skip;have hg := checkT_zero.1 (he.choose_spec.trans h0);have hl12 := hl2 (he.choose_spec.trans h0);have hP : PlanT t t.n.toNat := hg.plan hl12;obtain ⟨n,hn⟩ : ∃ n : Nat,∃ _u : Unit,t.n = (n : Int) ∧ 1 ≤ n ∧ n ≤ 60 ∧ t.n.toNat = n := ⟨t.n.toNat,(),by have := hg.n;omega,hP.n1,hP.n2,rfl⟩;obtain ⟨hn1,hn2⟩ : 1 ≤ n ∧ n ≤ 60 := ⟨hn.choose_spec.2.1,hn.choose_spec.2.2.1⟩;have hgn : 1 ≤ t.n ∧ t.n ≤ 60 := hg.n;have hT : OptT t n := (by have q := hP.opt;rw [hn.choose_spec.2.2.2] at q;exact q);have hmr := hP.mr;have hcl := hP.cl;clear hg hP
  by_cases hc : ClOk t.n other
  ·skip;have hs0 : ∃ _u : Unit,se = 0 := ⟨(),by rw [hsv.choose_spec,if_pos h0,if_pos hc]⟩;refine Wp.seq ?_;refine sRh fun K' gd hK hg => ?_;have g2 : gd 2 = some 19 := hg 2;clear hg;refine cu6 fun K1 hK1 => ?_;go_simp;refine Wcall (.inl rfl) (rising_c t other _ _ _ (hTS.v.more (Below.size (XE))) (hOS.v.more (Below.size (XE))) hgn hl) ?_;rintro v w3 ⟨hv,hE⟩;rw [decide_eq_true hc] at hv;subst hv;go_simp;apply hK1;clear hK1 K1;have z5 := Below.size hE;replace hFS := hFS.ext hE;replace hTS := hTS.ext hE;replace hUS := hUS.ext hE;replace xw := xw.trans hE;replace g := hE.cell g;replace s := hE.cell s;replace f := hE.cell f;clear hE;go_simp;apply hK;clear hK K' gd g2;refine Wp.keep [1,2,6,24] ?_;rintro r6 ⟨bR,ct,cH,bW,-⟩;simp [go_sem,O,P,Q] at bR ct cH bW;clear O P Q;refine cFf ?_;refine skN ?_;refine Wp.seq ?_;refine sRg fun K' gd hK => ?_;go_simp;apply hK;clear hK K' gd;refine Wp.keep [1,2,6,26] ?_;rintro r7 ⟨bS,cu,cI,bZ,-⟩;simp [go_sem,bR,ct,cH,bW] at bS cu cI bZ;clear bR ct cH bW;refine cFf ?_
   obtain ⟨m,hm⟩ : ∃ m : Nat,∃ _u : Unit,m = 2 * n := ⟨_,(),rfl⟩;have hm120 : m ≤ 120 := by have := hm.choose_spec;omega
   have hwm : IntKind.i64.wrap (2 * t.n) = (m : Int) := (by have := hm.choose_spec;have := hn.choose_spec.1;rw [IntWalk.i64_in _ (by omega)];omega);have hm9 : m ≤ 1000000000 := by omega
   have hf9 : t.fl.length ≤ 1000000000 := by omega
   refine skN ?_;refine sRg fun K' gd hK => ?_;refine cu3 fun K1 hK1 => ?_;go_simp;apply hK1;clear hK1 K1;refine Wops.absA fun ed n7 y => ?_;obtain ⟨q7,y,s7,aq,f7,r7⟩ := y;try simp only [q7] at aq f7 r7 ⊢
   replace hFS := hFS.ext y;replace hTS := hTS.ext y;replace hUS := hUS.ext y;replace xw := xw.trans y;replace g := y.cell g;replace s := y.cell s;replace f := y.cell f;have au := aq 0 _ rfl;have M := aq 1 _ rfl;have l := aq 2 _ rfl;clear aq y;clear r7;try simp only [Wops_nil,updO_some,updO_none]
   apply hK;clear hK K' gd;refine Wp.keep [1,2,7] ?_;rintro r8 ⟨bT,cv,cJ,-⟩;simp [go_sem,bS,cu,cI,bZ] at bT cv cJ;clear bS cu cI bZ;refine sRg fun K' gd hK => ?_;refine cu3 fun K1 hK1 => ?_;go_simp;apply hK1;clear hK1 K1;refine Wops.absS (b := n7) (i := 1) [_] (somes [cellVal M] (by simp) (by intro j v hj;match j,hj with | 0,hj => (simp at hj;subst hj;exact M))) fun P3 hP3 => ?_;have zP3 := hP3.same;replace hFS := hFS.put hP3 (by omega);replace hTS := hTS.put hP3 (by omega);replace hUS := hUS.put hP3 (by omega);replace xw := Put.to xw hP3 (by omega);replace g := hP3.cell g (by omega);replace s := hP3.cell s (by omega);replace f := hP3.cell f (by omega);replace au := Put.cellOff hP3 au (by simp);clear M;replace l := Put.cellOff hP3 l (by simp);have M := hP3.new 0 _ rfl;try simp only [Nat.reduceAdd,Nat.zero_add,Nat.add_zero] at M
   clear hP3;try simp only [Wops_nil,updO_some,updO_none]
   apply hK;clear hK K' gd;refine Wp.keep [2,7] ?_;rintro r9 ⟨cw,cK,-⟩;simp [go_sem,bT,cv,cJ] at cw cK;clear bT cv cJ;obtain ⟨S,hS1,hS2⟩ : ∃ S,S ≤ P3.heap.size ∧ P3.heap.size ≤ S := ⟨_,Nat.le_refl _,Nat.le_refl _⟩;have hsz : w.heap.size ≤ S := Nat.le_trans (Below.size (XE)) hS2;have hTS2 : TourS P3 S (.agg #[.int .i64 t.n,.slice A t.cl.length c,.slice A2 t.fl.length c2]) t := ⟨hTS.v.more hsz⟩;have hUS2 : TourS P3 S (.agg #[.int .i64 t.n,.slice A1 other.length c1,.slice A2 t.fl.length c2]) (secT t other) := ⟨hUS.v.more hsz⟩;have hFS2 : FlawsS P3 S (.slice A2 t.fl.length c2) t.fl := ⟨hFS.v.more hsz⟩;refine Wp.seqDraw (.inl rfl) mixed [([0,1,2,3,4],some (5,false)),([6],some (7,false)),([8],none)] (by kernel_rfl) fun K' gd hK hg => ?_;clear hg;simp only [pick,nth,List.map_cons,List.map_nil,Option.map_none,Option.map_some];refine Mops.absD fun D4 hD4 zD4 => ?_;replace hTS2 := hTS2.ext hD4;replace hUS2 := hUS2.ext hD4;replace hFS2 := hFS2.ext hD4;replace xw := xw.trans hD4;replace g := hD4.cell g;replace s := hD4.cell s;replace f := hD4.cell f;replace au := hD4.cell au;replace l := hD4.cell l;replace M := hD4.cell M;clear hD4;refine mAc ?_
   intro K1 hK1;go_simp;refine hK1 _ _ (XA) ?_;clear hK1 K1;refine Mops.absA fun ec n36 x => ?_;obtain ⟨q36,x,s36,k36,f36,r36⟩ := x;try simp only [q36] at k36 f36 r36 ⊢
   replace hTS2 := hTS2.ext x;replace hUS2 := hUS2.ext x;replace hFS2 := hFS2.ext x;replace xw := xw.trans x;replace g := x.cell g;replace f := x.cell f;replace l := x.cell l;clear x;have rx36 := RowX.mk2 r36;apply Mops.act
   ·intro w' hE';go_simp;with_reducible rfl
   intro K1 hK1;go_simp;refine hK1 _ _ (XA) ?_;clear hK1 K1;refine Mops.absA fun df n38 r => ?_;obtain ⟨q38,r,s38,z,f38,r38⟩ := r;try simp only [q38] at z f38 r38 ⊢
   replace hTS2 := hTS2.ext r;replace hUS2 := hUS2.ext r;replace hFS2 := hFS2.ext r;replace rx36 := rx36.ext r;replace xw := xw.trans r;replace g := r.cell g;replace f := r.cell f;replace l := r.cell l;have ar := z 0 _ rfl;have ay := z 1 _ rfl;have az := z 2 _ rfl;have aA := z 3 _ rfl;have aB := z 4 _ rfl;have aC := z 5 _ rfl;have aD := z 6 _ rfl;have aE := z 7 _ rfl;clear z r;clear r38;apply Mops.none
   ·intro w' hE';go_simp;with_reducible rfl
   refine Mops.done ?_;apply hK;clear hK K' gd;refine Wp.keep [2,8] ?_;rintro r10 ⟨b0,cL,-⟩;simp [go_sem,cw,cK] at b0 cL;clear cw cK;refine Wp.seq ?_;have hR0 : RowF df n36 m (fun _ => 0) := rowF_of rx36 (by simp);refine sRg fun K' gd hK => ?_;go_simp;apply hK;clear hK K' gd;refine Wp.keep [2,8,9] ?_;rintro r11 ⟨b1,cM,d8,-⟩;simp [go_sem,b0,cL] at b1 cM d8;clear b0 cL;refine Wp.block ?_;refine Wp.loop (fun d ρ ds wd => AllEq [2,8] ρ r11 ∧ ds = [] ∧ (Chg [n36] df wd) ∧ (ρ 9 = .int .i64 (d : Int) ∧ RowF wd n36 m (fun j => if j < d then -1 else 0))) (m) ?_ ?_
   ·refine ⟨AllEq.refl _ _,rfl,Chg.refl _ _,?_⟩;exact ⟨by rw [d8];rfl,hR0.congr fun d _ => by simp⟩
   ·rintro d r12 _ wd hd ⟨hA,rfl,xl7,⟨e9,hR⟩⟩;obtain ⟨ah,al,-⟩ := hA;rw [b1] at ah;rw [cM] at al;have zxl7 := Chg.size xl7;replace f38 := Chg.fz xl7 ar f38 XN;replace hTS2 := hTS2.chg xl7 XB;replace hUS2 := hUS2.chg xl7 XB;replace hFS2 := hFS2.chg xl7 XB;replace xw := Chg.to xw xl7 XL;replace g := Chg.cell xl7 g XN;replace f := Chg.cell xl7 f XN;replace l := Chg.cell xl7 l XN;replace ar := Chg.cell xl7 ar XN;replace ay := Chg.cell xl7 ay XN;replace az := Chg.cell xl7 az XN;replace aA := Chg.cell xl7 aA XN;replace aB := Chg.cell xl7 aB XN;replace aC := Chg.cell xl7 aC XN;replace aD := Chg.cell xl7 aD XN;replace aE := Chg.cell xl7 aE XN
    by_cases hdn : d < m
    ·skip;have hdl : (d : Int) < (m : Int) := by omega
     have z1 := hR.c d hdn;have fh := hR.fz;refine Wp.seq ?_;refine sRg fun K' gd hK => ?_;go_simp;apply hK;clear hK K' gd;refine Wp.keep [2,8,9,45] ?_;rintro r13 ⟨b3,cN,dc,cx,-⟩;simp [go_sem,ah,al,e9] at b3 cN dc cx;clear ah al e9;refine cTt ?_;refine skN ?_;refine sBk ?_;refine lRg fun K' gd hK => ?_;refine cu7 fun K1 hK1 => ?_;go_simp;apply hK1;clear hK1 K1;refine Wops.absS (b := n36) (i := d) [_] (hR.some hdn) fun P1 hP1 => ?_;replace xw := Put.to xw hP1 (by omega);replace xl7 := Put.more xl7 hP1 (.inr (by simp));try simp only [Wops_nil,updO_some,updO_none]
     apply hK;clear hK K' gd;refine Ends.keep [2,8,9] ?_;rintro r14 ⟨b4,cO,dd,-⟩;simp [go_sem,b3,cN,dc,cx] at b4 cO dd;clear b3 cN dc cx;refine Ends.mk ?_;refine bNo ?_;refine tNo ?_;have hR2 : RowF P1 n36 m (fun j => if j < d + 1 then -1 else 0) := (hR.store hP1).congr fun j _ => by unfold updF;split;(rename_i q;rw [if_pos (by omega)]);(rename_i q;by_cases e : j < d;(show (if j < d then (-1 : Int) else 0) = _;rw [if_pos e,if_pos (by omega)]);show (if j < d then (-1 : Int) else 0) = _;rw [if_neg e,if_neg (by omega)])
     refine lRg fun K' gd hK => ?_;go_simp;apply hK;clear hK K' gd;refine Ends.keep [2,8,9] ?_;rintro r15 ⟨dO,d1,d9,-⟩;simp [go_sem,b4,cO,dd] at dO d1 d9;clear b4 cO dd;refine Ends.mk ?_;refine thenK_normal ⟨by omega,⟨by rw [dO,b1],by rw [d1,cM],trivial⟩,rfl,xl7,?_⟩;exact ⟨by rw [d9,IntWalk.i64_in _ (by omega)];rfl,hR2⟩
    ·skip;have hdl : ¬ (d : Int) < (m : Int) := by omega
     refine Wp.seq ?_;refine sRg fun K' gd hK => ?_;go_simp;apply hK;clear hK K' gd;refine Wp.keep [2,8,9,45] ?_;rintro r16 ⟨b5,cP,de,cy,-⟩;simp [go_sem,ah,al,e9] at b5 cP de cy;clear ah al e9;refine cFf ?_;have hR9 : RowF wd n36 m noPlan := hR.congr fun j hj => by rw [if_pos (by omega)];rfl
     have hSD : DuoS wd S n38 n36 m A c A2 c2 A1 c1 t other := ⟨ar,ay,az,aA,aB,aC,aD,⟨_,aE⟩,f38,⟨by omega,by omega,by omega⟩,by omega⟩;refine Wp.exit ?_;refine tEx ?_;refine tEx ?_;refine blockK_here ?_;refine tNo ?_;refine sRg fun K' gd hK => ?_;go_simp;apply hK;clear hK K' gd;refine Wp.keep [2,8,10] ?_;rintro r17 ⟨b6,cQ,aI,-⟩;simp [go_sem,b5,cP,de,cy] at b6 cQ aI;clear b5 cP de cy;refine sRg fun K' gd hK => ?_;refine cu4 fun K1 hK1 => ?_;go_simp;apply hK1;clear hK1 K1;refine Wops.absA fun dg n57 p => ?_;obtain ⟨q57,p,s57,k57,f57,r57⟩ := p;try simp only [q57] at k57 f57 r57 ⊢
     replace hTS2 := hTS2.ext p;replace hUS2 := hUS2.ext p;replace hFS2 := hFS2.ext p;replace hR9 := hR9.ext p;replace hSD := hSD.ext p;replace xw := xw.trans p;replace xl7 := Chg.ext xl7 p;replace g := p.cell g;replace f := p.cell f;replace l := p.cell l;clear p;have rx57 := RowX.mk2 r57;go_simp;apply hK;clear hK K' gd;refine Wp.keep [2,8,10,11] ?_;rintro r18 ⟨b7,cR,aJ,aY,-⟩;simp [go_sem,b6,cQ,aI] at b7 cR aJ aY;clear b6 cQ aI;refine Wp.seq ?_;have hT0 : RowT dg n57 t.fl.length (hadZ []) := (by rw [hadZ_nil];exact rowT_of rx57 (by simp));refine sRg fun K' gd hK => ?_;go_simp;apply hK;clear hK K' gd;refine Wp.keep [2,8,10,11,12] ?_;rintro r19 ⟨aw,ax,dh,av,dw,-⟩;simp [go_sem,b7,cR,aJ,aY] at aw ax dh av dw;clear b7 cR aJ aY;refine Wp.block ?_;refine Wp.loop (fun k ρ ds wk => AllEq [2,8,11] ρ r19 ∧ ds = [] ∧ (Chg [n36,n38,n57] dg wk) ∧ (∃ Z,ρ 12 = .int .i64 (k : Int) ∧ ρ 10 = .int .i64 (worthN t.fl (planF (dM t other n m) m Z) m) ∧ DuoS wk S n38 n36 m A c A2 c2 A1 c1 t other ∧ RowF wk n36 m (planF (dM t other n m) m Z) ∧ RowT wk n57 t.fl.length (hadZ Z) ∧ (∃ _u : Unit,OrdP t Z ∧ Z.length = k))) (t.fl.length) ?_ ?_
     ·refine ⟨AllEq.refl _ _,rfl,Chg.refl _ _,?_⟩;exact ⟨[],by rw [dw];rfl,by rw [dh];show _ = Value.int .i64 (worthN t.fl noPlan m);rw [worthN_noPlan],hSD,hR9,hT0,(),OrdP.nil,rfl⟩
     ·rintro k r20 _ wk hk ⟨hA,rfl,xl10,⟨Z,e12,e10,hSD,hR,hH,hZ⟩⟩;obtain ⟨ai,am,ab,-⟩ := hA;rw [aw] at ai;rw [ax] at am;rw [av] at ab;have zxl10 := Chg.size xl10;replace hTS2 := hTS2.chg xl10 XB;replace hUS2 := hUS2.chg xl10 XB;replace hFS2 := hFS2.chg xl10 XB;replace xw := Chg.to xw xl10 XL;clear xl7;replace g := Chg.cell xl10 g XN;replace f := Chg.cell xl10 f XN;replace l := Chg.cell xl10 l XN
      by_cases hkz : k < t.fl.length
      ·skip;have hkl : (k : Int) < (t.fl.length : Int) := by omega
       refine Wp.seq ?_;refine sRg fun K' gd hK => ?_;go_simp;apply hK;clear hK K' gd;refine Wp.keep [2,8,10,11,12,62] ?_;rintro r21 ⟨b9,cS,aK,aZ,bd,cz,-⟩;simp [go_sem,ai,am,e10,ab,e12] at b9 cS aK aZ bd cz;clear ai am e10 ab e12;refine cTt ?_;refine skN ?_;refine sBk ?_;refine sRg fun K' gd hK => ?_;go_simp;apply hK;clear hK K' gd;refine Wp.keep [2,8,10,11,12,13] ?_;rintro r22 ⟨ca,cT,aL,a0,be,br,-⟩;simp [go_sem,b9,cS,aK,aZ,bd,cz] at ca cT aL a0 be br;clear b9 cS aK aZ bd cz;refine Wp.seq ?_;refine sRg fun K' gd hK => ?_;go_simp;apply hK;clear hK K' gd;refine Wp.keep [2,8,10,11,12,13,14] ?_;rintro r23 ⟨W,Y,R,U,V,dD,dI,-⟩;simp [go_sem,ca,cT,aL,a0,be,br] at W Y R U V dD dI;clear ca cT aL a0 be br;refine Wp.block ?_;refine Wp.loop (fun i ρ ds wi => AllEq [2,8,10,11,12] ρ r23 ∧ ds = [] ∧ (Ext wk wi) ∧ (∃ a,ρ 14 = .int .i64 (i : Int) ∧ ρ 13 = .int .i64 a ∧ (∃ _u : Unit,SelP t Z i a))) (t.fl.length) ?_ ?_
       ·refine ⟨AllEq.refl _ _,rfl,Ext.refl _,?_⟩;exact ⟨-1,by rw [dI];rfl,by rw [dD],(),SelP.zero⟩
       ·rintro i r24 _ wi hi ⟨hA,rfl,xl11,⟨a,e14,e13,hA1⟩⟩;obtain ⟨aj,an,T,ac,ae,-⟩ := hA;rw [W] at aj;rw [Y] at an;rw [R] at T;rw [U] at ac;rw [V] at ae;have zxl11 := Below.size xl11;replace hTS2 := hTS2.ext xl11;replace hUS2 := hUS2.ext xl11;replace hFS2 := hFS2.ext xl11;replace hSD := hSD.ext xl11;replace hR := hR.ext xl11;replace hH := hH.ext xl11;replace xw := Ext.trans xw xl11;replace xl10 := Chg.ext xl10 xl11;replace g := Ext.cell xl11 g;replace f := Ext.cell xl11 f;replace l := Ext.cell xl11 l
        by_cases hil : i < t.fl.length
        ·skip;have hil2 : (i : Int) < (t.fl.length : Int) := by omega
         obtain ⟨b2,o2,eA,hb2,x0,x1,x2,x3⟩ := FlawsV.at hFS2.v hil;subst eA;rw [← mAt_at hil] at x3;have z1 := hH.c i hil;refine Wp.seq ?_;refine sRg fun K' gd hK => ?_;go_simp;apply hK;clear hK K' gd;refine Wp.keep [2,8,10,11,12,13,14,69] ?_;rintro r25 ⟨I,K,B,D,E,u,F,J,-⟩;simp [go_sem,aj,an,T,ac,ae,e13,e14] at I K B D E u F J;clear aj an T ac ae e13 e14;refine cTt ?_
         by_cases hz : (i : Int) ∈ Z
         ·skip;have hzt : hadZ Z i = true := decide_eq_true hz;rw [hzt] at z1;refine skN ?_;refine sBk ?_;refine Wp.seqDraw (.inl rfl) mixed [([0,1,2,3,4],none),([5],none),([6,7,8],none),([9,10,11,12,13],none),([14,15,16,17,18],none),([19,20,21,22,23],none)] (by kernel_rfl) fun K' gd hK hg => ?_;have g5 : gd 5 = some 77 := hg 5;have g8 : gd 8 = some 80 := hg 8;clear hg;simp only [pick,nth,List.map_cons,List.map_nil,Option.map_none,Option.map_some];refine Mops.absD fun D12 hD12 zD12 => ?_;replace xw := xw.trans hD12;replace xl10 := Chg.ext xl10 hD12;replace xl11 := xl11.trans hD12;replace z1 := hD12.cell z1;clear hD12;refine mNo ?_
          apply Mops.none
          ·intro w' hE';go_simp;with_reducible rfl
          apply Mops.none
          ·intro w' hE';go_simp;with_reducible rfl
          apply Mops.none
          ·intro w' hE';go_simp;with_reducible rfl
          apply Mops.none
          ·intro w' hE';go_simp;with_reducible rfl
          apply Mops.none
          ·intro w' hE';go_simp;with_reducible rfl
          refine Mops.done ?_;apply hK;clear hK K' gd g5 g8;refine Wp.keep [2,8,10,11,12,13,14,95] ?_;rintro r26 ⟨cb,cU,aM,a1,bf,bs,bD,c8,-⟩;simp [go_sem,I,K,B,D,E,u,F,J] at cb cU aM a1 bf bs bD c8;clear I K B D E u F J;refine cFf ?_;refine Wp.skip ?_;refine bNo ?_;refine tNo ?_;refine lRg fun K' gd hK => ?_;go_simp;apply hK;clear hK K' gd;refine Ends.keep [2,8,10,11,12,13,14] ?_;rintro r27 ⟨dP,d2,di,dp,dx,dE,dJ,-⟩;simp [go_sem,cb,cU,aM,a1,bf,bs,bD,c8] at dP d2 di dp dx dE dJ;clear cb cU aM a1 bf bs bD c8;refine Ends.mk ?_;refine thenK_normal ⟨by omega,⟨by rw [dP,W],by rw [d2,Y],by rw [di,R],by rw [dp,U],by rw [dx,V],trivial⟩,rfl,xl11,?_⟩;exact ⟨a,by rw [dJ,IntWalk.i64_in _ (by omega)];rfl,dE,(),hA1.choose_spec.had hz⟩
         ·skip;have hzt : hadZ Z i = false := decide_eq_false hz;rw [hzt] at z1
          by_cases ha : a < 0
          ·skip;refine skN ?_;refine sBk ?_;refine Wp.seqDraw (.inl rfl) mixed [([0,1,2,3,4],none),([5],none),([6,7,8],none),([9,10,11,12,13],none),([14,15,16,17,18],none),([19,20,21,22,23],none)] (by kernel_rfl) fun K' gd hK hg => ?_;have g5 : gd 5 = some 77 := hg 5;have g8 : gd 8 = some 80 := hg 8;clear hg;simp only [pick,nth,List.map_cons,List.map_nil,Option.map_none,Option.map_some];refine Mops.absD fun D13 hD13 zD13 => ?_;replace xw := xw.trans hD13;replace xl10 := Chg.ext xl10 hD13;replace xl11 := xl11.trans hD13;replace z1 := hD13.cell z1;clear hD13;refine mNo ?_
           apply Mops.none
           ·intro w' hE';go_simp;with_reducible rfl
           apply Mops.none
           ·intro w' hE';go_simp;with_reducible rfl
           apply Mops.none
           ·intro w' hE';go_simp;with_reducible rfl
           apply Mops.none
           ·intro w' hE';go_simp;with_reducible rfl
           apply Mops.none
           ·intro w' hE';go_simp;with_reducible rfl
           refine Mops.done ?_;apply hK;clear hK K' gd g5 g8;refine Wp.keep [2,8,10,11,12,13,14,95] ?_;rintro r28 ⟨cc,cV,aN,a2,bg,bt,bE,c9,-⟩;simp [go_sem,I,K,B,D,E,u,F,J] at cc cV aN a2 bg bt bE c9;clear I K B D E u F J;refine cTt ?_;refine lRg fun K' gd hK => ?_;go_simp;apply hK;clear hK K' gd;refine Ends.keep [2,8,10,11,12,13,14] ?_;rintro r29 ⟨cd,cW,aO,a3,bh,bu,bF,-⟩;simp [go_sem,cc,cV,aN,a2,bg,bt,bE,c9] at cd cW aO a3 bh bu bF;clear cc cV aN a2 bg bt bE c9;refine Ends.mk ?_;refine bNo ?_;refine tNo ?_;refine lRg fun K' gd hK => ?_;go_simp;apply hK;clear hK K' gd;refine Ends.keep [2,8,10,11,12,13,14] ?_;rintro r30 ⟨dQ,d3,dj,dq,dy,dF,dK,-⟩;simp [go_sem,cd,cW,aO,a3,bh,bu,bF] at dQ d3 dj dq dy dF dK;clear cd cW aO a3 bh bu bF;refine Ends.mk ?_;refine thenK_normal ⟨by omega,⟨by rw [dQ,W],by rw [d3,Y],by rw [dj,R],by rw [dq,U],by rw [dy,V],trivial⟩,rfl,xl11,?_⟩
           exact ⟨(i : Int),by rw [dK,IntWalk.i64_in _ (by omega)];rfl,by rw [dF],(),by have q := hA1.choose_spec;have e : a = -1 := (by rcases q with ⟨e,-⟩ | ⟨q,e,-⟩ <;> omega);rw [e] at q;exact q.first hz⟩
          ·skip;obtain ⟨q,hq⟩ : ∃ q : Nat,∃ _u : Unit,a = (q : Int) ∧ q < t.fl.length := (by rcases hA1.choose_spec with ⟨e,-⟩ | ⟨q,e,h1,-⟩;(exfalso;omega);exact ⟨q,(),e,by omega⟩);have hql : (q : Int) < (t.fl.length : Int) := by have := hq.choose_spec.2;omega
           have hq0 : ¬ (q : Int) < 0 := by omega
           rw [hq.choose_spec.1] at u;obtain ⟨_,_,ev,-,y0,y1,y2,y3⟩ := FlawsV.at hFS2.v hq.choose_spec.2
           injection ev with ev
           injection ev with ev1 ev2
           subst ev1 ev2;rw [← mAt_at hq.choose_spec.2] at y3
           by_cases hm2 : mAt t.fl (q : Int) < mAt t.fl (i : Int)
           ·skip;refine skN ?_;refine sBk ?_;refine Wp.seqDraw (.inl rfl) mixed [([0,1,2,3,4],none),([5],none),([6,7,8],none),([9,10,11,12,13],none),([14,15,16,17,18],none),([19,20,21,22,23],none)] (by kernel_rfl) fun K' gd hK hg => ?_;have g5 : gd 5 = some 77 := hg 5;have g8 : gd 8 = some 80 := hg 8;clear hg;simp only [pick,nth,List.map_cons,List.map_nil,Option.map_none,Option.map_some];refine Mops.absD fun D14 hD14 zD14 => ?_;replace xw := xw.trans hD14;replace xl10 := Chg.ext xl10 hD14;replace xl11 := xl11.trans hD14;replace f := hD14.cell f;replace x3 := hD14.cell x3;replace z1 := hD14.cell z1;replace y3 := hD14.cell y3;clear hD14;refine mNo ?_
            apply Mops.none
            ·intro w' hE';go_simp;with_reducible rfl
            apply Mops.none
            ·intro w' hE';go_simp;with_reducible rfl
            refine mNo ?_
            refine mNo ?_
            refine mNo ?_
            refine Mops.done ?_;apply hK;clear hK K' gd g5 g8;refine Wp.keep [2,8,10,11,12,13,14,95] ?_;rintro r31 ⟨ce,cX,aP,a4,bi,bv,bG,da,-⟩;simp [go_sem,I,K,B,D,E,u,F,J] at ce cX aP a4 bi bv bG da;clear I K B D E u F J;refine cTt ?_;refine lRg fun K' gd hK => ?_;go_simp;apply hK;clear hK K' gd;refine Ends.keep [2,8,10,11,12,13,14] ?_;rintro r32 ⟨cf,cY,aQ,a5,bj,bw,bH,-⟩;simp [go_sem,ce,cX,aP,a4,bi,bv,bG,da] at cf cY aQ a5 bj bw bH;clear ce cX aP a4 bi bv bG da;refine Ends.mk ?_;refine bNo ?_;refine tNo ?_;refine lRg fun K' gd hK => ?_;go_simp;apply hK;clear hK K' gd;refine Ends.keep [2,8,10,11,12,13,14] ?_;rintro r33 ⟨dR,d4,dk,dr,dz,dG,dL,-⟩;simp [go_sem,cf,cY,aQ,a5,bj,bw,bH] at dR d4 dk dr dz dG dL;clear cf cY aQ a5 bj bw bH;refine Ends.mk ?_;refine thenK_normal ⟨by omega,⟨by rw [dR,W],by rw [d4,Y],by rw [dk,R],by rw [dr,U],by rw [dz,V],trivial⟩,rfl,xl11,?_⟩
            exact ⟨(i : Int),by rw [dL,IntWalk.i64_in _ (by omega)];rfl,by rw [dG],(),SelP.more (q := q) (by rw [← hq.choose_spec.1];exact hA1.choose_spec) hz hm2⟩
           ·skip;refine skN ?_;refine sBk ?_;refine Wp.seqDraw (.inl rfl) mixed [([0,1,2,3,4],none),([5],none),([6,7,8],none),([9,10,11,12,13],none),([14,15,16,17,18],none),([19,20,21,22,23],none)] (by kernel_rfl) fun K' gd hK hg => ?_;have g5 : gd 5 = some 77 := hg 5;have g8 : gd 8 = some 80 := hg 8;clear hg;simp only [pick,nth,List.map_cons,List.map_nil,Option.map_none,Option.map_some];refine Mops.absD fun D15 hD15 zD15 => ?_;replace xw := xw.trans hD15;replace xl10 := Chg.ext xl10 hD15;replace xl11 := xl11.trans hD15;replace f := hD15.cell f;replace x3 := hD15.cell x3;replace z1 := hD15.cell z1;replace y3 := hD15.cell y3;clear hD15;refine mNo ?_
            apply Mops.none
            ·intro w' hE';go_simp;with_reducible rfl
            apply Mops.none
            ·intro w' hE';go_simp;with_reducible rfl
            refine mNo ?_
            refine mNo ?_
            refine mNo ?_
            refine Mops.done ?_;apply hK;clear hK K' gd g5 g8;refine Wp.keep [2,8,10,11,12,13,14,95] ?_;rintro r34 ⟨cg,cZ,aR,a6,bk,bx,bI,db,-⟩;simp [go_sem,I,K,B,D,E,u,F,J] at cg cZ aR a6 bk bx bI db;clear I K B D E u F J;refine cFf ?_;refine Wp.skip ?_;refine bNo ?_;refine tNo ?_;refine lRg fun K' gd hK => ?_;go_simp;apply hK;clear hK K' gd;refine Ends.keep [2,8,10,11,12,13,14] ?_;rintro r35 ⟨dS,d5,dl,dt,dA,dH,dN,-⟩;simp [go_sem,cg,cZ,aR,a6,bk,bx,bI,db] at dS d5 dl dt dA dH dN;clear cg cZ aR a6 bk bx bI db;refine Ends.mk ?_;refine thenK_normal ⟨by omega,⟨by rw [dS,W],by rw [d5,Y],by rw [dl,R],by rw [dt,U],by rw [dA,V],trivial⟩,rfl,xl11,?_⟩;exact ⟨(q : Int),by rw [dN,IntWalk.i64_in _ (by omega)];rfl,dH,(),SelP.keep (q := q) (by rw [← hq.choose_spec.1];exact hA1.choose_spec) hm2⟩
        ·skip;have hil2 : ¬ (i : Int) < (t.fl.length : Int) := by omega
         obtain ⟨q,hq⟩ : ∃ q : Nat,∃ _u : Unit,a = (q : Int) ∧ q < t.fl.length ∧ (q : Int) ∉ Z ∧ OrdP t (Z ++ [(q : Int)]) := (by have e : i = t.fl.length := (by omega);rw [e] at hA1;obtain ⟨q,h⟩ := hA1.choose_spec.end' hZ.choose_spec.1 (by rw [hZ.choose_spec.2];exact hkz);exact ⟨q,(),h⟩);rw [hq.choose_spec.1] at e13;have hql := hq.choose_spec.2.1;have hql2 : (q : Int) < (t.fl.length : Int) := by omega
         have z2 := hH.c q hql;have fh := hH.fz;obtain ⟨b2,o2,eA,hb2,x0,x1,x2,x3⟩ := FlawsV.at hFS2.v hql;subst eA;rw [← mAt_at hql] at x3;have hst := ordP_step (N := dM t other n m) (n := m) dM_lt hZ.choose_spec.1 hql hq.choose_spec.2.2.1;have hmg := hmr q hql;rw [← mAt_at hql] at hmg;have hwb := worthN_leC (C := 1000) (by decide) hmr (planF (dM t other n m) m Z) m;obtain ⟨X,hX⟩ : ∃ X,∃ _u : Unit,worthN t.fl (planF (dM t other n m) m Z) m = X := ⟨_,(),rfl⟩;obtain ⟨H,hH9⟩ : ∃ H,∃ _u : Unit,planF (dM t other n m) m Z = H := ⟨_,(),rfl⟩;obtain ⟨G,hG⟩ : ∃ G,∃ _u : Unit,mAt t.fl (q : Int) = G := ⟨_,(),rfl⟩;rw [hX.choose_spec] at T hst hwb;rw [hH9.choose_spec] at hR hst;rw [hG.choose_spec] at hst hmg x3;have hwb2 : 0 ≤ X ∧ X ≤ 120000 := ⟨hwb.1,by omega⟩;clear hwb;replace hst : ∃ _u : Unit,_ := ⟨(),hst⟩;obtain ⟨x7,y7⟩ := hSD.k7;have fp := hSD.fz;refine Wp.seq ?_;refine sRg fun K' gd hK => ?_;go_simp;apply hK;clear hK K' gd;refine Wp.keep [2,8,10,11,12,13,14,69] ?_;rintro r36 ⟨ch,c0,aS,a7,bl,bz,bJ,cB,-⟩;simp [go_sem,aj,an,T,ac,ae,e13,e14] at ch c0 aS a7 bl bz bJ cB;clear aj an T ac ae e13 e14;refine cFf ?_;refine Wp.exit ?_;refine tEx ?_;refine tEx ?_;refine blockK_here ?_;refine tNo ?_
         refine sRg fun K' gd hK => ?_;refine cu4 fun K1 hK1 => ?_;go_simp;apply hK1;clear hK1 K1;refine Wops.absS (b := n57) (i := q) [_] (hH.some hql) fun P3 hP3 => ?_;have zP3 := hP3.same;replace fp := hP3.frz fp;replace hTS2 := hTS2.put hP3 (by omega);replace hUS2 := hUS2.put hP3 (by omega);replace hSD := hSD.put hP3 (by omega);replace hR := hR.put hP3 (by omega);replace xw := Put.to xw hP3 (by omega);replace xl10 := Put.more xl10 hP3 (.inr (by simp));replace g := hP3.cell g (by omega);replace f := hP3.cell f (by omega);replace x3 := hP3.cell x3 (by omega);replace y7 := hP3.cell y7 (by omega);try simp only [Wops_nil,updO_some,updO_none]
         apply hK;clear hK K' gd;refine Wp.keep [2,8,10,11,12,13] ?_;rintro r37 ⟨ci,c3,aT,a8,bm,bA,-⟩;simp [go_sem,ch,c0,aS,a7,bl,bz,bJ,cB] at ci c3 aT a8 bm bA;clear ch c0 aS a7 bl bz bJ cB;have hH2 : RowT P3 n57 t.fl.length (hadZ (Z ++ [(q : Int)])) := (by rw [← hadZ_mark];exact hH.mark hP3);refine sRg fun K' gd hK => ?_;refine cu5 fun K1 hK1 => ?_;go_simp;apply hK1;clear hK1 K1;refine Wops.absA fun ea n104 o => ?_;obtain ⟨q104,o,s104,k104,f104,r104⟩ := o;try simp only [q104] at k104 f104 r104 ⊢
         replace fp := o.fz y7 fp;replace hTS2 := hTS2.ext o;replace hUS2 := hUS2.ext o;replace hSD := hSD.ext o;replace hR := hR.ext o;replace hH2 := hH2.ext o;replace xw := xw.trans o;replace xl10 := Chg.ext xl10 o;replace f := o.cell f;replace x3 := o.cell x3;replace y7 := o.cell y7;clear o;have rx104 := RowX.mk2 r104;refine cu3 fun K1 hK1 => ?_;go_simp;apply hK1;clear hK1 K1;refine Wops.absS (b := n38) (i := 7) [_] (some1 y7) fun P9 hP9 => ?_;have zP9 := hP9.same;replace hTS2 := hTS2.put hP9 (by omega);replace hUS2 := hUS2.put hP9 (by omega);replace hR := hR.put hP9 (by omega);replace hH2 := hH2.put hP9 (by omega);replace rx104 := rx104.put hP9 (by omega);replace xw := Put.to xw hP9 (by omega);replace xl10 := Put.more xl10 hP9 (.inr (by simp));replace f := hP9.cell f (by omega);replace x3 := hP9.cell x3 (by omega);try simp only [Wops_nil,updO_some,updO_none]
         apply hK;clear hK K' gd;refine Wp.keep [2,8,10,11,12,13] ?_;rintro r38 ⟨ak,ao,aa,ad,af,ag,-⟩;simp [go_sem,ci,c3,aT,a8,bm,bA] at ak ao aa ad af ag;clear ci c3 aT a8 bm bA;have y9 := hP9.new 0 _ rfl;have hSD2 := hSD.tried hP9;have hT0 : RowT P9 n104 m (fun _ => false) := rowT_of rx104 (by simp);have hDD := hSD2.duoD (tb := n104) hTS2 hUS2 y9 (by omega) (by omega) (by omega)
         by_cases hb1 : (giveF (dM t other n m) (m + 1) q H fun _ => false).1 = true
         ·skip;refine sRg fun K' gd hK => ?_;refine cu3 fun K1 hK1 => ?_;go_simp;refine Wcall (.inl rfl) (place2_c t other S n38 n36 n104 n m A c (some ⟨b2,o2,none⟩) c2 A1 c1 hn2 hm.choose_spec ⟨(),hn.choose_spec.1⟩ hcl (by omega) (by omega) (m + 1) q H (fun _ => false) _ (by have := untr_none m;omega) hql hst.choose_spec.2.2 hDD hR hT0) ?_;rintro v w5 ⟨hv,hR3,hT3,hC⟩;rw [hb1] at hv;subst hv;go_simp;apply hK1;clear hK1 K1;replace hH2 := hH2.chg hC XB;replace hSD2 := hSD2.chg hC XB;replace xw := Chg.to xw hC XL;replace xl10 := Chg.more xl10 hC (by intro b hm;simp only [List.mem_cons,List.not_mem_nil,or_false] at hm;first | (left;omega) | (right;simp [hm];done) | (rcases hm with hm | hm <;> first | (left;omega) | (right;simp [hm])));replace f := Chg.cell hC f XN;replace x3 := Chg.cell hC x3 XN;try simp only [Wops_nil,updO_some,updO_none]
          apply hK;clear hK K' gd;refine Wp.keep [2,8,10,11,12,13,109] ?_;rintro r40 ⟨cj,c4,aU,a9,bn,bB,aG,-⟩;simp [go_sem,ak,ao,aa,ad,af,ag] at cj c4 aU a9 bn bB aG;clear ak ao aa ad af ag;refine cTt ?_;refine lRg fun K' gd hK => ?_;go_simp;apply hK;clear hK K' gd;refine Ends.keep [2,8,10,11,12] ?_;rintro r41 ⟨ck,c5,aV,ba,bo,-⟩;simp [go_sem,cj,c4,aU,a9,bn,bB,aG] at ck c5 aV ba bo;clear cj c4 aU a9 bn bB aG;refine Ends.mk ?_;refine bNo ?_;refine tNo ?_;refine lRg fun K' gd hK => ?_;go_simp;apply hK;clear hK K' gd;refine Ends.keep [2,8,10,11,12] ?_;rintro r42 ⟨dT,d6,dm,du,dB,-⟩;simp [go_sem,ck,c5,aV,ba,bo] at dT d6 dm du dB;clear ck c5 aV ba bo;refine Ends.mk ?_;refine thenK_normal ⟨by omega,⟨by rw [dT,aw],by rw [d6,ax],by rw [du,av],trivial⟩,rfl,xl10,?_⟩;exact ⟨Z ++ [(q : Int)],by rw [dB,IntWalk.i64_in _ (by omega)];rfl,by rw [dm,IntWalk.i64_in _ (by omega),hst.choose_spec.2.1,if_pos (show (addR (dM t other n m) m H q).1 = true from hb1)],hSD2,by rw [← hst.choose_spec.1];exact hR3,hH2,(),hq.choose_spec.2.2.2,by rw [List.length_append,hZ.choose_spec.2];rfl⟩
         ·skip;have hb2 : (giveF (dM t other n m) (m + 1) q H fun _ => false).1 = false := by simpa using hb1
          refine sRg fun K' gd hK => ?_;refine cu3 fun K1 hK1 => ?_;go_simp;refine Wcall (.inl rfl) (place2_c t other S n38 n36 n104 n m A c (some ⟨b2,o2,none⟩) c2 A1 c1 hn2 hm.choose_spec ⟨(),hn.choose_spec.1⟩ hcl (by omega) (by omega) (m + 1) q H (fun _ => false) _ (by have := untr_none m;omega) hql hst.choose_spec.2.2 hDD hR hT0) ?_;rintro v w5 ⟨hv,hR3,hT3,hC⟩;rw [hb2] at hv;subst hv;go_simp;apply hK1;clear hK1 K1;replace hH2 := hH2.chg hC XB;replace hSD2 := hSD2.chg hC XB;replace xw := Chg.to xw hC XL;replace xl10 := Chg.more xl10 hC (by intro b hm;simp only [List.mem_cons,List.not_mem_nil,or_false] at hm;first | (left;omega) | (right;simp [hm];done) | (rcases hm with hm | hm <;> first | (left;omega) | (right;simp [hm])));try simp only [Wops_nil,updO_some,updO_none]
          apply hK;clear hK K' gd;refine Wp.keep [2,8,10,11,12,13,109] ?_;rintro r44 ⟨cm,c6,aW,bb,bp,bC,aH,-⟩;simp [go_sem,ak,ao,aa,ad,af,ag] at cm c6 aW bb bp bC aH;clear ak ao aa ad af ag;refine cFf ?_;refine Wp.skip ?_;refine bNo ?_;refine tNo ?_;refine lRg fun K' gd hK => ?_;go_simp;apply hK;clear hK K' gd;refine Ends.keep [2,8,10,11,12] ?_;rintro r45 ⟨dU,d7,dn,dv,dC,-⟩;simp [go_sem,cm,c6,aW,bb,bp,bC,aH] at dU d7 dn dv dC;clear cm c6 aW bb bp bC aH;refine Ends.mk ?_;refine thenK_normal ⟨by omega,⟨by rw [dU,aw],by rw [d7,ax],by rw [dv,av],trivial⟩,rfl,xl10,?_⟩;exact ⟨Z ++ [(q : Int)],by rw [dC,IntWalk.i64_in _ (by omega)];rfl,by rw [dn,hst.choose_spec.2.1,if_neg (show ¬ (addR (dM t other n m) m H q).1 = true from hb1),Int.add_zero],hSD2,by rw [← hst.choose_spec.1];exact hR3,hH2,(),hq.choose_spec.2.2.2,by rw [List.length_append,hZ.choose_spec.2];rfl⟩
      ·skip;have hkl : ¬ (k : Int) < (t.fl.length : Int) := by omega
       refine Wp.seq ?_;refine sRg fun K' gd hK => ?_;go_simp;apply hK;clear hK K' gd;refine Wp.keep [2,8,10,11,12,62] ?_;rintro r46 ⟨cn,c7,aX,bc,bq,cA,-⟩;simp [go_sem,ai,am,e10,ab,e12] at cn c7 aX bc bq cA;clear ai am e10 ab e12;refine cFf ?_;refine Wp.exit ?_;refine tEx ?_;refine tEx ?_;refine blockK_here ?_;refine tNo ?_;refine sRg fun K' gd hK => ?_;go_simp;apply hK;clear hK K' gd;refine Wp.keep [4,5] ?_;rintro r47 ⟨dV,dY,-⟩;simp [go_sem,cn,c7,aX,bc,bq,cA] at dV dY;clear cn c7 aX bc bq cA;refine Wp.ret ?_;refine endK_tmp2 Tryz.results69 (by decide) (by decide) ?_;rw [dV,dY];exact ⟨by rw [hs0.choose_spec,if_pos rfl,← meritM_eq hT hn2 hm.choose_spec hZ.choose_spec.1 (by rw [hZ.choose_spec.2];omega)],xw⟩
  ·skip;have hs1 : ∃ _u : Unit,se = 1 := ⟨(),by rw [hsv.choose_spec,if_pos h0,if_neg hc]⟩;refine Wp.seq ?_;refine sRh fun K' gd hK hg => ?_;have g2 : gd 2 = some 19 := hg 2;clear hg;refine cu6 fun K1 hK1 => ?_;go_simp;refine Wcall (.inl rfl) (rising_c t other _ _ _ (hTS.v.more (Below.size (XE))) (hOS.v.more (Below.size (XE))) hgn hl) ?_;rintro v w3 ⟨hv,hE⟩;rw [decide_eq_false hc] at hv;subst hv;go_simp;apply hK1;clear hK1 K1;replace xw := xw.trans hE;clear hE;go_simp;apply hK;clear hK K' gd g2;refine Wp.keep [1,2,6,24] ?_;rintro r49 ⟨bM,co,cC,bU,-⟩;simp [go_sem,O,P,Q] at bM co cC bU;clear O P Q;refine cTt ?_;refine lRg fun K' gd hK => ?_;go_simp;apply hK;clear hK K' gd;refine Ends.keep [1,2,6] ?_;rintro r50 ⟨bN,cp,cD,-⟩;simp [go_sem,bM,co,cC,bU] at bN cp cD;clear bM co cC bU;refine Ends.mk ?_;refine tNo ?_;refine Wp.seq ?_;refine sRg fun K' gd hK => ?_;go_simp;apply hK;clear hK K' gd;refine Wp.keep [1,2,6,26] ?_;rintro r51 ⟨bO,cq,cE,bX,-⟩;simp [go_sem,bN,cp,cD] at bO cq cE bX
   clear bN cp cD;refine cTt ?_;refine sRg fun K' gd hK => ?_;go_simp;apply hK;clear hK K' gd;refine Wp.keep [4,5] ?_;rintro r52 ⟨dW,dZ,-⟩;simp [go_sem,bO,cq,cE,bX] at dW dZ;clear bO cq cE bX;refine Wp.ret ?_;refine tRe ?_;refine endK_tmp2 Tryz.results69 (by decide) (by decide) ?_;rw [dW,dZ];exact ⟨by rw [hs1.choose_spec];rfl,xw⟩
 ·skip;have hs1 : ∃ _u : Unit,se = e := ⟨(),by rw [hsv.choose_spec,if_neg h0]⟩;refine Wp.seq ?_;refine sRh fun K' gd hK hg => ?_;have g2 : gd 2 = some 19 := hg 2;clear hg;refine cu6 fun K1 hK1 => ?_;go_simp;apply hK1;clear hK1 K1;go_simp;apply hK;clear hK K' gd g2;refine Wp.keep [1,2,6,24] ?_;rintro r53 ⟨bP,cr,cF,bV,-⟩;simp [go_sem,O,P,Q] at bP cr cF bV;clear O P Q;refine cFf ?_;refine skN ?_;refine Wp.seq ?_;refine sRg fun K' gd hK => ?_;go_simp;apply hK;clear hK K' gd;refine Wp.keep [1,2,6,26] ?_;rintro r54 ⟨bQ,cs,cG,bY,-⟩;simp [go_sem,bP,cr,cF,bV] at bQ cs cG bY;clear bP cr cF bV;refine cTt ?_;refine sRg fun K' gd hK => ?_;go_simp;apply hK;clear hK K' gd;refine Wp.keep [4,5] ?_;rintro r55 ⟨dX,d0,-⟩;simp [go_sem,bQ,cs,cG,bY] at dX d0;clear bQ cs cG bY;refine Wp.ret ?_;refine tRe ?_;refine endK_tmp2 Tryz.results69 (by decide) (by decide) ?_;rw [dX,d0];exact ⟨by rw [hs1.choose_spec,if_neg h0],xw⟩
end Go.Proofs.YtnklbepeoicgpaaGreat
