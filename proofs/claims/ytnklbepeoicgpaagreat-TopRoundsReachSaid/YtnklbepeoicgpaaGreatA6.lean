/- The days on which a copy can have been made, by its words: the program's. The chapter's example of a sheet and a mending: roundHead. The document's small functions. The document's Check, lists and jams. The document's first jam; Can, Jam, CheckJam. Can, Jam, CheckJam of the document; CheckJam. The document's insert. A number put ahead of the tail of a list, behind its head (append to a slice without room). The worth of days. Two lists of lists compared. The laws' example. A table of our own reads as lists. What the copies have still: plain laws. What the greatest plan is worth: other names of  -/
import Derived.Test.YtnklbepeoicgpaaGreatA5
import Derived.Test.YtnklbepeoicgpaaGreatA2
import Derived.Test.YtnklbepeoicgpaaGreatA3
set_option linter.all false
namespace Go.Proofs.YtnklbepeoicgpaaGreat.St
open Go.RowKit Go.Wk Go.Proofs
attribute [local irreducible] Go.Wk.Wops Go.Wk.Wp Go.Wk.Mtree Go.Wk.Mops
set_option maxHeartbeats 8000000
set_option maxRecDepth 20000
def fourD (lo hi : Int) : List Int := [lo,hi,lo - 1,hi + 1]
theorem once_R {on : List Int} {m n L : Nat} (h : OnsR on m n L) {x : Int} (h0 : 0 ≤ x) (h7 : x ≤ 730) : ∀ i,i < 4 → ¬ gI (fourD (loR on x m) (hiR on x m)) i < 0 → ¬ 730 < gI (fourD (loR on x m) (hiR on x m)) i →
  (begE (shR on m n L) (copyR on m L x (gI (fourD (loR on x m) (hiR on x m)) i) (gI (fourD (loR on x m) (hiR on x m)) i)) = 0 ↔ i < 2) := by
 intro i hi hn0 hn7;obtain ⟨s1,s2,s3,s4⟩ := same_lo (on := on) (m := m) h0 h7;obtain ⟨l1,-,-⟩ := loR_spec on x h0 m;obtain ⟨u1,-,-⟩ := hiR_spec on x h7 m;rw [beg_iff h (by omega) (by omega)]
 match i,hi with
 | 0,_ => exact ⟨fun _ => by decide,fun _ => s1⟩
 | 1,_ => exact ⟨fun _ => by decide,fun _ => s2⟩
 | 2,_ =>
   have hn0 : ¬ loR on x m - 1 < 0 := hn0;exact ⟨fun q => absurd q (s3 (by omega)),fun q => absurd q (by decide)⟩
 | 3,_ =>
   have hn7 : ¬ 730 < hiR on x m + 1 := hn7;exact ⟨fun q => absurd q (s4 (by omega)),fun q => absurd q (by decide)⟩
theorem roundOnce_c (on : List Int) (m n L : Nat) (x : Int) (sv uv : Value) (w : World) (h : OnsR on m n L) (h0 : 0 ≤ x) (h7 : x ≤ 730) (hS : SheetV w w.heap.size sv (shR on m n L)) (hU : CopyV w w.heap.size uv (copyR on m L x 0 730)) :
  CallsV Tryz.prog 100 #[sv,uv,.int .i64 (loR on x m),.int .i64 (hiR on x m)] w fun v' w' => v' = .bool true ∧ Ext w w' := by
 obtain ⟨wv,av,rfl,⟨A3,c3,rfl,-,-⟩,⟨A4,c4,rfl,-,-⟩⟩ := id hS;obtain ⟨cv,rfl,hC⟩ := id hU;obtain ⟨A5,c5,rfl,-,-⟩ := id hC;have hCS : IntsS w w.heap.size (.slice A5 (copyR on m L x 0 730).words.length c5) (copyR on m L x 0 730).words := ⟨hC⟩;clear hC;have hk := once_R h h0 h7;have hl := (loR_spec on x h0 m).1;have hu := (hiR_spec on x h7 m).1;obtain ⟨lo,hlo⟩ : ∃ lo,∃ _u : Unit,loR on x m = lo := ⟨_,(),rfl⟩;obtain ⟨up9,hhi⟩ : ∃ up9,∃ _u : Unit,hiR on x m = up9 := ⟨_,(),rfl⟩;rw [hlo.choose_spec,hhi.choose_spec] at hk ⊢;rw [hlo.choose_spec] at hl;rw [hhi.choose_spec] at hu;have hw1 : IntKind.i64.wrap (lo - 1) = lo - 1 := IntWalk.i64_in _ (by omega);have hw2 : IntKind.i64.wrap (up9 + 1) = up9 + 1 := IntWalk.i64_in _ (by omega);replace hk : ∃ _u : Unit,_ := ⟨(),hk⟩;refine Wp.fn Tryz.func100 rfl Tryz.ntmps100 (by simp) ?_;have xw := Ext.refl w;refine Wp.keep [0,1,2,3] ?_;rintro r1 ⟨V,ai,ak,ap,-⟩;simp [go_sem] at V ai ak ap;refine sRg fun K' gd hK => ?_;refine Wops.cut 1 fun K1 hK1 => ?_;simp only [tSC,tZ];go_simp;apply hK1;clear hK1 K1;simp only [dSC,dZ];refine Wops.absA fun br n4 N => ?_;obtain ⟨q4,N,s4,U,f4,r4⟩ := N;try simp only [q4] at U f4 r4 ⊢
 replace hCS := hCS.ext N;replace xw := xw.trans N;have a := U 0 _ rfl;have f := U 1 _ rfl;clear U N;clear r4;refine Wops.cut 1 fun K1 hK1 => ?_;simp only [tSC,tZ];go_simp;apply hK1;clear hK1 K1;simp only [dSC,dZ];refine Wops.absA fun bs n5 u => ?_;obtain ⟨q5,u,s5,C,f5,r5⟩ := u;try simp only [q5] at C f5 r5 ⊢
 replace hCS := hCS.ext u;replace xw := xw.trans u;replace a := u.cell a;replace f := u.cell f;have Q := C 0 _ rfl;have R := C 1 _ rfl;have S := C 2 _ rfl;have T := C 3 _ rfl;clear C u;clear r5;go_simp;apply hK;clear hK K' gd;refine Wp.keep [2,3,4,5] ?_;rintro r2 ⟨al,aq,aA,aN,-⟩;simp [go_sem,V,ai,ak,ap] at al aq aA aN;clear V ai ak ap;refine sRg fun K' gd hK => ?_;refine Wops.cut 9 fun K1 hK1 => ?_;simp only [tSC,tZ];go_simp;apply hK1;clear hK1 K1;simp only [dSC,dZ];refine Wops.absA fun a2 n9 g => ?_;obtain ⟨q9,g,s9,D,f9,r9⟩ := g;try simp only [q9] at D f9 r9 ⊢
 replace hCS := hCS.ext g;replace xw := xw.trans g;replace a := g.cell a;replace f := g.cell f;replace Q := g.cell Q;replace R := g.cell R;replace S := g.cell S;replace T := g.cell T;have bm := D 0 _ rfl;have bn := D 1 _ rfl;have bo := D 2 _ rfl;have bp := D 3 _ rfl;clear D g;clear r9;try simp only [Wops_nil,updO_some,updO_none]
 apply hK;clear hK K' gd;refine Wp.keep [4,5,9] ?_;rintro r3 ⟨aC,aP,aZ,-⟩;simp [go_sem,al,aq,aA,aN] at aC aP aZ;clear al aq aA aN;refine Wp.seq ?_;have hRW : RowW a2 n9 (fourD lo up9) := ⟨fun i up9 => by match i,up9 with | 0,_ => exact bm | 1,_ => exact bn | 2,_ => exact bo | 3,_ => exact bp,List.cons_ne_nil _ _⟩;refine sRg fun K' gd hK => ?_;go_simp;apply hK;clear hK K' gd;refine Wp.keep [4,5,9,10] ?_;rintro r4 ⟨y,z,A,a6,-⟩;simp [go_sem,aC,aP,aZ] at y z A a6;clear aC aP aZ;refine Wp.block ?_;refine Wp.loop (fun i ρ ds wi => AllEq [4,5,9] ρ r4 ∧ ds = [] ∧ (Ext a2 wi) ∧ (ρ 10 = .int .i64 (i : Int))) (4) ?_ ?_
 ·refine ⟨AllEq.refl _ _,rfl,Ext.refl _,?_⟩;rw [a6];rfl
 ·rintro i r5 _ wi hi ⟨hA,rfl,xl4,e10⟩;obtain ⟨H,J,M,-⟩ := hA;rw [y] at H;rw [z] at J;rw [A] at M;have zxl4 := Below.size xl4;replace hCS := hCS.ext xl4;replace hRW := hRW.ext xl4;replace xw := Ext.trans xw xl4;replace a := Ext.cell xl4 a;replace f := Ext.cell xl4 f;replace Q := Ext.cell xl4 Q;replace R := Ext.cell xl4 R;replace S := Ext.cell xl4 S;replace T := Ext.cell xl4 T
  by_cases hi4 : i < 4
  ·skip;have hi42 : (i : Int) < 4 := by omega
   obtain ⟨d,hd⟩ : ∃ d,∃ _u : Unit,gI (fourD lo up9) i = d := ⟨_,(),rfl⟩;have z1 := hRW.c i (show i < 4 from hi4);have hki := hk.choose_spec i hi4;rw [hd.choose_spec] at z1 hki;refine Wp.seq ?_;refine sRg fun K' gd hK => ?_;go_simp;apply hK;clear hK K' gd;refine Wp.keep [4,5,9,10,22] ?_;rintro r6 ⟨r,s,t,p,q,-⟩;simp [go_sem,H,J,M,e10] at r s t p q;clear H J M e10;refine cTt ?_
   by_cases hd0 : d < 0
   ·skip;refine skN ?_;refine sBk ?_;refine Wp.seq ?_;refine sRh fun K' gd hK hg => ?_;have g4 : gd 4 = some 29 := hg 4;clear hg;go_simp;apply hK;clear hK K' gd g4;refine Wp.keep [4,5,9,10,34] ?_;rintro r7 ⟨aD,aQ,a0,ad,an,-⟩;simp [go_sem,r,s,t,p,q] at aD aQ a0 ad an;clear r s t p q;refine cTt ?_;refine Wp.exit ?_;refine tEx ?_;refine blockK_here ?_;refine tNo ?_;refine lRg fun K' gd hK => ?_;go_simp;apply hK;clear hK K' gd;refine Ends.keep [4,5,9,10] ?_;rintro r8 ⟨bb,bg,bl,a7,-⟩;simp [go_sem,aD,aQ,a0,ad,an] at bb bg bl a7;clear aD aQ a0 ad an;refine Ends.mk ?_;refine thenK_normal ⟨by omega,⟨by rw [bb,y],by rw [bg,z],by rw [bl,A],trivial⟩,rfl,xl4,?_⟩;rw [a7,IntWalk.i64_in _ (by omega)];rfl
   ·skip
    by_cases hd7 : 730 < d
    ·skip;refine skN ?_;refine sBk ?_;refine Wp.seq ?_;refine sRh fun K' gd hK hg => ?_;have g4 : gd 4 = some 29 := hg 4;clear hg;go_simp;apply hK;clear hK K' gd g4;refine Wp.keep [4,5,9,10,34] ?_;rintro r9 ⟨aE,aR,a1,ae,ao,-⟩;simp [go_sem,r,s,t,p,q] at aE aR a1 ae ao;clear r s t p q;refine cTt ?_;refine Wp.exit ?_;refine tEx ?_;refine blockK_here ?_;refine tNo ?_;refine lRg fun K' gd hK => ?_;go_simp;apply hK;clear hK K' gd;refine Ends.keep [4,5,9,10] ?_;rintro r10 ⟨a8,bc,bi,a3,-⟩;simp [go_sem,aE,aR,a1,ae,ao] at a8 bc bi a3;clear aE aR a1 ae ao;refine Ends.mk ?_;refine thenK_normal ⟨by omega,⟨by rw [a8,y],by rw [bc,z],by rw [bi,A],trivial⟩,rfl,xl4,?_⟩;rw [a3,IntWalk.i64_in _ (by omega)];rfl
    ·skip;refine skN ?_;refine sBk ?_;refine Wp.seq ?_;refine sRh fun K' gd hK hg => ?_;have g4 : gd 4 = some 29 := hg 4;clear hg;go_simp;apply hK;clear hK K' gd g4;refine Wp.keep [4,5,9,10,34] ?_;rintro r11 ⟨ar,aH,aS,W,am,-⟩;simp [go_sem,r,s,t,p,q] at ar aH aS W am;clear r s t p q;refine cFf ?_;have hki2 := hki hd0 hd7;obtain ⟨be,hbe⟩ : ∃ e,∃ _u : Unit,begE (shR on m n L) (copyR on m L x d d) = e := ⟨_,(),rfl⟩;rw [hbe.choose_spec] at hki2;refine skN ?_;refine sRg fun K' gd hK => ?_;refine Wops.cut 3 fun K1 hK1 => ?_;simp only [tSC,tZ];go_simp;apply hK1;clear hK1 K1;simp only [dSC,dZ];refine Wops.absA fun bq n11 k => ?_;obtain ⟨q11,k,s11,B,f11,r11⟩ := k;try simp only [q11] at B f11 r11 ⊢
     replace hCS := hCS.ext k;replace xw := xw.trans k;replace xl4 := xl4.trans k;replace a := k.cell a;replace f := k.cell f;replace z1 := k.cell z1;have O := B 0 _ rfl;have l := B 1 _ rfl;have o := B 2 _ rfl;have P := B 3 _ rfl;clear B k;clear r11;try simp only [Wops_nil,updO_some,updO_none]
     apply hK;clear hK K' gd;refine Wp.keep [4,5,9,10,11] ?_;rintro r12 ⟨au,aI,aT,X,af,-⟩;simp [go_sem,ar,aH,aS,W,am] at au aI aT X af;clear ar aH aS W am;refine sRg fun K' gd hK => ?_;refine Wops.cut 5 fun K1 hK1 => ?_;simp only [tSC,tZ];go_simp;apply hK1;clear hK1 K1;simp only [dSC,dZ];refine Wops.absS (b := n11) (i := 1) [_] (somes [cellVal l] (by simp) (by intro j v hj;match j,hj with | 0,hj => (simp at hj;subst hj;exact l))) fun P6 hP6 => ?_;have zP6 := hP6.same;replace f11 := hP6.frz f11;replace hCS := hCS.put hP6 (by omega);replace xw := Put.to xw hP6 (by omega);replace xl4 := Put.to xl4 hP6 (by omega);replace a := hP6.cell a (by omega);replace f := hP6.cell f (by omega);replace z1 := hP6.cell z1 (by omega);replace O := Put.cellOff hP6 O (by simp);clear l;replace o := Put.cellOff hP6 o (by simp);replace P := Put.cellOff hP6 P (by simp);have l := hP6.new 0 _ rfl;try simp only [Nat.reduceAdd,Nat.zero_add,Nat.add_zero] at l
     clear hP6;try simp only [Wops_nil,updO_some,updO_none]
     apply hK;clear hK K' gd;refine Wp.keep [4,5,9,10,11] ?_;rintro r13 ⟨aw,aJ,aU,Y,ag,-⟩;simp [go_sem,au,aI,aT,X,af] at aw aJ aU Y ag;clear au aI aT X af;refine sRg fun K' gd hK => ?_;refine Wops.cut 5 fun K1 hK1 => ?_;simp only [tSC,tZ];go_simp;apply hK1;clear hK1 K1;simp only [dSC,dZ];refine Wops.absS (b := n11) (i := 2) [_] (somes [cellVal o] (by simp) (by intro j v hj;match j,hj with | 0,hj => (simp at hj;subst hj;exact o))) fun P7 hP7 => ?_;have zP7 := hP7.same;replace hCS := hCS.put hP7 (by omega);replace xw := Put.to xw hP7 (by omega);replace xl4 := Put.to xl4 hP7 (by omega);replace a := hP7.cell a (by omega);replace f := hP7.cell f (by omega);replace O := Put.cellOff hP7 O (by simp);clear o;replace P := Put.cellOff hP7 P (by simp);replace l := Put.cellOff hP7 l (by simp);have o := hP7.new 0 _ rfl;try simp only [Nat.reduceAdd,Nat.zero_add,Nat.add_zero] at o
     clear hP7;try simp only [Wops_nil,updO_some,updO_none]
     apply hK;clear hK K' gd;refine Wp.keep [4,5,9,10,11] ?_;rintro r14 ⟨ax,aK,aV,Z,ah,-⟩;simp [go_sem,aw,aJ,aU,Y,ag] at ax aK aV Z ah;clear aw aJ aU Y ag;refine sRg fun K' gd hK => ?_;refine Wops.cut 3 fun K1 hK1 => ?_;simp only [tSC,tZ];go_simp;refine Wcall (.inl rfl) (First_c _ _ (shR on m n L) (copyR on m L x d d) _ (hS.ext xw) ⟨_,rfl,hCS.v.more (Below.size (XE))⟩ h.fit (h.fitC x d d)) ?_;rintro v w3 ⟨tv,hv,hT,hE⟩;rw [hbe.choose_spec] at hv;obtain ⟨A7,c7,rfl⟩ := hT.slice;subst hv;clear hT;go_simp;apply hK1;clear hK1 K1;simp only [dSC,dZ];replace xw := xw.trans hE;replace xl4 := xl4.trans hE;clear hE;go_simp;apply hK;clear hK K' gd;refine Wp.keep [4,5,9,10,13] ?_;rintro r16 ⟨G,I,K,E,F,-⟩;simp [go_sem,ax,aK,aV,Z,ah] at G I K E F;clear ax aK aV Z ah
     by_cases hi2 : i < 2
     ·skip;have hbz : be = 0 := hki2.2 hi2;have hi22 : (i : Int) < 2 := by omega
      refine sRg fun K' gd hK => ?_;go_simp;apply hK;clear hK K' gd;refine Wp.keep [4,5,9,10,54] ?_;rintro r17 ⟨ay,aL,aW,aa,aF,-⟩;simp [go_sem,G,I,K,E,F] at ay aL aW aa aF;clear G I K E F;refine cFf ?_;refine Wp.skip ?_;refine bNo ?_;refine tNo ?_;refine lRg fun K' gd hK => ?_;go_simp;apply hK;clear hK K' gd;refine Ends.keep [4,5,9,10] ?_;rintro r18 ⟨a9,bd,bj,a4,-⟩;simp [go_sem,ay,aL,aW,aa,aF] at a9 bd bj a4;clear ay aL aW aa aF;refine Ends.mk ?_;refine thenK_normal ⟨by omega,⟨by rw [a9,y],by rw [bd,z],by rw [bj,A],trivial⟩,rfl,xl4,?_⟩;rw [a4,IntWalk.i64_in _ (by omega)];rfl
     ·skip;have hi22 : ¬ (i : Int) < 2 := by omega
      refine sRg fun K' gd hK => ?_;go_simp;apply hK;clear hK K' gd;refine Wp.keep [4,5,9,10,54] ?_;rintro r19 ⟨az,aM,aX,ab,aG,-⟩;simp [go_sem,G,I,K,E,F] at az aM aX ab aG;clear G I K E F;refine cFf ?_;refine Wp.skip ?_;refine bNo ?_;refine tNo ?_;refine lRg fun K' gd hK => ?_;go_simp;apply hK;clear hK K' gd;refine Ends.keep [4,5,9,10] ?_;rintro r20 ⟨ba,bf,bk,a5,-⟩;simp [go_sem,az,aM,aX,ab,aG] at ba bf bk a5;clear az aM aX ab aG;refine Ends.mk ?_;refine thenK_normal ⟨by omega,⟨by rw [ba,y],by rw [bf,z],by rw [bk,A],trivial⟩,rfl,xl4,?_⟩;rw [a5,IntWalk.i64_in _ (by omega)];rfl
  ·skip;have hi42 : ¬ (i : Int) < 4 := by omega
   refine Wp.seq ?_;refine sRg fun K' gd hK => ?_;go_simp;apply hK;clear hK K' gd;refine Wp.keep [4,5,9,10,22] ?_;rintro r21 ⟨aB,aO,aY,ac,aj,-⟩;simp [go_sem,H,J,M,e10] at aB aO aY ac aj;clear H J M e10;refine cFf ?_;refine Wp.exit ?_;refine tEx ?_;refine tEx ?_;refine blockK_here ?_;refine tNo ?_;refine sRg fun K' gd hK => ?_;go_simp;apply hK;clear hK K' gd;refine Wp.keep [8] ?_;rintro r22 ⟨bh,-⟩;simp [go_sem,aB,aO,aY,ac,aj] at bh;clear aB aO aY ac aj;refine Wp.ret ?_;refine endK_tmp Tryz.results100 (by decide) ?_;rw [bh];exact ⟨rfl,xw⟩
theorem roundDates_c (t : Tr) (on : List Int) (m n L : Nat) (x : Int) (v sv ov uv : Value) (w : World) (h : OnsR on m n L) (h0 : 0 ≤ x) (h7 : x ≤ 730) (hm : on.length = m) (hvv : ∃ cs,v = .agg cs ∧ cs.size = 3) (hS : SheetV w w.heap.size sv (shR on m n L)) (hO : IntsV w w.heap.size ov on) (hU : CopyV w w.heap.size uv (copyR on m L x x x)) :
  CallsV Tryz.prog 27 #[v,sv,ov,uv,.int .i64 x] w fun v' w' => v' = .bool true ∧ Ext w w' := by
 obtain ⟨wv,av,rfl,⟨A3,c3,rfl,-,-⟩,⟨A4,c4,rfl,-,-⟩⟩ := id hS;obtain ⟨cv,rfl,hC⟩ := id hU;obtain ⟨A5,c5,rfl,-,-⟩ := id hC;obtain ⟨A6,c6,rfl,-,-⟩ := id hO;obtain ⟨vs,rfl,hvs⟩ := hvv
 obtain ⟨v0,v1,v2,rfl⟩ : ∃ v0 v1 v2,vs = #[v0,v1,v2] := by
  obtain ⟨l⟩ := vs
  match l,hvs with
  | [a,b,c],_ => exact ⟨a,b,c,rfl⟩
 have hCS : IntsS w w.heap.size (.slice A5 (copyR on m L x x x).words.length c5) (copyR on m L x x x).words := ⟨hC⟩;have hOS : IntsS w w.heap.size (.slice A6 on.length c6) on := ⟨hO⟩;obtain ⟨F,K,hF,hKq,hbe,hFl,hKl,hFK,hFK0⟩ := free_R h h0 h7;have hwl : ∃ _u : Unit,(shR on m n L).words.length = L := ⟨(),wordsR_len m L⟩;have hmL := h.ml;have hL1 := h.L1;have hL15 := h.L15;have hrng := h.rng;clear hC hO hvs;replace hFl : ∃ _u : Unit,_ := ⟨(),hFl⟩;replace hKl : ∃ _u : Unit,_ := ⟨(),hKl⟩;replace hFK : ∃ _u : Unit,_ := ⟨(),hFK⟩;replace hFK0 : ∃ _u : Unit,_ := ⟨(),hFK0⟩;replace hm : ∃ _u : Unit,_ := ⟨(),hm⟩;replace hrng : ∃ _u : Unit,_ := ⟨(),hrng⟩;rw [hm.choose_spec] at hOS ⊢;refine Wp.fn Tryz.func27 rfl Tryz.ntmps27 (by simp) ?_;have xw := Ext.refl w;refine Wp.keep [0,1,2,3,4] ?_;rintro r1 ⟨af,b0,b2,cu,cB,-⟩;simp [go_sem] at af b0 b2 cu cB;refine sRg fun K' gd hK => ?_;refine Wops.cut 1 fun K1 hK1 => ?_;simp only [tSC,tZ];go_simp;apply hK1;clear hK1 K1;simp only [dSC,dZ];refine Wops.absA fun es n5 N => ?_;obtain ⟨q5,N,s5,eq,f5,r5⟩ := N;try simp only [q5] at eq f5 r5 ⊢
 replace hCS := hCS.ext N;replace hOS := hOS.ext N;replace xw := xw.trans N;clear eq N;clear r5;refine Wops.cut 1 fun K1 hK1 => ?_;simp only [tSC,tZ];go_simp;apply hK1;clear hK1 K1;simp only [dSC,dZ];refine Wops.absA fun et n6 O => ?_;obtain ⟨q6,O,s6,ae,f6,r6⟩ := O;try simp only [q6] at ae f6 r6 ⊢
 replace hCS := hCS.ext O;replace hOS := hOS.ext O;replace xw := xw.trans O;have d := ae 0 _ rfl;have e := ae 1 _ rfl;clear ae O;clear r6;refine Wops.cut 1 fun K1 hK1 => ?_;simp only [tSC,tZ];go_simp;apply hK1;clear hK1 K1;simp only [dSC,dZ];refine Wops.absA fun eu n8 G => ?_;obtain ⟨q8,G,s8,Q,f8,r8⟩ := G;try simp only [q8] at Q f8 r8 ⊢
 replace hCS := hCS.ext G;replace hOS := hOS.ext G;replace xw := xw.trans G;replace d := G.cell d;replace e := G.cell e;have ew := Q 0 _ rfl;have ex := Q 1 _ rfl;have ey := Q 2 _ rfl;have ez := Q 3 _ rfl;clear Q G;clear r8;go_simp;apply hK;clear hK K' gd;refine Wp.keep [2,4,6,8] ?_;rintro r2 ⟨cd,cJ,dl,dH,-⟩;simp [go_sem,af,b0,b2,cu,cB] at cd cJ dl dH;clear af b0 b2 cu cB;refine sRg fun K' gd hK => ?_;refine Wops.cut 3 fun K1 hK1 => ?_;simp only [tSC,tZ];go_simp;apply hK1;clear hK1 K1;simp only [dSC,dZ];refine Wops.absA fun er n11 E => ?_;obtain ⟨q11,E,s11,P,f11,r11⟩ := E;try simp only [q11] at P f11 r11 ⊢
 replace hCS := hCS.ext E;replace hOS := hOS.ext E;replace xw := xw.trans E;replace d := E.cell d;replace e := E.cell e;have C := P 0 _ rfl;have f := P 1 _ rfl;have g := P 2 _ rfl;have D := P 3 _ rfl;clear P E;clear r11;try simp only [Wops_nil,updO_some,updO_none]
 apply hK;clear hK K' gd;refine Wp.keep [2,4,6,11] ?_;rintro r3 ⟨cl,cR,dv,ax,-⟩;simp [go_sem,cd,cJ,dl,dH] at cl cR dv ax;clear cd cJ dl dH;refine sRg fun K' gd hK => ?_;refine Wops.cut 2 fun K1 hK1 => ?_;simp only [tSC,tZ];go_simp;apply hK1;clear hK1 K1;simp only [dSC,dZ];refine Wops.absS (b := n11) (i := 1) [_] (somes [cellVal f] (by simp) (by intro j v hj;match j,hj with | 0,hj => (simp at hj;subst hj;exact f))) fun P5 hP5 => ?_;replace f11 := hP5.frz f11;replace hCS := hCS.put hP5 (by omega);replace hOS := hOS.put hP5 (by omega);replace xw := Put.to xw hP5 (by omega);replace d := hP5.cell d (by omega);replace e := hP5.cell e (by omega);replace C := Put.cellOff hP5 C (by simp);clear f;replace g := Put.cellOff hP5 g (by simp);replace D := Put.cellOff hP5 D (by simp);have f := hP5.new 0 _ rfl;try simp only [Nat.reduceAdd,Nat.zero_add,Nat.add_zero] at f
 clear hP5;try simp only [Wops_nil,updO_some,updO_none]
 apply hK;clear hK K' gd;refine Wp.keep [2,4,6,11] ?_;rintro r4 ⟨cp,cY,dC,aE,-⟩;simp [go_sem,cl,cR,dv,ax] at cp cY dC aE;clear cl cR dv ax;refine sRg fun K' gd hK => ?_;refine Wops.cut 2 fun K1 hK1 => ?_;simp only [tSC,tZ];go_simp;apply hK1;clear hK1 K1;simp only [dSC,dZ];refine Wops.absS (b := n11) (i := 2) [_] (somes [cellVal g] (by simp) (by intro j v hj;match j,hj with | 0,hj => (simp at hj;subst hj;exact g))) fun P6 hP6 => ?_;replace hCS := hCS.put hP6 (by omega);replace hOS := hOS.put hP6 (by omega);replace xw := Put.to xw hP6 (by omega);replace d := hP6.cell d (by omega);replace e := hP6.cell e (by omega);replace C := Put.cellOff hP6 C (by simp);clear g;replace D := Put.cellOff hP6 D (by simp);replace f := Put.cellOff hP6 f (by simp);have g := hP6.new 0 _ rfl;try simp only [Nat.reduceAdd,Nat.zero_add,Nat.add_zero] at g
 clear hP6;try simp only [Wops_nil,updO_some,updO_none]
 apply hK;clear hK K' gd;refine Wp.keep [2,4,6,11] ?_;rintro r5 ⟨cq,c0,dE,aG,-⟩;simp [go_sem,cp,cY,dC,aE] at cq c0 dE aG;clear cp cY dC aE;refine sRg fun K' gd hK => ?_;go_simp;apply hK;clear hK K' gd;refine Wp.keep [2,4,6,11,12] ?_;rintro r6 ⟨cr,c1,dF,aH,a4,-⟩;simp [go_sem,cq,c0,dE,aG] at cr c1 dF aH a4;clear cq c0 dE aG;refine sRg fun K' gd hK => ?_;go_simp;apply hK;clear hK K' gd;refine Wp.keep [2,4,6,11,12,13] ?_;rintro r7 ⟨ct,c2,dG,aI,a5,br,-⟩;simp [go_sem,cr,c1,dF,aH,a4] at ct c2 dG aI a5 br;clear cr c1 dF aH a4;refine Wp.seq ?_;refine sRg fun K' gd hK => ?_;go_simp;apply hK;clear hK K' gd;refine Wp.keep [2,4,6,11,12,13,14] ?_;rintro r8 ⟨I,J,M,H,dW,d4,ea,-⟩;simp [go_sem,ct,c2,dG,aI,a5,br] at I J M H dW d4 ea;clear ct c2 dG aI a5 br;refine Wp.block ?_;refine Wp.loop (fun k ρ ds wk => AllEq [2,4,6,11] ρ r8 ∧ ds = [] ∧ (Ext P6 wk) ∧ (ρ 14 = .int .i64 (k : Int) ∧ ρ 12 = .int .i64 (loR on x k) ∧ ρ 13 = .int .i64 (hiR on x k))) (m) ?_ ?_
 ·refine ⟨AllEq.refl _ _,rfl,Ext.refl _,?_⟩;exact ⟨by rw [ea];rfl,by rw [dW];rfl,by rw [d4];rfl⟩
 ·rintro k r9 _ wk hk ⟨hA,rfl,xl7,⟨e14,e12,e13⟩⟩;obtain ⟨Y,aa,ac,S,-⟩ := hA;rw [I] at Y;rw [J] at aa;rw [M] at ac;rw [H] at S;replace hCS := hCS.ext xl7;replace hOS := hOS.ext xl7;replace xw := Ext.trans xw xl7;replace d := Ext.cell xl7 d;replace e := Ext.cell xl7 e;replace C := Ext.cell xl7 C;replace D := Ext.cell xl7 D;replace f := Ext.cell xl7 f;replace g := Ext.cell xl7 g
  by_cases hkm : k < m
  ·skip;have hkm2 : (k : Int) < (m : Int) := by omega
   obtain ⟨b,o,cc,ev,hb,hcc⟩ := hOS.v.get (show k < on.length by rw [hm.choose_spec];exact hkm)
   injection ev with ev1 ev0 ev2
   clear ev0;subst ev1;subst ev2;have d1 := hcc k (by rw [hm.choose_spec];exact hkm);clear hcc;have hrk := hrng.choose_spec k hkm;have hn60 := h.n60;have hlk := (loR_spec on x h0 k).1;have huk := (hiR_spec on x h7 k).1;obtain ⟨a,ha⟩ : ∃ a,∃ _u : Unit,gI on k = a := ⟨_,(),rfl⟩;obtain ⟨lo,hlo⟩ : ∃ lo,∃ _u : Unit,loR on x k = lo := ⟨_,(),rfl⟩;obtain ⟨hi,hhi⟩ : ∃ hi,∃ _u : Unit,hiR on x k = hi := ⟨_,(),rfl⟩;have hl1 : ∃ _u : Unit,loR on x (k + 1) = if 0 ≤ a ∧ a < x then max lo (a + 1) else lo := ⟨(),by rw [← ha.choose_spec,← hlo.choose_spec];rfl⟩;have hh1 : ∃ _u : Unit,hiR on x (k + 1) = if x ≤ a then min hi a else hi := ⟨(),by rw [← ha.choose_spec,← hhi.choose_spec];rfl⟩;rw [ha.choose_spec] at d1 hrk;rw [hlo.choose_spec] at e12 hlk;rw [hhi.choose_spec] at e13 huk;have hwa : IntKind.i64.wrap (a + 1) = a + 1 := IntWalk.i64_in _ (by omega);refine Wp.seq ?_;refine sRg fun K' gd hK => ?_;go_simp;apply hK;clear hK K' gd;refine Wp.keep [2,4,6,11,12,13,14,26] ?_;rintro r10 ⟨z,A,B,p,r,s,u,y,-⟩;simp [go_sem,Y,aa,ac,S,e12,e13,e14] at z A B p r s u y;clear Y aa ac S e12 e13 e14;refine cTt ?_
   by_cases ha0 : 0 ≤ a
   ·skip
    by_cases hax : a < x
    ·skip;have hax2 : ¬ x ≤ a := by omega
     by_cases hq : lo < a + 1
     ·skip;refine skN ?_;refine sBk ?_;refine Wp.seq ?_;refine sRh fun K' gd hK hg => ?_;have g5 : gd 5 = some 34 := hg 5;clear hg;go_simp;apply hK;clear hK K' gd g5;refine Wp.keep [2,4,6,11,12,13,14,41] ?_;rintro r11 ⟨b3,cC,de,ag,aJ,a6,bs,cw,-⟩;simp [go_sem,z,A,B,p,r,s,u,y] at b3 cC de ag aJ a6 bs cw;clear z A B p r s u y;refine cTt ?_;refine lRg fun K' gd hK => ?_;go_simp;apply hK;clear hK K' gd;refine Ends.keep [2,4,6,11,12,13,14] ?_;rintro r12 ⟨b4,cD,df,ah,aK,a7,bt,-⟩;simp [go_sem,b3,cC,de,ag,aJ,a6,bs,cw] at b4 cD df ah aK a7 bt;clear b3 cC de ag aJ a6 bs cw;refine Ends.mk ?_;refine tNo ?_;refine sRg fun K' gd hK => ?_;go_simp;apply hK;clear hK K' gd;refine Wp.keep [2,4,6,11,12,13,14,54] ?_;rintro r13 ⟨b5,cE,dg,ai,aL,a8,bu,c9,-⟩;simp [go_sem,b4,cD,df,ah,aK,a7,bt] at b5 cE dg ai aL a8 bu c9
      clear b4 cD df ah aK a7 bt;refine cFf ?_;refine Wp.skip ?_;refine bNo ?_;refine tNo ?_;refine lRg fun K' gd hK => ?_;go_simp;apply hK;clear hK K' gd;refine Ends.keep [2,4,6,11,12,13,14] ?_;rintro r14 ⟨eb,eg,el,dM,dR,dX,d5,-⟩;simp [go_sem,b5,cE,dg,ai,aL,a8,bu,c9] at eb eg el dM dR dX d5;clear b5 cE dg ai aL a8 bu c9;refine Ends.mk ?_;refine thenK_normal ⟨by omega,⟨by rw [eb,I],by rw [eg,J],by rw [el,M],by rw [dM,H],trivial⟩,rfl,xl7,?_⟩;exact ⟨by rw [d5,IntWalk.i64_in _ (by omega)];rfl,by rw [dR,hl1.choose_spec,if_pos ⟨ha0,hax⟩,Int.max_eq_right (by omega)],by rw [dX,hh1.choose_spec,if_neg hax2]⟩
     ·skip;refine skN ?_;refine sBk ?_;refine Wp.seq ?_;refine sRh fun K' gd hK hg => ?_;have g5 : gd 5 = some 34 := hg 5;clear hg;go_simp;apply hK;clear hK K' gd g5;refine Wp.keep [2,4,6,11,12,13,14,41] ?_;rintro r15 ⟨b6,cF,dh,aj,aM,a9,bv,cx,-⟩;simp [go_sem,z,A,B,p,r,s,u,y] at b6 cF dh aj aM a9 bv cx;clear z A B p r s u y;refine cTt ?_;refine lRg fun K' gd hK => ?_;go_simp;apply hK;clear hK K' gd;refine Ends.keep [2,4,6,11,12,13,14] ?_;rintro r16 ⟨b9,cG,di,ak,aN,ba,bw,-⟩;simp [go_sem,b6,cF,dh,aj,aM,a9,bv,cx] at b9 cG di ak aN ba bw;clear b6 cF dh aj aM a9 bv cx;refine Ends.mk ?_;refine tNo ?_;refine sRg fun K' gd hK => ?_;go_simp;apply hK;clear hK K' gd;refine Wp.keep [2,4,6,11,12,13,14,54] ?_;rintro r17 ⟨ca,cH,dj,al,aO,bb,bx,da,-⟩;simp [go_sem,b9,cG,di,ak,aN,ba,bw] at ca cH dj al aO bb bx da
      clear b9 cG di ak aN ba bw;refine cFf ?_;refine Wp.skip ?_;refine bNo ?_;refine tNo ?_;refine lRg fun K' gd hK => ?_;go_simp;apply hK;clear hK K' gd;refine Ends.keep [2,4,6,11,12,13,14] ?_;rintro r18 ⟨ec,eh,em,dN,dS,dY,d6,-⟩;simp [go_sem,ca,cH,dj,al,aO,bb,bx,da] at ec eh em dN dS dY d6;clear ca cH dj al aO bb bx da;refine Ends.mk ?_;refine thenK_normal ⟨by omega,⟨by rw [ec,I],by rw [eh,J],by rw [em,M],by rw [dN,H],trivial⟩,rfl,xl7,?_⟩;exact ⟨by rw [d6,IntWalk.i64_in _ (by omega)];rfl,by rw [dS,hl1.choose_spec,if_pos ⟨ha0,hax⟩,Int.max_eq_left (by omega)],by rw [dY,hh1.choose_spec,if_neg hax2]⟩
    ·skip;have hax2 : x ≤ a := by omega
     by_cases hq : a < hi
     ·skip;refine skN ?_;refine sBk ?_;refine Wp.seq ?_;refine sRh fun K' gd hK hg => ?_;have g5 : gd 5 = some 34 := hg 5;clear hg;go_simp;apply hK;clear hK K' gd g5;refine Wp.keep [2,4,6,11,12,13,14,41] ?_;rintro r19 ⟨cb,cI,dk,am,aP,bc,bz,cy,-⟩;simp [go_sem,z,A,B,p,r,s,u,y] at cb cI dk am aP bc bz cy;clear z A B p r s u y;refine cFf ?_;refine skN ?_;refine sRg fun K' gd hK => ?_;go_simp;apply hK;clear hK K' gd;refine Wp.keep [2,4,6,11,12,13,14,54] ?_;rintro r20 ⟨ce,cK,dm,an,aQ,bd,bA,db,-⟩;simp [go_sem,cb,cI,dk,am,aP,bc,bz,cy] at ce cK dm an aQ bd bA db;clear cb cI dk am aP bc bz cy;refine cTt ?_;refine lRg fun K' gd hK => ?_;go_simp;apply hK;clear hK K' gd;refine Ends.keep [2,4,6,11,12,13,14] ?_;rintro r21 ⟨cf,cL,dn,ao,aR,be,bB,-⟩;simp [go_sem,ce,cK,dm,an,aQ,bd,bA,db] at cf cL dn ao aR be bB
      clear ce cK dm an aQ bd bA db;refine Ends.mk ?_;refine bNo ?_;refine tNo ?_;refine lRg fun K' gd hK => ?_;go_simp;apply hK;clear hK K' gd;refine Ends.keep [2,4,6,11,12,13,14] ?_;rintro r22 ⟨ed,ei,en,dO,dT,d0,d7,-⟩;simp [go_sem,cf,cL,dn,ao,aR,be,bB] at ed ei en dO dT d0 d7;clear cf cL dn ao aR be bB;refine Ends.mk ?_;refine thenK_normal ⟨by omega,⟨by rw [ed,I],by rw [ei,J],by rw [en,M],by rw [dO,H],trivial⟩,rfl,xl7,?_⟩;exact ⟨by rw [d7,IntWalk.i64_in _ (by omega)];rfl,by rw [dT,hl1.choose_spec,if_neg fun q => hax q.2],by rw [d0,hh1.choose_spec,if_pos hax2,Int.min_eq_right (by omega)]⟩
     ·skip;refine skN ?_;refine sBk ?_;refine Wp.seq ?_;refine sRh fun K' gd hK hg => ?_;have g5 : gd 5 = some 34 := hg 5;clear hg;go_simp;apply hK;clear hK K' gd g5;refine Wp.keep [2,4,6,11,12,13,14,41] ?_;rintro r23 ⟨cg,cM,dp,ap,aS,bf,bC,cz,-⟩;simp [go_sem,z,A,B,p,r,s,u,y] at cg cM dp ap aS bf bC cz;clear z A B p r s u y;refine cFf ?_;refine skN ?_;refine sRg fun K' gd hK => ?_;go_simp;apply hK;clear hK K' gd;refine Wp.keep [2,4,6,11,12,13,14,54] ?_;rintro r24 ⟨ch,cN,dq,aq,aT,bg,bD,dc,-⟩;simp [go_sem,cg,cM,dp,ap,aS,bf,bC,cz] at ch cN dq aq aT bg bD dc;clear cg cM dp ap aS bf bC cz;refine cTt ?_;refine lRg fun K' gd hK => ?_;go_simp;apply hK;clear hK K' gd;refine Ends.keep [2,4,6,11,12,13,14] ?_;rintro r25 ⟨ci,cO,dr,ar,aU,bh,bE,-⟩;simp [go_sem,ch,cN,dq,aq,aT,bg,bD,dc] at ci cO dr ar aU bh bE
      clear ch cN dq aq aT bg bD dc;refine Ends.mk ?_;refine bNo ?_;refine tNo ?_;refine lRg fun K' gd hK => ?_;go_simp;apply hK;clear hK K' gd;refine Ends.keep [2,4,6,11,12,13,14] ?_;rintro r26 ⟨ee,ej,eo,dP,dU,d2,d8,-⟩;simp [go_sem,ci,cO,dr,ar,aU,bh,bE] at ee ej eo dP dU d2 d8;clear ci cO dr ar aU bh bE;refine Ends.mk ?_;refine thenK_normal ⟨by omega,⟨by rw [ee,I],by rw [ej,J],by rw [eo,M],by rw [dP,H],trivial⟩,rfl,xl7,?_⟩;exact ⟨by rw [d8,IntWalk.i64_in _ (by omega)];rfl,by rw [dU,hl1.choose_spec,if_neg fun q => hax q.2],by rw [d2,hh1.choose_spec,if_pos hax2,Int.min_eq_left (by omega)]⟩
   ·skip;have hax2 : ¬ x ≤ a := by omega
    refine skN ?_;refine sBk ?_;refine Wp.seq ?_;refine sRh fun K' gd hK hg => ?_;have g5 : gd 5 = some 34 := hg 5;clear hg;go_simp;apply hK;clear hK K' gd g5;refine Wp.keep [2,4,6,11,12,13,14,41] ?_;rintro r27 ⟨cj,cP,dt,au,aV,bi,bF,cA,-⟩;simp [go_sem,z,A,B,p,r,s,u,y] at cj cP dt au aV bi bF cA;clear z A B p r s u y;refine cFf ?_;refine skN ?_;refine sRg fun K' gd hK => ?_;go_simp;apply hK;clear hK K' gd;refine Wp.keep [2,4,6,11,12,13,14,54] ?_;rintro r28 ⟨ck,cQ,du,aw,aW,bj,bG,dd,-⟩;simp [go_sem,cj,cP,dt,au,aV,bi,bF,cA] at ck cQ du aw aW bj bG dd;clear cj cP dt au aV bi bF cA;refine cFf ?_;refine Wp.skip ?_;refine bNo ?_;refine tNo ?_;refine lRg fun K' gd hK => ?_;go_simp;apply hK;clear hK K' gd;refine Ends.keep [2,4,6,11,12,13,14] ?_;rintro r29 ⟨ef,ek,ep,dQ,dV,d3,d9,-⟩
    simp [go_sem,ck,cQ,du,aw,aW,bj,bG,dd] at ef ek ep dQ dV d3 d9;clear ck cQ du aw aW bj bG dd;refine Ends.mk ?_;refine thenK_normal ⟨by omega,⟨by rw [ef,I],by rw [ek,J],by rw [ep,M],by rw [dQ,H],trivial⟩,rfl,xl7,?_⟩;exact ⟨by rw [d9,IntWalk.i64_in _ (by omega)];rfl,by rw [dV,hl1.choose_spec,if_neg fun q => ha0 q.1],by rw [d3,hh1.choose_spec,if_neg hax2]⟩
  ·skip;have hkm2 : ¬ (k : Int) < (m : Int) := by omega
   have hkk : ∃ _u : Unit,k = m := ⟨(),by omega⟩;rw [hkk.choose_spec] at e12 e13;refine Wp.seq ?_;refine sRg fun K' gd hK => ?_;go_simp;apply hK;clear hK K' gd;refine Wp.keep [2,4,6,11,12,13,14,26] ?_;rintro r30 ⟨cm,cS,dw,ay,aX,bk,bH,b1,-⟩;simp [go_sem,Y,aa,ac,S,e12,e13,e14] at cm cS dw ay aX bk bH b1;clear Y aa ac S e12 e13 e14;refine cFf ?_;refine Wp.exit ?_;refine tEx ?_;refine tEx ?_;refine blockK_here ?_;refine tNo ?_;refine sRg fun K' gd hK => ?_;refine Wops.cut 3 fun K1 hK1 => ?_;simp only [tSC,tZ];go_simp;refine Wcall (.inl rfl) (First_c _ _ (shR on m n L) (copyR on m L x 0 730) _ (hS.ext xw) ⟨_,rfl,hCS.v.more (Below.size (XE))⟩ h.fit (h.fitC x 0 730)) ?_;rintro v w3 ⟨tv,hv,hT,hE⟩;rw [hbe] at hv hT;rw [if_pos rfl,hF] at hT;obtain ⟨A7,c7,rfl⟩ := hT.slice;subst hv;have hTS : IntsS w3 w3.heap.size (.slice A7 F.length c7) F := ⟨hT.ints⟩;clear hT;go_simp;apply hK1;clear hK1 K1;simp only [dSC,dZ];replace hCS := hCS.ext hE;replace xw := xw.trans hE;replace xl7 := xl7.trans hE;replace d := hE.cell d;replace e := hE.cell e;replace C := hE.cell C;replace D := hE.cell D
   replace f := hE.cell f;replace g := hE.cell g;clear hE;go_simp;apply hK;clear hK K' gd;refine Wp.keep [2,4,6,11,12,13,15,16] ?_;rintro r32 ⟨cn,cT,dx,az,aY,bl,bI,bO,-⟩;simp [go_sem,cm,cS,dw,ay,aX,bk,bH,b1] at cn cT dx az aY bl bI bO;clear cm cS dw ay aX bk bH b1;refine sRg fun K' gd hK => ?_;refine Wops.cut 3 fun K1 hK1 => ?_;simp only [tSC,tZ];go_simp;refine Wcall (.inl rfl) (Last_c _ _ (shR on m n L) (copyR on m L x 0 730) _ (hS.ext xw) ⟨_,rfl,hCS.v.more (Below.size (XE))⟩ h.fit (h.fitC x 0 730)) ?_;rintro v w4 ⟨tv,hv,hT,hE⟩;rw [hbe] at hv hT;rw [if_pos rfl,hKq] at hT;obtain ⟨A8,c8,rfl⟩ := hT.slice;subst hv;have hUS : IntsS w4 w4.heap.size (.slice A8 K.length c8) K := ⟨hT.ints⟩;clear hT;go_simp;apply hK1;clear hK1 K1;simp only [dSC,dZ];replace hCS := hCS.ext hE;replace hTS := hTS.ext hE;replace xw := xw.trans hE;replace xl7 := xl7.trans hE;replace d := hE.cell d;replace e := hE.cell e;replace C := hE.cell C;replace D := hE.cell D;replace f := hE.cell f;replace g := hE.cell g;clear hE;go_simp;apply hK;clear hK K' gd;refine Wp.keep [2,4,6,11,12,13,15,16,17,18] fun r34 hkeep => ?_
   obtain ⟨co,cU,dy,aA,aZ,bm,bJ,bP,bQ,bV,-⟩ := hkeep;simp [go_sem,cn,cT,dx,az,aY,bl,bI,bO] at co cU dy aA aZ bm bJ bP bQ bV;clear cn cT dx az aY bl bI bO;have hq1 : (F.length : Int) = ((shR on m n L).words.length : Int) := (by rw [hFl.choose_spec,hwl.choose_spec]);have hq2 : (K.length : Int) = ((shR on m n L).words.length : Int) := (by rw [hKl.choose_spec,hwl.choose_spec]);refine Wp.seq ?_;refine sRh fun K' gd hK hg => ?_;have g2 : gd 2 = some 75 := hg 2;have g6 : gd 6 = some 79 := hg 6;have g14 : gd 14 = some 87 := hg 14;clear hg;go_simp;apply hK;clear hK K' gd g2 g6 g14;refine Wp.keep [2,4,6,11,12,13,15,17,94] ?_;rintro r35 ⟨X,Z,ab,R,T,U,V,W,ad,-⟩;simp [go_sem,co,cU,dy,aA,aZ,bm,bJ,bP,bQ,bV] at X Z ab R T U V W ad;clear co cU dy aA aZ bm bJ bP bQ bV;refine cFf ?_;clear hq1 hq2;have hF0 : 0 < F.length := (by rw [hFl.choose_spec];omega);have hK0 : 0 < K.length := (by rw [hKl.choose_spec];omega);have hFm : m - 1 < F.length := (by rw [hFl.choose_spec];omega);have hKm : L - 1 < K.length := (by rw [hKl.choose_spec];omega);have hFm2 : ((m - 1 : Nat) : Int) < (F.length : Int) := by omega
   have hKm2 : ((L - 1 : Nat) : Int) < (K.length : Int) := by omega
   obtain ⟨b7,o7,cc7,ev,hb7,hcc⟩ := hTS.v.get hF0
   injection ev with ev1 _ ev2
   subst ev1;subst ev2;have f0 := hcc 0 hF0;simp only [Nat.add_zero] at f0;have fm := hcc (m - 1) hFm;clear hcc;obtain ⟨b8,o8,cc8,ev,hb8,hcc⟩ := hUS.v.get hK0
   injection ev with ev1 _ ev2
   subst ev1;subst ev2;have k0 := hcc 0 hK0;simp only [Nat.add_zero] at k0;have km := hcc (L - 1) hKm;clear hcc;have hwK : IntKind.i64.wrap ((K.length : Int) - 1) = ((L - 1 : Nat) : Int) := (by rw [hKl.choose_spec,IntWalk.i64_in _ (by omega)];omega);have g0 := hFK.choose_spec 0 (by omega);have gm := hFK.choose_spec (m - 1) (by omega)
   by_cases hm0 : m = 0
   ·skip;have hm02 : (m : Int) = 0 := by omega
    obtain ⟨p1,p2⟩ := hFK0.choose_spec hm0;rw [p1] at f0;rw [p2] at km;clear p1 p2 g0 gm;refine skN ?_;refine sRg fun K' gd hK => ?_;go_simp;apply hK;clear hK K' gd;refine Wp.keep [4,6,11,12,13,15,17,19] ?_;rintro r36 ⟨cV,dz,aB,a0,bn,bK,bR,bW,-⟩;simp [go_sem,X,Z,ab,R,T,U,V,W,ad] at cV dz aB a0 bn bK bR bW;clear X Z ab R T U V W ad;refine Wp.seq ?_;refine sRg fun K' gd hK => ?_;go_simp;apply hK;clear hK K' gd;refine Wp.keep [4,6,11,12,13,15,17,19,98] ?_;rintro r37 ⟨cW,dA,aC,a1,bo,bL,bS,bX,dI,-⟩;simp [go_sem,cV,dz,aB,a0,bn,bK,bR,bW] at cW dA aC a1 bo bL bS bX dI;clear cV dz aB a0 bn bK bR bW;refine cTt ?_;refine sRh fun K' gd hK hg => ?_;have g4 : gd 4 = some 103 := hg 4;clear hg;go_simp;apply hK;clear hK K' gd g4;refine Wp.keep [10] ?_;rintro r38 ⟨dK,-⟩;simp [go_sem,cW,dA,aC,a1,bo,bL,bS,bX,dI] at dK;clear cW dA aC a1 bo bL bS bX dI
    refine Wp.ret ?_;refine tRe ?_;refine endK_tmp Tryz.results27 (by decide) ?_;rw [dK];exact ⟨rfl,xw⟩
   ·skip;have hm02 : ¬ (m : Int) = 0 := by omega
    have hwm : IntKind.i64.wrap ((m : Int) - 1) = ((m - 1 : Nat) : Int) := (by rw [IntWalk.i64_in _ (by omega)];omega);have p1 := gm.1;have p2 := gm.2.1;have p3 := g0.2.2.1;have p4 := g0.2.2.2.1;clear g0 gm;refine skN ?_;refine sRg fun K' gd hK => ?_;go_simp;apply hK;clear hK K' gd;refine Wp.keep [4,6,11,12,13,15,17,19] ?_;rintro r39 ⟨cX,dB,aD,a2,bp,bM,bT,bY,-⟩;simp [go_sem,X,Z,ab,R,T,U,V,W,ad] at cX dB aD a2 bp bM bT bY;clear X Z ab R T U V W ad;refine Wp.seq ?_;refine sRg fun K' gd hK => ?_;go_simp;apply hK;clear hK K' gd;refine Wp.keep [4,6,11,12,13,15,17,19,98] ?_;rintro r40 ⟨cZ,dD,aF,a3,bq,bN,bU,bZ,dJ,-⟩;simp [go_sem,cX,dB,aD,a2,bp,bM,bT,bY] at cZ dD aF a3 bq bN bU bZ dJ;clear cX dB aD a2 bp bM bT bY;refine cFf ?_;refine skN ?_;refine sRh fun K' gd hK hg => ?_;have g7 : gd 7 = some 119 := hg 7;have g14 : gd 14 = some 126 := hg 14;have g23 : gd 23 = some 135 := hg 23
    have g29 : gd 29 = some 141 := hg 29;clear hg;refine Wops.cut 35 fun K1 hK1 => ?_;simp only [tSC,tZ];go_simp;refine Wcall (.inl rfl) (roundOnce_c on m n L x _ _ _ h h0 h7 (hS.ext xw) ⟨_,rfl,hCS.v.more (Below.size (XE))⟩) ?_;rintro v w5 ⟨rfl,hE⟩;go_simp;apply hK1;clear hK1 K1;simp only [dSC,dZ];replace xw := xw.trans hE;replace xl7 := xl7.trans hE;clear hE;go_simp;apply hK;clear hK K' gd g7 g14 g23 g29;refine Wp.keep [10] ?_;rintro r42 ⟨dL,-⟩;simp [go_sem,cZ,dD,aF,a3,bq,bN,bU,bZ,dJ] at dL;clear cZ dD aF a3 bq bN bU bZ dJ;refine Wp.ret ?_;refine endK_tmp Tryz.results27 (by decide) ?_;rw [dL];exact ⟨rfl,xw⟩
end Go.Proofs.YtnklbepeoicgpaaGreat.St
namespace Go.Proofs.YtnklbepeoicgpaaGreat.St
open Go.RowKit Go.Wk Go.Proofs
attribute [local irreducible] Go.Wk.Wops Go.Wk.Wp Go.Wk.Mtree Go.Wk.Mops
set_option maxHeartbeats 8000000
set_option maxRecDepth 20000
def exR : Tr := ⟨3,[1,2],[⟨1,0,1,2⟩,⟨2,0,2,5⟩]⟩
theorem exR_row {W : World} {b : Nat} {ty : TypeId} (hR : RowC W b ty [.int .i64 1,.int .i64 0,.int .i64 1,.int .i64 2,.int .i64 2,.int .i64 0,.int .i64 2,.int .i64 5])
  (i : Nat) (hi : i < exR.fl.length) (r : Nat) (u : Value) (hu : (Go.Proofs.YtnklbepeoicgpaaGreat.encF exR.fl[i])[r]? = some u) : W.cell? ⟨b,0 + i * 4 + r,none⟩ = some u := by
 have h2 : i < 2 := hi
 have h4 : r < 4 := by
  have := (List.getElem?_eq_some_iff.1 hu).1;exact this
 rw [hR.cell,← hu];have e1 : i = 0 ∨ i = 1 := by omega
 have e2 : r = 0 ∨ r = 1 ∨ r = 2 ∨ r = 3 := by omega
 rcases e1 with rfl | rfl <;> rcases e2 with rfl | rfl | rfl | rfl <;> rfl
theorem exR_fit : FitT exR := ⟨by decide,by decide⟩
theorem exR_chk : checkT exR = 0 := by decide +kernel
theorem exR_on : (wholeF exR exR.n.toNat (bestF exR exR.n.toNat)).on = [-1,0] := by decide +kernel
theorem exR_mt : (wholeF exR exR.n.toNat (bestF exR exR.n.toNat)).mt = 5 := by decide +kernel
theorem exR_fits : FitS (shR [-1,0] 2 3 2) := by unfold FitS;decide +kernel
theorem exR_r1 : readE (shR [-1,0] 2 3 2) 0 2 = 0 ∧ readsL ((shR [-1,0] 2 3 2).on ((0 : Int)).toNat 2) = [1001] := by decide +kernel
theorem exR_r2 : readE (shR [-1,0] 2 3 2) 1 2 = 0 ∧ readsL ((shR [-1,0] 2 3 2).on ((1 : Int)).toNat 2) = [2] := by decide +kernel
theorem exR_r3 : readE (shR [-1,0] 2 3 2) 1 0 = 0 ∧ readsL ((shR [-1,0] 2 3 2).on ((1 : Int)).toNat 0) = [1002] := by decide +kernel
theorem roundHead_c (w : World) : CallsV Tryz.prog 16 #[] w fun v w' => v = .bool true ∧ Ext w w' := by
 refine Wp.fn Tryz.func16 rfl Tryz.ntmps16 (by simp) ?_;have xw := Ext.refl w;refine Wp.keep [] fun r1 hkeep => ?_;clear hkeep;refine sRg fun K' gd hK => ?_;go_simp;apply hK;clear hK K' gd;refine Wp.keep [] fun r2 hkeep => ?_;clear hkeep;refine sRg fun K' gd hK => ?_;refine cu1 fun K1 hK1 => ?_;go_simp;apply hK1;clear hK1 K1;refine Wops.absT fun X n11 m R11 => ?_;obtain ⟨q11,m,s11,V,f11,r11⟩ := m;try simp only [q11] at V f11 r11 ⊢
 replace R11 := (show RowC _ _ _ _ from R11);replace xw := xw.trans m;clear m f11;clear V;refine cu5 fun K1 hK1 => ?_;go_simp;apply hK1;clear hK1 K1;refine Wops.absT fun Y n16 f R16 => ?_;obtain ⟨q16,f,s16,W,f16,r16⟩ := f;try simp only [q16] at W f16 r16 ⊢
 replace R16 := (show RowC _ _ _ _ from R16);replace R11 := R11.ext f;replace xw := xw.trans f;clear f f16;clear W;refine cu3 fun K1 hK1 => ?_;go_simp;apply hK1;clear hK1 K1;refine Wops.absT fun p n1 b R1 => ?_;obtain ⟨q1,b,s1,g,f1,r1⟩ := b;try simp only [q1] at g f1 r1 ⊢
 replace R11 := R11.ext b;replace R16 := R16.ext b;replace xw := xw.trans b;have h := g 0 _ rfl;have i := g 1 _ rfl;have j := g 2 _ rfl;clear g b;clear r1;try simp only [Wops_nil,updO_some,updO_none]
 apply hK;clear hK K' gd;refine Wp.keep [1] ?_;rintro r3 ⟨r,-⟩;simp [go_sem] at r;have hT : TourV p p.heap.size (.agg #[.int .i64 3,.slice (some ⟨n11,0,none⟩) 2 2,.slice (some ⟨n16,0,none⟩) 2 2]) exR := ⟨_,_,rfl,rowC_ints R11 rfl rfl,⟨_,2,rfl,fun _ => ⟨n16,0,rfl,R16.lt,exR_row R16⟩,Nat.le_refl _⟩⟩;have xt := Ext.refl p;refine sRg fun K' gd hK => ?_;refine cu2 fun K1 hK1 => ?_;go_simp;refine Wcall (.inl rfl) (Best_c exR _ _ (hT.ext xt) exR_fit (fun _ => by decide)) ?_;rintro v w3 ⟨⟨mv,hv,hB,-⟩,hE⟩;rw [exR_chk] at hv;subst hv;have hM := hB exR_chk;clear hB;obtain ⟨xv,zv,hmv,hIm,hZm⟩ := hM.ex;clear hM;rw [exR_mt] at hmv;subst hmv;rw [exR_on] at hIm;obtain ⟨bm,om,cm,hxv,hcm,hbm⟩ := IntsB.open' hIm (by decide);have hxv : xv = .slice (some ⟨bm,om,none⟩) 2 cm := hxv;subst hxv;obtain ⟨Az,nz,cz,rfl⟩ : ∃ A n c,zv = .slice A n c := by obtain ⟨A,c,e⟩ := hZm.slice;exact ⟨A,_,c,e⟩
 clear hZm hcm;go_simp;apply hK1;clear hK1 K1;replace xw := xw.trans hE;replace xt := xt.trans hE;replace h := hE.cell h;replace i := hE.cell i;replace j := hE.cell j;clear hE;refine cu5 fun K1 hK1 => ?_;go_simp;apply hK1;clear hK1 K1;refine Wops.absT fun Z n2 a R2 => ?_;obtain ⟨q2,a,s2,T,f2,r2⟩ := a;try simp only [q2] at T f2 r2 ⊢
 replace hIm := hIm.ext a;replace xw := xw.trans a;replace xt := xt.trans a;replace h := a.cell h;replace i := a.cell i;replace j := a.cell j;have ab := T 0 _ rfl;clear T a;clear r2;go_simp;apply hK;clear hK K' gd;refine Wp.keep [1,2,3] ?_;rintro r5 ⟨s,u,y,-⟩;simp [go_sem,r] at s u y;clear r;have m0 := IntsB.cells' hIm 0 (by decide);have m1 := IntsB.cells' hIm 1 (by decide);simp only [Nat.add_zero] at m0;rw [show gI [-1,0] 0 = -1 from rfl] at m0;rw [show gI [-1,0] 1 = 0 from rfl] at m1;refine Wp.seq ?_;refine sRh fun K' gd hK hg => ?_;have g2 : gd 2 = some 25 := hg 2;have g8 : gd 8 = some 31 := hg 8;have g15 : gd 15 = some 38 := hg 15;clear hg;go_simp;apply hK;clear hK K' gd g2 g8 g15;refine Wp.keep [1,2,44] ?_;rintro r6 ⟨t,x,z,-⟩;simp [go_sem,s,u,y] at t x z;clear s u y;refine cFf ?_;refine skN ?_;refine sRg fun K' gd hK => ?_;refine cu4 fun K1 hK1 => ?_;go_simp;refine Wcall (.inl rfl) (roundSheet_c exR [-1,0] 2 3 2 _ _ _ (hT.ext xt) hIm.ints rfl rfl rfl (by decide) (by decide) (by decide) (by decide)) ?_;rintro v w4 ⟨⟨A7,c7,A8,c8,rfl⟩,hSh,hE⟩
 have xq := Ext.refl w4;go_simp;apply hK1;clear hK1 K1;replace xw := xw.trans hE;replace xt := xt.trans hE;clear hE;refine cu2 fun K1 hK1 => ?_;go_simp;apply hK1;clear hK1 K1;refine Wops.absT fun aa n4 d R4 => ?_;obtain ⟨q4,d,s4,o,f4,r4⟩ := d;try simp only [q4] at o f4 r4 ⊢
 replace xw := xw.trans d;replace xt := xt.trans d;replace xq := xq.trans d;have k := o 0 _ rfl;have l := o 1 _ rfl;clear o d;clear r4;try simp only [Wops_nil,updO_some,updO_none]
 apply hK;clear hK K' gd;refine Wp.keep [4] ?_;rintro r8 ⟨D,-⟩;simp [go_sem,t,x,z] at D;clear t x z;refine sRg fun K' gd hK => ?_;refine cu2 fun K1 hK1 => ?_;go_simp;refine Wcall (.inl rfl) (Reads_c _ (shR [-1,0] 2 3 2) 0 2 _ (hSh.ext xq) exR_fits) ?_;rintro v w5 ⟨tv,hv,hT5,hE⟩;rw [exR_r1.1] at hv hT5;rw [if_pos rfl,exR_r1.2] at hT5;subst hv;obtain ⟨b5,c5,hv5,hb5,hc5,hJ5⟩ := OwnI.rowJ hT5 (List.cons_ne_nil _ _);have hv5 : tv = .slice (some ⟨b5,0,none⟩) 1 c5 := hv5;subst hv5;have hRW5 : RowW w5 b5 [1001] := ⟨hJ5.c,hJ5.ne⟩;clear hT5 hJ5;go_simp;apply hK1;clear hK1 K1;replace xw := xw.trans hE;replace xt := xt.trans hE;replace xq := xq.trans hE;replace k := hE.cell k;replace l := hE.cell l;clear hE;go_simp;apply hK;clear hK K' gd;refine Wp.keep [4,5,6] ?_;rintro r10 ⟨B,E,I,-⟩;simp [go_sem,D] at B E I;clear D;refine sRg fun K' gd hK => ?_;refine cu2 fun K1 hK1 => ?_;go_simp;refine Wcall (.inl rfl) (Reads_c _ (shR [-1,0] 2 3 2) 1 2 _ (hSh.ext xq) exR_fits) ?_;rintro v w6 ⟨tv,hv,hT6,hE⟩;rw [exR_r2.1] at hv hT6
 rw [if_pos rfl,exR_r2.2] at hT6;subst hv;obtain ⟨b6,c6,hv6,hb6,hc6,hJ6⟩ := OwnI.rowJ hT6 (List.cons_ne_nil _ _);have hv6 : tv = .slice (some ⟨b6,0,none⟩) 1 c6 := hv6;subst hv6;have hRW6 : RowW w6 b6 [2] := ⟨hJ6.c,hJ6.ne⟩;clear hT6 hJ6;go_simp;apply hK1;clear hK1 K1;replace hRW5 := hRW5.ext hE;replace xw := xw.trans hE;replace xt := xt.trans hE;replace xq := xq.trans hE;replace k := hE.cell k;replace l := hE.cell l;clear hE;go_simp;apply hK;clear hK K' gd;refine Wp.keep [4,5,6,7,8] ?_;rintro r12 ⟨C,F,J,L,P,-⟩;simp [go_sem,B,E,I] at C F J L P;clear B E I;refine sRg fun K' gd hK => ?_;refine cu2 fun K1 hK1 => ?_;go_simp;refine Wcall (.inl rfl) (Reads_c _ (shR [-1,0] 2 3 2) 1 0 _ (hSh.ext xq) exR_fits) ?_;rintro v w7 ⟨tv,hv,hT7,hE⟩;rw [exR_r3.1] at hv hT7;rw [if_pos rfl,exR_r3.2] at hT7;subst hv;obtain ⟨b8,c8',hv7,hb7,hc7,hJ7⟩ := OwnI.rowJ hT7 (List.cons_ne_nil _ _);have hv7 : tv = .slice (some ⟨b8,0,none⟩) 1 c8' := hv7;subst hv7;have hRW7 : RowW w7 b8 [1002] := ⟨hJ7.c,hJ7.ne⟩;clear hT7 hJ7;go_simp;apply hK1;clear hK1 K1;replace hRW5 := hRW5.ext hE;replace hRW6 := hRW6.ext hE
 replace xw := xw.trans hE;replace xt := xt.trans hE;replace xq := xq.trans hE;clear hE;go_simp;apply hK;clear hK K' gd;refine Wp.keep [5,6,7,8,9,10] ?_;rintro r14 ⟨G,K,M,Q,R,q,-⟩;simp [go_sem,C,F,J,L,P] at G K M Q R q;clear C F J L P;refine Wp.seq ?_;refine sRh fun K' gd hK hg => ?_;have g2 : gd 2 = some 66 := hg 2;have g6 : gd 6 = some 70 := hg 6;have g10 : gd 10 = some 74 := hg 10;have g15 : gd 15 = some 79 := hg 15;have g20 : gd 20 = some 84 := hg 20;clear hg;go_simp;apply hK;clear hK K' gd g2 g6 g10 g15 g20;refine Wp.keep [5,7,9,88] ?_;rintro r15 ⟨H,N,S,O,-⟩;simp [go_sem,G,K,M,Q,R,q] at H N S O;clear G K M Q R q;refine cFf ?_;have z5 := hRW5.c 0 (by decide);have z6 := hRW6.c 0 (by decide);have z7 := hRW7.c 0 (by decide);rw [show gI [1001] 0 = 1001 from rfl] at z5;rw [show gI [2] 0 = 2 from rfl] at z6;rw [show gI [1002] 0 = 1002 from rfl] at z7;refine skN ?_;refine sRh fun K' gd hK hg => ?_;have g4 : gd 4 = some 93 := hg 4;have g10 : gd 10 = some 99 := hg 10;clear hg;go_simp;apply hK;clear hK K' gd g4 g10;refine Wp.keep [0] fun r16 hkeep => ?_
 obtain ⟨U,-⟩ := hkeep;simp [go_sem,H,N,S,O] at U;clear H N S O;refine Wp.ret ?_;refine endK_tmp Tryz.results16 (by decide) ?_;rw [U];exact ⟨rfl,xw⟩
end Go.Proofs.YtnklbepeoicgpaaGreat.St
namespace Go.Proofs.YtnklbepeoicgpaaGreat
open Go.RowKit Go.Wk Go.Proofs
attribute [local irreducible] Go.Wk.Wops Go.Wk.Wp Go.Wk.Mtree Go.Wk.Mops
set_option maxHeartbeats 8000000
set_option maxRecDepth 20000
theorem app_noneI (w : World) (ty : TypeId) (A : Option Addr) (n c k : Nat) (h : n ≤ c) : (Builtin.append_ #[22,22] ty #[.slice A n c,.slice none 0 k]).run Tryz.prog w = .ok (.slice A n c) w := by
 simp [Builtin.append_,go_sem,h]
 cases A <;> rfl
theorem own_cap {w : World} {base e size n c k : Nat} {A : Option Addr} {xs : List Value} (h : w.ownsRow base e size (.slice A n c) k xs) : n = k ∧ n ≤ c := by
 rcases h.2 with ⟨e,hn⟩ | ⟨g,cap,cur,e,hb,hg,hnc,-⟩
 ·injection e with e1 e2 e3;omega
 ·injection e with e1 e2 e3;subst e2;subst e3;exact ⟨rfl,hnc⟩
theorem app0I {w : World} {base c n k : Nat} {A : Option Addr} {xs : List Value} (ty : TypeId) (h : w.ownsRow base 3 1 (.slice A n c) k xs) :
  ∃ v' w',(Builtin.append_ #[22,22] ty #[.slice A n c,.slice none 0 0]).run Tryz.prog w = .ok v' w' ∧ w'.ownsRow base 3 1 v' k xs ∧ w.grownBy w' (Value.slice A n c).ownBlock ∧ True :=
 ⟨_,w,app_noneI w ty A n c 0 (own_cap h).2,h,⟨rfl,rfl,rfl,Nat.le_refl _,fun _ _ _ => rfl⟩,trivial⟩
theorem newsT {w : World} {b o : Nat} {l : List Int} (hc : ∀ k,k < l.length → w.cell? ⟨b,o + k,none⟩ = some (.int .i64 (gI l k))) (k : Nat) : ∀ q u,((l.take k).map (Value.int .i64))[q]? = some u → w.cell? ((⟨b,o,none⟩ : Addr).add q) = some u := by
 intro q u hu;rw [List.getElem?_map,List.getElem?_take] at hu
 by_cases hq : q < k
 ·rw [if_pos hq] at hu;obtain ⟨x,hx,rfl⟩ := Option.map_eq_some_iff.1 hu;obtain ⟨hql,hx2⟩ := List.getElem?_eq_some_iff.1 hx;rw [Addr.add_lit,hc q hql,gI_lt hql,hx2]
 ·rw [if_neg hq] at hu;cases hu
theorem newsD {w : World} {b o : Nat} {l : List Int} (hc : ∀ k,k < l.length → w.cell? ⟨b,o + k,none⟩ = some (.int .i64 (gI l k))) (k : Nat) : ∀ q u,((l.drop k).map (Value.int .i64))[q]? = some u → w.cell? ((⟨b,o + k,none⟩ : Addr).add q) = some u := by
 intro q u hu;rw [List.getElem?_map,List.getElem?_drop] at hu;obtain ⟨x,hx,rfl⟩ := Option.map_eq_some_iff.1 hu;obtain ⟨hql,hx2⟩ := List.getElem?_eq_some_iff.1 hx;rw [Addr.add_lit,Nat.add_assoc,hc (k + q) hql,gI_lt hql,hx2]
end Go.Proofs.YtnklbepeoicgpaaGreat
namespace Go.Proofs.YtnklbepeoicgpaaGreat.St
open Go.RowKit Go.Wk Go.Proofs
set_option maxHeartbeats 8000000
theorem nil_lt (S T : Nat) : ∀ k,(Value.slice none 0 0).ownBlock = some k → S ≤ k ∧ k < T := fun k hk => by cases hk
theorem own_fresh {w : World} {base cap n : Nat} {xs : List Value} {cur : Array Value} (hb : base ≤ w.heap.size) (hn : n ≤ cap) (hc : cap ≤ maxLen) (hs : cur.size = cap) (hx : cur.toList.take n = xs) (hxl : xs.length = n) :
  (w.drew.alloc (.cells cur 3)).ownsRow base 3 1 (.slice (some ⟨w.heap.size,0,none⟩) n cap) n xs :=
 ⟨by rw [hxl,Nat.mul_one],.inr ⟨w.heap.size,cap,cur,rfl,hb,heap_alloc_new w.drew _,hn,hc,by rw [hs,Nat.mul_one],by rw [Nat.mul_one];exact hx⟩⟩
theorem app_front {w : World} {base b o k c2 : Nat} {Z R : List Int} {a : Addr} (hZ : ∀ j,j < Z.length → w.cell? ⟨b,o + j,none⟩ = some (.int .i64 (gI Z j))) (hk : k ≤ Z.length)
  (hR : ∀ j u,(R.map (Value.int .i64))[j]? = some u → w.cell? (a.add j) = some u) (h0 : 0 < R.length) (hl : Z.length + R.length ≤ 1000) (hb : base ≤ w.heap.size) :
  ∃ v' w',(Builtin.append_ #[22,22] 22 #[.slice (some ⟨b,o,none⟩) k k,.slice (some a) R.length c2]).run Tryz.prog w = .ok v' w' ∧ w'.ownsRow base 3 1 v' (k + R.length) ((Z.take k ++ R).map (Value.int .i64)) ∧ w.grownBy w' (Value.slice none 0 0).ownBlock ∧ True := by
 obtain ⟨i,z,h1,h2,h3,h4,h5,h6,h7⟩ := ints_T.ex;have hf : Builtin.nextslicecap (k + R.length) k * i.bytes ≤ 281474976710656 := growslice_fits (by omega) (Nat.le_trans (Nat.mul_le_mul (show k + R.length ≤ 1000 by omega) h7) (by decide));have hx := run_append_grow (P := Tryz.prog) w 22 22 3 i z h1 h2 h3 ⟨b,o,none⟩ k k ((Z.take k).map (Value.int .i64)) (by rw [h4];simp;omega) (newsT hZ k) a R.length c2 (R.map (Value.int .i64)) (by rw [h4];simp) hR (by omega) (by omega) hf;have hge := grownCap_ge w (k + R.length) k 3;have hcm : grownCap w (k + R.length) k 3 ≤ maxLen := grownCap_le_maxLen w (k + R.length) k 3 (by unfold maxLen;omega);refine ⟨_,_,hx,own_fresh hb hge hcm ?_ ?_ ?_,⟨rfl,rfl,rfl,by simp,fun j hj _ => (by rw [heap_alloc_old w.drew _ (show j < w.drew.heap.size from hj)];rfl)⟩,trivial⟩
 ·simp only [Array.size_append,List.size_toArray,size_zeroCells,h5,List.length_map,List.length_take];omega
 ·simp only [Array.toList_append,List.map_append];rw [List.take_left' (by simp;omega)]
 ·simp;omega
end Go.Proofs.YtnklbepeoicgpaaGreat.St
namespace Go.Proofs.YtnklbepeoicgpaaGreat
open Go.RowKit Go.Wk Go.Proofs
attribute [local irreducible] Go.Wk.Wops Go.Wk.Wp Go.Wk.Mtree Go.Wk.Mops
set_option maxHeartbeats 8000000
set_option maxRecDepth 20000
def wrthK (t : Tr) (on : List Int) : Nat → Int
 | 0 => 0
 | k + 1 => wrthK t on k + if 0 ≤ gI on k then (match t.fl[k]? with | some f => f.m | none => 0) else 0
theorem wrthK_le {t : Tr} {n : Nat} (hP : PlanT t n) (on : List Int) : ∀ k,k ≤ 12 → 0 ≤ wrthK t on k ∧ wrthK t on k ≤ 1000 * (k : Int)
 | 0,_ => ⟨Int.le_refl _,by show (0 : Int) ≤ 1000 * ((0 : Nat) : Int);omega⟩
 | k + 1,h => by
   have ih := wrthK_le hP on k (by omega)
   have hm : ∀ f,t.fl[k]? = some f → 0 ≤ f.m ∧ f.m ≤ 1000 := fun f hf => by
    obtain ⟨hk,rfl⟩ := List.getElem?_eq_some_iff.1 hf;exact hP.mr k hk
   obtain ⟨y,hy,h1,h2⟩ : ∃ y,(if 0 ≤ gI on k then (match t.fl[k]? with | some f => f.m | none => 0) else 0) = y ∧ 0 ≤ y ∧ y ≤ 1000 := by
    refine ⟨_,rfl,?_⟩
    split
    ·cases e : t.fl[k]? with
     | none => exact ⟨Int.le_refl _,by decide⟩
     | some f => have := hm f e;exact ⟨by show 0 ≤ f.m;omega,this.2⟩
    ·exact ⟨Int.le_refl _,by decide⟩
   rw [wrthK,hy];omega
theorem wrthK_T {t : Tr} {on : List Int} {k : Nat} (hk : k < t.fl.length) (h : 0 ≤ gI on k) : wrthK t on (k + 1) = wrthK t on k + t.fl[k].m := by rw [wrthK,if_pos h,List.getElem?_eq_getElem hk]
theorem wrthK_F {t : Tr} {on : List Int} {k : Nat} (h : ¬ 0 ≤ gI on k) : wrthK t on (k + 1) = wrthK t on k := by rw [wrthK,if_neg h];omega
def ListsV (w : World) (B : Nat) (v : Value) (ls : List (List Int)) : Prop :=
 ∃ (A : Option Addr) (c : Nat),v = .slice A ls.length c ∧ (ls ≠ [] → ∃ b o,A = some ⟨b,o,none⟩ ∧ b < B ∧ ∀ k (h : k < ls.length),∃ u,w.cell? ⟨b,o + k,none⟩ = some u ∧ IntsV w B u ls[k]) ∧ ls.length ≤ c
theorem ListsV.at {w : World} {B : Nat} {A : Option Addr} {n c : Nat} {ls : List (List Int)} (h : ListsV w B (.slice A n c) ls) {k : Nat} (hk : k < ls.length) : ∃ b o A1 c1,A = some ⟨b,o,none⟩ ∧ b < B ∧ w.cell? ⟨b,o + k,none⟩ = some (.slice A1 ls[k].length c1) ∧ IntsV w B (.slice A1 ls[k].length c1) ls[k] := by
 obtain ⟨A',c',hv,hx,-⟩ := h
 injection hv with h1 h2 h3;subst h1
 obtain ⟨b,o,hA,hb,hc⟩ := hx (by rintro rfl;exact absurd hk (Nat.not_lt_zero _));obtain ⟨u,g1,g2⟩ := hc k hk;obtain ⟨A1,c1,rfl,-,-⟩ := id g2;exact ⟨b,o,A1,c1,hA,hb,g1,g2⟩
structure ListsS (w : World) (S : Nat) (v : Value) (ls : List (List Int)) : Prop where
 v : ListsV w S v ls
theorem ListsS.ext {w V : World} {S : Nat} {v : Value} {ls : List (List Int)} (h : ListsS w S v ls) (hE : Ext w V) : ListsS V S v ls := by
 obtain ⟨A,c,hv,hx,hcap⟩ := h.v
 exact ⟨A,c,hv,fun hne => by
  obtain ⟨b,o,hA,hlt,h1⟩ := hx hne
  exact ⟨b,o,hA,hlt,fun i hi => by obtain ⟨u,g1,g2⟩ := h1 i hi;exact ⟨u,hE.cell g1,g2.cells fun _ _ _ _ hc => hE.cell hc⟩⟩,hcap⟩
theorem OwnTb.listsV {w : World} {base : Nat} {v : Value} {ls : List (List Int)} (h : OwnTb w base v ls) : ListsV w w.heap.size v ls := by
 obtain ⟨vs,h1,h2,h3⟩ := h.ex
 rcases id h1.2 with ⟨rfl,hn⟩ | ⟨g,cap,cur,rfl,hb,hg,hnc,hcm,hcs,htake⟩
 ·obtain rfl : ls = [] := List.eq_nil_of_length_eq_zero hn;exact ⟨none,0,rfl,fun h => absurd rfl h,Nat.le_refl _⟩
 ·refine ⟨_,cap,rfl,fun _ => ⟨g,0,rfl,(Array.getElem?_eq_some_iff.1 hg).1,fun k hk => ⟨vs[k]'(by omega),?_,(h3 k (by omega) hk).1.ints⟩⟩,hnc⟩;have := World.ownsRow.cells h1 (g := g) rfl k (vs[k]'(by omega)) (List.getElem?_eq_getElem _);rw [Addr.add_lit] at this;exact this
theorem ListsV.more {w : World} {B B' : Nat} {v : Value} {ls : List (List Int)} (h : ListsV w B v ls) (hB : B ≤ B') : ListsV w B' v ls := by
 obtain ⟨A,c,hv,hx,hcap⟩ := h
 exact ⟨A,c,hv,fun hne => by
  obtain ⟨b,o,hA,hlt,h1⟩ := hx hne
  exact ⟨b,o,hA,by omega,fun i hi => by obtain ⟨u,g1,g2⟩ := h1 i hi;exact ⟨u,g1,g2.more hB⟩⟩,hcap⟩
end Go.Proofs.YtnklbepeoicgpaaGreat
namespace Go.Proofs.YtnklbepeoicgpaaGreat
theorem cntN_le_one {h : Nat → Int} {j : Int} : ∀ {n : Nat},(∀ d e,d < n → e < n → h d = j → h e = j → d = e) → cntN h j n ≤ 1
 | 0,_ => by show (0 : Int) ≤ 1;decide
 | n + 1,q => by
   rw [cntN_S]
   by_cases e : h n = j
   ·rw [if_pos e,cntN_of_zero fun d hd hj => by have := q d n (by omega) (by omega) hj e;omega];decide
   ·rw [if_neg e,Int.add_zero];exact cntN_le_one fun d e hd he => q d e (by omega) (by omega)
section
variable {N N' : Int → List Nat} {n m m' i d : Nat} {W W' : Int → Int} {v v' : Int} {g p : Nat → Int}
theorem OkP.inj (h : OkP N n m g) {d e : Nat} (hd : d < n) (he : e < n) (h0 : 0 ≤ g d) (q : g d = g e) : d = e := by
 obtain ⟨j,hj⟩ : ∃ j : Nat,g d = (j : Int) := ⟨(g d).toNat,by omega⟩;exact cntN_two (h.one j) hd he hj (by omega)
theorem OkP.of (lt : ∀ d,-1 ≤ p d ∧ p d < m) (day : ∀ d,d < n → 0 ≤ p d → d ∈ N (p d)) (inj : ∀ d e,d < n → e < n → 0 ≤ p d → p d = p e → d = e) : OkP N n m p :=
 ⟨lt,day,fun j => cntN_le_one fun d e hd he h1 h2 => inj d e hd he (by omega) (by omega)⟩
theorem OkP.sub (h : OkP N n m g) (hN : ∀ d,d < n → 0 ≤ g d → d ∈ N (g d) → d ∈ N' (g d)) : OkP N' n m g := ⟨h.lt,fun d hd h0 => hN d hd h0 (h.day d hd h0),h.one⟩
theorem OkP.at' (h : OkP N n m g) {d : Nat} (h0 : 0 ≤ g d) : ∃ j : Nat,g d = (j : Int) ∧ j < m := ⟨(g d).toNat,by omega,by have := (h.lt d).2;omega⟩
theorem worth_W (n : Nat) (h : ∀ d,d < n → 0 ≤ g d → W (g d) ≤ W' (g d)) : worthW W g n ≤ worthW W' g n := sumN_le n fun d hd => by
 by_cases h0 : 0 ≤ g d
 ·rw [if_pos h0,if_pos h0];exact h d hd h0
 ·rw [if_neg h0,if_neg h0];exact Int.le_refl _
theorem worth_no : ∀ n,worthW W noPlan n = 0
 | 0 => rfl
 | n + 1 => by show worthW W noPlan n + _ = 0;rw [worth_no n];rfl
structure IsOpt (N : Int → List Nat) (n m : Nat) (W : Int → Int) (v : Int) : Prop where
 ex : ∃ h,OkP N n m h ∧ worthW W h n = v
 le : ∀ g,OkP N n m g → worthW W g n ≤ v
theorem IsOpt.eq (h : IsOpt N n m W v) (h' : IsOpt N n m W v') : v = v' := by
 obtain ⟨g,g1,g2⟩ := h.ex;obtain ⟨k,k1,k2⟩ := h'.ex;have := h.le k k1;have := h'.le g g1;omega
theorem IsOpt.pos (h : IsOpt N n m W v) : 0 ≤ v := by
 have := h.le noPlan noPlan_ok
 rwa [worth_no] at this
theorem IsOpt.mono (h : IsOpt N n m W v) (h' : IsOpt N' n m W' v') (hN : ∀ j : Nat,j < m → ∀ d,d < n → d ∈ N j → d ∈ N' j) (hW : ∀ j : Nat,j < m → W j ≤ W' j) : v ≤ v' := by
 obtain ⟨g,g1,g2⟩ := h.ex
 have q := h'.le g (g1.sub fun d hd h0 hm => by
  obtain ⟨j,hj,hjm⟩ := g1.at' h0
  rw [hj] at hm ⊢;exact hN j hjm d hd hm)
 have := worth_W (W := W) (W' := W') (g := g) n fun d hd h0 => by
  obtain ⟨j,hj,hjm⟩ := g1.at' h0;rw [hj];exact hW j hjm
 omega
def dropN (N : Int → List Nat) (i : Int) : Int → List Nat := fun j => if j = i then [] else N j
theorem dropN_mem {N : Int → List Nat} {i j : Int} {e : Nat} : e ∈ dropN N i j ↔ j ≠ i ∧ e ∈ N j := by
 unfold dropN
 by_cases q : j = i
 ·rw [if_pos q];simp [q]
 ·rw [if_neg q];simp [q]
theorem IsOpt.drop (h : IsOpt N n m W v) (h' : IsOpt (dropN N i) n m W v') : v' ≤ v ∧ (v' < v ↔ ∀ g,OkP N n m g → worthW W g n = v → cntN g i n ≠ 0) := by
 have hle : v' ≤ v := h'.mono h (fun j _ e _ hm => (dropN_mem.1 hm).2) fun _ _ => Int.le_refl _;refine ⟨hle,fun hlt g hg e hz => ?_,fun hall => ?_⟩
 ·have := h'.le g (hg.sub fun d hd h0 hm => dropN_mem.2 ⟨cntN_zero hz d hd,hm⟩);omega
 ·obtain ⟨g,g1,g2⟩ := h'.ex;have ok : OkP N n m g := g1.sub fun d _ _ hm => (dropN_mem.1 hm).2
  by_cases e : v' = v
  ·exact absurd (cntN_of_zero fun d hd q => by
    have := g1.day d hd (by omega)
    exact (dropN_mem.1 this).1 q) (hall g ok (by omega))
  ·omega
theorem IsOpt.split {N1 N2 : Int → List Nat} {v1 v2 : Int} (h : IsOpt N n m W v) (h1 : IsOpt N1 n m W v1) (h2 : IsOpt N2 n m W v2) (hW : ∀ j : Nat,j < m → 0 ≤ W j)
  (hs : ∀ j : Nat,j < m → (∀ d,d ∈ N j → d ∈ N1 j) ∨ (∀ d,d ∈ N j → d ∈ N2 j)) : v ≤ v1 + v2 := by
 obtain ⟨g,g1,g2⟩ := h.ex
 let P : Nat → Prop := fun d => 0 ≤ g d ∧ ∀ e,e ∈ N (g d) → e ∈ N1 (g d)
 have ch : ∀ d : Nat,∃ x : Int × Int,(P d ∧ x = (g d,-1)) ∨ (¬ P d ∧ x = (-1,g d)) := fun d => by
  by_cases h0 : P d
  ·exact ⟨_,.inl ⟨h0,rfl⟩⟩
  ·exact ⟨_,.inr ⟨h0,rfl⟩⟩
 obtain ⟨p,hp⟩ := Classical.axiomOfChoice ch
 have q1 := h1.le (fun d => (p d).1) (OkP.of (fun d => by
  have := g1.lt d
  rcases hp d with ⟨-,e⟩ | ⟨-,e⟩ <;> rw [e] <;> show -1 ≤ _ ∧ _ <;> dsimp only <;> omega) (fun d hd h0 => by
  rcases hp d with ⟨hP,e⟩ | ⟨-,e⟩ <;> rw [e] at h0 ⊢
  ·exact hP.2 d (g1.day d hd hP.1)
  ·exact absurd h0 (by dsimp only;omega)) (fun d e hd he h0 q => by
  rcases hp d with ⟨hP,e1⟩ | ⟨-,e1⟩ <;> rw [e1] at h0 q
  ·rcases hp e with ⟨hP',e2⟩ | ⟨-,e2⟩ <;> rw [e2] at q
   ·exact g1.inj hd he hP.1 q
   ·have q : g d = -1 := q;have := hP.1;omega
  ·exact absurd h0 (by dsimp only;omega)))
 have q2 := h2.le (fun d => (p d).2) (OkP.of (fun d => by
  have := g1.lt d
  rcases hp d with ⟨-,e⟩ | ⟨-,e⟩ <;> rw [e] <;> show -1 ≤ _ ∧ _ <;> dsimp only <;> omega) (fun d hd h0 => by
  rcases hp d with ⟨-,e⟩ | ⟨hP,e⟩ <;> rw [e] at h0 ⊢
  ·exact absurd h0 (by dsimp only;omega)
  ·have h0 : 0 ≤ g d := h0;obtain ⟨j,hj,hjm⟩ := g1.at' h0;have hd2 := g1.day d hd h0
   show d ∈ N2 (g d)
   rcases hs j hjm with q | q
   ·exact absurd ⟨h0,by rw [hj];exact q⟩ hP
   ·rw [hj] at hd2 ⊢;exact q d hd2) (fun d e hd he h0 q => by
  rcases hp d with ⟨-,e1⟩ | ⟨hP,e1⟩ <;> rw [e1] at h0 q
  ·exact absurd h0 (by dsimp only;omega)
  ·have h0 : 0 ≤ g d := h0
   rcases hp e with ⟨-,e2⟩ | ⟨hP',e2⟩ <;> rw [e2] at q
   ·have q : g d = -1 := q;omega
   ·exact g1.inj hd he h0 q))
 have : worthW W g n ≤ worthW W (fun d => (p d).1) n + worthW W (fun d => (p d).2) n := by
  unfold worthW;rw [← sumN_add];refine sumN_le n fun d hd => ?_
  show (if 0 ≤ g d then W (g d) else 0) ≤ (if 0 ≤ (p d).1 then W (p d).1 else 0) + if 0 ≤ (p d).2 then W (p d).2 else 0
  rcases hp d with ⟨-,e⟩ | ⟨-,e⟩ <;> rw [e] <;> dsimp only
  ·rw [if_neg (show ¬ (0 : Int) ≤ -1 by decide)];omega
  ·rw [if_neg (show ¬ (0 : Int) ≤ -1 by decide)];omega
 omega
end
theorem insQ_perm (lt : Int → Int → Bool) (l : List Int) (x : Int) : (insQ lt l x).Perm (x :: l) := by
 unfold insQ;refine List.perm_middle.trans ?_;rw [List.take_append_drop]
theorem sortQ_perm (lt : Int → Int → Bool) (l : List Int) : (sortQ lt l).Perm l := by
 have key : ∀ (l a : List Int),(l.foldl (insQ lt) a).Perm (a ++ l) := by
  intro l
  induction l with
  | nil => intro a;rw [List.append_nil];exact List.Perm.refl _
  | cons x l ih =>
    intro a;rw [List.foldl_cons];refine (ih _).trans (((insQ_perm lt a x).append_right l).trans ?_);exact List.perm_middle.symm
 have := key l [];exact this
theorem posQ_spec (lt : Int → Int → Bool) (l : List Int) (x : Int) : ∀ k,(∀ j,posQ lt l x k ≤ j → j < k → lt x (gI l j) = true) ∧ (0 < posQ lt l x k → lt x (gI l (posQ lt l x k - 1)) = false)
 | 0 => ⟨fun j _ h => absurd h (Nat.not_lt_zero _),fun h => absurd h (Nat.lt_irrefl _)⟩
 | k + 1 => by
   obtain ⟨h1,h2⟩ := posQ_spec lt l x k
   by_cases h : lt x (gI l k) = true
   ·have e : posQ lt l x (k + 1) = posQ lt l x k := if_pos h;rw [e]
    exact ⟨fun j hj hk => by
     by_cases q : j = k
     ·rw [q];exact h
     ·exact h1 j hj (by omega),h2⟩
   ·have e : posQ lt l x (k + 1) = k + 1 := if_neg h;rw [e];exact ⟨fun j hj hk => by omega,fun _ => by simpa using h⟩
theorem insQ_sorted {lt : Int → Int → Bool} {key : Int → Int} {l : List Int} {x : Int} (hl : l.Pairwise fun a b => key b ≤ key a) (hk : ∀ a ∈ l,lt x a = decide (key a < key x)) : (insQ lt l x).Pairwise fun a b => key b ≤ key a := by
 obtain ⟨h1,h2⟩ := posQ_spec lt l x l.length;have hp := posQ_le lt l x l.length;unfold insQ;have hl' := hl;rw [← List.take_append_drop (posQ lt l x l.length) l,List.pairwise_append] at hl';rw [List.pairwise_append];refine ⟨hl'.1,List.pairwise_cons.2 ⟨fun y hy => ?_,hl'.2.1⟩,fun u hu v hv => ?_⟩
 ·obtain ⟨j,hj,rfl⟩ := List.getElem_of_mem hy;rw [List.length_drop] at hj;rw [List.getElem_drop];have q := h1 (posQ lt l x l.length + j) (by omega) (by omega);rw [gI_lt (by omega),hk _ (List.getElem_mem _),decide_eq_true_iff] at q;omega
 ·rcases List.mem_cons.1 hv with rfl | hv
  ·obtain ⟨j,hj,rfl⟩ := List.getElem_of_mem hu;rw [List.length_take] at hj;rw [List.getElem_take];have q := h2 (by omega);rw [gI_lt (show posQ lt l v l.length - 1 < l.length by omega),hk _ (List.getElem_mem _),decide_eq_false_iff_not] at q
   by_cases e : j = posQ lt l v l.length - 1
   ·subst e;omega
   ·have := List.pairwise_iff_getElem.1 hl j (posQ lt l v l.length - 1) (by omega) (by omega) (by omega);omega
  ·exact hl'.2.2 u hu v hv
theorem sortQ_sorted {lt : Int → Int → Bool} {key : Int → Int} {l : List Int} (hk : ∀ a ∈ l,∀ b ∈ l,lt a b = decide (key b < key a)) : (sortQ lt l).Pairwise fun a b => key b ≤ key a := by
 have go : ∀ (r a : List Int),(∀ x ∈ a,x ∈ l) → (∀ x ∈ r,x ∈ l) → (a.Pairwise fun a b => key b ≤ key a) → (r.foldl (insQ lt) a).Pairwise fun a b => key b ≤ key a := by
  intro r
  induction r with
  | nil => intro a _ _ h;exact h
  | cons x r ih =>
    intro a ha hr h;rw [List.foldl_cons];refine ih _ (fun y hy => ?_) (fun y hy => hr y (List.mem_cons_of_mem _ hy)) (insQ_sorted h fun y hy => hk x (hr x List.mem_cons_self) y (ha y hy))
    rcases (insQ_mem lt a x y).1 hy with rfl | hy
    ·exact hr _ List.mem_cons_self
    ·exact ha y hy
 exact go l [] (fun x hx => absurd hx List.not_mem_nil) (fun x hx => hx) List.Pairwise.nil
theorem rangeI_nodup (n : Nat) : (rangeI n).Nodup := by
 unfold rangeI;rw [List.nodup_iff_pairwise_ne,List.pairwise_map];exact List.nodup_range.imp fun h e => h (by omega)
theorem ordL_nodup (fl : List Fl) : (ordL fl).Nodup := (sortQ_perm _ _).nodup_iff.2 (rangeI_nodup _)
theorem ordL_sorted (fl : List Fl) : (ordL fl).Pairwise fun a b => mAt fl b ≤ mAt fl a := sortQ_sorted fun a ha b hb => by
 obtain ⟨i,rfl,hi⟩ := rangeI_mem.1 ha;obtain ⟨j,rfl,hj⟩ := rangeI_mem.1 hb;rw [ltM_at hi hj,mAt_at hi,mAt_at hj]
theorem worthN_W (fl : List Fl) (h : Nat → Int) : ∀ k,worthN fl h k = worthW (mAt fl) h k
 | 0 => rfl
 | k + 1 => by
   show (if 0 ≤ h k then worthN fl h k + mAt fl (h k) else worthN fl h k) = worthW (mAt fl) h k + (if 0 ≤ h k then mAt fl (h k) else 0)
   rw [worthN_W fl h k]
   split
   ·rfl
   ·rw [Int.add_zero]
theorem mAt_pos {fl : List Fl} (hm : ∀ f ∈ fl,0 ≤ f.m) (x : Int) : 0 ≤ mAt fl x := by
 unfold mAt
 split
 ·rename_i f hf;exact hm f (List.mem_of_getElem? hf)
 ·exact Int.le_refl _
structure OptT (t : Tr) (n : Nat) : Prop where
 sp : ∀ f ∈ t.fl,0 ≤ f.lo ∧ f.hi < n
 mr : ∀ f ∈ t.fl,0 ≤ f.m
theorem OptT.span {t : Tr} {n : Nat} (h : OptT t n) : SpanT t n := ⟨fun k hk => h.sp _ (List.getElem_mem hk)⟩
theorem PlanT.opt {t : Tr} {n : Nat} (h : PlanT t n) : OptT t n := ⟨fun f hf => by
 obtain ⟨k,hk,rfl⟩ := List.getElem_of_mem hf;exact h.sp k hk,fun f hf => by
 obtain ⟨k,hk,rfl⟩ := List.getElem_of_mem hf;exact (h.mr k hk).1⟩
theorem bestF_C {t : Tr} {n : Nat} (h : OptT t n) : PlanC t.N n t.fl.length (fun a b => mAt t.fl b ≤ mAt t.fl a) (ordL t.fl) (bestF t n) :=
 planF_C (trN_lt h.span) (ordL_nodup _) (ordL_sorted _) fun _ hx => ordL_mem.1 hx
theorem meritF_opt {t : Tr} {n : Nat} (h : OptT t n) : IsOpt t.N n t.fl.length (mAt t.fl) (meritF t n) := by
 have hC := bestF_C h;have e : worthW (mAt t.fl) (bestF t n) n = meritF t n := (worthN_W _ _ _).symm;refine ⟨⟨_,hC.ok,e⟩,fun g hg => ?_⟩;rw [← e];refine dual_max (S := fun _ => True) hC.ok hg (fun _ _ _ => .inl trivial) (mAt_pos h.mr) fun i hi _ hz => ?_;obtain ⟨X,h1,h2,h3⟩ := hC.cert i (ordL_mem.2 ⟨i,rfl,hi⟩) hz;exact ⟨X,h1,h2,h3⟩
structure BestP (t : Tr) (n : Nat) (g : Nat → Int) : Prop where
 ok : OkP t.N n t.fl.length g
 w : worthW (mAt t.fl) g n = meritF t n
theorem bestF_best {t : Tr} {n : Nat} (h : OptT t n) : BestP t n (bestF t n) := ⟨(bestF_C h).ok,(worthN_W _ _ _).symm⟩
-- closed days
theorem OptT.cl {t : Tr} {n : Nat} (h : OptT t n) (k : Int) (cl : List Int) : OptT ⟨k,cl,t.fl⟩ n := ⟨h.sp,h.mr⟩
theorem OptT.keep {t : Tr} {n : Nat} (h : OptT t n) (k : Int) (cl l : List Int) : OptT ⟨k,cl,keepN l t.fl t.fl.length⟩ n :=
 ⟨fun f hf => h.sp f (keepN_mem hf),fun f hf => h.mr f (keepN_mem hf)⟩
theorem mAt_eq {fl fl' : List Fl} {a b : Nat} (h : fl[a]? = fl'[b]?) : mAt fl (a : Int) = mAt fl' (b : Int) := by unfold mAt;rw [Int.toNat_natCast,Int.toNat_natCast,h]
structure OnP (N : Int → List Nat) (n m : Nat) (xs : List Int) (h : Nat → Int) : Prop where
 ok : OkP N n m h
 len : xs.length = m
 on : ∀ i : Nat,i < m → (gI xs i = -1 ∧ cntN h i n = 0) ∨ ∃ d : Nat,d < n ∧ gI xs i = (d : Int) ∧ h d = (i : Int)
section
variable {N : Int → List Nat} {n m : Nat} {xs : List Int} {h : Nat → Int}
theorem OnP.cnt (q : OnP N n m xs h) {i : Nat} (hi : i < m) : cntN h i n = if 0 ≤ gI xs i then 1 else 0 := by
 rcases q.on i hi with ⟨e,hz⟩ | ⟨d,hd,e,e2⟩
 ·rw [e,hz];rfl
 ·rw [if_pos (by omega)];have := cntN_ge hd e2;have := q.ok.one i;omega
theorem OnP.has (q : OnP N n m xs h) {i : Nat} (hi : i < m) : 0 ≤ gI xs i ↔ cntN h i n ≠ 0 := by
 rw [q.cnt hi]
 split
 ·rename_i h0;exact ⟨fun _ => by decide,fun _ => h0⟩
 ·rename_i h0;exact ⟨fun x => absurd x h0,fun x => absurd rfl x⟩
theorem OnP.of_day (q : OnP N n m xs h) {d : Nat} (hd : d < n) {i : Nat} (e : h d = (i : Int)) : i < m ∧ gI xs i = (d : Int) := by
 have hi : i < m := by have := (q.ok.lt d).2;omega
 refine ⟨hi,?_⟩
 rcases q.on i hi with ⟨-,hz⟩ | ⟨d',hd',e',e2⟩
 ·exact absurd e (cntN_zero hz d hd)
 ·rw [e',q.ok.inj hd hd' (by omega) (by omega)]
theorem OnP.to_day (q : OnP N n m xs h) {i : Nat} (hi : i < m) (h0 : 0 ≤ gI xs i) : ∃ d : Nat,d < n ∧ gI xs i = (d : Int) ∧ h d = (i : Int) := by
 rcases q.on i hi with ⟨e,-⟩ | hd
 ·omega
 ·exact hd
theorem OnP.worth (q : OnP N n m xs h) (W : Int → Int) : worthW W h n = sumN (fun j => if 0 ≤ gI xs j then W (j : Int) else 0) m := by
 rw [worth_cnt n fun d _ => (q.ok.lt d).2];refine sumN_eq m fun j hj => ?_;rw [q.cnt hj]
 split
 ·exact Int.one_mul _
 ·exact Int.zero_mul _
end
theorem wrthK_sum {t : Tr} {xs : List Int} : ∀ k,k ≤ t.fl.length → wrthK t xs k = sumN (fun j => if 0 ≤ gI xs j then mAt t.fl (j : Int) else 0) k
 | 0,_ => rfl
 | k + 1,hk => by
   show wrthK t xs k + (if 0 ≤ gI xs k then (match t.fl[k]? with | some f => f.m | none => 0) else 0) = sumN _ k + (if 0 ≤ gI xs k then mAt t.fl (k : Int) else 0)
   rw [wrthK_sum k (by omega),mAt_at (show k < t.fl.length by omega),List.getElem?_eq_getElem (show k < t.fl.length by omega)]
theorem OnP.wrth {t : Tr} {n : Nat} {xs : List Int} {h : Nat → Int} (q : OnP t.N n t.fl.length xs h) : wrthK t xs t.fl.length = worthW (mAt t.fl) h n := by
 rw [wrthK_sum _ (Nat.le_refl _),q.worth]
theorem onN_spec (h : Nat → Int) (i : Nat) : ∀ k,(onN h k i = -1 ∧ ∀ d,d < k → h d ≠ (i : Int)) ∨ ∃ d : Nat,d < k ∧ onN h k i = (d : Int) ∧ h d = (i : Int)
 | 0 => .inl ⟨rfl,fun d hd => absurd hd (Nat.not_lt_zero _)⟩
 | k + 1 => by
   by_cases h0 : 0 ≤ h k
   ·have e : onN h (k + 1) = updF (onN h k) (h k).toNat (k : Int) := if_pos h0;rw [e];unfold updF
    by_cases q : i = (h k).toNat
    ·rw [if_pos q];exact .inr ⟨k,Nat.lt_succ_self _,rfl,by omega⟩
    ·rw [if_neg q]
     rcases onN_spec h i k with ⟨h1,h2⟩ | ⟨d,h1,h2,h3⟩
     ·exact .inl ⟨h1,fun d hd => by
       rcases Nat.lt_or_ge d k with q2 | q2
       ·exact h2 d q2
       ·obtain rfl : d = k := by omega
        omega⟩
     ·exact .inr ⟨d,by omega,h2,h3⟩
   ·have e : onN h (k + 1) = onN h k := if_neg h0;rw [e]
    rcases onN_spec h i k with ⟨h1,h2⟩ | ⟨d,h1,h2,h3⟩
    ·exact .inl ⟨h1,fun d hd => by
      rcases Nat.lt_or_ge d k with q2 | q2
      ·exact h2 d q2
      ·obtain rfl : d = k := by omega
       omega⟩
    ·exact .inr ⟨d,by omega,h2,h3⟩
theorem onL_on {N : Int → List Nat} {n m : Nat} {h : Nat → Int} (hh : OkP N n m h) : OnP N n m (onL h n m) h :=
 ⟨hh,onL_len,fun i hi => by
  rw [onL_at hi]
  rcases onN_spec h i n with ⟨h1,h2⟩ | h1
  ·exact .inl ⟨h1,cntN_of_zero h2⟩
  ·exact .inr h1⟩
theorem wrong_plan {t : Tr} {n : Nat} {xs : List Int} (hT : OptT t n) (hl : xs.length = t.fl.length) : wrongI t xs < 0 ↔ ∃ h,OnP t.N n t.fl.length xs h := by
 constructor
 ·intro hw;have hb := wrongI_neg (t := t) (xs := xs) (by omega)
  have good : ∀ i (hi : i < t.fl.length),gI xs i = -1 ∨ ∃ d : Nat,d < n ∧ gI xs i = (d : Int) ∧ d ∈ t.N (i : Int) ∧ ∀ j,j < i → gI xs j ≠ gI xs i := fun i hi => by
   have q := hb i (by omega);rw [badK_at hi] at q
   by_cases e : gI xs i = -1
   ·exact .inl e
   ·rw [decide_eq_true (show gI xs i ≠ -1 from e),Bool.true_and,Bool.or_eq_false_iff] at q;obtain ⟨q1,q2⟩ := q;have q1 : okDay t t.fl[i].lo t.fl[i].hi (gI xs i) = true := by simpa using q1
    unfold okDay at q1;rw [decide_eq_true_iff] at q1;have hs := hT.sp _ (List.getElem_mem hi);obtain ⟨d,hd⟩ : ∃ d : Nat,gI xs i = (d : Int) := ⟨(gI xs i).toNat,by omega⟩;refine .inr ⟨d,by omega,hd,?_,fun j hj e2 => ?_⟩
    ·rw [trN_at hi,openN_in hs.1];rw [hd] at q1;exact ⟨q1.1.1,q1.1.2,q1.2⟩
    ·rw [hd,Int.toNat_natCast] at q2;have := takN_true.2 ⟨j,hj,e2.trans hd⟩;rw [q2] at this;cases this
  have ch : ∀ d : Nat,∃ x : Int,(∃ i : Nat,i < t.fl.length ∧ x = i ∧ gI xs i = (d : Int)) ∨ ((∀ i : Nat,i < t.fl.length → gI xs i ≠ (d : Int)) ∧ x = -1) := fun d => by
   by_cases q : ∃ i : Nat,i < t.fl.length ∧ gI xs i = (d : Int)
   ·obtain ⟨i,hi,e⟩ := q;exact ⟨i,.inl ⟨i,hi,rfl,e⟩⟩
   ·exact ⟨-1,.inr ⟨fun i hi e => q ⟨i,hi,e⟩,rfl⟩⟩
  obtain ⟨p,hp⟩ := Classical.axiomOfChoice ch
  have same : ∀ i j : Nat,i < t.fl.length → j < t.fl.length → 0 ≤ gI xs i → gI xs i = gI xs j → i = j := fun i j hi hj h0 e => by
   rcases Nat.lt_trichotomy i j with q | q | q
   ·rcases good j hj with h1 | ⟨d,-,-,-,h1⟩
    ·omega
    ·exact absurd e (h1 i q)
   ·exact q
   ·rcases good i hi with h1 | ⟨d,-,-,-,h1⟩
    ·omega
    ·exact absurd e.symm (h1 j q)
  refine ⟨p,OkP.of (fun d => ?_) (fun d hd h0 => ?_) (fun d e hd he h0 q => ?_),hl,fun i hi => ?_⟩
  ·rcases hp d with ⟨i,hi,e,-⟩ | ⟨-,e⟩ <;> omega
  ·rcases hp d with ⟨i,hi,e,e2⟩ | ⟨-,e⟩
   ·rcases good i hi with h1 | ⟨d',-,h1,h2,-⟩
    ·omega
    ·obtain rfl : d' = d := by omega
     rw [e];exact h2
   ·omega
  ·rcases hp d with ⟨i,hi,e1,e2⟩ | ⟨-,e1⟩
   ·rcases hp e with ⟨j,hj,e3,e4⟩ | ⟨-,e3⟩
    ·obtain rfl : i = j := by omega
     omega
    ·omega
   ·omega
  ·rcases good i hi with h1 | ⟨d,h0,h1,h2,-⟩
   ·refine .inl ⟨h1,cntN_of_zero fun d hd q => ?_⟩
    rcases hp d with ⟨j,hj,e1,e2⟩ | ⟨-,e1⟩
    ·obtain rfl : j = i := by omega
     omega
    ·omega
   ·refine .inr ⟨d,h0,h1,?_⟩
    rcases hp d with ⟨j,hj,e1,e2⟩ | ⟨h3,-⟩
    ·rw [e1,same j i hj hi (by omega) (by omega)]
    ·exact absurd h1 (h3 i hi)
 ·rintro ⟨h,q⟩
  have : wrongI t xs = -1 := wrongI_none fun i hi => by
   have hi' : i < t.fl.length := by omega
   rw [badK_at hi']
   rcases q.on i hi' with ⟨e,-⟩ | ⟨d,hd,e,e2⟩
   ·rw [e];rfl
   ·have hs := hT.sp _ (List.getElem_mem hi');have hday := q.ok.day d hd (by omega);rw [e2,trN_at hi',openN_in hs.1] at hday;have h1 : okDay t t.fl[i].lo t.fl[i].hi (gI xs i) = true := decide_eq_true (by rw [e];exact ⟨⟨hday.1,hday.2.1⟩,hday.2.2⟩)
    have h2 : takN xs i (gI xs i).toNat = false := by
     by_cases c : takN xs i (gI xs i).toNat = true
     ·obtain ⟨j,hj,ej⟩ := takN_true.1 c
      exfalso
      rcases q.on j (by omega) with ⟨e3,-⟩ | ⟨d',hd',e3,e4⟩
      ·omega
      ·obtain rfl : d' = d := by omega
       omega
     ·simpa using c
    rw [h1,h2];simp
  omega
theorem onL_right {t : Tr} {n : Nat} {h : Nat → Int} (hT : OptT t n) (hh : OkP t.N n t.fl.length h) : wrongI t (onL h n t.fl.length) < 0 := (wrong_plan hT onL_len).2 ⟨h,onL_on hh⟩
-- full spans
theorem fullN_sum {fl : List Fl} {xs : List Int} {a b : Int} : ∀ k,k ≤ fl.length → (fullN fl xs a b k : Int) = sumN (fun j => if 0 ≤ gI xs j then inW fl a b (j : Int) else 0) k
 | 0,_ => rfl
 | k + 1,hk => by
   have ih := fullN_sum (fl := fl) (xs := xs) (a := a) (b := b) k (by omega)
   show ((if insF fl xs a b k = true then fullN fl xs a b k + 1 else fullN fl xs a b k : Nat) : Int) = sumN _ k + (if 0 ≤ gI xs k then inW fl a b (k : Int) else 0)
   rw [← ih,insF_at (show k < fl.length by omega)];unfold inW;rw [inA_at (show k < fl.length by omega)]
   by_cases h1 : 0 ≤ gI xs k
   ·rw [if_pos h1,decide_eq_true h1,Bool.true_and]
    split <;> omega
   ·rw [if_neg h1,decide_eq_false h1,Bool.false_and,if_neg (by decide)];omega
theorem lowN_false {fl : List Fl} {xs : List Int} {a b m : Int} : ∀ {k},lowN fl xs a b m k = false ↔ ∀ j,j < k → insF fl xs a b j = true → m ≤ mAt fl (j : Int)
 | 0 => ⟨fun _ j hj => absurd hj (Nat.not_lt_zero _),fun _ => rfl⟩
 | k + 1 => by
   show (lowN fl xs a b m k || (insF fl xs a b k && decide (mAt fl (k : Int) < m))) = false ↔ _
   rw [Bool.or_eq_false_iff,lowN_false (k := k),Bool.and_eq_false_iff,decide_eq_false_iff_not]
   constructor
   ·rintro ⟨h1,h2⟩ j hj hi
    rcases Nat.lt_or_ge j k with q | q
    ·exact h1 j q hi
    ·obtain rfl : j = k := by omega
     rcases h2 with h2 | h2
     ·rw [h2] at hi;cases hi
     ·omega
   ·intro h;refine ⟨fun j hj hi => h j (by omega) hi,?_⟩
    by_cases q : insF fl xs a b k = true
    ·right;have := h k (Nat.lt_succ_self _) q;omega
    ·left;simpa using q
theorem fullB_iff {t : Tr} {n a b : Nat} {xs : List Int} {h : Nat → Int} {m : Int} (hT : OptT t n) (hP : OnP t.N n t.fl.length xs h) (hb : b < n) :
  fullB t xs (a : Int) (b : Int) m = true ↔ (∀ d,a ≤ d → d ≤ b → (d : Int) ∉ t.cl → 0 ≤ h d ∧ inA t.fl a b (h d) = true ∧ m ≤ mAt t.fl (h d)) := by
 unfold fullB;rw [Bool.and_eq_true,decide_eq_true_iff,Bool.not_eq_true',lowN_false]
 have e : fullN t.fl xs a b t.fl.length = (openN t.cl a b).length ↔ worthW (inW t.fl a b) h n = ((openN t.cl (a : Int) (b : Int)).length : Int) := by
  rw [hP.worth,← fullN_sum _ (Nat.le_refl _)];omega
 rw [e,full_iff hT.span hP.ok hb]
 constructor
 ·rintro ⟨h1,h2⟩ d d1 d2 d3;obtain ⟨q1,q2⟩ := h2 d d1 d2 d3;refine ⟨q1,q2,?_⟩;obtain ⟨j,hj,hjm⟩ := hP.ok.at' q1;rw [hj] at q2 ⊢;refine h1 j hjm ?_;rw [insF_at hjm,(hP.of_day (by omega) hj).2];rw [inA_at hjm] at q2;rw [q2];simp
 ·intro hall;refine ⟨fun j hj hi => ?_,fun d d1 d2 d3 => ⟨(hall d d1 d2 d3).1,(hall d d1 d2 d3).2.1⟩⟩;rw [insF_at hj,Bool.and_eq_true,decide_eq_true_iff] at hi;obtain ⟨d,hd,e1,e2⟩ := hP.to_day hj hi.1;have hin : inA t.fl a b (h d) = true := by rw [e2,inA_at hj];exact hi.2
  have := day_in (a := a) (b := b) hT.span hP.ok hd (by omega) hin;have := (hall d this.1 this.2.1 this.2.2).2.2
  rwa [e2] at this
def FullOk (t : Tr) (xs : List Int) (z : Int × Int) (k : Nat) : Prop :=
 if 0 ≤ gI xs k then z = (0,0) else match t.fl[k]? with
 | some f => (0 ≤ z.1 ∧ z.1 ≤ z.2 ∧ z.2 < t.n) ∧ (z.1 ≤ f.lo ∧ f.hi ≤ z.2) ∧ fullB t xs z.1 z.2 f.m = true
 | none => True
theorem FullOk.at {t : Tr} {xs : List Int} {z : Int × Int} {k : Nat} (hk : k < t.fl.length) (h0 : ¬ 0 ≤ gI xs k) : FullOk t xs z k ↔ (0 ≤ z.1 ∧ z.1 ≤ z.2 ∧ z.2 < t.n) ∧ (z.1 ≤ t.fl[k].lo ∧ t.fl[k].hi ≤ z.2) ∧ fullB t xs z.1 z.2 t.fl[k].m = true := by
 unfold FullOk;rw [if_neg h0,List.getElem?_eq_getElem hk]
instance {t : Tr} {xs : List Int} {z : Int × Int} {k : Nat} : Decidable (FullOk t xs z k) := by
 unfold FullOk;split
 ·infer_instance
 ·split <;> infer_instance
def gZ (l : List (Int × Int)) (i : Nat) : Int × Int := l[i]?.getD (0,0)
theorem gZ_lt {l : List (Int × Int)} {i : Nat} (h : i < l.length) : gZ l i = l[i] := by unfold gZ;rw [List.getElem?_eq_getElem h];rfl
def ProvP (t : Tr) (m : Md) : Prop := (m.on.length = t.fl.length ∧ m.full.length = t.fl.length ∧ wrongI t m.on < 0 ∧ wrthK t m.on t.fl.length = m.mt) ∧ ∀ k,k < t.fl.length → FullOk t m.on (gZ m.full k) k
theorem best_prov {t : Tr} {n : Nat} {h : Nat → Int} (hT : OptT t n) (hn : t.n = (n : Int)) (hle : ∀ f ∈ t.fl,f.lo ≤ f.hi) (hpos : ∀ f ∈ t.fl,0 < f.m) (hb : BestP t n h) : ProvP t (wholeF t n h) := by
 have hP := onL_on hb.ok;refine ⟨⟨onL_len,by show ((List.range _).map _).length = _;simp,onL_right hT hb.ok,?_⟩,fun k hk => ?_⟩
 ·show wrthK t (onL h n t.fl.length) t.fl.length = worthN t.fl h n
  rw [hP.wrth,worthN_W]
 ·have e : gZ (wholeF t n h).full k = fullS t (onL h n t.fl.length) n k := by
   show gZ ((List.range t.fl.length).map _) k = _
   rw [gZ_lt (by simpa using hk)];simp
  rw [e]
  show FullOk t (onL h n t.fl.length) _ k
  by_cases h0 : 0 ≤ gI (onL h n t.fl.length) k
  ·unfold FullOk fullS;rw [if_pos h0,if_pos h0]
  ·rw [FullOk.at hk h0]
   have hz : cntN h (k : Int) n = 0 := by
    by_cases q : cntN h (k : Int) n = 0
    ·exact q
    ·exact absurd ((hP.has hk).2 q) h0
   have opt := meritF_opt hT;obtain ⟨X,hX,hX2,hX3⟩ := max_cert (W := mAt t.fl) (trN_lt hT.span) hb.ok (fun j hj => by rw [mAt_at hj];exact hpos _ (List.getElem_mem hj)) (fun g hg => by rw [hb.w];exact opt.le g hg) k hk hz;obtain ⟨a,b,w1,w2,w3,w4⟩ := window_of hT.span (fun k hk => hle _ (List.getElem_mem hk)) hb.ok hX hk hX2
   have hful : fullB t (onL h n t.fl.length) (a : Int) (b : Int) t.fl[k].m = true := (fullB_iff hT hP w2).2 fun d d1 d2 d3 => by
    obtain ⟨q1,q2⟩ := w4 d d1 d2 d3;have := hX3 d q1;rw [mAt_at hk] at this;exact ⟨(hX d q1).2.1,q2,this⟩
   rw [inA_at hk,decide_eq_true_iff] at w3
   have hne : firstS t (onL h n t.fl.length) n t.fl[k] ≠ none := fun q => by
    unfold firstS at q;rw [List.find?_eq_none] at q;refine q (a,b) (spanU_mem.2 ⟨by show a < n;omega,w1,w2⟩) ?_
    dsimp only
    rw [hful,decide_eq_true w3];rfl
   obtain ⟨p,hp⟩ := Option.ne_none_iff_exists'.1 hne
   have e2 : fullS t (onL h n t.fl.length) n k = ((p.1 : Int),(p.2 : Int)) := by
    unfold fullS;rw [if_neg h0,List.getElem?_eq_getElem hk]
    dsimp only
    rw [hp]
   rw [e2];unfold firstS at hp;have m1 := List.mem_of_find?_eq_some hp;have m2 := List.find?_some hp;rw [spanU_mem] at m1;rw [Bool.and_eq_true,decide_eq_true_iff] at m2;exact ⟨by dsimp only;omega,m2.1,m2.2⟩
theorem GoodT.opt {t : Tr} (h : GoodT t) : OptT t t.n.toNat := ⟨fun f hf => by
 have h1 := (h.ok f hf).2.1;have := h.n;exact ⟨h1.1,by omega⟩,fun f hf => by have := (h.ok f hf).2.2;omega⟩
theorem GoodT.le {t : Tr} (h : GoodT t) : ∀ f ∈ t.fl,f.lo ≤ f.hi := fun f hf => (h.ok f hf).2.1.2.1
theorem GoodT.pos {t : Tr} (h : GoodT t) : ∀ f ∈ t.fl,0 < f.m := fun f hf => by have := (h.ok f hf).2.2;omega
theorem GoodT.nn {t : Tr} (h : GoodT t) : t.n = (t.n.toNat : Int) := by have := h.n;omega
section
variable {N : Int → List Nat} {n m : Nat}
theorem canF_plan {l : List Int} (hN : ∀ i,∀ d ∈ N i,d < n) (hd : l.Nodup) (hm : ∀ x ∈ l,∃ k : Nat,x = (k : Int) ∧ k < m) (hc : canF N n l noPlan = true) :
  OkP N n m (l.foldl (addF N n) noPlan) ∧ ∀ j : Nat,cntN (l.foldl (addF N n) noPlan) (j : Int) n = if (j : Int) ∈ l then 1 else 0 := by
 obtain ⟨h1,h2⟩ := canF_true hN l noPlan noPlan_ok hd (fun x hx => by obtain ⟨k,rfl,hk⟩ := hm x hx;exact ⟨k,rfl,hk,noPlan_cnt⟩) hc;exact ⟨h1,fun j => by rw [h2,noPlan_cnt,Int.zero_add]⟩
end
theorem OptT.wider {t : Tr} {n i : Nat} {lo hi : Int} (hT : OptT t n) (h : i < t.fl.length) (hs : 0 ≤ lo ∧ hi < n) : OptT (widerT t i lo hi) n := by
 constructor
 ·intro f hf;rw [widerT_at h] at hf
  rcases List.mem_or_eq_of_mem_set hf with hf | rfl
  ·exact hT.sp f hf
  ·exact hs
 ·intro f hf;rw [widerT_at h] at hf
  rcases List.mem_or_eq_of_mem_set hf with hf | rfl
  ·exact hT.mr f hf
  ·show 0 ≤ t.fl[i].m
   exact hT.mr _ (List.getElem_mem h)
section
variable {N N' : Int → List Nat} {n m : Nat} {W : Int → Int} {w v v' : Int} {g h : Nat → Int}
theorem cnt_worth {L : List Int} (hh : OkP N n m h) (hc : ∀ j : Nat,j < m → cntN h (j : Int) n = if (j : Int) ∈ L then 1 else 0) : worthW W h n = sumN (fun j => if (j : Int) ∈ L then W j else 0) m := by
 rw [worth_cnt n fun d _ => (hh.lt d).2];refine sumN_eq m fun j hj => ?_;rw [hc j hj]
 split
 ·exact Int.one_mul _
 ·exact Int.zero_mul _
end
def moreT (t : Tr) (f : Fl) : Tr := ⟨t.n,t.cl,t.fl ++ [f]⟩
section
variable {t : Tr} {f : Fl} {n : Nat}
theorem moreT_len : (moreT t f).fl.length = t.fl.length + 1 := by show (t.fl ++ [f]).length = _;rw [List.length_append,List.length_singleton]
theorem moreT_at {j : Nat} (hj : j < t.fl.length) : (moreT t f).fl[j]? = t.fl[j]? := List.getElem?_append_left hj
theorem moreT_last : (moreT t f).fl[t.fl.length]? = some f := by show (t.fl ++ [f])[t.fl.length]? = _;rw [List.getElem?_append_right (Nat.le_refl _),Nat.sub_self];rfl
theorem moreT_m {j : Nat} (hj : j < t.fl.length) : mAt (moreT t f).fl (j : Int) = mAt t.fl (j : Int) := mAt_eq (moreT_at hj)
theorem moreT_mf : mAt (moreT t f).fl (t.fl.length : Int) = f.m := by unfold mAt;rw [Int.toNat_natCast,moreT_last]
end
structure LatP (N : Int → List Nat) (n m : Nat) (l L : List Int) : Prop where
 can : canF N n L noPlan = true
 nd : L.Nodup
 mem : ∀ x ∈ L,x ∈ l ∨ x = (m : Int)
 one : ∀ x ∈ l,∀ y ∈ l,x ∉ L → y ∉ L → x = y
section
variable {t : Tr} {f : Fl} {n : Nat} {h : Nat → Int} {l : List Int}
structure LatS (t : Tr) (f : Fl) (n : Nat) (h : Nat → Int) (l : List Int) : Prop where
 hT : OptT t n
 hM : OptT (moreT t f) n
 pos : ∀ x ∈ t.fl,0 < x.m
 hb : BestP t n h
 nd : l.Nodup
 mm : ∀ x ∈ l,∃ k : Nat,x = (k : Int) ∧ k < t.fl.length
 srt : l.Pairwise fun a b => mAt t.fl a ≤ mAt t.fl b
 cnt : ∀ j : Nat,j < t.fl.length → cntN h (j : Int) n = if (j : Int) ∈ l then 1 else 0
theorem LatS.mm' (s : LatS t f n h l) {L : List Int} (hL : ∀ x ∈ L,x ∈ l ∨ x = (t.fl.length : Int)) : ∀ x ∈ L,∃ k : Nat,x = (k : Int) ∧ k < t.fl.length + 1 := fun x hx => by
 rcases hL x hx with q | q
 ·obtain ⟨k,e,hk⟩ := s.mm x q;exact ⟨k,e,by omega⟩
 ·exact ⟨_,q,Nat.lt_succ_self _⟩
theorem LatS.in (s : LatS t f n h l) {x : Int} (hx : x ∈ l) : cntN h x n = 1 := by
 obtain ⟨k,rfl,hk⟩ := s.mm x hx;rw [s.cnt k hk,if_pos hx]
theorem LatS.val (s : LatS t f n h l) {L : List Int} (hL : LatP (moreT t f).N n t.fl.length l L) : OkP (moreT t f).N n (t.fl.length + 1) (L.foldl (addF (moreT t f).N n) noPlan) ∧
  (∀ j : Nat,cntN (L.foldl (addF (moreT t f).N n) noPlan) (j : Int) n = if (j : Int) ∈ L then 1 else 0) ∧
  worthW (mAt (moreT t f).fl) (L.foldl (addF (moreT t f).N n) noPlan) n = sumN (fun j => if (j : Int) ∈ L then mAt t.fl j else 0) t.fl.length + if ((t.fl.length : Nat) : Int) ∈ L then f.m else 0 := by
 obtain ⟨h1,h2⟩ := canF_plan (m := t.fl.length + 1) (trN_lt s.hM.span) hL.nd (s.mm' hL.mem) hL.can;refine ⟨h1,h2,?_⟩;rw [cnt_worth h1 fun j _ => h2 j]
 show sumN _ t.fl.length + (if ((t.fl.length : Nat) : Int) ∈ L then mAt (moreT t f).fl (t.fl.length : Nat) else 0) = _
 rw [moreT_mf,sumN_eq t.fl.length (g := fun j => if (j : Int) ∈ L then mAt t.fl j else 0) fun j hj => by rw [moreT_m hj]]
theorem LatS.one (s : LatS t f n h l) {L : List Int} (hL : LatP (moreT t f).N n t.fl.length l L)
  (hle : ∀ g,OkP (moreT t f).N n (t.fl.length + 1) g → worthW (mAt (moreT t f).fl) g n ≤ sumN (fun j => if (j : Int) ∈ L then mAt t.fl j else 0) t.fl.length + if ((t.fl.length : Nat) : Int) ∈ L then f.m else 0) :
  BestP (moreT t f) n (L.foldl (addF (moreT t f).N n) noPlan) := by
 obtain ⟨h1,-,h3⟩ := s.val hL;have o := meritF_opt s.hM;rw [moreT_len] at o;have ok : OkP (moreT t f).N n (moreT t f).fl.length (L.foldl (addF (moreT t f).N n) noPlan) := by rw [moreT_len];exact h1
 exact ⟨ok,IsOpt.eq (N := (moreT t f).N) (n := n) (m := t.fl.length + 1) (W := mAt (moreT t f).fl) ⟨⟨_,h1,rfl⟩,fun g hg => by rw [h3];exact hle g hg⟩ o⟩
end
theorem posF_at {fl : List Fl} (h : fl.Pairwise fun f g => f.id ≠ g.id) {i : Nat} (hi : i < fl.length) : posF fl fl[i].id = (i : Int) := by
 rw [← FindP.eq (fl := fl) (id := fl[i].id) (r := (i : Int)) (.inl ⟨i,rfl,hi,rfl,fun j hj => List.pairwise_iff_getElem.1 h j i (by omega) hi hj⟩)]
theorem ClOk.of {n : Int} {cl : List Int} (hr : Rising cl) (hb : ∀ x ∈ cl,0 ≤ x ∧ x ≤ n - 1) : ClOk n cl := fun k hk => ⟨hb _ (gI_mem hk),fun h0 => hr (k - 1) k (by omega) hk⟩
end Go.Proofs.YtnklbepeoicgpaaGreat
namespace Go.Proofs.YtnklbepeoicgpaaGreat
set_option maxHeartbeats 8000000
theorem insPos_spec (l : List Int) (x : Int) : ∀ k,(∀ j,insPos l x k ≤ j → j < k → x < gI l j) ∧ (0 < insPos l x k → ¬ x < gI l (insPos l x k - 1))
 | 0 => ⟨fun j _ h => absurd h (Nat.not_lt_zero _),fun h => absurd h (Nat.lt_irrefl _)⟩
 | k + 1 => by
   obtain ⟨h1,h2⟩ := insPos_spec l x k;unfold insPos
   by_cases c : x < gI l k
   ·rw [if_pos c];exact ⟨fun j hj hk => by by_cases e : j = k;(subst e;exact c);exact h1 j hj (by omega),h2⟩
   ·rw [if_neg c];exact ⟨fun j hj hk => by omega,fun _ => by rw [Nat.add_sub_cancel];exact c⟩
theorem insI_pw {l : List Int} {x : Int} (h : l.Pairwise (· < ·)) (hx : x ∉ l) : (insI l x).Pairwise (· < ·) := by
 obtain ⟨h1,h2⟩ := insPos_spec l x l.length;have hp := insPos_le l x l.length
 have mono : ∀ i j,i ≤ j → j < l.length → gI l i ≤ gI l j := fun i j hij hj => by
  by_cases e : i = j
  ·subst e;exact Int.le_refl _
  ·have := List.pairwise_iff_getElem.1 h i j (by omega) hj (by omega);rw [gI_lt (by omega),gI_lt hj];omega
 have ht : ∀ y ∈ l.take (insPos l x l.length),y < x := fun y hy => by
  obtain ⟨j,hj,e⟩ := List.mem_take_iff_getElem.1 hy;have hjp : j < insPos l x l.length := by omega
  have q1 := h2 (by omega);have q2 := mono j (insPos l x l.length - 1) (by omega) (by omega);have q3 : gI l j = y := by rw [gI_lt (by omega)];exact e
  have q4 : y ≠ x := fun e => hx (by rw [← e];exact List.mem_of_mem_take hy);omega
 have hd : ∀ y ∈ l.drop (insPos l x l.length),x < y := fun y hy => by
  obtain ⟨j,hj,e⟩ := List.getElem_of_mem hy;rw [List.length_drop] at hj;rw [List.getElem_drop] at e;have q := h1 (insPos l x l.length + j) (by omega) (by omega);rw [gI_lt (by omega),e] at q;exact q
 unfold insI;refine List.pairwise_append.2 ⟨h.sublist (List.take_sublist _ _),List.pairwise_cons.2 ⟨hd,h.sublist (List.drop_sublist _ _)⟩,fun a ha b hb => ?_⟩;have q := ht a ha
 rcases List.mem_cons.1 hb with rfl | hb
 ·exact q
 ·have := hd b hb;omega
def idsL (fl : List Fl) (i : Nat) : List Int := sortI ((fl.take i).map Fl.id)
section
variable {fl : List Fl} {i : Nat}
theorem idsL_snoc (hi : i < fl.length) : idsL fl (i + 1) = insI (idsL fl i) fl[i].id := by
 unfold idsL;rw [take_snoc hi,List.map_append,List.map_cons,List.map_nil,sortI_snoc]
theorem idsL_len (hi : i ≤ fl.length) : (idsL fl i).length = i := by
 unfold idsL;rw [sortI_len,List.length_map,List.length_take];omega
theorem idsL_mem {y : Int} : y ∈ idsL fl i ↔ ∃ j,∃ h : j < fl.length,j < i ∧ fl[j].id = y := by
 unfold idsL;rw [sortI_mem,List.mem_map]
 constructor
 ·rintro ⟨f,hf,rfl⟩;obtain ⟨j,hj,rfl⟩ := List.mem_take_iff_getElem.1 hf;exact ⟨j,by omega,by omega,rfl⟩
 ·rintro ⟨j,hj,hji,rfl⟩;exact ⟨fl[j],List.mem_take_iff_getElem.2 ⟨j,by omega,rfl⟩,rfl⟩
theorem idsL_pw (hd : fl.Pairwise fun f g => f.id ≠ g.id) : ∀ i,i ≤ fl.length → (idsL fl i).Pairwise (· < ·)
 | 0,_ => List.Pairwise.nil
 | i + 1,h => by
   rw [idsL_snoc (by omega)];refine insI_pw (idsL_pw hd i (by omega)) fun hm => ?_;obtain ⟨j,hj,hji,e⟩ := idsL_mem.1 hm;exact List.pairwise_iff_getElem.1 hd j i hj (by omega) hji e
theorem idsL_ok (hd : fl.Pairwise fun f g => f.id ≠ g.id) : ListOk fl (idsL fl fl.length) := by
 have hl := idsL_len (fl := fl) (Nat.le_refl _);intro k hk;refine ⟨?_,fun h0 => ?_⟩
 ·have hm : gI (idsL fl fl.length) k ∈ idsL fl fl.length := by rw [gI_lt hk];exact List.getElem_mem hk
  obtain ⟨j,hj,-,e⟩ := idsL_mem.1 hm;rw [← e,posF_at hd hj];omega
 ·have := List.pairwise_iff_getElem.1 (idsL_pw hd fl.length (Nat.le_refl _)) (k - 1) k (by omega) hk (by omega);rw [gI_lt (by omega),gI_lt hk];exact this
theorem mapN_in {xs : List Int} (hd : fl.Pairwise fun f g => f.id ≠ g.id) {i : Nat} (hi : i < fl.length) : ∀ k,k ≤ fl.length → i < k → mapN fl xs k fl[i].id = gI xs i
 | 0,_,h => absurd h (Nat.not_lt_zero _)
 | k + 1,hk,h => by
   unfold mapN;rw [idAt_at (show k < fl.length by omega)]
   by_cases e : i = k
   ·subst e;rw [if_pos rfl]
   ·rw [if_neg (List.pairwise_iff_getElem.1 hd i k hi (by omega) (by omega))];exact mapN_in hd hi k (by omega) (by omega)
end
theorem left_all {t : Tr} (hg : GoodT t) (xs : List Int) (a d : Int) {i : Nat} (hi : i < t.fl.length) : t.fl[i].id ∈ leftL t xs ⟨a,d,idsL t.fl t.fl.length⟩ ↔ ¬ (0 ≤ gI xs i ∧ gI xs i < d) := by
 have hm : t.fl[i].id ∈ idsL t.fl t.fl.length := idsL_mem.2 ⟨i,hi,hi,rfl⟩;unfold leftL filI;rw [List.mem_filter]
 have e : leftP t xs d t.fl[i].id = decide (0 ≤ gI xs i ∧ gI xs i < d) := by
  unfold leftP;rw [mapN_in hg.ids hi _ (Nat.le_refl _) hi]
 show t.fl[i].id ∈ idsL t.fl t.fl.length ∧ (!leftP t xs d t.fl[i].id) = true ↔ _
 rw [e]
 constructor
 ·rintro ⟨-,q⟩ c;rw [decide_eq_true c] at q;cases q
 ·intro q;exact ⟨hm,by rw [decide_eq_false q];rfl⟩
theorem left_len {t : Tr} (xs : List Int) (a d : Int) : (leftL t xs ⟨a,d,idsL t.fl t.fl.length⟩).length ≤ t.fl.length := by
 unfold leftL filI;refine Nat.le_trans (List.length_filter_le _ _) ?_
 show (idsL t.fl t.fl.length).length ≤ _
 rw [idsL_len (Nat.le_refl _)];exact Nat.le_refl _
theorem spread_all {t : Tr} {m : Md} (hg : GoodT t) (h1 : m.on.length = t.fl.length) (h2 : wrongI t m.on < 0) {x y : Int} (hx : 0 ≤ x ∧ x ≤ t.n - 1) (hy : 0 ≤ y ∧ y ≤ t.n - 1) :
  spreadE t m [⟨1,x,idsL t.fl t.fl.length⟩,⟨2,y,idsL t.fl t.fl.length⟩] = 0 ∧ spreadL t m [⟨1,x,idsL t.fl t.fl.length⟩,⟨2,y,idsL t.fl t.fl.length⟩] = [leftL t m.on ⟨1,x,idsL t.fl t.fl.length⟩,leftL t m.on ⟨2,y,idsL t.fl t.fl.length⟩] := by
 have ok := idsL_ok hg.ids
 have e : spreadE t m [⟨1,x,idsL t.fl t.fl.length⟩,⟨2,y,idsL t.fl t.fl.length⟩] = 0 := by
  unfold spreadE;rw [if_neg (not_not_intro (checkT_zero.2 hg)),if_neg (by rintro (q | q);exact q h1;omega)];unfold takE;rw [if_neg (show ¬ 40 < ([⟨1,x,idsL t.fl t.fl.length⟩,⟨2,y,idsL t.fl t.fl.length⟩] : List Tk).length by simp)];have t1 : TakOk t ⟨1,x,idsL t.fl t.fl.length⟩ := ⟨ok,(by decide : (1 : Int) ≤ 1 ∧ (1 : Int) ≤ 1099511627776),hx⟩;have t2 : TakOk t ⟨2,y,idsL t.fl t.fl.length⟩ := ⟨ok,(by decide : (1 : Int) ≤ 2 ∧ (2 : Int) ≤ 1099511627776),hy⟩;unfold takL;rw [if_neg (not_not_intro t1),if_neg List.not_mem_nil];unfold takL;rw [if_neg (not_not_intro t2),if_neg (by show (2 : Int) ∉ [1];decide)]
  rfl
 exact ⟨e,by unfold spreadL;rw [if_pos e];rfl⟩
structure DaysR (t : Tr) (on : List Int) (n : Nat) : Prop where
 len : on.length = t.fl.length
 right : wrongI t on < 0
 rng : ∀ i,i < t.fl.length → gI on i = -1 ∨ (0 ≤ gI on i ∧ gI on i < (n : Int))
 inj : ∀ i j,i < t.fl.length → j < t.fl.length → 0 ≤ gI on i → gI on i = gI on j → i = j
theorem best_days {t : Tr} (hg : GoodT t) : DaysR t (wholeF t t.n.toNat (bestF t t.n.toNat)).on t.n.toNat := by
 have hb := bestF_best hg.opt;have e : ∀ i,i < t.fl.length → gI (wholeF t t.n.toNat (bestF t t.n.toNat)).on i = onN (bestF t t.n.toNat) t.n.toNat i := fun i hi => onL_at hi;refine ⟨onL_len,onL_right hg.opt hb.ok,fun i hi => ?_,fun i j hi hj h0 q => ?_⟩
 ·rw [e i hi]
  rcases onN_spec (bestF t t.n.toNat) i t.n.toNat with ⟨h1,-⟩ | ⟨d,h1,h2,-⟩
  ·exact .inl h1
  ·exact .inr ⟨by omega,by omega⟩
 ·rw [e i hi] at h0 q;rw [e j hj] at q
  rcases onN_spec (bestF t t.n.toNat) i t.n.toNat with ⟨h1,-⟩ | ⟨d,h1,h2,h3⟩
  ·omega
  ·rcases onN_spec (bestF t t.n.toNat) j t.n.toNat with ⟨k1,-⟩ | ⟨d',k1,k2,k3⟩
   ·omega
   ·obtain rfl : d = d' := by omega
    omega
end Go.Proofs.YtnklbepeoicgpaaGreat
namespace Go.Proofs.YtnklbepeoicgpaaGreat
structure InsP (a : List Int) (x : Int) (k : Nat) (Z : List Int) (put : Bool) : Prop where
 srt : Z.Pairwise (· < ·)
 mem : ∀ y,y ∈ Z ↔ y ∈ a.take k ∨ (put = true ∧ y = x)
 hi : put = true → ∀ y ∈ a.drop k,x < y
 lo : put = false → ∀ y ∈ a.take k,y < x
theorem pw_snoc {l : List Int} {x : Int} : (l ++ [x]).Pairwise (· < ·) ↔ l.Pairwise (· < ·) ∧ ∀ y ∈ l,y < x := by
 rw [List.pairwise_append]
 constructor
 ·rintro ⟨h1,-,h2⟩;exact ⟨h1,fun y hy => h2 y hy x (by simp)⟩
 ·rintro ⟨h1,h2⟩;exact ⟨h1,List.pairwise_singleton _ _,fun y hy z hz => by rw [List.mem_singleton] at hz;subst hz;exact h2 y hy⟩
section
variable {a : List Int} {x : Int} {k : Nat} {Z : List Int} {put : Bool}
theorem take_lt (ha : a.Pairwise (· < ·)) (hk : k < a.length) : ∀ y ∈ a.take k,y < a[k] := fun y hy => by
 obtain ⟨j,hj,e⟩ := List.getElem_of_mem hy;rw [List.length_take] at hj;rw [List.getElem_take] at e;rw [← e];exact List.pairwise_iff_getElem.1 ha j k (by omega) hk (by omega)
theorem InsP.on (h : InsP a x k Z put) (ha : a.Pairwise (· < ·)) (hk : k < a.length) (hx : put = true ∨ a[k] < x) : InsP a x (k + 1) (Z ++ [a[k]]) put := by
 refine ⟨pw_snoc.2 ⟨h.srt,fun y hy => ?_⟩,fun y => ?_,fun q y hy => ?_,fun q y hy => ?_⟩
 ·rcases (h.mem y).1 hy with q | ⟨q,rfl⟩
  ·exact take_lt ha hk y q
  ·exact h.hi q _ (by rw [List.drop_eq_getElem_cons hk];exact List.mem_cons_self)
 ·rw [List.mem_append,List.mem_singleton,h.mem,take_snoc hk,List.mem_append,List.mem_singleton]
  constructor
  ·rintro ((q | q) | q)
   ·exact .inl (.inl q)
   ·exact .inr q
   ·exact .inl (.inr q)
  ·rintro ((q | q) | q)
   ·exact .inl (.inl q)
   ·exact .inr q
   ·exact .inl (.inr q)
 ·exact h.hi q y (by rw [List.drop_eq_getElem_cons hk];exact List.mem_cons_of_mem _ hy)
 ·rw [take_snoc hk,List.mem_append,List.mem_singleton] at hy
  rcases hy with hy | rfl
  ·exact h.lo q y hy
  ·rcases hx with e | e
   ·rw [q] at e;cases e
   ·exact e
def insW (Z : List Int) (put : Bool) (x : Int) : List Int := if put = true then Z else Z ++ [x]
theorem InsP.done (h : InsP a x a.length Z put) : (insW Z put x).Pairwise (· < ·) ∧ ∀ y,y ∈ insW Z put x ↔ y ∈ a ∨ y = x := by
 have hm := h.mem;rw [List.take_length] at hm;unfold insW
 by_cases q : put = true
 ·rw [if_pos q];exact ⟨h.srt,fun y => by rw [hm];exact ⟨fun z => z.imp id fun z => z.2,fun z => z.imp id fun z => ⟨q,z⟩⟩⟩
 ·rw [if_neg q];have q0 : put = false := by simpa using q
  have hl := h.lo q0;rw [List.take_length] at hl;have hz : ∀ y ∈ Z,y ∈ a := fun y hy => ((hm y).1 hy).resolve_right fun z => q z.1;refine ⟨pw_snoc.2 ⟨h.srt,fun y hy => hl y (hz y hy)⟩,fun y => ?_⟩;rw [List.mem_append,List.mem_singleton,hm];exact ⟨fun z => z.elim (fun z => .inl (z.resolve_right fun z => q z.1)) .inr,fun z => z.elim (fun z => .inl (.inl z)) .inr⟩
end
end Go.Proofs.YtnklbepeoicgpaaGreat
namespace Go.Proofs.YtnklbepeoicgpaaGreat
open Go.RowKit Go.Wk Go.Proofs
attribute [local irreducible] Go.Wk.Wops Go.Wk.Wp Go.Wk.Mtree Go.Wk.Mops
set_option maxHeartbeats 8000000
set_option maxRecDepth 20000
theorem worthM_c (t : Tr) (n : Nat) (on : List Int) (v ov : Value) (w : World) (hP : PlanT t n) (hV : TourV w w.heap.size v t) (hI : IntsV w w.heap.size ov on) (hl : on.length = t.fl.length) :
  CallsV Tryz.prog 141 #[v,ov] w fun v' w' => v' = .int .i64 (wrthK t on t.fl.length) ∧ Ext w w' := by
 obtain ⟨A,c,A2,c2,rfl,hI1,hF⟩ := hV.open';obtain ⟨A1,c1,rfl,-,-⟩ := id hI;have hFS : FlawsS w w.heap.size (.slice A2 t.fl.length c2) t.fl := ⟨hF⟩;have hXS : IntsS w w.heap.size (.slice A1 on.length c1) on := ⟨hI⟩;clear hV hI1 hF hI;have hm12 := hP.fl;replace hl : ∃ _u : Unit,_ := ⟨(),hl⟩;refine Wp.fn Tryz.func141 rfl Tryz.ntmps141 (by simp) ?_;have xw := Ext.refl w;refine Wp.keep [0,1] ?_;rintro r1 ⟨p,B,-⟩;simp [go_sem] at p B;refine sRg fun K' gd hK => ?_;refine cu1 fun K1 hK1 => ?_;go_simp;apply hK1;clear hK1 K1;refine Wops.absA fun aB n2 i => ?_;obtain ⟨q2,i,s2,ak,f2,r2⟩ := i;try simp only [q2] at ak f2 r2 ⊢
 replace hFS := hFS.ext i;replace hXS := hXS.ext i;replace xw := xw.trans i;have al := ak 2 _ rfl;clear ak i;clear r2;go_simp;apply hK;clear hK K' gd;refine Wp.keep [1,2] ?_;rintro r2 ⟨C,G,-⟩;simp [go_sem,p,B] at C G;clear p B;refine sRg fun K' gd hK => ?_;go_simp;apply hK;clear hK K' gd;refine Wp.keep [1,2,5] ?_;rintro r3 ⟨D,H,O,-⟩;simp [go_sem,C,G] at D H O;clear C G;refine Wp.seq ?_;refine sRg fun K' gd hK => ?_;go_simp;apply hK;clear hK K' gd;refine Wp.keep [2,5,8,9,10] ?_;rintro r4 ⟨j,aw,l,m,ao,-⟩;simp [go_sem,D,H,O] at j aw l m ao;clear D H O;refine Wp.block ?_;refine Wp.loop (fun k ρ ds wk => AllEq [2,8,9] ρ r4 ∧ ds = [] ∧ (Ext aB wk) ∧ (ρ 10 = .int .i64 (k : Int) ∧ ρ 5 = .int .i64 (wrthK t on k))) (on.length) ?_ ?_
 ·refine ⟨AllEq.refl _ _,rfl,Ext.refl _,?_⟩;exact ⟨by rw [ao];rfl,by rw [aw];rfl⟩
 ·rintro k r5 _ wk hk ⟨hA,rfl,xl2,⟨e10,e5⟩⟩;obtain ⟨I,aa,ag,-⟩ := hA;rw [j] at I;rw [l] at aa;rw [m] at ag;replace hFS := hFS.ext xl2;replace hXS := hXS.ext xl2;replace xw := Ext.trans xw xl2;replace al := Ext.cell xl2 al;refine sRg fun K' gd hK => ?_;go_simp;apply hK;clear hK K' gd;refine Wp.keep [2,5,8,9,10,11] ?_;rintro r6 ⟨e,f,g,h,a,d,-⟩;simp [go_sem,I,e5,aa,ag,e10] at e f g h a d;clear I e5 aa ag e10;refine Wp.seq ?_
  by_cases hkn : k < on.length
  ·refine cTt ?_;have hkl : (k : Int) < (on.length : Int) := by omega
   have hkf : k < t.fl.length := by have := hl.choose_spec;omega
   have hkf2 : (k : Int) < (t.fl.length : Int) := by omega
   obtain ⟨b,o,cc,ev,hb,hcc⟩ := hXS.v.get hkn
   injection ev with ev1 _ ev2
   subst ev1;subst ev2;have d1 := hcc k hkn;clear hcc;obtain ⟨b2,o2,eA,hb2,x0,x1,x2,x3⟩ := FlawsV.at hFS.v hkf;subst eA;have hmr := hP.mr k hkf;have hwl := wrthK_le hP on k (by omega)
   by_cases h0 : 0 ≤ gI on k
   ·skip;refine skN ?_;refine sBk ?_;refine sRg fun K' gd hK => ?_;go_simp;apply hK;clear hK K' gd;refine Wp.keep [2,5,6,7,8,9,10] ?_;rintro r7 ⟨J,P,U,X,ab,ah,s,-⟩;simp [go_sem,e,f,g,h,a,d] at J P U X ab ah s;clear e f g h a d;refine sRg fun K' gd hK => ?_;go_simp;apply hK;clear hK K' gd;refine Wp.keep [2,5,6,8,9,10,16] ?_;rintro r8 ⟨K,Q,V,ac,ai,u,z,-⟩;simp [go_sem,J,P,U,X,ab,ah,s] at K Q V ac ai u z;clear J P U X ab ah s;refine cTt ?_;refine lRg fun K' gd hK => ?_;go_simp;apply hK;clear hK K' gd;refine Ends.keep [2,5,8,9,10] ?_;rintro r9 ⟨L,R,ad,aj,x,-⟩;simp [go_sem,K,Q,V,ac,ai,u,z] at L R ad aj x;clear K Q V ac ai u z;refine Ends.mk ?_;refine bNo ?_;refine tNo ?_;refine lRg fun K' gd hK => ?_;go_simp;apply hK;clear hK K' gd;refine Ends.keep [2,5,8,9,10] ?_;rintro r10 ⟨ap,au,ax,az,am,-⟩
    simp [go_sem,L,R,ad,aj,x] at ap au ax az am;clear L R ad aj x;refine Ends.mk ?_;refine thenK_normal ⟨by omega,⟨by rw [ap,j],by rw [ax,l],by rw [az,m],trivial⟩,rfl,xl2,?_⟩;exact ⟨by rw [am,IntWalk.i64_in _ (by omega)];rfl,by rw [au,wrthK_T hkf h0,IntWalk.i64_in _ (by omega)]⟩
   ·skip;refine skN ?_;refine sBk ?_;refine sRg fun K' gd hK => ?_;go_simp;apply hK;clear hK K' gd;refine Wp.keep [2,5,6,7,8,9,10] ?_;rintro r11 ⟨E,M,S,W,Y,ae,q,-⟩;simp [go_sem,e,f,g,h,a,d] at E M S W Y ae q;clear e f g h a d;refine sRg fun K' gd hK => ?_;go_simp;apply hK;clear hK K' gd;refine Wp.keep [2,5,6,8,9,10,16] ?_;rintro r12 ⟨F,N,T,Z,af,r,y,-⟩;simp [go_sem,E,M,S,W,Y,ae,q] at F N T Z af r y;clear E M S W Y ae q;refine cFf ?_;refine Wp.skip ?_;refine bNo ?_;refine tNo ?_;refine lRg fun K' gd hK => ?_;go_simp;apply hK;clear hK K' gd;refine Ends.keep [2,5,8,9,10] ?_;rintro r13 ⟨aq,av,ay,aA,an,-⟩;simp [go_sem,F,N,T,Z,af,r,y] at aq av ay aA an;clear F N T Z af r y;refine Ends.mk ?_;refine thenK_normal ⟨by omega,⟨by rw [aq,j],by rw [ay,l],by rw [aA,m],trivial⟩,rfl,xl2,?_⟩
    exact ⟨by rw [an,IntWalk.i64_in _ (by omega)];rfl,by rw [av,wrthK_F h0]⟩
  ·refine cFf ?_;have hkq : ∃ _u : Unit,k = t.fl.length := ⟨(),by have := hl.choose_spec;omega⟩;refine Wp.exit ?_;refine tEx ?_;refine tEx ?_;refine blockK_here ?_;refine tNo ?_;refine sRg fun K' gd hK => ?_;go_simp;apply hK;clear hK K' gd;refine Wp.keep [4] ?_;rintro r14 ⟨ar,-⟩;simp [go_sem,e,f,g,h,a,d] at ar;clear e f g h a d;refine Wp.ret ?_;refine endK_tmp Tryz.results141 (by decide) ?_;rw [ar];exact ⟨by rw [hkq.choose_spec],xw⟩
instance (t : Tr) (m : Md) : Decidable (ProvP t m) := by unfold ProvP;infer_instance
theorem SpansV.at {w : World} {B : Nat} {A : Option Addr} {n c : Nat} {l : List (Int × Int)} (h : SpansV w B (.slice A n c) l) {k : Nat} (hk : k < l.length) : ∃ b o,A = some ⟨b,o,none⟩ ∧ b < B ∧
  w.cell? ⟨b,o + k * 2,none⟩ = some (.int .i64 (gZ l k).1) ∧ w.cell? ⟨b,o + k * 2 + 1,none⟩ = some (.int .i64 (gZ l k).2) := by
 obtain ⟨A',c',hv,hx,-⟩ := h
 injection hv with h1 h2 h3;subst h1
 obtain ⟨b,o,hA,hb,hc⟩ := hx (by rintro rfl;exact absurd hk (Nat.not_lt_zero _));rw [gZ_lt hk];exact ⟨b,o,hA,hb,hc k hk 0 _ rfl,hc k hk 1 _ rfl⟩
structure SpansS (w : World) (S : Nat) (v : Value) (l : List (Int × Int)) : Prop where
 v : SpansV w S v l
section
variable {w V : World} {S : Nat} {v : Value} {l : List (Int × Int)}
theorem SpansS.ext (h : SpansS w S v l) (hE : Ext w V) : SpansS V S v l := ⟨h.v.cells fun _ _ _ _ hc => hE.cell hc⟩
theorem SpansS.chg {L : List Nat} (h : SpansS w S v l) (hC : Chg L w V) (hL : ∀ b ∈ L,S ≤ b) : SpansS V S v l := ⟨h.v.cells fun b _ _ hb hc => Chg.cell hC hc fun hm => by have := hL b hm;omega⟩
theorem SpansS.put {b i : Nat} {vs : List Value} (h : SpansS w S v l) (p : Put w V b i vs) (hb : S ≤ b) : SpansS V S v l := h.chg p.chg (by simpa using hb)
end
theorem prov_no1 {t : Tr} {m : Md} (h : ¬ m.on.length = t.fl.length) : decide (ProvP t m) = false := decide_eq_false fun q => h q.1.1
theorem prov_no2 {t : Tr} {m : Md} (h : ¬ m.full.length = t.fl.length) : decide (ProvP t m) = false := decide_eq_false fun q => h q.1.2.1
theorem prov_no3 {t : Tr} {m : Md} (h : 0 ≤ wrongI t m.on) : decide (ProvP t m) = false := decide_eq_false fun q => by have := q.1.2.2.1;omega
theorem prov_no4 {t : Tr} {m : Md} (h : ¬ wrthK t m.on t.fl.length = m.mt) : decide (ProvP t m) = false := decide_eq_false fun q => h q.1.2.2.2
theorem prov_no5 {t : Tr} {m : Md} {k : Nat} (hk : k < t.fl.length) (h : ¬ FullOk t m.on (gZ m.full k) k) : decide (ProvP t m) = false := decide_eq_false fun q => h (q.2 k hk)
theorem full_yes {t : Tr} {xs : List Int} {z : Int × Int} {k : Nat} (h0 : 0 ≤ gI xs k) : FullOk t xs z k ↔ z = (0,0) := by unfold FullOk;rw [if_pos h0]
theorem full_T {t : Tr} {xs : List Int} {lo : Nat} {hi m : Int} {A : Option Addr} {c : Nat} {A2 : Option Addr} {c2 : Nat} {A3 : Option Addr} {c3 : Nat} {w : World} {b : Bool} (hb : fullB t xs (lo : Int) hi m = b) (hT : TourV w w.heap.size (.agg #[.int .i64 t.n,.slice A t.cl.length c,.slice A2 t.fl.length c2]) t)
  (hI : IntsV w w.heap.size (.slice A t.cl.length c) t.cl) (hF : FlawsV w w.heap.size (.slice A2 t.fl.length c2) t.fl) (hX : IntsV w w.heap.size (.slice A3 xs.length c3) xs) (hxl : xs.length = t.fl.length) (hfl : t.fl.length ≤ 12) (hcl : t.cl.length ≤ 1000000000000000) (hhi : hi ≤ 1000000) :
  CallsV Tryz.prog 157 #[.agg #[.int .i64 t.n,.slice A t.cl.length c,.slice A2 t.fl.length c2],.slice A3 xs.length c3,.agg #[.int .i64 (lo : Int),.int .i64 hi],.int .i64 m] w fun v w' => v = .bool b ∧ Ext w w' := by
 rw [← hb];exact full_c t xs lo hi m A c A2 c2 A3 c3 w hT hI hF hX hxl hfl hcl hhi
theorem in_T {a b c d : Int} {r : Bool} (h : decide (c ≤ a ∧ b ≤ d) = r) (w : World) : CallsV Tryz.prog 156 #[.agg #[.int .i64 a,.int .i64 b],.agg #[.int .i64 c,.int .i64 d]] w fun v w' => v = .bool r ∧ Ext w w' := by rw [← h];exact in_c a b c d w
theorem proved_c (t : Tr) (m : Md) (v mv : Value) (w : World) (hg : GoodT t) (hl12 : t.fl.length ≤ 12) (hV : TourV w w.heap.size v t) (hM : MendV w w.heap.size mv m) :
  CallsV Tryz.prog 82 #[v,mv] w fun v' w' => v' = .bool (decide (ProvP t m)) ∧ Ext w w' := by
 obtain ⟨A,c,A2,c2,rfl,hCl,hF⟩ := hV.open';obtain ⟨xv,zv,rfl,hX,hZ⟩ := hM;obtain ⟨A3,c3,rfl,-,-⟩ := id hX;obtain ⟨A4,c4,rfl,-,-⟩ := id hZ;have hTS : TourS w w.heap.size (.agg #[.int .i64 t.n,.slice A t.cl.length c,.slice A2 t.fl.length c2]) t := ⟨hV⟩;have hFS : FlawsS w w.heap.size (.slice A2 t.fl.length c2) t.fl := ⟨hF⟩;have hCS : IntsS w w.heap.size (.slice A t.cl.length c) t.cl := ⟨hCl⟩;have hXS : IntsS w w.heap.size (.slice A3 m.on.length c3) m.on := ⟨hX⟩;have hZS : SpansS w w.heap.size (.slice A4 m.full.length c4) m.full := ⟨hZ⟩;clear hV hX hZ hF hCl;have hP := hg.plan hl12;have hn60 := hg.n;have hcl9 := hP.cl;refine Wp.fn Tryz.func82 rfl Tryz.ntmps82 (by simp) ?_;have xw := Ext.refl w;refine Wp.keep [0,1] ?_;rintro r1 ⟨an,ao,-⟩;simp [go_sem] at an ao;refine sRg fun K' gd hK => ?_;refine cu1 fun K1 hK1 => ?_;go_simp;apply hK1;clear hK1 K1;refine Wops.absA fun b5 n2 L => ?_;obtain ⟨q2,L,s2,af,f2,r2⟩ := L;try simp only [q2] at af f2 r2 ⊢
 replace hTS := hTS.ext L;replace hFS := hFS.ext L;replace hCS := hCS.ext L;replace hXS := hXS.ext L;replace hZS := hZS.ext L;replace xw := xw.trans L;have g := af 0 _ rfl;have h := af 1 _ rfl;have d := af 2 _ rfl;clear af L;clear r2;refine cu1 fun K1 hK1 => ?_;go_simp;apply hK1;clear hK1 K1;refine Wops.absA fun b6 n3 u => ?_;obtain ⟨q3,u,s3,ag,f3,r3⟩ := u;try simp only [q3] at ag f3 r3 ⊢
 replace hTS := hTS.ext u;replace hFS := hFS.ext u;replace hCS := hCS.ext u;replace hXS := hXS.ext u;replace hZS := hZS.ext u;replace xw := xw.trans u;replace g := u.cell g;replace h := u.cell h;replace d := u.cell d;have f := ag 0 _ rfl;have M := ag 1 _ rfl;have s := ag 2 _ rfl;clear ag u;clear r3;go_simp;apply hK;clear hK K' gd;refine Wp.keep [2,3] ?_;rintro r2 ⟨y,B,-⟩;simp [go_sem,an,ao] at y B;clear an ao;refine Wp.seq ?_
 by_cases h1 : m.on.length = t.fl.length
 ·skip;replace h1 : ∃ _u : Unit,_ := ⟨(),h1⟩;have h1i : ((m.on.length : Int) = (t.fl.length : Int)) = True := by simp [h1.choose_spec]
  by_cases h2 : m.full.length = t.fl.length
  ·skip;replace h2 : ∃ _u : Unit,_ := ⟨(),h2⟩;have h2i : ((m.full.length : Int) = (t.fl.length : Int)) = True := by simp [h2.choose_spec]
   obtain ⟨wi,hwi⟩ : ∃ wi : Int,∃ _u : Unit,wrongI t m.on = wi := ⟨_,(),rfl⟩;obtain ⟨wt,hwt⟩ : ∃ wt : Int,∃ _u : Unit,wrthK t m.on t.fl.length = wt := ⟨_,(),rfl⟩
   by_cases h3 : 0 ≤ wi
   ·skip;refine Wp.seqDraw (.inl rfl) mixed [([0,1,2,3,4],none),([5,6,7],none),([8,9,10,11,12],none),([13,14,15,16],none),([17,18,19],some (20,false)),([21,22,23],none),([24,25,26,28,29],some (27,false)),([30,31],none)] (by kernel_rfl) fun K' gd hK hg => ?_;have g7 : gd 7 = some 14 := hg 7;have g16 : gd 16 = some 23 := hg 16;have g23 : gd 23 = some 30 := hg 23;clear hg;simp only [pick,nth,List.map_cons,List.map_nil,Option.map_none,Option.map_some];refine Mops.absD fun D3 hD3 zD3 => ?_;replace hTS := hTS.ext hD3;replace hXS := hXS.ext hD3;replace xw := xw.trans hD3;replace g := hD3.cell g;replace h := hD3.cell h;replace d := hD3.cell d;replace f := hD3.cell f;replace s := hD3.cell s;clear hD3;refine mNo ?_
    apply Mops.none
    ·intro w' hE';go_simp;with_reducible rfl
    refine mNo ?_
    apply Mops.none
    ·intro w' hE';go_simp;with_reducible rfl
    refine mAc ?_
    intro K1 hK1;go_simp;refine Wcall (.inl rfl) (wrong_c t t.n.toNat m.on _ _ _ hP (hTS.v.more (Below.size (XE))) (hXS.v.more (Below.size (XE))) h1.choose_spec) ?_;rintro v w3 ⟨hv,hE⟩;rw [hwi.choose_spec] at hv;subst hv;go_simp;refine hK1 _ _ (by assumption) ?_;clear hK1 K1;replace xw := xw.trans hE;clear hE;apply Mops.none
    ·intro w' hE';go_simp;with_reducible rfl
    apply Mops.act
    ·intro w' hE';go_simp;with_reducible rfl
    intro K1 hK1;go_simp;refine hK1 _ _ (Ext.refl _) ?_;clear hK1 K1;apply Mops.none
    ·intro w' hE';go_simp;with_reducible rfl
    refine Mops.done ?_;apply hK;clear hK K' gd g7 g16 g23;refine Wp.keep [2,3,38] ?_;rintro r4 ⟨aB,aV,aG,-⟩;simp [go_sem,y,B] at aB aV aG;clear y B;refine cTt ?_;refine sRg fun K' gd hK => ?_;go_simp;apply hK;clear hK K' gd;refine Wp.keep [4] ?_;rintro r5 ⟨b1,-⟩;simp [go_sem,aB,aV,aG] at b1;clear aB aV aG;refine Wp.ret ?_;refine tRe ?_;refine endK_tmp Tryz.results82 (by decide) ?_;rw [b1];exact ⟨by rw [prov_no3 (by rw [hwi.choose_spec];exact h3)],xw⟩
   ·skip
    by_cases h4 : wt = m.mt
    ·skip;subst h4;refine Wp.seqDraw (.inl rfl) mixed [([0,1,2,3,4],none),([5,6,7],none),([8,9,10,11,12],none),([13,14,15,16],none),([17,18,19],some (20,false)),([21,22,23],none),([24,25,26,28,29],some (27,false)),([30,31],none)] (by kernel_rfl) fun K' gd hK hg => ?_;have g7 : gd 7 = some 14 := hg 7;have g16 : gd 16 = some 23 := hg 16;have g23 : gd 23 = some 30 := hg 23;clear hg;simp only [pick,nth,List.map_cons,List.map_nil,Option.map_none,Option.map_some];refine Mops.absD fun D4 hD4 zD4 => ?_;replace hTS := hTS.ext hD4;replace hFS := hFS.ext hD4;replace hCS := hCS.ext hD4;replace hXS := hXS.ext hD4;replace hZS := hZS.ext hD4;replace xw := xw.trans hD4;replace g := hD4.cell g;replace h := hD4.cell h;replace d := hD4.cell d;replace f := hD4.cell f;replace M := hD4.cell M;replace s := hD4.cell s;clear hD4;refine mNo ?_
     apply Mops.none
     ·intro w' hE';go_simp;with_reducible rfl
     refine mNo ?_
     apply Mops.none
     ·intro w' hE';go_simp;with_reducible rfl
     refine mAc ?_
     intro K1 hK1;go_simp;refine Wcall (.inl rfl) (wrong_c t t.n.toNat m.on _ _ _ hP (hTS.v.more (Below.size (XE))) (hXS.v.more (Below.size (XE))) h1.choose_spec) ?_;rintro v w3 ⟨hv,hE⟩;rw [hwi.choose_spec] at hv;subst hv;go_simp;refine hK1 _ _ (by assumption) ?_;clear hK1 K1;have z6 := Below.size hE;replace hTS := hTS.ext hE;replace hFS := hFS.ext hE;replace hCS := hCS.ext hE;replace hXS := hXS.ext hE;replace hZS := hZS.ext hE;replace xw := xw.trans hE;replace g := hE.cell g;replace h := hE.cell h;replace d := hE.cell d;replace f := hE.cell f;replace M := hE.cell M;replace s := hE.cell s;clear hE;apply Mops.none
     ·intro w' hE';go_simp;with_reducible rfl
     refine mAc ?_
     intro K1 hK1;go_simp;refine Wcall (.inl rfl) (worthM_c t t.n.toNat m.on _ _ _ hP (hTS.v.more (Below.size (XE))) (hXS.v.more (Below.size (XE))) h1.choose_spec) ?_;rintro v w4 ⟨hv,hE⟩;rw [hwt.choose_spec] at hv;subst hv;go_simp;refine hK1 _ _ (by assumption) ?_;clear hK1 K1;have z7 := Below.size hE;replace hTS := hTS.ext hE;replace hFS := hFS.ext hE;replace hCS := hCS.ext hE;replace hXS := hXS.ext hE;replace hZS := hZS.ext hE;replace xw := xw.trans hE;replace g := hE.cell g;replace h := hE.cell h;replace d := hE.cell d;replace f := hE.cell f;replace s := hE.cell s;clear hE;apply Mops.none
     ·intro w' hE';go_simp;with_reducible rfl
     refine Mops.done ?_;apply hK;clear hK K' gd g7 g16 g23;refine Wp.keep [2,3,38] ?_;rintro r8 ⟨aF,aZ,aK,-⟩;simp [go_sem,y,B] at aF aZ aK;clear y B;refine cFf ?_;refine skN ?_;refine Wp.seq ?_;refine sRg fun K' gd hK => ?_;go_simp;apply hK;clear hK K' gd;refine Wp.keep [2,3,40,41,42] ?_;rintro r9 ⟨ah,ai,aj,ak,bR,-⟩;simp [go_sem,aF,aZ,aK] at ah ai aj ak bR;clear aF aZ aK;refine Wp.block ?_;refine Wp.loop (fun k ρ ds wk => AllEq [2,3,40,41] ρ r9 ∧ ds = [] ∧ (Ext w4 wk) ∧ (ρ 42 = .int .i64 (k : Int) ∧ (∃ _u : Unit,∀ j,j < k → FullOk t m.on (gZ m.full j) j))) (t.fl.length) ?_ ?_
     ·refine ⟨AllEq.refl _ _,rfl,Ext.refl _,?_⟩;exact ⟨by rw [bR];rfl,(),fun j hj => absurd hj (Nat.not_lt_zero _)⟩
     ·rintro k r10 _ wk hk ⟨hA,rfl,xl5,⟨e42,hq⟩⟩;obtain ⟨V,X,Z,ab,-⟩ := hA;rw [ah] at V;rw [ai] at X;rw [aj] at Z;rw [ak] at ab;have zxl5 := Below.size xl5;replace hTS := hTS.ext xl5;replace hFS := hFS.ext xl5;replace hCS := hCS.ext xl5;replace hXS := hXS.ext xl5;replace hZS := hZS.ext xl5;replace xw := Ext.trans xw xl5;replace g := Ext.cell xl5 g;replace h := Ext.cell xl5 h;replace d := Ext.cell xl5 d;replace f := Ext.cell xl5 f;replace s := Ext.cell xl5 s
      by_cases hkf : k < t.fl.length
      ·skip;have hkl : (k : Int) < (m.full.length : Int) := by have := h2.choose_spec;omega
       have hkm : k < m.full.length := by omega
       refine sRg fun K' gd hK => ?_;go_simp;apply hK;clear hK K' gd;refine Wp.keep [2,3,40,41,42,43] ?_;rintro r11 ⟨W,Y,aa,ac,ad,ae,-⟩;simp [go_sem,V,X,Z,ab,e42] at W Y aa ac ad ae;clear V X Z ab e42;refine Wp.seq ?_;refine cTt ?_;have hkf2 : (k : Int) < (t.fl.length : Int) := by omega
       have hkx : k < m.on.length := by have := h1.choose_spec;omega
       have hkx2 : (k : Int) < (m.on.length : Int) := by omega
       obtain ⟨b2,o2,eA,hb2,x0,x1,x2,x3⟩ := FlawsV.at hFS.v hkf;subst eA;obtain ⟨b3,o3,eA,hb3,z1,z2⟩ := SpansV.at hZS.v hkm;subst eA;obtain ⟨b4,o4,cc,ev,hb4,hcc⟩ := hXS.v.get hkx
       injection ev with ev1 _ ev2
       subst ev1;subst ev2;have d1 := hcc k hkx;clear hcc;obtain ⟨⟨p,q⟩,hpq⟩ : ∃ z : Int × Int,∃ _u : Unit,gZ m.full k = z := ⟨_,(),rfl⟩;rw [hpq.choose_spec] at z1 z2
       dsimp only at z1 z2
       obtain ⟨G,hG⟩ : ∃ G,∃ _u : Unit,t.fl[k] = G := ⟨_,(),rfl⟩;rw [hG.choose_spec] at x0 x1 x2 x3
       by_cases h5 : 0 ≤ gI m.on k
       ·skip;refine skN ?_;refine sBk ?_;refine sRg fun K' gd hK => ?_;refine cu4 fun K1 hK1 => ?_;go_simp;apply hK1;clear hK1 K1;refine Wops.absA fun b7 n6 x => ?_;obtain ⟨q6,x,s6,al,f6,r6⟩ := x;try simp only [q6] at al f6 r6 ⊢
        replace xw := xw.trans x;replace xl5 := xl5.trans x;replace f := x.cell f;replace x1 := x.cell x1;replace x2 := x.cell x2;replace x3 := x.cell x3;replace z1 := x.cell z1;replace z2 := x.cell z2;replace d1 := x.cell d1;have l := al 0 _ rfl;have o := al 1 _ rfl;clear al x;clear r6;refine cu2 fun K1 hK1 => ?_;go_simp;apply hK1;clear hK1 K1;refine Wops.absS (b := n6) (i := 0) [_,_] (somes [cellVal l,cellVal o] (by simp) (by intro j v hj;match j,hj with | 0,hj => (simp at hj;subst hj;exact l) | 1,hj => (simp at hj;subst hj;exact o))) fun P7 hP7 => ?_;have zP7 := hP7.same;replace xw := Put.to xw hP7 (by omega);replace xl5 := Put.to xl5 hP7 (by omega);replace f := hP7.cell f (by omega);replace x1 := hP7.cell x1 (by omega);replace x2 := hP7.cell x2 (by omega);replace x3 := hP7.cell x3 (by omega);replace z1 := hP7.cell z1 (by omega);replace z2 := hP7.cell z2 (by omega);replace d1 := hP7.cell d1 (by omega);clear l;clear o;have l := hP7.new 0 _ rfl;try simp only [Nat.reduceAdd,Nat.zero_add,Nat.add_zero] at l
        have o := hP7.new 1 _ rfl;try simp only [Nat.reduceAdd,Nat.zero_add,Nat.add_zero] at o
        clear hP7;try simp only [Wops_nil,updO_some,updO_none]
        apply hK;clear hK K' gd;refine Wp.keep [2,3,5,6,40,41,42] ?_;rintro r12 ⟨ap,aL,bz,bB,a0,ba,bk,-⟩;simp [go_sem,W,Y,aa,ac,ad,ae] at ap aL bz bB a0 ba bk;clear W Y aa ac ad ae;refine Wp.seq ?_;refine sRg fun K' gd hK => ?_;go_simp;apply hK;clear hK K' gd;refine Wp.keep [2,3,5,6,40,41,42,52] ?_;rintro r13 ⟨N,O,T,U,P,Q,R,S,-⟩;simp [go_sem,ap,aL,bz,bB,a0,ba,bk] at N O T U P Q R S;clear ap aL bz bB a0 ba bk;refine cTt ?_
        by_cases h6 : p = 0
        ·skip
         by_cases h7 : q = 0
         ·skip;refine Wp.seq ?_;refine sRg fun K' gd hK => ?_;go_simp;apply hK;clear hK K' gd;refine Wp.keep [2,3,40,41,42,55] ?_;rintro r14 ⟨aq,aM,a1,bb,bl,bv,-⟩;simp [go_sem,N,O,T,U,P,Q,R,S] at aq aM a1 bb bl bv;clear N O T U P Q R S;refine cFf ?_;refine skN ?_;refine Wp.exit ?_;refine tEx ?_;refine blockK_here ?_;refine tNo ?_;refine lRg fun K' gd hK => ?_;go_simp;apply hK;clear hK K' gd;refine Ends.keep [2,3,40,41,42] ?_;rintro r15 ⟨bH,bJ,bL,bN,bP,-⟩;simp [go_sem,aq,aM,a1,bb,bl,bv] at bH bJ bL bN bP;clear aq aM a1 bb bl bv;refine Ends.mk ?_;refine thenK_normal ⟨by omega,⟨by rw [bH,ah],by rw [bJ,ai],by rw [bL,aj],by rw [bN,ak],trivial⟩,rfl,xl5,?_⟩;exact ⟨by rw [bP,IntWalk.i64_in _ (by omega)];rfl,(),fun j hj => by by_cases e : j = k;(subst e;rw [full_yes h5,hpq.choose_spec,h6,h7]);exact hq.choose_spec j (by omega)⟩
         ·skip;refine Wp.seq ?_;refine sRg fun K' gd hK => ?_;go_simp;apply hK;clear hK K' gd;refine Wp.keep [2,3,40,41,42,55] ?_;rintro r16 ⟨ar,aN,a2,bc,bm,bw,-⟩;simp [go_sem,N,O,T,U,P,Q,R,S] at ar aN a2 bc bm bw;clear N O T U P Q R S;refine cTt ?_;refine sRg fun K' gd hK => ?_;go_simp;apply hK;clear hK K' gd;refine Wp.keep [4] ?_;rintro r17 ⟨bS,-⟩;simp [go_sem,ar,aN,a2,bc,bm,bw] at bS;clear ar aN a2 bc bm bw;refine Wp.ret ?_;refine tRe ?_;refine tRe ?_;refine bRe ?_;refine tRe ?_;refine tRe ?_;refine bRe ?_;refine tRe ?_;refine endK_tmp Tryz.results82 (by decide) ?_;rw [bS];exact ⟨by rw [prov_no5 hkf (by rw [full_yes h5,hpq.choose_spec];intro e;injection e with e1 e2;exact h7 e2)],xw⟩
        ·skip;refine Wp.seq ?_;refine sRg fun K' gd hK => ?_;go_simp;apply hK;clear hK K' gd;refine Wp.keep [2,3,40,41,42,55] ?_;rintro r18 ⟨au,aO,a3,bd,bn,bx,-⟩;simp [go_sem,N,O,T,U,P,Q,R,S] at au aO a3 bd bn bx;clear N O T U P Q R S;refine cTt ?_;refine sRg fun K' gd hK => ?_;go_simp;apply hK;clear hK K' gd;refine Wp.keep [4] ?_;rintro r19 ⟨bT,-⟩;simp [go_sem,au,aO,a3,bd,bn,bx] at bT;clear au aO a3 bd bn bx;refine Wp.ret ?_;refine tRe ?_;refine tRe ?_;refine bRe ?_;refine tRe ?_;refine tRe ?_;refine bRe ?_;refine tRe ?_;refine endK_tmp Tryz.results82 (by decide) ?_;rw [bT];exact ⟨by rw [prov_no5 hkf (by rw [full_yes h5,hpq.choose_spec];intro e;injection e with e1 e2;exact h6 e1)],xw⟩
       ·skip;refine skN ?_;refine sBk ?_;refine sRg fun K' gd hK => ?_;refine cu4 fun K1 hK1 => ?_;go_simp;apply hK1;clear hK1 K1;refine Wops.absA fun b8 n6 r => ?_;obtain ⟨q6,r,s6,am,f6,r6⟩ := r;try simp only [q6] at am f6 r6 ⊢
        replace hTS := hTS.ext r;replace hFS := hFS.ext r;replace hCS := hCS.ext r;replace hXS := hXS.ext r;replace xw := xw.trans r;replace xl5 := xl5.trans r;replace g := r.cell g;replace h := r.cell h;replace d := r.cell d;replace f := r.cell f;replace x1 := r.cell x1;replace x2 := r.cell x2;replace x3 := r.cell x3;replace z1 := r.cell z1;replace z2 := r.cell z2;replace d1 := r.cell d1;have l := am 0 _ rfl;have o := am 1 _ rfl;clear am r;clear r6;refine cu2 fun K1 hK1 => ?_;go_simp;apply hK1;clear hK1 K1;refine Wops.absS (b := n6) (i := 0) [_,_] (somes [cellVal l,cellVal o] (by simp) (by intro j v hj;match j,hj with | 0,hj => (simp at hj;subst hj;exact l) | 1,hj => (simp at hj;subst hj;exact o))) fun P9 hP9 => ?_;have zP9 := hP9.same;replace hTS := hTS.put hP9 (by omega);replace hFS := hFS.put hP9 (by omega);replace hCS := hCS.put hP9 (by omega);replace hXS := hXS.put hP9 (by omega);replace xw := Put.to xw hP9 (by omega);replace xl5 := Put.to xl5 hP9 (by omega);replace g := hP9.cell g (by omega);replace h := hP9.cell h (by omega);replace d := hP9.cell d (by omega);replace f := hP9.cell f (by omega);replace x1 := hP9.cell x1 (by omega)
        replace x2 := hP9.cell x2 (by omega);replace x3 := hP9.cell x3 (by omega);replace z1 := hP9.cell z1 (by omega);replace z2 := hP9.cell z2 (by omega);replace d1 := hP9.cell d1 (by omega);clear l;clear o;have l := hP9.new 0 _ rfl;try simp only [Nat.reduceAdd,Nat.zero_add,Nat.add_zero] at l
        have o := hP9.new 1 _ rfl;try simp only [Nat.reduceAdd,Nat.zero_add,Nat.add_zero] at o
        clear hP9;try simp only [Wops_nil,updO_some,updO_none]
        apply hK;clear hK K' gd;refine Wp.keep [2,3,5,6,40,41,42] ?_;rintro r20 ⟨av,aP,bA,bC,a4,be,bo,-⟩;simp [go_sem,W,Y,aa,ac,ad,ae] at av aP bA bC a4 be bo;clear W Y aa ac ad ae;refine Wp.seq ?_;refine sRg fun K' gd hK => ?_;go_simp;apply hK;clear hK K' gd;refine Wp.keep [2,3,5,6,40,41,42,52] ?_;rintro r21 ⟨C,D,J,K,E,F,H,I,-⟩;simp [go_sem,av,aP,bA,bC,a4,be,bo] at C D J K E F H I;clear av aP bA bC a4 be bo;refine cFf ?_;have hfa : ∃ _u : Unit,FullOk t m.on (gZ m.full k) k ↔ (0 ≤ p ∧ p ≤ q ∧ q < t.n) ∧ (p ≤ G.lo ∧ G.hi ≤ q) ∧ fullB t m.on p q G.m = true := ⟨(),by rw [FullOk.at hkf h5,hpq.choose_spec,hG.choose_spec]⟩
        by_cases s1 : 0 ≤ p ∧ p ≤ q ∧ q < t.n
        ·skip;obtain ⟨a,ha⟩ : ∃ a : Nat,p = (a : Int) := ⟨p.toNat,by omega⟩;subst ha
         by_cases s2 : (a : Int) ≤ G.lo ∧ G.hi ≤ q
         ·skip
          by_cases s3 : fullB t m.on (a : Int) q G.m = true
          ·skip;refine skN ?_;refine Wp.seqDraw (.inl rfl) mixed [([0,1],some (2,false)),([3,4],none),([5,6,7,8,9],none),([10,11],some (12,false)),([13,14,15],none),([16,17,18,19,20],none),([21,22,23,24,25],some (26,false)),([27,28],none)] (by kernel_rfl) fun K' gd hK hg => ?_;have g4 : gd 4 = some 60 := hg 4;have g15 : gd 15 = some 71 := hg 15;clear hg;simp only [pick,nth,List.map_cons,List.map_nil,Option.map_none,Option.map_some];refine Mops.absD fun D10 hD10 zD10 => ?_;replace hTS := hTS.ext hD10;replace hFS := hFS.ext hD10;replace hCS := hCS.ext hD10;replace hXS := hXS.ext hD10;replace xw := xw.trans hD10;replace xl5 := xl5.trans hD10;replace g := hD10.cell g;replace h := hD10.cell h;replace d := hD10.cell d;replace f := hD10.cell f;replace x1 := hD10.cell x1;replace x2 := hD10.cell x2;replace x3 := hD10.cell x3;replace z1 := hD10.cell z1;replace z2 := hD10.cell z2;replace d1 := hD10.cell d1;replace l := hD10.cell l;replace o := hD10.cell o;clear hD10;refine mAc ?_
           intro K1 hK1;go_simp;refine Wcall (.inl rfl) (span_T s1 _) ?_;rintro v w5 ⟨rfl,hE⟩;go_simp;refine hK1 _ _ (by assumption) ?_;clear hK1 K1;replace hTS := hTS.ext hE;replace hFS := hFS.ext hE;replace hCS := hCS.ext hE;replace hXS := hXS.ext hE;replace xw := xw.trans hE;replace xl5 := xl5.trans hE;replace g := hE.cell g;replace h := hE.cell h;replace d := hE.cell d;replace f := hE.cell f;replace x1 := hE.cell x1;replace x2 := hE.cell x2;replace x3 := hE.cell x3;replace z1 := hE.cell z1;replace z2 := hE.cell z2;replace d1 := hE.cell d1;replace l := hE.cell l;replace o := hE.cell o;clear hE;apply Mops.none
           ·intro w' hE';go_simp;with_reducible rfl
           refine mNo ?_
           refine mAc ?_
           intro K1 hK1;go_simp;refine Wcall (.inl rfl) (in_T (decide_eq_true s2) _) ?_;rintro v w6 ⟨rfl,hE⟩;go_simp;refine hK1 _ _ (by assumption) ?_;clear hK1 K1;replace hTS := hTS.ext hE;replace hFS := hFS.ext hE;replace hCS := hCS.ext hE;replace hXS := hXS.ext hE;replace xw := xw.trans hE;replace xl5 := xl5.trans hE;replace g := hE.cell g;replace h := hE.cell h;replace d := hE.cell d;replace f := hE.cell f;replace x1 := hE.cell x1;replace x2 := hE.cell x2;replace x3 := hE.cell x3;replace z1 := hE.cell z1;replace z2 := hE.cell z2;replace d1 := hE.cell d1;replace l := hE.cell l;replace o := hE.cell o;clear hE;apply Mops.none
           ·intro w' hE';go_simp;with_reducible rfl
           refine mNo ?_
           refine mAc ?_
           intro K1 hK1;go_simp;refine Wcall (.inl rfl) (full_T s3 (hTS.v.more (Below.size (XE))) (hCS.v.more (Below.size (XE))) (hFS.v.more (Below.size (XE))) (hXS.v.more (Below.size (XE))) h1.choose_spec hl12 hcl9 (by omega)) ?_;rintro v w7 ⟨rfl,hE⟩;go_simp;refine hK1 _ _ (by assumption) ?_;clear hK1 K1;replace xw := xw.trans hE;replace xl5 := xl5.trans hE;replace x1 := hE.cell x1;replace x2 := hE.cell x2;replace x3 := hE.cell x3;replace z1 := hE.cell z1;replace z2 := hE.cell z2;replace d1 := hE.cell d1;clear hE;apply Mops.none
           ·intro w' hE';go_simp;with_reducible rfl
           refine Mops.done ?_;apply hK;clear hK K' gd g4 g15;refine Wp.keep [2,3,40,41,42,84] ?_;rintro r25 ⟨aw,aQ,a5,bf,bp,bD,-⟩;simp [go_sem,C,D,J,K,E,F,H,I] at aw aQ a5 bf bp bD;clear C D J K E F H I;refine cFf ?_;refine Wp.skip ?_;refine bNo ?_;refine tNo ?_;refine lRg fun K' gd hK => ?_;go_simp;apply hK;clear hK K' gd;refine Ends.keep [2,3,40,41,42] ?_;rintro r26 ⟨bI,bK,bM,bO,bQ,-⟩;simp [go_sem,aw,aQ,a5,bf,bp,bD] at bI bK bM bO bQ;clear aw aQ a5 bf bp bD;refine Ends.mk ?_;refine thenK_normal ⟨by omega,⟨by rw [bI,ah],by rw [bK,ai],by rw [bM,aj],by rw [bO,ak],trivial⟩,rfl,xl5,?_⟩;exact ⟨by rw [bQ,IntWalk.i64_in _ (by omega)];rfl,(),fun j hj => by by_cases e : j = k;(subst e;exact hfa.choose_spec.2 ⟨s1,s2,s3⟩);exact hq.choose_spec j (by omega)⟩
          ·skip;refine skN ?_;refine Wp.seqDraw (.inl rfl) mixed [([0,1],some (2,false)),([3,4],none),([5,6,7,8,9],none),([10,11],some (12,false)),([13,14,15],none),([16,17,18,19,20],none),([21,22,23,24,25],some (26,false)),([27,28],none)] (by kernel_rfl) fun K' gd hK hg => ?_;have g4 : gd 4 = some 60 := hg 4;have g15 : gd 15 = some 71 := hg 15;clear hg;simp only [pick,nth,List.map_cons,List.map_nil,Option.map_none,Option.map_some];refine Mops.absD fun D11 hD11 zD11 => ?_;replace hTS := hTS.ext hD11;replace hFS := hFS.ext hD11;replace hCS := hCS.ext hD11;replace hXS := hXS.ext hD11;replace xw := xw.trans hD11;replace xl5 := xl5.trans hD11;replace g := hD11.cell g;replace h := hD11.cell h;replace d := hD11.cell d;replace f := hD11.cell f;replace x1 := hD11.cell x1;replace x2 := hD11.cell x2;replace x3 := hD11.cell x3;replace l := hD11.cell l;replace o := hD11.cell o;clear hD11;refine mAc ?_
           intro K1 hK1;go_simp;refine Wcall (.inl rfl) (span_T s1 _) ?_;rintro v w5 ⟨rfl,hE⟩;go_simp;refine hK1 _ _ (by assumption) ?_;clear hK1 K1;replace hTS := hTS.ext hE;replace hFS := hFS.ext hE;replace hCS := hCS.ext hE;replace hXS := hXS.ext hE;replace xw := xw.trans hE;replace xl5 := xl5.trans hE;replace g := hE.cell g;replace h := hE.cell h;replace d := hE.cell d;replace f := hE.cell f;replace x1 := hE.cell x1;replace x2 := hE.cell x2;replace x3 := hE.cell x3;replace l := hE.cell l;replace o := hE.cell o;clear hE;apply Mops.none
           ·intro w' hE';go_simp;with_reducible rfl
           refine mNo ?_
           refine mAc ?_
           intro K1 hK1;go_simp;refine Wcall (.inl rfl) (in_T (decide_eq_true s2) _) ?_;rintro v w6 ⟨rfl,hE⟩;go_simp;refine hK1 _ _ (by assumption) ?_;clear hK1 K1;replace hTS := hTS.ext hE;replace hFS := hFS.ext hE;replace hCS := hCS.ext hE;replace hXS := hXS.ext hE;replace xw := xw.trans hE;replace xl5 := xl5.trans hE;replace g := hE.cell g;replace h := hE.cell h;replace d := hE.cell d;replace f := hE.cell f;replace x3 := hE.cell x3;replace l := hE.cell l;replace o := hE.cell o;clear hE;apply Mops.none
           ·intro w' hE';go_simp;with_reducible rfl
           refine mNo ?_
           refine mAc ?_
           intro K1 hK1;go_simp;refine Wcall (.inl rfl) (full_T (show fullB t m.on (a : Int) q G.m = false by simpa using s3) (hTS.v.more (Below.size (XE))) (hCS.v.more (Below.size (XE))) (hFS.v.more (Below.size (XE))) (hXS.v.more (Below.size (XE))) h1.choose_spec hl12 hcl9 (by omega)) ?_;rintro v w7 ⟨rfl,hE⟩;go_simp;refine hK1 _ _ (by assumption) ?_;clear hK1 K1;replace xw := xw.trans hE;replace xl5 := xl5.trans hE;clear hE;apply Mops.none
           ·intro w' hE';go_simp;with_reducible rfl
           refine Mops.done ?_;apply hK;clear hK K' gd g4 g15;refine Wp.keep [2,3,40,41,42,84] ?_;rintro r30 ⟨ax,aR,a6,bg,bq,bE,-⟩;simp [go_sem,C,D,J,K,E,F,H,I] at ax aR a6 bg bq bE;clear C D J K E F H I;refine cTt ?_;refine sRg fun K' gd hK => ?_;go_simp;apply hK;clear hK K' gd;refine Wp.keep [4] ?_;rintro r31 ⟨bU,-⟩;simp [go_sem,ax,aR,a6,bg,bq,bE] at bU;clear ax aR a6 bg bq bE;refine Wp.ret ?_;refine bRe ?_;refine tRe ?_;refine tRe ?_;refine bRe ?_;refine tRe ?_;refine endK_tmp Tryz.results82 (by decide) ?_;rw [bU];exact ⟨by rw [prov_no5 hkf fun e => s3 (hfa.choose_spec.1 e).2.2],xw⟩
         ·skip;refine skN ?_;refine Wp.seqDraw (.inl rfl) mixed [([0,1],some (2,false)),([3,4],none),([5,6,7,8,9],none),([10,11],some (12,false)),([13,14,15],none),([16,17,18,19,20],none),([21,22,23,24,25],some (26,false)),([27,28],none)] (by kernel_rfl) fun K' gd hK hg => ?_;have g4 : gd 4 = some 60 := hg 4;have g15 : gd 15 = some 71 := hg 15;clear hg;simp only [pick,nth,List.map_cons,List.map_nil,Option.map_none,Option.map_some];refine Mops.absD fun D12 hD12 zD12 => ?_;replace xw := xw.trans hD12;replace xl5 := xl5.trans hD12;replace g := hD12.cell g;replace h := hD12.cell h;replace d := hD12.cell d;replace x1 := hD12.cell x1;replace x2 := hD12.cell x2;replace l := hD12.cell l;replace o := hD12.cell o;clear hD12;refine mAc ?_
          intro K1 hK1;go_simp;refine Wcall (.inl rfl) (span_T s1 _) ?_;rintro v w5 ⟨rfl,hE⟩;go_simp;refine hK1 _ _ (by assumption) ?_;clear hK1 K1;replace xw := xw.trans hE;replace xl5 := xl5.trans hE;replace d := hE.cell d;replace x1 := hE.cell x1;replace x2 := hE.cell x2;replace l := hE.cell l;replace o := hE.cell o;clear hE;apply Mops.none
          ·intro w' hE';go_simp;with_reducible rfl
          refine mNo ?_
          refine mAc ?_
          intro K1 hK1;go_simp;refine Wcall (.inl rfl) (in_T (decide_eq_false s2) _) ?_;rintro v w6 ⟨rfl,hE⟩;go_simp;refine hK1 _ _ (by assumption) ?_;clear hK1 K1;replace xw := xw.trans hE;replace xl5 := xl5.trans hE;clear hE;apply Mops.none
          ·intro w' hE';go_simp;with_reducible rfl
          apply Mops.none
          ·intro w' hE';go_simp;with_reducible rfl
          apply Mops.act
          ·intro w' hE';go_simp;with_reducible rfl
          intro K1 hK1;go_simp;refine hK1 _ _ (Ext.refl _) ?_;clear hK1 K1;apply Mops.none
          ·intro w' hE';go_simp;with_reducible rfl
          refine Mops.done ?_;apply hK;clear hK K' gd g4 g15;refine Wp.keep [2,3,40,41,42,84] ?_;rintro r34 ⟨ay,aS,a7,bh,br,bF,-⟩;simp [go_sem,C,D,J,K,E,F,H,I] at ay aS a7 bh br bF;clear C D J K E F H I;refine cTt ?_;refine sRg fun K' gd hK => ?_;go_simp;apply hK;clear hK K' gd;refine Wp.keep [4] ?_;rintro r35 ⟨bV,-⟩;simp [go_sem,ay,aS,a7,bh,br,bF] at bV;clear ay aS a7 bh br bF;refine Wp.ret ?_;refine bRe ?_;refine tRe ?_;refine tRe ?_;refine bRe ?_;refine tRe ?_;refine endK_tmp Tryz.results82 (by decide) ?_;rw [bV];exact ⟨by rw [prov_no5 hkf fun e => s2 (hfa.choose_spec.1 e).2.1],xw⟩
        ·skip;refine skN ?_;refine Wp.seqDraw (.inl rfl) mixed [([0,1],some (2,false)),([3,4],none),([5,6,7,8,9],none),([10,11],some (12,false)),([13,14,15],none),([16,17,18,19,20],none),([21,22,23,24,25],some (26,false)),([27,28],none)] (by kernel_rfl) fun K' gd hK hg => ?_;have g4 : gd 4 = some 60 := hg 4;have g15 : gd 15 = some 71 := hg 15;clear hg;simp only [pick,nth,List.map_cons,List.map_nil,Option.map_none,Option.map_some];refine Mops.absD fun D13 hD13 zD13 => ?_;replace xw := xw.trans hD13;replace xl5 := xl5.trans hD13;replace g := hD13.cell g;replace h := hD13.cell h;replace d := hD13.cell d;replace l := hD13.cell l;replace o := hD13.cell o;clear hD13;refine mAc ?_
         intro K1 hK1;go_simp;refine Wcall (.inl rfl) (span_F s1 _) ?_;rintro v w5 ⟨rfl,hE⟩;go_simp;refine hK1 _ _ (by assumption) ?_;clear hK1 K1;replace xw := xw.trans hE;replace xl5 := xl5.trans hE;clear hE;apply Mops.none
         ·intro w' hE';go_simp;with_reducible rfl
         apply Mops.none
         ·intro w' hE';go_simp;with_reducible rfl
         apply Mops.act
         ·intro w' hE';go_simp;with_reducible rfl
         intro K1 hK1;go_simp;refine hK1 _ _ (Ext.refl _) ?_;clear hK1 K1;apply Mops.none
         ·intro w' hE';go_simp;with_reducible rfl
         apply Mops.none
         ·intro w' hE';go_simp;with_reducible rfl
         apply Mops.act
         ·intro w' hE';go_simp;with_reducible rfl
         intro K1 hK1;go_simp;refine hK1 _ _ (Ext.refl _) ?_;clear hK1 K1;apply Mops.none
         ·intro w' hE';go_simp;with_reducible rfl
         refine Mops.done ?_;apply hK;clear hK K' gd g4 g15;refine Wp.keep [2,3,40,41,42,84] ?_;rintro r37 ⟨az,aT,a8,bi,bs,bG,-⟩;simp [go_sem,C,D,J,K,E,F,H,I] at az aT a8 bi bs bG;clear C D J K E F H I;refine cTt ?_;refine sRg fun K' gd hK => ?_;go_simp;apply hK;clear hK K' gd;refine Wp.keep [4] ?_;rintro r38 ⟨bW,-⟩;simp [go_sem,az,aT,a8,bi,bs,bG] at bW;clear az aT a8 bi bs bG;refine Wp.ret ?_;refine bRe ?_;refine tRe ?_;refine tRe ?_;refine bRe ?_;refine tRe ?_;refine endK_tmp Tryz.results82 (by decide) ?_;rw [bW];exact ⟨by rw [prov_no5 hkf fun e => s1 (hfa.choose_spec.1 e).1],xw⟩
      ·skip;have hkq : ∃ _u : Unit,k = t.fl.length := ⟨(),by omega⟩;have hkl : ¬ (k : Int) < (m.full.length : Int) := by have := h2.choose_spec;omega
       refine sRg fun K' gd hK => ?_;go_simp;apply hK;clear hK K' gd;refine Wp.keep [2,3,40,41,42,43] ?_;rintro r39 ⟨aA,aU,a9,bj,bt,bu,-⟩;simp [go_sem,V,X,Z,ab,e42] at aA aU a9 bj bt bu;clear V X Z ab e42;refine Wp.seq ?_;refine cFf ?_;refine Wp.exit ?_;refine tEx ?_;refine tEx ?_;refine blockK_here ?_;refine tNo ?_;refine sRg fun K' gd hK => ?_;go_simp;apply hK;clear hK K' gd;refine Wp.keep [4] ?_;rintro r40 ⟨bX,-⟩;simp [go_sem,aA,aU,a9,bj,bt,bu] at bX;clear aA aU a9 bj bt bu;refine Wp.ret ?_;refine endK_tmp Tryz.results82 (by decide) ?_;rw [bX];exact ⟨by rw [decide_eq_true (show ProvP t m from ⟨⟨h1.choose_spec,h2.choose_spec,by rw [hwi.choose_spec];omega,hwt.choose_spec⟩,fun j hj => hq.choose_spec j (by rw [hkq.choose_spec];exact hj)⟩)],xw⟩
    ·skip;refine Wp.seqDraw (.inl rfl) mixed [([0,1,2,3,4],none),([5,6,7],none),([8,9,10,11,12],none),([13,14,15,16],none),([17,18,19],some (20,false)),([21,22,23],none),([24,25,26,28,29],some (27,false)),([30,31],none)] (by kernel_rfl) fun K' gd hK hg => ?_;have g7 : gd 7 = some 14 := hg 7;have g16 : gd 16 = some 23 := hg 16;have g23 : gd 23 = some 30 := hg 23;clear hg;simp only [pick,nth,List.map_cons,List.map_nil,Option.map_none,Option.map_some];refine Mops.absD fun D14 hD14 zD14 => ?_;replace hTS := hTS.ext hD14;replace hXS := hXS.ext hD14;replace xw := xw.trans hD14;replace g := hD14.cell g;replace h := hD14.cell h;replace d := hD14.cell d;replace f := hD14.cell f;replace M := hD14.cell M;replace s := hD14.cell s;clear hD14;refine mNo ?_
     apply Mops.none
     ·intro w' hE';go_simp;with_reducible rfl
     refine mNo ?_
     apply Mops.none
     ·intro w' hE';go_simp;with_reducible rfl
     refine mAc ?_
     intro K1 hK1;go_simp;refine Wcall (.inl rfl) (wrong_c t t.n.toNat m.on _ _ _ hP (hTS.v.more (Below.size (XE))) (hXS.v.more (Below.size (XE))) h1.choose_spec) ?_;rintro v w3 ⟨hv,hE⟩;rw [hwi.choose_spec] at hv;subst hv;go_simp;refine hK1 _ _ (by assumption) ?_;clear hK1 K1;replace hTS := hTS.ext hE;replace hXS := hXS.ext hE;replace xw := xw.trans hE;replace g := hE.cell g;replace h := hE.cell h;replace d := hE.cell d;replace f := hE.cell f;replace M := hE.cell M;clear hE;apply Mops.none
     ·intro w' hE';go_simp;with_reducible rfl
     refine mAc ?_
     intro K1 hK1;go_simp;refine Wcall (.inl rfl) (worthM_c t t.n.toNat m.on _ _ _ hP (hTS.v.more (Below.size (XE))) (hXS.v.more (Below.size (XE))) h1.choose_spec) ?_;rintro v w4 ⟨hv,hE⟩;rw [hwt.choose_spec] at hv;subst hv;go_simp;refine hK1 _ _ (by assumption) ?_;clear hK1 K1;replace xw := xw.trans hE;clear hE;apply Mops.none
     ·intro w' hE';go_simp;with_reducible rfl
     refine Mops.done ?_;apply hK;clear hK K' gd g7 g16 g23;refine Wp.keep [2,3,38] ?_;rintro r43 ⟨aC,aW,aH,-⟩;simp [go_sem,y,B] at aC aW aH;clear y B;refine cTt ?_;refine sRg fun K' gd hK => ?_;go_simp;apply hK;clear hK K' gd;refine Wp.keep [4] ?_;rintro r44 ⟨bY,-⟩;simp [go_sem,aC,aW,aH] at bY;clear aC aW aH;refine Wp.ret ?_;refine tRe ?_;refine endK_tmp Tryz.results82 (by decide) ?_;rw [bY];exact ⟨by rw [prov_no4 (by rw [hwt.choose_spec];exact h4)],xw⟩
  ·skip;have h2i : ((m.full.length : Int) = (t.fl.length : Int)) = False := by simp;omega
   refine Wp.seqDraw (.inl rfl) mixed [([0,1,2,3,4],none),([5,6,7],none),([8,9,10,11,12],none),([13,14,15,16],none),([17,18,19],some (20,false)),([21,22,23],none),([24,25,26,28,29],some (27,false)),([30,31],none)] (by kernel_rfl) fun K' gd hK hg => ?_;have g7 : gd 7 = some 14 := hg 7;have g16 : gd 16 = some 23 := hg 16;have g23 : gd 23 = some 30 := hg 23;clear hg;simp only [pick,nth,List.map_cons,List.map_nil,Option.map_none,Option.map_some];refine Mops.absD fun D15 hD15 zD15 => ?_;replace xw := xw.trans hD15;replace d := hD15.cell d;replace f := hD15.cell f;replace s := hD15.cell s;clear hD15;refine mNo ?_
   apply Mops.none
   ·intro w' hE';go_simp;with_reducible rfl
   refine mNo ?_
   apply Mops.none
   ·intro w' hE';go_simp;with_reducible rfl
   apply Mops.act
   ·intro w' hE';go_simp;with_reducible rfl
   intro K1 hK1;go_simp;refine hK1 _ _ (Ext.refl _) ?_;clear hK1 K1;apply Mops.none
   ·intro w' hE';go_simp;with_reducible rfl
   apply Mops.act
   ·intro w' hE';go_simp;with_reducible rfl
   intro K1 hK1;go_simp;refine hK1 _ _ (Ext.refl _) ?_;clear hK1 K1;apply Mops.none
   ·intro w' hE';go_simp;with_reducible rfl
   refine Mops.done ?_;apply hK;clear hK K' gd g7 g16 g23;refine Wp.keep [2,3,38] ?_;rintro r45 ⟨aD,aX,aI,-⟩;simp [go_sem,y,B] at aD aX aI;clear y B;refine cTt ?_;refine sRg fun K' gd hK => ?_;go_simp;apply hK;clear hK K' gd;refine Wp.keep [4] ?_;rintro r46 ⟨bZ,-⟩;simp [go_sem,aD,aX,aI] at bZ;clear aD aX aI;refine Wp.ret ?_;refine tRe ?_;refine endK_tmp Tryz.results82 (by decide) ?_;rw [bZ];exact ⟨by rw [prov_no2 h2],xw⟩
 ·skip;have h1i : ((m.on.length : Int) = (t.fl.length : Int)) = False := by simp;omega
  refine Wp.seqDraw (.inl rfl) mixed [([0,1,2,3,4],none),([5,6,7],none),([8,9,10,11,12],none),([13,14,15,16],none),([17,18,19],some (20,false)),([21,22,23],none),([24,25,26,28,29],some (27,false)),([30,31],none)] (by kernel_rfl) fun K' gd hK hg => ?_;have g7 : gd 7 = some 14 := hg 7;have g16 : gd 16 = some 23 := hg 16;have g23 : gd 23 = some 30 := hg 23;clear hg;simp only [pick,nth,List.map_cons,List.map_nil,Option.map_none,Option.map_some];refine Mops.absD fun D16 hD16 zD16 => ?_;replace xw := xw.trans hD16;replace d := hD16.cell d;replace f := hD16.cell f;clear hD16;refine mNo ?_
  apply Mops.none
  ·intro w' hE';go_simp;with_reducible rfl
  apply Mops.none
  ·intro w' hE';go_simp;with_reducible rfl
  apply Mops.none
  ·intro w' hE';go_simp;with_reducible rfl
  apply Mops.act
  ·intro w' hE';go_simp;with_reducible rfl
  intro K1 hK1;go_simp;refine hK1 _ _ (Ext.refl _) ?_;clear hK1 K1;apply Mops.none
  ·intro w' hE';go_simp;with_reducible rfl
  apply Mops.act
  ·intro w' hE';go_simp;with_reducible rfl
  intro K1 hK1;go_simp;refine hK1 _ _ (Ext.refl _) ?_;clear hK1 K1;apply Mops.none
  ·intro w' hE';go_simp;with_reducible rfl
  refine Mops.done ?_;apply hK;clear hK K' gd g7 g16 g23;refine Wp.keep [2,3,38] ?_;rintro r47 ⟨aE,aY,aJ,-⟩;simp [go_sem,y,B] at aE aY aJ;clear y B;refine cTt ?_;refine sRg fun K' gd hK => ?_;go_simp;apply hK;clear hK K' gd;refine Wp.keep [4] ?_;rintro r48 ⟨b0,-⟩;simp [go_sem,aE,aY,aJ] at b0;clear aE aY aJ;refine Wp.ret ?_;refine tRe ?_;refine endK_tmp Tryz.results82 (by decide) ?_;rw [b0];exact ⟨by rw [prov_no1 h1],xw⟩
def bestE (t : Tr) (m : Md) : Int := if checkT t ≠ 0 then checkT t else if ProvP t m then 0 else 8
theorem CheckBest_c (t : Tr) (m : Md) (v mv : Value) (w : World) (hV : TourV w w.heap.size v t) (hM : MendV w w.heap.size mv m) (hf : FitT t) (hl : checkT t = 0 → t.fl.length ≤ 12) :
  CallsV Tryz.prog 18 #[v,mv] w fun v' w' => v' = .int .i64 (bestE t m) ∧ Ext w w' := by
 obtain ⟨A,c,A2,c2,rfl,hCl,hF⟩ := hV.open';obtain ⟨xv,zv,rfl,hX,hZ⟩ := id hM;obtain ⟨A3,c3,rfl,-,-⟩ := id hX;obtain ⟨A4,c4,rfl,-,-⟩ := id hZ;refine Wp.fn Tryz.func18 rfl Tryz.ntmps18 (by simp) ?_;have xw := Ext.refl w;refine Wp.keep [0,1] ?_;rintro r1 ⟨n,o,-⟩;simp [go_sem] at n o;refine sRg fun K' gd hK => ?_;refine cu1 fun K1 hK1 => ?_;go_simp;apply hK1;clear hK1 K1;refine Wops.absA fun K n2 l => ?_;obtain ⟨q2,l,s2,g,f2,r2⟩ := l;try simp only [q2] at g f2 r2 ⊢
 replace xw := xw.trans l;have i := g 0 _ rfl;have j := g 1 _ rfl;have k := g 2 _ rfl;clear g l;clear r2;refine cu1 fun K1 hK1 => ?_;go_simp;apply hK1;clear hK1 K1;refine Wops.absA fun L n3 a => ?_;obtain ⟨q3,a,s3,h,f3,r3⟩ := a;try simp only [q3] at h f3 r3 ⊢
 replace xw := xw.trans a;replace i := a.cell i;replace j := a.cell j;replace k := a.cell k;have E := h 0 _ rfl;have F := h 1 _ rfl;have G := h 2 _ rfl;clear h a;clear r3;go_simp;apply hK;clear hK K' gd;refine Wp.keep [2,3] ?_;rintro r2 ⟨r,x,-⟩;simp [go_sem,n,o] at r x;clear n o;refine Wp.seq ?_;refine sRg fun K' gd hK => ?_;refine cu2 fun K1 hK1 => ?_;go_simp;refine Wcall (.inl rfl) (check_c t _ _ (hV.ext xw) hf) ?_;rintro v w2 ⟨rfl,hE⟩;go_simp;apply hK1;clear hK1 K1;replace xw := xw.trans hE;replace i := hE.cell i;replace j := hE.cell j;replace k := hE.cell k;replace E := hE.cell E;replace F := hE.cell F;replace G := hE.cell G;clear hE;go_simp;apply hK;clear hK K' gd;refine Wp.keep [2,3,5] ?_;rintro r4 ⟨d,e,f,-⟩;simp [go_sem,r,x] at d e f;clear r x
 by_cases h0 : checkT t = 0
 ·skip;have hg := checkT_zero.1 h0;have hbe : ∃ _u : Unit,bestE t m = if ProvP t m then 0 else 8 := ⟨(),by unfold bestE;rw [if_neg (not_not_intro h0)]⟩;refine sRg fun K' gd hK => ?_;go_simp;apply hK;clear hK K' gd;refine Wp.keep [2,3,5,9] ?_;rintro r5 ⟨s,y,B,D,-⟩;simp [go_sem,d,e,f] at s y B D;clear d e f;refine cFf ?_;refine skN ?_;refine Wp.seq ?_;refine sRg fun K' gd hK => ?_;refine cu3 fun K1 hK1 => ?_;go_simp;refine Wcall (.inl rfl) (proved_c t m _ _ _ hg (hl h0) (hV.ext xw) (hM.ext xw)) ?_;rintro v w3 ⟨hv,hE⟩;obtain ⟨p,hp⟩ : ∃ p : Bool,∃ _u : Unit,decide (ProvP t m) = p := ⟨_,(),rfl⟩;rw [hp.choose_spec] at hv;subst hv;go_simp;apply hK1;clear hK1 K1;replace xw := xw.trans hE;clear hE;go_simp;apply hK;clear hK K' gd;refine Wp.keep [14] ?_;rintro r7 ⟨b,-⟩;simp [go_sem,s,y,B,D] at b;clear s y B D
  by_cases h1 : p = true
  ·skip;refine cFf ?_;refine skN ?_;refine sRg fun K' gd hK => ?_;go_simp;apply hK;clear hK K' gd;refine Wp.keep [4] ?_;rintro r8 ⟨I,-⟩;simp [go_sem,b] at I;clear b;refine Wp.ret ?_;refine endK_tmp Tryz.results18 (by decide) ?_;rw [I];exact ⟨by rw [hbe.choose_spec,if_pos (of_decide_eq_true (hp.choose_spec.trans h1))],xw⟩
  ·skip;refine cTt ?_;refine sRg fun K' gd hK => ?_;go_simp;apply hK;clear hK K' gd;refine Wp.keep [4] ?_;rintro r9 ⟨J,-⟩;simp [go_sem,b] at J;clear b;refine Wp.ret ?_;refine tRe ?_;refine endK_tmp Tryz.results18 (by decide) ?_;rw [J];exact ⟨by rw [hbe.choose_spec,if_neg (of_decide_eq_false (hp.choose_spec.trans (by simpa using h1)))],xw⟩
 ·skip;refine sRg fun K' gd hK => ?_;go_simp;apply hK;clear hK K' gd;refine Wp.keep [2,3,5,9] ?_;rintro r10 ⟨q,u,z,C,-⟩;simp [go_sem,d,e,f] at q u z C;clear d e f;refine cTt ?_;refine sRg fun K' gd hK => ?_;go_simp;apply hK;clear hK K' gd;refine Wp.keep [4] ?_;rintro r11 ⟨H,-⟩;simp [go_sem,q,u,z,C] at H;clear q u z C;refine Wp.ret ?_;refine tRe ?_;refine endK_tmp Tryz.results18 (by decide) ?_;rw [H];exact ⟨by unfold bestE;rw [if_pos h0],xw⟩
end Go.Proofs.YtnklbepeoicgpaaGreat
namespace Go.Proofs.YtnklbepeoicgpaaGreat
theorem whole_best {t : Tr} (hg : GoodT t) : bestE t (wholeF t t.n.toNat (bestF t t.n.toNat)) = 0 ∧ (wholeF t t.n.toNat (bestF t t.n.toNat)).mt = meritF t t.n.toNat ∧ (wholeF t t.n.toNat (bestF t t.n.toNat)).on.length = t.fl.length := by
 have hp := best_prov hg.opt hg.nn hg.le hg.pos (bestF_best hg.opt);refine ⟨?_,rfl,onL_len⟩;unfold bestE;rw [if_neg (not_not_intro (checkT_zero.2 hg)),if_pos hp]
end Go.Proofs.YtnklbepeoicgpaaGreat
namespace Go.Proofs.YtnklbepeoicgpaaGreat
open Go.RowKit Go.Wk Go.Proofs
attribute [local irreducible] Go.Wk.Wops Go.Wk.Wp Go.Wk.Mtree Go.Wk.Mops
set_option maxHeartbeats 8000000
set_option maxRecDepth 20000
theorem mod_nat2 {a : Int} {n : Nat} (ha : 0 ≤ a) (hn : 0 < n) : ∃ s : Nat,a.tmod (n : Int) = (s : Int) ∧ s < n := by
 refine ⟨(a % n).toNat,?_,?_⟩
 ·rw [Int.tmod_eq_emod_of_nonneg ha];have := Int.emod_nonneg a (show (n : Int) ≠ 0 by omega);omega
 ·have := Int.emod_lt_of_pos a (show (0 : Int) < n by omega);have := Int.emod_nonneg a (show (n : Int) ≠ 0 by omega);omega
end Go.Proofs.YtnklbepeoicgpaaGreat
