/- The chapter's examples: head. Small lemmas of the laws. What the greatest plan is worth: other names of the flaws, fewer days, a day that is taken. What a tour's best mending is worth: the greatest plan; with a day closed or open, without flaws, on a day. Days for the flaws and plans; spans that prove a mending. Plain laws of the best mending: exchange, parts, gains, days. Plain law of a further flaw. Plain laws at right tours: gains, wider days, places of flaws. Plain laws of parts: flaws of a list, and a turned order. Plain laws of days: Earliest is a best mending; its first day. Plain laws  -/
import Derived.Test.YtnklbepeoicgpaaGreatB4
import Derived.Test.YtnklbepeoicgpaaGreatB3
import Derived.Test.YtnklbepeoicgpaaGreatB1
set_option linter.all false
namespace Go.Proofs.YtnklbepeoicgpaaGreat
open Go.RowKit Go.Wk Go.Proofs
attribute [local irreducible] Go.Wk.Wops Go.Wk.Wp Go.Wk.Mtree Go.Wk.Mops
set_option maxHeartbeats 8000000
set_option maxRecDepth 20000
theorem rowC_ints {W : World} {b n : Nat} {t : TypeId} {xs : List Int} {cs : List Value} (h : RowC W b t cs) (hcs : cs = xs.map (Value.int .i64)) (hn : xs.length = n) : IntsV W W.heap.size (.slice (some ⟨b,0,none⟩) n n) xs := by
 subst hcs;subst hn;exact RowI.all ⟨t,h⟩ (Nat.le_refl _)
theorem sameI_T {x y : Value} {xs ys : List Int} (he : xs = ys) (w : World) (hx : IntsV w w.heap.size x xs) (hy : IntsV w w.heap.size y ys) (hl : xs.length ≤ 1000000000000000) :
  CallsV Tryz.prog 36 #[x,y] w fun v w' => v = .bool true ∧ Ext w w' :=
 (sameInts_c x y xs ys w hx hy hl).mono fun v w' ⟨h1,h2⟩ => ⟨by rw [h1,decide_eq_true he],h2⟩
theorem sameLi_T {x y : Value} {xs ys : List (List Int)} (he : xs = ys) (w : World) (hx : ListsV w w.heap.size x xs) (hy : ListsV w w.heap.size y ys) (hl : xs.length ≤ 1000000000000000) (hl2 : ∀ l ∈ xs,l.length ≤ 1000000000000000) :
  CallsV Tryz.prog 49 #[x,y] w fun v w' => v = .bool true ∧ Ext w w' :=
 (sameLists_c x y xs ys w hx hy hl hl2).mono fun v w' ⟨h1,h2⟩ => ⟨by rw [h1,decide_eq_true he],h2⟩
theorem list_one {W : World} {b k n : Nat} {t : TypeId} {xs : List Int} (h : RowC W b t [.slice (some ⟨k,0,none⟩) n n]) (hI : IntsV W W.heap.size (.slice (some ⟨k,0,none⟩) n n) xs) : ListsV W W.heap.size (.slice (some ⟨b,0,none⟩) 1 1) [xs] :=
 ⟨_,1,rfl,fun _ => ⟨b,0,rfl,h.lt,fun i hi => by
  obtain rfl : i = 0 := by simpa using hi
  exact ⟨_,by rw [h.cell];rfl,hI⟩⟩,Nat.le_refl _⟩
theorem taker_one {W : World} {b k n : Nat} {t : TypeId} {xs : List Int} {id d : Int} (h : RowC W b t [.int .i64 id,.int .i64 d,.slice (some ⟨k,0,none⟩) n n]) (hI : IntsV W W.heap.size (.slice (some ⟨k,0,none⟩) n n) xs) : TakersV W W.heap.size (.slice (some ⟨b,0,none⟩) 1 1) [⟨id,d,xs⟩] :=
 ⟨_,1,rfl,fun _ => ⟨b,0,rfl,h.lt,fun i hi => by
  obtain rfl : i = 0 := by simpa using hi
  exact ⟨by rw [h.cell];rfl,by rw [h.cell];rfl,_,by rw [h.cell];rfl,hI⟩⟩,Nat.le_refl _⟩
theorem exFit : FitT exT := ⟨by decide,by decide⟩
theorem ex_chk : checkT exT = 0 := by decide +kernel
def exM : Md := wholeF exT exT.n.toNat (bestF exT exT.n.toNat)
theorem ex_on : exM.on = [0,-1,1,3,4] := by decide +kernel
theorem ex_mt : exM.mt = 12 := by decide +kernel
theorem ex_merit : (if checkT exT = 0 then meritF exT exT.n.toNat else 0) = 12 := by decide +kernel
theorem ex_jam : listE exT [1,2,3] = 0 ∧ (jamS exT [1,2,3]).isSome = true ∧ (jamP exT [1,2,3]).1 = 0 ∧ (jamP exT [1,2,3]).2 = 2 := by decide +kernel
theorem ex_sure : sureL exT = [1,3,4,5] := by decide +kernel
theorem ex_some : someL exT = [1,3,4,5] := by decide +kernel
theorem ex_days : daysE exT 1 = 0 ∧ daysR exT 1 = [0] := by decide +kernel
theorem ex_earl : earlL exT = [0,-1,1,3,4] := by decide +kernel
theorem ex_gain : gainF exT 2 = 3 ∧ dayE exT 2 = 0 := by decide +kernel
theorem ex_lost : lostF exT 4 = 1 ∧ dayE exT 4 = 0 := by decide +kernel
theorem ex_wide : widerF exT 2 0 4 = 2 ∧ widerE exT 2 0 4 = 0 := by decide +kernel
theorem ex_spread : spreadE exT exM [⟨8,1,[1,2,3]⟩] = 0 ∧ spreadL exT exM [⟨8,1,[1,2,3]⟩] = [[2,3]] := by decide +kernel
theorem head_c (w : World) : CallsV Tryz.prog 28 #[] w fun v w' => v = .bool true ∧ Ext w w' := by
 refine Wp.fn Tryz.func28 rfl Tryz.ntmps28 (by simp) ?_;have xw := Ext.refl w;refine Wp.keep [] fun r1 hkeep => ?_;clear hkeep;refine sRg fun K' gd hK => ?_;go_simp;apply hK;clear hK K' gd;refine Wp.keep [] fun r2 hkeep => ?_;clear hkeep;refine sRg fun K' gd hK => ?_;refine cu1 fun K1 hK1 => ?_;go_simp;refine Wcall (.inl rfl) (example_c _) ?_;rintro v w2 ⟨hT,hE⟩;have xs := Ext.refl w2;obtain ⟨A,c1,A2,c2,rfl⟩ := hT.open';go_simp;apply hK1;clear hK1 K1;replace xw := xw.trans hE;clear hE;refine cu2 fun K1 hK1 => ?_;go_simp;apply hK1;clear hK1 K1;refine Wops.absT fun cP n1 y R1 => ?_;obtain ⟨q1,y,s1,z,f1,r1⟩ := y;try simp only [q1] at z f1 r1 ⊢
 replace xw := xw.trans y;replace xs := xs.trans y;have g := z 0 _ rfl;have h := z 1 _ rfl;have i := z 2 _ rfl;clear z y;clear r1;try simp only [Wops_nil,updO_some,updO_none]
 apply hK;clear hK K' gd;refine Wp.keep [1] ?_;rintro r4 ⟨aX,-⟩;simp [go_sem] at aX;refine sRg fun K' gd hK => ?_;refine cu2 fun K1 hK1 => ?_;go_simp;refine Wcall (.inl rfl) (Best_c exT _ _ (hT.ext xs).tourV exFit (fun _ => by decide)) ?_;rintro v w3 ⟨⟨mv,hv,hB,-⟩,hE⟩;rw [ex_chk] at hv;subst hv;have hM : MendB _ _ mv exM := hB ex_chk;clear hB;obtain ⟨xv,zv,hmv,hIm,hZm⟩ := hM.ex;rw [ex_mt] at hmv;subst hmv;obtain ⟨Am,nm,cm,rfl⟩ : ∃ A n c,xv = .slice A n c := by obtain ⟨A,c,e⟩ := hIm.slice;exact ⟨A,_,c,e⟩
 obtain ⟨Az,nz,cz,rfl⟩ : ∃ A n c,zv = .slice A n c := by obtain ⟨A,c,e⟩ := hZm.slice;exact ⟨A,_,c,e⟩
 have xm := Ext.refl w3;go_simp;apply hK1;clear hK1 K1;replace xw := xw.trans hE;replace xs := xs.trans hE;replace g := hE.cell g;replace h := hE.cell h;replace i := hE.cell i;clear hE;refine cu5 fun K1 hK1 => ?_;go_simp;apply hK1;clear hK1 K1;refine Wops.absT fun cQ n2 u R2 => ?_;obtain ⟨q2,u,s2,B,f2,r2⟩ := u;try simp only [q2] at B f2 r2 ⊢
 replace xw := xw.trans u;replace xs := xs.trans u;replace xm := xm.trans u;replace g := u.cell g;replace h := u.cell h;replace i := u.cell i;have b := B 0 _ rfl;have a := B 1 _ rfl;have j := B 2 _ rfl;clear B u;clear r2;go_simp;apply hK;clear hK K' gd;refine Wp.keep [1,2,3] ?_;rintro r6 ⟨aY,bo,bz,-⟩;simp [go_sem,aX] at aY bo bz;clear aX;refine sRg fun K' gd hK => ?_;refine cu2 fun K1 hK1 => ?_;go_simp;refine Wcall (.inl rfl) (Merit_c exT _ _ (hT.ext xs).tourV exFit (fun _ => by decide)) ?_;rintro v w4 ⟨hv,hE⟩;rw [ex_merit,ex_chk] at hv;subst hv;go_simp;apply hK1;clear hK1 K1;replace xw := xw.trans hE;replace xs := xs.trans hE;replace xm := xm.trans hE;replace g := hE.cell g;replace h := hE.cell h;replace i := hE.cell i;replace b := hE.cell b;replace a := hE.cell a;replace j := hE.cell j;clear hE;go_simp;apply hK;clear hK K' gd;refine Wp.keep [1,2,3,4,5] ?_;rintro r8 ⟨aZ,bp,bA,bM,bV,-⟩;simp [go_sem,aY,bo,bz] at aZ bp bA bM bV;clear aY bo bz;refine sRg fun K' gd hK => ?_;refine cu2 fun K1 hK1 => ?_;go_simp;apply hK1;clear hK1 K1;refine Wops.absT fun cR n39 q R39 => ?_;obtain ⟨q39,q,s39,cH,f39,r39⟩ := q;try simp only [q39] at cH f39 r39 ⊢
 replace R39 := (show RowC _ _ _ _ from R39);replace xw := xw.trans q;replace xs := xs.trans q;replace xm := xm.trans q;replace g := q.cell g;replace h := q.cell h;replace i := q.cell i;replace b := q.cell b;replace a := q.cell a;replace j := q.cell j;clear q f39;clear cH;refine cu1 fun K1 hK1 => ?_;go_simp;refine Wcall (.inl rfl) (Jam_c exT [1,2,3] _ _ _ (hT.ext xs).tourV (rowC_ints R39 rfl rfl) exFit (by decide)) ?_;rintro v w5 ⟨hv,hE⟩;rw [ex_jam.1,ex_jam.2.1,ex_jam.2.2.1,ex_jam.2.2.2] at hv;subst hv;go_simp;apply hK1;clear hK1 K1;replace xw := xw.trans hE;replace xs := xs.trans hE;replace xm := xm.trans hE;replace g := hE.cell g;replace h := hE.cell h;replace i := hE.cell i;replace b := hE.cell b;replace a := hE.cell a;replace j := hE.cell j;clear hE;refine cu6 fun K1 hK1 => ?_;go_simp;apply hK1;clear hK1 K1;refine Wops.absT fun cS n6 r R6 => ?_;obtain ⟨q6,r,s6,C,f6,r6⟩ := r;try simp only [q6] at C f6 r6 ⊢
 replace xw := xw.trans r;replace xs := xs.trans r;replace xm := xm.trans r;replace g := r.cell g;replace h := r.cell h;replace i := r.cell i;replace b := r.cell b;replace a := r.cell a;replace j := r.cell j;have d := C 0 _ rfl;have f := C 1 _ rfl;clear C r;clear r6;go_simp;apply hK;clear hK K' gd;refine Wp.keep [1,2,3,4,5,6,7,8] ?_;rintro r10 ⟨aQ,bd,bq,bB,bN,bW,b7,ci,-⟩;simp [go_sem,aZ,bp,bA,bM,bV] at aQ bd bq bB bN bW b7 ci;clear aZ bp bA bM bV;refine sRg fun K' gd hK => ?_;refine cu2 fun K1 hK1 => ?_;go_simp;refine Wcall (.inl rfl) (Surely_c exT _ _ (hT.ext xs).tourV exFit (fun _ => by decide)) ?_;rintro v w6 ⟨⟨la,lb,hv,hI9,hI10⟩,hE⟩;rw [ex_chk] at hv;subst hv;rw [ex_sure] at hI9;rw [ex_some] at hI10;have x9 := Ext.refl w6;go_simp;apply hK1;clear hK1 K1;replace xw := xw.trans hE;replace xs := xs.trans hE;replace xm := xm.trans hE;replace g := hE.cell g;replace h := hE.cell h;replace i := hE.cell i;replace b := hE.cell b;replace a := hE.cell a;replace j := hE.cell j
 replace d := hE.cell d;replace f := hE.cell f;clear hE;go_simp;apply hK;clear hK K' gd;refine Wp.keep [1,2,3,4,5,6,7,8,9,10,11] ?_;rintro r12 ⟨aR,be,br,bC,bO,bX,b8,cj,cr,D,M,-⟩;simp [go_sem,aQ,bd,bq,bB,bN,bW,b7,ci] at aR be br bC bO bX b8 cj cr D M;clear aQ bd bq bB bN bW b7 ci;refine sRg fun K' gd hK => ?_;refine cu2 fun K1 hK1 => ?_;go_simp;refine Wcall (.inl rfl) (Days_c exT 1 _ _ (hT.ext xs).tourV exFit (fun _ => by decide)) ?_;rintro v w7 ⟨⟨lc,hv,hI12⟩,hE⟩;rw [ex_days.1] at hv;subst hv;rw [ex_days.2] at hI12;have x12 := Ext.refl w7;go_simp;apply hK1;clear hK1 K1;replace xw := xw.trans hE;replace xs := xs.trans hE;replace xm := xm.trans hE;replace x9 := x9.trans hE;replace g := hE.cell g;replace h := hE.cell h;replace i := hE.cell i;replace b := hE.cell b;replace a := hE.cell a;replace j := hE.cell j;replace d := hE.cell d;replace f := hE.cell f;clear hE;go_simp;apply hK;clear hK K' gd;refine Wp.keep [1,2,3,4,5,6,7,8,9,10,11,12,13] ?_;rintro r14 ⟨aS,bf,bs,bD,bP,bY,b9,ck,cs,E,N,U,ac,-⟩
 simp [go_sem,aR,be,br,bC,bO,bX,b8,cj,cr,D,M] at aS bf bs bD bP bY b9 ck cs E N U ac;clear aR be br bC bO bX b8 cj cr D M;refine sRg fun K' gd hK => ?_;refine cu2 fun K1 hK1 => ?_;go_simp;refine Wcall (.inl rfl) (Earliest_c exT _ _ (hT.ext xs).tourV exFit (fun _ => by decide)) ?_;rintro v w8 ⟨⟨ld,hv,hI14⟩,hE⟩;rw [ex_chk] at hv;subst hv;rw [ex_earl] at hI14;have x14 := Ext.refl w8;go_simp;apply hK1;clear hK1 K1;replace xw := xw.trans hE;replace xs := xs.trans hE;replace xm := xm.trans hE;replace x9 := x9.trans hE;replace x12 := x12.trans hE;replace g := hE.cell g;replace h := hE.cell h;replace i := hE.cell i;replace b := hE.cell b;replace a := hE.cell a;replace j := hE.cell j;replace d := hE.cell d;replace f := hE.cell f;clear hE;go_simp;apply hK;clear hK K' gd;refine Wp.keep [1,2,3,4,5,6,7,8,9,10,11,12,13,14,15] ?_;rintro r16 ⟨aT,bg,bt,bE,bQ,bZ,ca,cl,ct,F,O,V,ad,ai,ap,-⟩;simp [go_sem,aS,bf,bs,bD,bP,bY,b9,ck,cs,E,N,U,ac] at aT bg bt bE bQ bZ ca cl ct F O V ad ai ap
 clear aS bf bs bD bP bY b9 ck cs E N U ac;refine sRg fun K' gd hK => ?_;refine cu2 fun K1 hK1 => ?_;go_simp;refine Wcall (.inl rfl) (Gain_c exT 2 _ _ (hT.ext xs).tourV exFit (fun _ => by decide)) ?_;rintro v w9 ⟨hv,hE⟩;rw [ex_gain.1,ex_gain.2] at hv;subst hv;go_simp;apply hK1;clear hK1 K1;replace xw := xw.trans hE;replace xs := xs.trans hE;replace xm := xm.trans hE;replace x9 := x9.trans hE;replace x12 := x12.trans hE;replace x14 := x14.trans hE;replace g := hE.cell g;replace h := hE.cell h;replace i := hE.cell i;replace b := hE.cell b;replace a := hE.cell a;replace j := hE.cell j;replace d := hE.cell d;replace f := hE.cell f;clear hE;go_simp;apply hK;clear hK K' gd;refine Wp.keep [1,2,3,4,5,6,7,8,9,10,11,12,13,14,15,16,17] ?_;rintro r18 ⟨aU,bh,bu,bF,bR,b0,cb,cn,cu,G,P,W,ae,aj,aq,aw,aD,-⟩;simp [go_sem,aT,bg,bt,bE,bQ,bZ,ca,cl,ct,F,O,V,ad,ai,ap] at aU bh bu bF bR b0 cb cn cu G P W ae aj aq aw aD
 clear aT bg bt bE bQ bZ ca cl ct F O V ad ai ap;refine sRg fun K' gd hK => ?_;refine cu2 fun K1 hK1 => ?_;go_simp;refine Wcall (.inl rfl) (Lost_c exT 4 _ _ (hT.ext xs).tourV exFit (fun _ => by decide)) ?_;rintro v w10 ⟨hv,hE⟩;rw [ex_lost.1,ex_lost.2] at hv;subst hv;go_simp;apply hK1;clear hK1 K1;replace xw := xw.trans hE;replace xs := xs.trans hE;replace xm := xm.trans hE;replace x9 := x9.trans hE;replace x12 := x12.trans hE;replace x14 := x14.trans hE;replace g := hE.cell g;replace h := hE.cell h;replace i := hE.cell i;replace b := hE.cell b;replace a := hE.cell a;replace j := hE.cell j;replace d := hE.cell d;replace f := hE.cell f;clear hE;go_simp;apply hK;clear hK K' gd;refine Wp.keep [1,2,3,4,5,6,7,8,9,10,11,12,13,14,15,16,17,18,19] ?_;rintro r20 ⟨aV,bi,bv,bG,bS,b1,cc,co,cv,H,Q,X,af,ak,ar,ax,aE,aH,aN,-⟩;simp [go_sem,aU,bh,bu,bF,bR,b0,cb,cn,cu,G,P,W,ae,aj,aq,aw,aD] at aV bi bv bG bS b1 cc co cv H Q X af ak ar ax aE aH aN
 clear aU bh bu bF bR b0 cb cn cu G P W ae aj aq aw aD;refine sRg fun K' gd hK => ?_;refine cu3 fun K1 hK1 => ?_;go_simp;refine Wcall (.inl rfl) (Wider_c exT 2 0 4 _ _ (hT.ext xs).tourV exFit (fun _ => by decide)) ?_;rintro v w11 ⟨hv,hE⟩;rw [ex_wide.1,ex_wide.2] at hv;subst hv;go_simp;apply hK1;clear hK1 K1;replace xw := xw.trans hE;replace xs := xs.trans hE;replace xm := xm.trans hE;replace x9 := x9.trans hE;replace x12 := x12.trans hE;replace x14 := x14.trans hE;replace g := hE.cell g;replace h := hE.cell h;replace i := hE.cell i;replace b := hE.cell b;replace a := hE.cell a;replace j := hE.cell j;replace d := hE.cell d;replace f := hE.cell f;clear hE;go_simp;apply hK;clear hK K' gd;refine Wp.keep [1,2,3,4,5,6,7,8,9,10,11,12,13,14,15,16,17,18,19,20,21] ?_;rintro r22 ⟨aW,bj,bw,bH,bT,b2,cd,cp,cw,I,R,Y,ag,al,au,ay,aF,aI,aO,a0,a5,-⟩;simp [go_sem,aV,bi,bv,bG,bS,b1,cc,co,cv,H,Q,X,af,ak,ar,ax,aE,aH,aN] at aW bj bw bH bT b2 cd cp cw I R Y ag al au ay aF aI aO a0 a5
 clear aV bi bv bG bS b1 cc co cv H Q X af ak ar ax aE aH aN;refine sRg fun K' gd hK => ?_;refine cu3 fun K1 hK1 => ?_;go_simp;apply hK1;clear hK1 K1;refine Wops.absT fun cT n79 p R79 => ?_;obtain ⟨q79,p,s79,cI,f79,r79⟩ := p;try simp only [q79] at cI f79 r79 ⊢
 replace R79 := (show RowC _ _ _ _ from R79);replace xw := xw.trans p;replace xs := xs.trans p;replace xm := xm.trans p;replace x9 := x9.trans p;replace x12 := x12.trans p;replace x14 := x14.trans p;replace b := p.cell b;replace a := p.cell a;replace d := p.cell d;replace f := p.cell f;clear p f79;clear cI;refine cu2 fun K1 hK1 => ?_;go_simp;apply hK1;clear hK1 K1;refine Wops.absT fun cU n81 m R81 => ?_;obtain ⟨q81,m,s81,cJ,f81,r81⟩ := m;try simp only [q81] at cJ f81 r81 ⊢
 replace R81 := (show RowC _ _ _ _ from R81);replace R79 := R79.ext m;replace xw := xw.trans m;replace xs := xs.trans m;replace xm := xm.trans m;replace x9 := x9.trans m;replace x12 := x12.trans m;replace x14 := x14.trans m;replace b := m.cell b;replace a := m.cell a;replace d := m.cell d;replace f := m.cell f;clear m f81;clear cJ;refine cu1 fun K1 hK1 => ?_;go_simp;refine Wcall (.inl rfl) (Spread_c exT exM [⟨8,1,[1,2,3]⟩] _ _ _ _ (hT.ext xs).tourV ⟨_,_,by rw [ex_mt],(hIm.ext xm).ints,(hZm.ext xm).rowsV⟩ (taker_one R81 (rowC_ints R79 rfl rfl)) exFit (fun _ => by decide) (by intro x hx;rw [List.mem_singleton] at hx;subst hx;decide)) ?_;rintro v w12 ⟨⟨tv,hv,hT22⟩,hE⟩;rw [ex_spread.1] at hv;subst hv;rw [ex_spread.2] at hT22;have x22 := Ext.refl w12;go_simp;apply hK1;clear hK1 K1;replace xw := xw.trans hE;replace xs := xs.trans hE;replace xm := xm.trans hE;replace x9 := x9.trans hE;replace x12 := x12.trans hE;replace x14 := x14.trans hE;replace b := hE.cell b;replace a := hE.cell a;replace d := hE.cell d;replace f := hE.cell f;clear hE;go_simp;apply hK;clear hK K' gd;refine Wp.keep [2,3,4,5,6,7,8,9,10,11,12,13,14,15,16,17,18,19,20,21,22,23] fun r24 hkeep => ?_
 obtain ⟨bk,bx,bI,bU,b3,ce,cq,cx,J,S,Z,ah,am,av,az,aG,aJ,aP,a1,a6,a7,ba,-⟩ := hkeep;simp [go_sem,aW,bj,bw,bH,bT,b2,cd,cp,cw,I,R,Y,ag,al,au,ay,aF,aI,aO,a0,a5] at bk bx bI bU b3 ce cq cx J S Z ah am av az aG aJ aP a1 a6 a7 ba;clear aW bj bw bH bT b2 cd cp cw I R Y ag al au ay aF aI aO a0 a5;refine Wp.seq ?_;refine sRh fun K' gd hK hg => ?_;have g2 : gd 2 = some 87 := hg 2;have g6 : gd 6 = some 91 := hg 6;have g10 : gd 10 = some 95 := hg 10;have g14 : gd 14 = some 99 := hg 14;have g18 : gd 18 = some 103 := hg 18;have g22 : gd 22 = some 107 := hg 22;have g26 : gd 26 = some 111 := hg 26;have g30 : gd 30 = some 115 := hg 30;have g34 : gd 34 = some 119 := hg 34;clear hg;go_simp;apply hK;clear hK K' gd g2 g6 g10 g14 g18 g22 g26 g30 g34;refine Wp.keep [2,4,6,7,9,10,12,14,16,18,20,22,122] ?_;rintro r25 ⟨bl,bJ,b4,cf,cy,K,aa,an,aA,aK,a2,a8,T,-⟩;simp [go_sem,bk,bx,bI,bU,b3,ce,cq,cx,J,S,Z,ah,am,av,az,aG,aJ,aP,a1,a6,a7,ba] at bl bJ b4 cf cy K aa an aA aK a2 a8 T
 clear bk bx bI bU b3 ce cq cx J S Z ah am av az aG aJ aP a1 a6 a7 ba;refine cFf ?_;refine skN ?_;refine sRg fun K' gd hK => ?_;refine cu1 fun K1 hK1 => ?_;go_simp;apply hK1;clear hK1 K1;refine Wops.absT fun cK n123 l R123 => ?_;obtain ⟨q123,l,s123,cC,f123,r123⟩ := l;try simp only [q123] at cC f123 r123 ⊢
 replace R123 := (show RowC _ _ _ _ from R123);replace xw := xw.trans l;replace xs := xs.trans l;replace xm := xm.trans l;replace x9 := x9.trans l;replace x12 := x12.trans l;replace x14 := x14.trans l;replace x22 := x22.trans l;replace b := l.cell b;replace a := l.cell a;replace d := l.cell d;replace f := l.cell f;clear l f123;clear cC;go_simp;apply hK;clear hK K' gd;refine Wp.keep [2,4,6,7,9,10,12,14,16,18,20,22,24] ?_;rintro r26 ⟨bm,bK,b5,cg,cA,L,ab,ao,aB,aL,a3,a9,bb,-⟩;simp [go_sem,bl,bJ,b4,cf,cy,K,aa,an,aA,aK,a2,a8,T] at bm bK b5 cg cA L ab ao aB aL a3 a9 bb;clear bl bJ b4 cf cy K aa an aA aK a2 a8 T;refine sRh fun K' gd hK hg => ?_;have g4 : gd 4 = some 128 := hg 4;have g9 : gd 9 = some 133 := hg 9;have g14 : gd 14 = some 138 := hg 14;have g19 : gd 19 = some 143 := hg 19;have g25 : gd 25 = some 149 := hg 25;clear hg;refine cu3 fun K1 hK1 => ?_;go_simp;apply hK1;clear hK1 K1;refine Wops.absT fun cL n126 k R126 => ?_
 obtain ⟨q126,k,s126,cD,f126,r126⟩ := k;try simp only [q126] at cD f126 r126 ⊢
 replace R126 := (show RowC _ _ _ _ from R126);replace R123 := R123.ext k;replace xw := xw.trans k;replace xs := xs.trans k;replace xm := xm.trans k;replace x9 := x9.trans k;replace x12 := x12.trans k;replace x14 := x14.trans k;replace x22 := x22.trans k;replace b := k.cell b;replace a := k.cell a;replace d := k.cell d;replace f := k.cell f;clear k f126;clear cD;refine cu1 fun K1 hK1 => ?_;go_simp;refine Wcall (.inl rfl) (sameI_T ex_on _ (hIm.ext xm).ints (rowC_ints R126 rfl rfl) (by rw [ex_on];decide)) ?_;rintro v w13 ⟨rfl,hE⟩;go_simp;apply hK1;clear hK1 K1;replace R123 := R123.ext hE;replace xw := xw.trans hE;replace xs := xs.trans hE;replace xm := xm.trans hE;replace x9 := x9.trans hE;replace x12 := x12.trans hE;replace x14 := x14.trans hE;replace x22 := x22.trans hE;replace b := hE.cell b;replace a := hE.cell a;replace d := hE.cell d;replace f := hE.cell f;clear hE;refine cu4 fun K1 hK1 => ?_;go_simp;refine Wcall (.inl rfl) (sameI_T rfl _ (hI9.ext x9).ints (rowC_ints R123 rfl rfl) (by decide)) ?_;rintro v w14 ⟨rfl,hE⟩;go_simp;apply hK1
 clear hK1 K1;replace R123 := R123.ext hE;replace xw := xw.trans hE;replace xs := xs.trans hE;replace xm := xm.trans hE;replace x9 := x9.trans hE;replace x12 := x12.trans hE;replace x14 := x14.trans hE;replace x22 := x22.trans hE;replace b := hE.cell b;replace a := hE.cell a;replace d := hE.cell d;replace f := hE.cell f;clear hE;refine cu5 fun K1 hK1 => ?_;go_simp;refine Wcall (.inl rfl) (sameI_T rfl _ (hI10.ext x9).ints (rowC_ints R123 rfl rfl) (by decide)) ?_;rintro v w15 ⟨rfl,hE⟩;go_simp;apply hK1;clear hK1 K1;replace xw := xw.trans hE;replace xs := xs.trans hE;replace xm := xm.trans hE;replace x12 := x12.trans hE;replace x14 := x14.trans hE;replace x22 := x22.trans hE;replace b := hE.cell b;replace a := hE.cell a;replace d := hE.cell d;replace f := hE.cell f;clear hE;refine cu4 fun K1 hK1 => ?_;go_simp;apply hK1;clear hK1 K1;refine Wops.absT fun cM n140 o R140 => ?_;obtain ⟨q140,o,s140,cE,f140,r140⟩ := o;try simp only [q140] at cE f140 r140 ⊢
 replace R140 := (show RowC _ _ _ _ from R140);replace xw := xw.trans o;replace xs := xs.trans o;replace xm := xm.trans o;replace x12 := x12.trans o;replace x14 := x14.trans o;replace x22 := x22.trans o;replace b := o.cell b;replace a := o.cell a;replace d := o.cell d;replace f := o.cell f;clear o f140;clear cE;refine cu1 fun K1 hK1 => ?_;go_simp;refine Wcall (.inl rfl) (sameI_T rfl _ (hI12.ext x12).ints (rowC_ints R140 rfl rfl) (by decide)) ?_;rintro v w16 ⟨rfl,hE⟩;go_simp;apply hK1;clear hK1 K1;replace xw := xw.trans hE;replace xs := xs.trans hE;replace xm := xm.trans hE;replace x14 := x14.trans hE;replace x22 := x22.trans hE;replace b := hE.cell b;replace a := hE.cell a;replace d := hE.cell d;replace f := hE.cell f;clear hE;refine cu6 fun K1 hK1 => ?_;go_simp;refine Wcall (.inl rfl) (sameI_T ex_on.symm _ (hI14.ext x14).ints (hIm.ext xm).ints (by decide)) ?_;rintro v w17 ⟨rfl,hE⟩;go_simp;apply hK1;clear hK1 K1;replace xw := xw.trans hE;replace xs := xs.trans hE;replace xm := xm.trans hE;replace x22 := x22.trans hE
 replace a := hE.cell a;replace d := hE.cell d;replace f := hE.cell f;clear hE;refine cu4 fun K1 hK1 => ?_;go_simp;apply hK1;clear hK1 K1;refine Wops.absT fun cN n151 t R151 => ?_;obtain ⟨q151,t,s151,cF,f151,r151⟩ := t;try simp only [q151] at cF f151 r151 ⊢
 replace R151 := (show RowC _ _ _ _ from R151);replace xw := xw.trans t;replace xs := xs.trans t;replace xm := xm.trans t;replace x22 := x22.trans t;replace a := t.cell a;replace d := t.cell d;replace f := t.cell f;clear t f151;clear cF;refine cu1 fun K1 hK1 => ?_;go_simp;apply hK1;clear hK1 K1;refine Wops.absT fun cO n152 s R152 => ?_;obtain ⟨q152,s,s152,cG,f152,r152⟩ := s;try simp only [q152] at cG f152 r152 ⊢
 replace R152 := (show RowC _ _ _ _ from R152);replace R151 := R151.ext s;replace xw := xw.trans s;replace xs := xs.trans s;replace xm := xm.trans s;replace x22 := x22.trans s;replace a := s.cell a;replace d := s.cell d;replace f := s.cell f;clear s f152;clear cG;refine cu1 fun K1 hK1 => ?_;go_simp;refine Wcall (.inl rfl) (sameLi_T rfl _ (hT22.ext x22).listsV (list_one R152 (rowC_ints R151 rfl rfl)) (by decide) (by decide)) ?_;rintro v w18 ⟨rfl,hE⟩;go_simp;apply hK1;clear hK1 K1;replace xw := xw.trans hE;replace xs := xs.trans hE;replace xm := xm.trans hE;replace a := hE.cell a;replace d := hE.cell d;replace f := hE.cell f;clear hE;go_simp;apply hK;clear hK K' gd g4 g9 g14 g19 g25;refine Wp.keep [2,4,6,7,16,18,20,25] ?_;rintro r33 ⟨bn,bL,b6,ch,aC,aM,a4,bc,-⟩;simp [go_sem,bm,bK,b5,cg,cA,L,ab,ao,aB,aL,a3,a9,bb] at bn bL b6 ch aC aM a4 bc;clear bm bK b5 cg cA L ab ao aB aL a3 a9 bb;refine sRh fun K' gd hK hg => ?_;have g1 : gd 1 = some 156 := hg 1
 have g6 : gd 6 = some 161 := hg 6;have g10 : gd 10 = some 165 := hg 10;have g13 : gd 13 = some 168 := hg 13;have g18 : gd 18 = some 173 := hg 18;have g22 : gd 22 = some 177 := hg 22;have g26 : gd 26 = some 181 := hg 26;clear hg;go_simp;apply hK;clear hK K' gd g1 g6 g10 g13 g18 g22 g26;refine Wp.keep [0] ?_;rintro r34 ⟨cB,-⟩;simp [go_sem,bn,bL,b6,ch,aC,aM,a4,bc] at cB;clear bn bL b6 ch aC aM a4 bc;refine Wp.ret ?_;refine endK_tmp Tryz.results28 (by decide) ?_;rw [cB];exact ⟨by first | rfl | go_simp,xw⟩
theorem mod_nat2 {a : Int} {n : Nat} (ha : 0 ≤ a) (hn : 0 < n) : ∃ s : Nat,a.tmod (n : Int) = (s : Int) ∧ s < n := by
 refine ⟨(a % n).toNat,?_,?_⟩
 ·rw [Int.tmod_eq_emod_of_nonneg ha];have := Int.emod_nonneg a (show (n : Int) ≠ 0 by omega);omega
 ·have := Int.emod_lt_of_pos a (show (0 : Int) < n by omega);have := Int.emod_nonneg a (show (n : Int) ≠ 0 by omega);omega
theorem few_len {t : Tr} (hf : fewT t) (h0 : checkT t = 0) : t.fl.length ≤ 12 := by
 have := (checkT_zero.1 h0).fl;have := hf.2;omega
theorem few_fit {t : Tr} (hf : fewT t) : FitT t := ⟨by have := hf.1;omega,by have := hf.2;omega⟩
end Go.Proofs.YtnklbepeoicgpaaGreat
namespace Go.Proofs.YtnklbepeoicgpaaGreat
theorem cntN_le_one {h : Nat → Int} {j : Int} : ∀ {n : Nat},(∀ d e,d < n → e < n → h d = j → h e = j → d = e) → cntN h j n ≤ 1
 | 0,_ => by show (0 : Int) ≤ 1;decide
 | n + 1,q => by
   rw [cntN_S]
   by_cases e : h n = j
   ·rw [if_pos e,cntN_of_zero fun d hd hj => by have := q d n (by omega) (by omega) hj e;omega];decide
   ·rw [if_neg e,Int.add_zero];exact cntN_le_one fun d e hd he => q d e (by omega) (by omega)
section
variable {N N' : Int → List Nat} {n m m' i d : Nat} {W W' : Int → Int} {v v' : Int} {g p : Nat → Int}
theorem OkP.inj (h : OkP N n m g) {d e : Nat} (hd : d < n) (he : e < n) (h0 : 0 ≤ g d) (q : g d = g e) : d = e := by
 obtain ⟨j,hj⟩ : ∃ j : Nat,g d = (j : Int) := ⟨(g d).toNat,by omega⟩;exact cntN_two (h.one j) hd he hj (by omega)
theorem OkP.of (lt : ∀ d,-1 ≤ p d ∧ p d < m) (day : ∀ d,d < n → 0 ≤ p d → d ∈ N (p d)) (inj : ∀ d e,d < n → e < n → 0 ≤ p d → p d = p e → d = e) : OkP N n m p :=
 ⟨lt,day,fun j => cntN_le_one fun d e hd he h1 h2 => inj d e hd he (by omega) (by omega)⟩
theorem OkP.sub (h : OkP N n m g) (hN : ∀ d,d < n → 0 ≤ g d → d ∈ N (g d) → d ∈ N' (g d)) : OkP N' n m g := ⟨h.lt,fun d hd h0 => hN d hd h0 (h.day d hd h0),h.one⟩
theorem OkP.at' (h : OkP N n m g) {d : Nat} (h0 : 0 ≤ g d) : ∃ j : Nat,g d = (j : Int) ∧ j < m := ⟨(g d).toNat,by omega,by have := (h.lt d).2;omega⟩
theorem worth_eq (n : Nat) (h : ∀ d,d < n → (0 ≤ g d ↔ 0 ≤ p d) ∧ (0 ≤ g d → W (g d) = W' (p d))) : worthW W g n = worthW W' p n := sumN_eq n fun d hd => by
 obtain ⟨h1,h2⟩ := h d hd
 by_cases h0 : 0 ≤ g d
 ·rw [if_pos h0,if_pos (h1.1 h0),h2 h0]
 ·rw [if_neg h0,if_neg fun q => h0 (h1.2 q)]
theorem worth_W (n : Nat) (h : ∀ d,d < n → 0 ≤ g d → W (g d) ≤ W' (g d)) : worthW W g n ≤ worthW W' g n := sumN_le n fun d hd => by
 by_cases h0 : 0 ≤ g d
 ·rw [if_pos h0,if_pos h0];exact h d hd h0
 ·rw [if_neg h0,if_neg h0];exact Int.le_refl _
theorem worth_no : ∀ n,worthW W noPlan n = 0
 | 0 => rfl
 | n + 1 => by show worthW W noPlan n + _ = 0;rw [worth_no n];rfl
structure IsOpt (N : Int → List Nat) (n m : Nat) (W : Int → Int) (v : Int) : Prop where
 ex : ∃ h,OkP N n m h ∧ worthW W h n = v
 le : ∀ g,OkP N n m g → worthW W g n ≤ v
theorem IsOpt.eq (h : IsOpt N n m W v) (h' : IsOpt N n m W v') : v = v' := by
 obtain ⟨g,g1,g2⟩ := h.ex;obtain ⟨k,k1,k2⟩ := h'.ex;have := h.le k k1;have := h'.le g g1;omega
theorem IsOpt.pos (h : IsOpt N n m W v) : 0 ≤ v := by
 have := h.le noPlan noPlan_ok
 rwa [worth_no] at this
theorem IsOpt.congr (h : IsOpt N n m W v) (hN : ∀ j : Nat,j < m → ∀ d,d < n → (d ∈ N j ↔ d ∈ N' j)) (hW : ∀ j : Nat,j < m → W j = W' j) : IsOpt N' n m W' v := by
 have e : ∀ g,OkP N n m g → worthW W g n = worthW W' g n := fun g hg => worth_eq n fun d hd => ⟨Iff.rfl,fun h0 => by
  obtain ⟨j,hj,hjm⟩ := hg.at' h0
  rw [hj];exact hW j hjm⟩
 have s : ∀ g,OkP N' n m g → OkP N n m g := fun g hg => hg.sub fun d hd h0 hm => by
  obtain ⟨j,hj,hjm⟩ := hg.at' h0;rw [hj] at hm ⊢;exact (hN j hjm d hd).2 hm
 obtain ⟨g,g1,g2⟩ := h.ex
 exact ⟨⟨g,g1.sub fun d hd h0 hm => by
  obtain ⟨j,hj,hjm⟩ := g1.at' h0
  rw [hj] at hm ⊢;exact (hN j hjm d hd).1 hm,by rw [← e g g1];exact g2⟩,fun k hk => by rw [← e k (s k hk)];exact h.le k (s k hk)⟩
theorem IsOpt.mono (h : IsOpt N n m W v) (h' : IsOpt N' n m W' v') (hN : ∀ j : Nat,j < m → ∀ d,d < n → d ∈ N j → d ∈ N' j) (hW : ∀ j : Nat,j < m → W j ≤ W' j) : v ≤ v' := by
 obtain ⟨g,g1,g2⟩ := h.ex
 have q := h'.le g (g1.sub fun d hd h0 hm => by
  obtain ⟨j,hj,hjm⟩ := g1.at' h0
  rw [hj] at hm ⊢;exact hN j hjm d hd hm)
 have := worth_W (W := W) (W' := W') (g := g) n fun d hd h0 => by
  obtain ⟨j,hj,hjm⟩ := g1.at' h0;rw [hj];exact hW j hjm
 omega
def dropN (N : Int → List Nat) (i : Int) : Int → List Nat := fun j => if j = i then [] else N j
theorem dropN_mem {N : Int → List Nat} {i j : Int} {e : Nat} : e ∈ dropN N i j ↔ j ≠ i ∧ e ∈ N j := by
 unfold dropN
 by_cases q : j = i
 ·rw [if_pos q];simp [q]
 ·rw [if_neg q];simp [q]
theorem IsOpt.drop (h : IsOpt N n m W v) (h' : IsOpt (dropN N i) n m W v') : v' ≤ v ∧ (v' < v ↔ ∀ g,OkP N n m g → worthW W g n = v → cntN g i n ≠ 0) := by
 have hle : v' ≤ v := h'.mono h (fun j _ e _ hm => (dropN_mem.1 hm).2) fun _ _ => Int.le_refl _;refine ⟨hle,fun hlt g hg e hz => ?_,fun hall => ?_⟩
 ·have := h'.le g (hg.sub fun d hd h0 hm => dropN_mem.2 ⟨cntN_zero hz d hd,hm⟩);omega
 ·obtain ⟨g,g1,g2⟩ := h'.ex;have ok : OkP N n m g := g1.sub fun d _ _ hm => (dropN_mem.1 hm).2
  by_cases e : v' = v
  ·exact absurd (cntN_of_zero fun d hd q => by
    have := g1.day d hd (by omega)
    exact (dropN_mem.1 this).1 q) (hall g ok (by omega))
  ·omega
theorem IsOpt.split {N1 N2 : Int → List Nat} {v1 v2 : Int} (h : IsOpt N n m W v) (h1 : IsOpt N1 n m W v1) (h2 : IsOpt N2 n m W v2) (hW : ∀ j : Nat,j < m → 0 ≤ W j)
  (hs : ∀ j : Nat,j < m → (∀ d,d ∈ N j → d ∈ N1 j) ∨ (∀ d,d ∈ N j → d ∈ N2 j)) : v ≤ v1 + v2 := by
 obtain ⟨g,g1,g2⟩ := h.ex
 let P : Nat → Prop := fun d => 0 ≤ g d ∧ ∀ e,e ∈ N (g d) → e ∈ N1 (g d)
 have ch : ∀ d : Nat,∃ x : Int × Int,(P d ∧ x = (g d,-1)) ∨ (¬ P d ∧ x = (-1,g d)) := fun d => by
  by_cases h0 : P d
  ·exact ⟨_,.inl ⟨h0,rfl⟩⟩
  ·exact ⟨_,.inr ⟨h0,rfl⟩⟩
 obtain ⟨p,hp⟩ := Classical.axiomOfChoice ch
 have q1 := h1.le (fun d => (p d).1) (OkP.of (fun d => by
  have := g1.lt d
  rcases hp d with ⟨-,e⟩ | ⟨-,e⟩ <;> rw [e] <;> show -1 ≤ _ ∧ _ <;> dsimp only <;> omega) (fun d hd h0 => by
  rcases hp d with ⟨hP,e⟩ | ⟨-,e⟩ <;> rw [e] at h0 ⊢
  ·exact hP.2 d (g1.day d hd hP.1)
  ·exact absurd h0 (by dsimp only;omega)) (fun d e hd he h0 q => by
  rcases hp d with ⟨hP,e1⟩ | ⟨-,e1⟩ <;> rw [e1] at h0 q
  ·rcases hp e with ⟨hP',e2⟩ | ⟨-,e2⟩ <;> rw [e2] at q
   ·exact g1.inj hd he hP.1 q
   ·have q : g d = -1 := q;have := hP.1;omega
  ·exact absurd h0 (by dsimp only;omega)))
 have q2 := h2.le (fun d => (p d).2) (OkP.of (fun d => by
  have := g1.lt d
  rcases hp d with ⟨-,e⟩ | ⟨-,e⟩ <;> rw [e] <;> show -1 ≤ _ ∧ _ <;> dsimp only <;> omega) (fun d hd h0 => by
  rcases hp d with ⟨-,e⟩ | ⟨hP,e⟩ <;> rw [e] at h0 ⊢
  ·exact absurd h0 (by dsimp only;omega)
  ·have h0 : 0 ≤ g d := h0;obtain ⟨j,hj,hjm⟩ := g1.at' h0;have hd2 := g1.day d hd h0
   show d ∈ N2 (g d)
   rcases hs j hjm with q | q
   ·exact absurd ⟨h0,by rw [hj];exact q⟩ hP
   ·rw [hj] at hd2 ⊢;exact q d hd2) (fun d e hd he h0 q => by
  rcases hp d with ⟨-,e1⟩ | ⟨hP,e1⟩ <;> rw [e1] at h0 q
  ·exact absurd h0 (by dsimp only;omega)
  ·have h0 : 0 ≤ g d := h0
   rcases hp e with ⟨-,e2⟩ | ⟨hP',e2⟩ <;> rw [e2] at q
   ·have q : g d = -1 := q;omega
   ·exact g1.inj hd he h0 q))
 have : worthW W g n ≤ worthW W (fun d => (p d).1) n + worthW W (fun d => (p d).2) n := by
  unfold worthW;rw [← sumN_add];refine sumN_le n fun d hd => ?_
  show (if 0 ≤ g d then W (g d) else 0) ≤ (if 0 ≤ (p d).1 then W (p d).1 else 0) + if 0 ≤ (p d).2 then W (p d).2 else 0
  rcases hp d with ⟨-,e⟩ | ⟨-,e⟩ <;> rw [e] <;> dsimp only
  ·rw [if_neg (show ¬ (0 : Int) ≤ -1 by decide)];omega
  ·rw [if_neg (show ¬ (0 : Int) ≤ -1 by decide)];omega
 omega
end
theorem insQ_perm (lt : Int → Int → Bool) (l : List Int) (x : Int) : (insQ lt l x).Perm (x :: l) := by
 unfold insQ;refine List.perm_middle.trans ?_;rw [List.take_append_drop]
theorem sortQ_perm (lt : Int → Int → Bool) (l : List Int) : (sortQ lt l).Perm l := by
 have key : ∀ (l a : List Int),(l.foldl (insQ lt) a).Perm (a ++ l) := by
  intro l
  induction l with
  | nil => intro a;rw [List.append_nil];exact List.Perm.refl _
  | cons x l ih =>
    intro a;rw [List.foldl_cons];refine (ih _).trans (((insQ_perm lt a x).append_right l).trans ?_);exact List.perm_middle.symm
 have := key l [];exact this
theorem posQ_spec (lt : Int → Int → Bool) (l : List Int) (x : Int) : ∀ k,(∀ j,posQ lt l x k ≤ j → j < k → lt x (gI l j) = true) ∧ (0 < posQ lt l x k → lt x (gI l (posQ lt l x k - 1)) = false)
 | 0 => ⟨fun j _ h => absurd h (Nat.not_lt_zero _),fun h => absurd h (Nat.lt_irrefl _)⟩
 | k + 1 => by
   obtain ⟨h1,h2⟩ := posQ_spec lt l x k
   by_cases h : lt x (gI l k) = true
   ·have e : posQ lt l x (k + 1) = posQ lt l x k := if_pos h;rw [e]
    exact ⟨fun j hj hk => by
     by_cases q : j = k
     ·rw [q];exact h
     ·exact h1 j hj (by omega),h2⟩
   ·have e : posQ lt l x (k + 1) = k + 1 := if_neg h;rw [e];exact ⟨fun j hj hk => by omega,fun _ => by simpa using h⟩
theorem insQ_sorted {lt : Int → Int → Bool} {key : Int → Int} {l : List Int} {x : Int} (hl : l.Pairwise fun a b => key b ≤ key a) (hk : ∀ a ∈ l,lt x a = decide (key a < key x)) : (insQ lt l x).Pairwise fun a b => key b ≤ key a := by
 obtain ⟨h1,h2⟩ := posQ_spec lt l x l.length;have hp := posQ_le lt l x l.length;unfold insQ;have hl' := hl;rw [← List.take_append_drop (posQ lt l x l.length) l,List.pairwise_append] at hl';rw [List.pairwise_append];refine ⟨hl'.1,List.pairwise_cons.2 ⟨fun y hy => ?_,hl'.2.1⟩,fun u hu v hv => ?_⟩
 ·obtain ⟨j,hj,rfl⟩ := List.getElem_of_mem hy;rw [List.length_drop] at hj;rw [List.getElem_drop];have q := h1 (posQ lt l x l.length + j) (by omega) (by omega);rw [gI_lt (by omega),hk _ (List.getElem_mem _),decide_eq_true_iff] at q;omega
 ·rcases List.mem_cons.1 hv with rfl | hv
  ·obtain ⟨j,hj,rfl⟩ := List.getElem_of_mem hu;rw [List.length_take] at hj;rw [List.getElem_take];have q := h2 (by omega);rw [gI_lt (show posQ lt l v l.length - 1 < l.length by omega),hk _ (List.getElem_mem _),decide_eq_false_iff_not] at q
   by_cases e : j = posQ lt l v l.length - 1
   ·subst e;omega
   ·have := List.pairwise_iff_getElem.1 hl j (posQ lt l v l.length - 1) (by omega) (by omega) (by omega);omega
  ·exact hl'.2.2 u hu v hv
theorem sortQ_sorted {lt : Int → Int → Bool} {key : Int → Int} {l : List Int} (hk : ∀ a ∈ l,∀ b ∈ l,lt a b = decide (key b < key a)) : (sortQ lt l).Pairwise fun a b => key b ≤ key a := by
 have go : ∀ (r a : List Int),(∀ x ∈ a,x ∈ l) → (∀ x ∈ r,x ∈ l) → (a.Pairwise fun a b => key b ≤ key a) → (r.foldl (insQ lt) a).Pairwise fun a b => key b ≤ key a := by
  intro r
  induction r with
  | nil => intro a _ _ h;exact h
  | cons x r ih =>
    intro a ha hr h;rw [List.foldl_cons];refine ih _ (fun y hy => ?_) (fun y hy => hr y (List.mem_cons_of_mem _ hy)) (insQ_sorted h fun y hy => hk x (hr x List.mem_cons_self) y (ha y hy))
    rcases (insQ_mem lt a x y).1 hy with rfl | hy
    ·exact hr _ List.mem_cons_self
    ·exact ha y hy
 exact go l [] (fun x hx => absurd hx List.not_mem_nil) (fun x hx => hx) List.Pairwise.nil
theorem rangeI_nodup (n : Nat) : (rangeI n).Nodup := by
 unfold rangeI;rw [List.nodup_iff_pairwise_ne,List.pairwise_map];exact List.nodup_range.imp fun h e => h (by omega)
theorem ordL_nodup (fl : List Fl) : (ordL fl).Nodup := (sortQ_perm _ _).nodup_iff.2 (rangeI_nodup _)
theorem ordL_sorted (fl : List Fl) : (ordL fl).Pairwise fun a b => mAt fl b ≤ mAt fl a := sortQ_sorted fun a ha b hb => by
 obtain ⟨i,rfl,hi⟩ := rangeI_mem.1 ha;obtain ⟨j,rfl,hj⟩ := rangeI_mem.1 hb;rw [ltM_at hi hj,mAt_at hi,mAt_at hj]
theorem worthN_W (fl : List Fl) (h : Nat → Int) : ∀ k,worthN fl h k = worthW (mAt fl) h k
 | 0 => rfl
 | k + 1 => by
   show (if 0 ≤ h k then worthN fl h k + mAt fl (h k) else worthN fl h k) = worthW (mAt fl) h k + (if 0 ≤ h k then mAt fl (h k) else 0)
   rw [worthN_W fl h k]
   split
   ·rfl
   ·rw [Int.add_zero]
theorem mAt_pos {fl : List Fl} (hm : ∀ f ∈ fl,0 ≤ f.m) (x : Int) : 0 ≤ mAt fl x := by
 unfold mAt
 split
 ·rename_i f hf;exact hm f (List.mem_of_getElem? hf)
 ·exact Int.le_refl _
structure OptT (t : Tr) (n : Nat) : Prop where
 sp : ∀ f ∈ t.fl,0 ≤ f.lo ∧ f.hi < n
 mr : ∀ f ∈ t.fl,0 ≤ f.m
theorem OptT.span {t : Tr} {n : Nat} (h : OptT t n) : SpanT t n := ⟨fun k hk => h.sp _ (List.getElem_mem hk)⟩
theorem PlanT.opt {t : Tr} {n : Nat} (h : PlanT t n) : OptT t n := ⟨fun f hf => by
 obtain ⟨k,hk,rfl⟩ := List.getElem_of_mem hf;exact h.sp k hk,fun f hf => by
 obtain ⟨k,hk,rfl⟩ := List.getElem_of_mem hf;exact (h.mr k hk).1⟩
theorem bestF_C {t : Tr} {n : Nat} (h : OptT t n) : PlanC t.N n t.fl.length (fun a b => mAt t.fl b ≤ mAt t.fl a) (ordL t.fl) (bestF t n) :=
 planF_C (trN_lt h.span) (ordL_nodup _) (ordL_sorted _) fun _ hx => ordL_mem.1 hx
theorem meritF_opt {t : Tr} {n : Nat} (h : OptT t n) : IsOpt t.N n t.fl.length (mAt t.fl) (meritF t n) := by
 have hC := bestF_C h;have e : worthW (mAt t.fl) (bestF t n) n = meritF t n := (worthN_W _ _ _).symm;refine ⟨⟨_,hC.ok,e⟩,fun g hg => ?_⟩;rw [← e];refine dual_max (S := fun _ => True) hC.ok hg (fun _ _ _ => .inl trivial) (mAt_pos h.mr) fun i hi _ hz => ?_;obtain ⟨X,h1,h2,h3⟩ := hC.cert i (ordL_mem.2 ⟨i,rfl,hi⟩) hz;exact ⟨X,h1,h2,h3⟩
structure BestP (t : Tr) (n : Nat) (g : Nat → Int) : Prop where
 ok : OkP t.N n t.fl.length g
 w : worthW (mAt t.fl) g n = meritF t n
theorem bestF_best {t : Tr} {n : Nat} (h : OptT t n) : BestP t n (bestF t n) := ⟨(bestF_C h).ok,(worthN_W _ _ _).symm⟩
-- closed days
theorem OptT.cl {t : Tr} {n : Nat} (h : OptT t n) (k : Int) (cl : List Int) : OptT ⟨k,cl,t.fl⟩ n := ⟨h.sp,h.mr⟩
theorem OptT.keep {t : Tr} {n : Nat} (h : OptT t n) (k : Int) (cl l : List Int) : OptT ⟨k,cl,keepN l t.fl t.fl.length⟩ n :=
 ⟨fun f hf => h.sp f (keepN_mem hf),fun f hf => h.mr f (keepN_mem hf)⟩
theorem mAt_eq {fl fl' : List Fl} {a b : Nat} (h : fl[a]? = fl'[b]?) : mAt fl (a : Int) = mAt fl' (b : Int) := by unfold mAt;rw [Int.toNat_natCast,Int.toNat_natCast,h]
structure OnP (N : Int → List Nat) (n m : Nat) (xs : List Int) (h : Nat → Int) : Prop where
 ok : OkP N n m h
 len : xs.length = m
 on : ∀ i : Nat,i < m → (gI xs i = -1 ∧ cntN h i n = 0) ∨ ∃ d : Nat,d < n ∧ gI xs i = (d : Int) ∧ h d = (i : Int)
section
variable {N : Int → List Nat} {n m : Nat} {xs : List Int} {h : Nat → Int}
theorem OnP.cnt (q : OnP N n m xs h) {i : Nat} (hi : i < m) : cntN h i n = if 0 ≤ gI xs i then 1 else 0 := by
 rcases q.on i hi with ⟨e,hz⟩ | ⟨d,hd,e,e2⟩
 ·rw [e,hz];rfl
 ·rw [if_pos (by omega)];have := cntN_ge hd e2;have := q.ok.one i;omega
theorem OnP.has (q : OnP N n m xs h) {i : Nat} (hi : i < m) : 0 ≤ gI xs i ↔ cntN h i n ≠ 0 := by
 rw [q.cnt hi]
 split
 ·rename_i h0;exact ⟨fun _ => by decide,fun _ => h0⟩
 ·rename_i h0;exact ⟨fun x => absurd x h0,fun x => absurd rfl x⟩
theorem OnP.of_day (q : OnP N n m xs h) {d : Nat} (hd : d < n) {i : Nat} (e : h d = (i : Int)) : i < m ∧ gI xs i = (d : Int) := by
 have hi : i < m := by have := (q.ok.lt d).2;omega
 refine ⟨hi,?_⟩
 rcases q.on i hi with ⟨-,hz⟩ | ⟨d',hd',e',e2⟩
 ·exact absurd e (cntN_zero hz d hd)
 ·rw [e',q.ok.inj hd hd' (by omega) (by omega)]
theorem OnP.to_day (q : OnP N n m xs h) {i : Nat} (hi : i < m) (h0 : 0 ≤ gI xs i) : ∃ d : Nat,d < n ∧ gI xs i = (d : Int) ∧ h d = (i : Int) := by
 rcases q.on i hi with ⟨e,-⟩ | hd
 ·omega
 ·exact hd
theorem OnP.worth (q : OnP N n m xs h) (W : Int → Int) : worthW W h n = sumN (fun j => if 0 ≤ gI xs j then W (j : Int) else 0) m := by
 rw [worth_cnt n fun d _ => (q.ok.lt d).2];refine sumN_eq m fun j hj => ?_;rw [q.cnt hj]
 split
 ·exact Int.one_mul _
 ·exact Int.zero_mul _
end
theorem wrthK_sum {t : Tr} {xs : List Int} : ∀ k,k ≤ t.fl.length → wrthK t xs k = sumN (fun j => if 0 ≤ gI xs j then mAt t.fl (j : Int) else 0) k
 | 0,_ => rfl
 | k + 1,hk => by
   show wrthK t xs k + (if 0 ≤ gI xs k then (match t.fl[k]? with | some f => f.m | none => 0) else 0) = sumN _ k + (if 0 ≤ gI xs k then mAt t.fl (k : Int) else 0)
   rw [wrthK_sum k (by omega),mAt_at (show k < t.fl.length by omega),List.getElem?_eq_getElem (show k < t.fl.length by omega)]
theorem OnP.wrth {t : Tr} {n : Nat} {xs : List Int} {h : Nat → Int} (q : OnP t.N n t.fl.length xs h) : wrthK t xs t.fl.length = worthW (mAt t.fl) h n := by
 rw [wrthK_sum _ (Nat.le_refl _),q.worth]
theorem onN_spec (h : Nat → Int) (i : Nat) : ∀ k,(onN h k i = -1 ∧ ∀ d,d < k → h d ≠ (i : Int)) ∨ ∃ d : Nat,d < k ∧ onN h k i = (d : Int) ∧ h d = (i : Int)
 | 0 => .inl ⟨rfl,fun d hd => absurd hd (Nat.not_lt_zero _)⟩
 | k + 1 => by
   by_cases h0 : 0 ≤ h k
   ·have e : onN h (k + 1) = updF (onN h k) (h k).toNat (k : Int) := if_pos h0;rw [e];unfold updF
    by_cases q : i = (h k).toNat
    ·rw [if_pos q];exact .inr ⟨k,Nat.lt_succ_self _,rfl,by omega⟩
    ·rw [if_neg q]
     rcases onN_spec h i k with ⟨h1,h2⟩ | ⟨d,h1,h2,h3⟩
     ·exact .inl ⟨h1,fun d hd => by
       rcases Nat.lt_or_ge d k with q2 | q2
       ·exact h2 d q2
       ·obtain rfl : d = k := by omega
        omega⟩
     ·exact .inr ⟨d,by omega,h2,h3⟩
   ·have e : onN h (k + 1) = onN h k := if_neg h0;rw [e]
    rcases onN_spec h i k with ⟨h1,h2⟩ | ⟨d,h1,h2,h3⟩
    ·exact .inl ⟨h1,fun d hd => by
      rcases Nat.lt_or_ge d k with q2 | q2
      ·exact h2 d q2
      ·obtain rfl : d = k := by omega
       omega⟩
    ·exact .inr ⟨d,by omega,h2,h3⟩
theorem onL_on {N : Int → List Nat} {n m : Nat} {h : Nat → Int} (hh : OkP N n m h) : OnP N n m (onL h n m) h :=
 ⟨hh,onL_len,fun i hi => by
  rw [onL_at hi]
  rcases onN_spec h i n with ⟨h1,h2⟩ | h1
  ·exact .inl ⟨h1,cntN_of_zero h2⟩
  ·exact .inr h1⟩
theorem wrong_plan {t : Tr} {n : Nat} {xs : List Int} (hT : OptT t n) (hl : xs.length = t.fl.length) : wrongI t xs < 0 ↔ ∃ h,OnP t.N n t.fl.length xs h := by
 constructor
 ·intro hw;have hb := wrongI_neg (t := t) (xs := xs) (by omega)
  have good : ∀ i (hi : i < t.fl.length),gI xs i = -1 ∨ ∃ d : Nat,d < n ∧ gI xs i = (d : Int) ∧ d ∈ t.N (i : Int) ∧ ∀ j,j < i → gI xs j ≠ gI xs i := fun i hi => by
   have q := hb i (by omega);rw [badK_at hi] at q
   by_cases e : gI xs i = -1
   ·exact .inl e
   ·rw [decide_eq_true (show gI xs i ≠ -1 from e),Bool.true_and,Bool.or_eq_false_iff] at q;obtain ⟨q1,q2⟩ := q;have q1 : okDay t t.fl[i].lo t.fl[i].hi (gI xs i) = true := by simpa using q1
    unfold okDay at q1;rw [decide_eq_true_iff] at q1;have hs := hT.sp _ (List.getElem_mem hi);obtain ⟨d,hd⟩ : ∃ d : Nat,gI xs i = (d : Int) := ⟨(gI xs i).toNat,by omega⟩;refine .inr ⟨d,by omega,hd,?_,fun j hj e2 => ?_⟩
    ·rw [trN_at hi,openN_in hs.1];rw [hd] at q1;exact ⟨q1.1.1,q1.1.2,q1.2⟩
    ·rw [hd,Int.toNat_natCast] at q2;have := takN_true.2 ⟨j,hj,e2.trans hd⟩;rw [q2] at this;cases this
  have ch : ∀ d : Nat,∃ x : Int,(∃ i : Nat,i < t.fl.length ∧ x = i ∧ gI xs i = (d : Int)) ∨ ((∀ i : Nat,i < t.fl.length → gI xs i ≠ (d : Int)) ∧ x = -1) := fun d => by
   by_cases q : ∃ i : Nat,i < t.fl.length ∧ gI xs i = (d : Int)
   ·obtain ⟨i,hi,e⟩ := q;exact ⟨i,.inl ⟨i,hi,rfl,e⟩⟩
   ·exact ⟨-1,.inr ⟨fun i hi e => q ⟨i,hi,e⟩,rfl⟩⟩
  obtain ⟨p,hp⟩ := Classical.axiomOfChoice ch
  have same : ∀ i j : Nat,i < t.fl.length → j < t.fl.length → 0 ≤ gI xs i → gI xs i = gI xs j → i = j := fun i j hi hj h0 e => by
   rcases Nat.lt_trichotomy i j with q | q | q
   ·rcases good j hj with h1 | ⟨d,-,-,-,h1⟩
    ·omega
    ·exact absurd e (h1 i q)
   ·exact q
   ·rcases good i hi with h1 | ⟨d,-,-,-,h1⟩
    ·omega
    ·exact absurd e.symm (h1 j q)
  refine ⟨p,OkP.of (fun d => ?_) (fun d hd h0 => ?_) (fun d e hd he h0 q => ?_),hl,fun i hi => ?_⟩
  ·rcases hp d with ⟨i,hi,e,-⟩ | ⟨-,e⟩ <;> omega
  ·rcases hp d with ⟨i,hi,e,e2⟩ | ⟨-,e⟩
   ·rcases good i hi with h1 | ⟨d',-,h1,h2,-⟩
    ·omega
    ·obtain rfl : d' = d := by omega
     rw [e];exact h2
   ·omega
  ·rcases hp d with ⟨i,hi,e1,e2⟩ | ⟨-,e1⟩
   ·rcases hp e with ⟨j,hj,e3,e4⟩ | ⟨-,e3⟩
    ·obtain rfl : i = j := by omega
     omega
    ·omega
   ·omega
  ·rcases good i hi with h1 | ⟨d,h0,h1,h2,-⟩
   ·refine .inl ⟨h1,cntN_of_zero fun d hd q => ?_⟩
    rcases hp d with ⟨j,hj,e1,e2⟩ | ⟨-,e1⟩
    ·obtain rfl : j = i := by omega
     omega
    ·omega
   ·refine .inr ⟨d,h0,h1,?_⟩
    rcases hp d with ⟨j,hj,e1,e2⟩ | ⟨h3,-⟩
    ·rw [e1,same j i hj hi (by omega) (by omega)]
    ·exact absurd h1 (h3 i hi)
 ·rintro ⟨h,q⟩
  have : wrongI t xs = -1 := wrongI_none fun i hi => by
   have hi' : i < t.fl.length := by omega
   rw [badK_at hi']
   rcases q.on i hi' with ⟨e,-⟩ | ⟨d,hd,e,e2⟩
   ·rw [e];rfl
   ·have hs := hT.sp _ (List.getElem_mem hi');have hday := q.ok.day d hd (by omega);rw [e2,trN_at hi',openN_in hs.1] at hday;have h1 : okDay t t.fl[i].lo t.fl[i].hi (gI xs i) = true := decide_eq_true (by rw [e];exact ⟨⟨hday.1,hday.2.1⟩,hday.2.2⟩)
    have h2 : takN xs i (gI xs i).toNat = false := by
     by_cases c : takN xs i (gI xs i).toNat = true
     ·obtain ⟨j,hj,ej⟩ := takN_true.1 c
      exfalso
      rcases q.on j (by omega) with ⟨e3,-⟩ | ⟨d',hd',e3,e4⟩
      ·omega
      ·obtain rfl : d' = d := by omega
       omega
     ·simpa using c
    rw [h1,h2];simp
  omega
theorem onL_right {t : Tr} {n : Nat} {h : Nat → Int} (hT : OptT t n) (hh : OkP t.N n t.fl.length h) : wrongI t (onL h n t.fl.length) < 0 := (wrong_plan hT onL_len).2 ⟨h,onL_on hh⟩
-- full spans
theorem fullN_sum {fl : List Fl} {xs : List Int} {a b : Int} : ∀ k,k ≤ fl.length → (fullN fl xs a b k : Int) = sumN (fun j => if 0 ≤ gI xs j then inW fl a b (j : Int) else 0) k
 | 0,_ => rfl
 | k + 1,hk => by
   have ih := fullN_sum (fl := fl) (xs := xs) (a := a) (b := b) k (by omega)
   show ((if insF fl xs a b k = true then fullN fl xs a b k + 1 else fullN fl xs a b k : Nat) : Int) = sumN _ k + (if 0 ≤ gI xs k then inW fl a b (k : Int) else 0)
   rw [← ih,insF_at (show k < fl.length by omega)];unfold inW;rw [inA_at (show k < fl.length by omega)]
   by_cases h1 : 0 ≤ gI xs k
   ·rw [if_pos h1,decide_eq_true h1,Bool.true_and]
    split <;> omega
   ·rw [if_neg h1,decide_eq_false h1,Bool.false_and,if_neg (by decide)];omega
theorem lowN_false {fl : List Fl} {xs : List Int} {a b m : Int} : ∀ {k},lowN fl xs a b m k = false ↔ ∀ j,j < k → insF fl xs a b j = true → m ≤ mAt fl (j : Int)
 | 0 => ⟨fun _ j hj => absurd hj (Nat.not_lt_zero _),fun _ => rfl⟩
 | k + 1 => by
   show (lowN fl xs a b m k || (insF fl xs a b k && decide (mAt fl (k : Int) < m))) = false ↔ _
   rw [Bool.or_eq_false_iff,lowN_false (k := k),Bool.and_eq_false_iff,decide_eq_false_iff_not]
   constructor
   ·rintro ⟨h1,h2⟩ j hj hi
    rcases Nat.lt_or_ge j k with q | q
    ·exact h1 j q hi
    ·obtain rfl : j = k := by omega
     rcases h2 with h2 | h2
     ·rw [h2] at hi;cases hi
     ·omega
   ·intro h;refine ⟨fun j hj hi => h j (by omega) hi,?_⟩
    by_cases q : insF fl xs a b k = true
    ·right;have := h k (Nat.lt_succ_self _) q;omega
    ·left;simpa using q
theorem fullB_iff {t : Tr} {n a b : Nat} {xs : List Int} {h : Nat → Int} {m : Int} (hT : OptT t n) (hP : OnP t.N n t.fl.length xs h) (hb : b < n) :
  fullB t xs (a : Int) (b : Int) m = true ↔ (∀ d,a ≤ d → d ≤ b → (d : Int) ∉ t.cl → 0 ≤ h d ∧ inA t.fl a b (h d) = true ∧ m ≤ mAt t.fl (h d)) := by
 unfold fullB;rw [Bool.and_eq_true,decide_eq_true_iff,Bool.not_eq_true',lowN_false]
 have e : fullN t.fl xs a b t.fl.length = (openN t.cl a b).length ↔ worthW (inW t.fl a b) h n = ((openN t.cl (a : Int) (b : Int)).length : Int) := by
  rw [hP.worth,← fullN_sum _ (Nat.le_refl _)];omega
 rw [e,full_iff hT.span hP.ok hb]
 constructor
 ·rintro ⟨h1,h2⟩ d d1 d2 d3;obtain ⟨q1,q2⟩ := h2 d d1 d2 d3;refine ⟨q1,q2,?_⟩;obtain ⟨j,hj,hjm⟩ := hP.ok.at' q1;rw [hj] at q2 ⊢;refine h1 j hjm ?_;rw [insF_at hjm,(hP.of_day (by omega) hj).2];rw [inA_at hjm] at q2;rw [q2];simp
 ·intro hall;refine ⟨fun j hj hi => ?_,fun d d1 d2 d3 => ⟨(hall d d1 d2 d3).1,(hall d d1 d2 d3).2.1⟩⟩;rw [insF_at hj,Bool.and_eq_true,decide_eq_true_iff] at hi;obtain ⟨d,hd,e1,e2⟩ := hP.to_day hj hi.1;have hin : inA t.fl a b (h d) = true := by rw [e2,inA_at hj];exact hi.2
  have := day_in (a := a) (b := b) hT.span hP.ok hd (by omega) hin;have := (hall d this.1 this.2.1 this.2.2).2.2
  rwa [e2] at this
def FullOk (t : Tr) (xs : List Int) (z : Int × Int) (k : Nat) : Prop :=
 if 0 ≤ gI xs k then z = (0,0) else match t.fl[k]? with
 | some f => (0 ≤ z.1 ∧ z.1 ≤ z.2 ∧ z.2 < t.n) ∧ (z.1 ≤ f.lo ∧ f.hi ≤ z.2) ∧ fullB t xs z.1 z.2 f.m = true
 | none => True
theorem FullOk.at {t : Tr} {xs : List Int} {z : Int × Int} {k : Nat} (hk : k < t.fl.length) (h0 : ¬ 0 ≤ gI xs k) : FullOk t xs z k ↔ (0 ≤ z.1 ∧ z.1 ≤ z.2 ∧ z.2 < t.n) ∧ (z.1 ≤ t.fl[k].lo ∧ t.fl[k].hi ≤ z.2) ∧ fullB t xs z.1 z.2 t.fl[k].m = true := by
 unfold FullOk;rw [if_neg h0,List.getElem?_eq_getElem hk]
instance {t : Tr} {xs : List Int} {z : Int × Int} {k : Nat} : Decidable (FullOk t xs z k) := by
 unfold FullOk;split
 ·infer_instance
 ·split <;> infer_instance
def gZ (l : List (Int × Int)) (i : Nat) : Int × Int := l[i]?.getD (0,0)
theorem gZ_lt {l : List (Int × Int)} {i : Nat} (h : i < l.length) : gZ l i = l[i] := by unfold gZ;rw [List.getElem?_eq_getElem h];rfl
def ProvP (t : Tr) (m : Md) : Prop := (m.on.length = t.fl.length ∧ m.full.length = t.fl.length ∧ wrongI t m.on < 0 ∧ wrthK t m.on t.fl.length = m.mt) ∧ ∀ k,k < t.fl.length → FullOk t m.on (gZ m.full k) k
theorem best_prov {t : Tr} {n : Nat} {h : Nat → Int} (hT : OptT t n) (hn : t.n = (n : Int)) (hle : ∀ f ∈ t.fl,f.lo ≤ f.hi) (hpos : ∀ f ∈ t.fl,0 < f.m) (hb : BestP t n h) : ProvP t (wholeF t n h) := by
 have hP := onL_on hb.ok;refine ⟨⟨onL_len,by show ((List.range _).map _).length = _;simp,onL_right hT hb.ok,?_⟩,fun k hk => ?_⟩
 ·show wrthK t (onL h n t.fl.length) t.fl.length = worthN t.fl h n
  rw [hP.wrth,worthN_W]
 ·have e : gZ (wholeF t n h).full k = fullS t (onL h n t.fl.length) n k := by
   show gZ ((List.range t.fl.length).map _) k = _
   rw [gZ_lt (by simpa using hk)];simp
  rw [e]
  show FullOk t (onL h n t.fl.length) _ k
  by_cases h0 : 0 ≤ gI (onL h n t.fl.length) k
  ·unfold FullOk fullS;rw [if_pos h0,if_pos h0]
  ·rw [FullOk.at hk h0]
   have hz : cntN h (k : Int) n = 0 := by
    by_cases q : cntN h (k : Int) n = 0
    ·exact q
    ·exact absurd ((hP.has hk).2 q) h0
   have opt := meritF_opt hT;obtain ⟨X,hX,hX2,hX3⟩ := max_cert (W := mAt t.fl) (trN_lt hT.span) hb.ok (fun j hj => by rw [mAt_at hj];exact hpos _ (List.getElem_mem hj)) (fun g hg => by rw [hb.w];exact opt.le g hg) k hk hz;obtain ⟨a,b,w1,w2,w3,w4⟩ := window_of hT.span (fun k hk => hle _ (List.getElem_mem hk)) hb.ok hX hk hX2
   have hful : fullB t (onL h n t.fl.length) (a : Int) (b : Int) t.fl[k].m = true := (fullB_iff hT hP w2).2 fun d d1 d2 d3 => by
    obtain ⟨q1,q2⟩ := w4 d d1 d2 d3;have := hX3 d q1;rw [mAt_at hk] at this;exact ⟨(hX d q1).2.1,q2,this⟩
   rw [inA_at hk,decide_eq_true_iff] at w3
   have hne : firstS t (onL h n t.fl.length) n t.fl[k] ≠ none := fun q => by
    unfold firstS at q;rw [List.find?_eq_none] at q;refine q (a,b) (spanU_mem.2 ⟨by show a < n;omega,w1,w2⟩) ?_
    dsimp only
    rw [hful,decide_eq_true w3];rfl
   obtain ⟨p,hp⟩ := Option.ne_none_iff_exists'.1 hne
   have e2 : fullS t (onL h n t.fl.length) n k = ((p.1 : Int),(p.2 : Int)) := by
    unfold fullS;rw [if_neg h0,List.getElem?_eq_getElem hk]
    dsimp only
    rw [hp]
   rw [e2];unfold firstS at hp;have m1 := List.mem_of_find?_eq_some hp;have m2 := List.find?_some hp;rw [spanU_mem] at m1;rw [Bool.and_eq_true,decide_eq_true_iff] at m2;exact ⟨by dsimp only;omega,m2.1,m2.2⟩
theorem GoodT.opt {t : Tr} (h : GoodT t) : OptT t t.n.toNat := ⟨fun f hf => by
 have h1 := (h.ok f hf).2.1;have := h.n;exact ⟨h1.1,by omega⟩,fun f hf => by have := (h.ok f hf).2.2;omega⟩
theorem GoodT.le {t : Tr} (h : GoodT t) : ∀ f ∈ t.fl,f.lo ≤ f.hi := fun f hf => (h.ok f hf).2.1.2.1
theorem GoodT.pos {t : Tr} (h : GoodT t) : ∀ f ∈ t.fl,0 < f.m := fun f hf => by have := (h.ok f hf).2.2;omega
theorem GoodT.nn {t : Tr} (h : GoodT t) : t.n = (t.n.toNat : Int) := by have := h.n;omega
section
variable {N : Int → List Nat} {n m : Nat}
theorem canF_plan {l : List Int} (hN : ∀ i,∀ d ∈ N i,d < n) (hd : l.Nodup) (hm : ∀ x ∈ l,∃ k : Nat,x = (k : Int) ∧ k < m) (hc : canF N n l noPlan = true) :
  OkP N n m (l.foldl (addF N n) noPlan) ∧ ∀ j : Nat,cntN (l.foldl (addF N n) noPlan) (j : Int) n = if (j : Int) ∈ l then 1 else 0 := by
 obtain ⟨h1,h2⟩ := canF_true hN l noPlan noPlan_ok hd (fun x hx => by obtain ⟨k,rfl,hk⟩ := hm x hx;exact ⟨k,rfl,hk,noPlan_cnt⟩) hc;exact ⟨h1,fun j => by rw [h2,noPlan_cnt,Int.zero_add]⟩
end
theorem OptT.wider {t : Tr} {n i : Nat} {lo hi : Int} (hT : OptT t n) (h : i < t.fl.length) (hs : 0 ≤ lo ∧ hi < n) : OptT (widerT t i lo hi) n := by
 constructor
 ·intro f hf;rw [widerT_at h] at hf
  rcases List.mem_or_eq_of_mem_set hf with hf | rfl
  ·exact hT.sp f hf
  ·exact hs
 ·intro f hf;rw [widerT_at h] at hf
  rcases List.mem_or_eq_of_mem_set hf with hf | rfl
  ·exact hT.mr f hf
  ·show 0 ≤ t.fl[i].m
   exact hT.mr _ (List.getElem_mem h)
section
variable {N N' : Int → List Nat} {n m : Nat} {W : Int → Int} {w v v' : Int} {g h : Nat → Int}
theorem cnt_worth {L : List Int} (hh : OkP N n m h) (hc : ∀ j : Nat,j < m → cntN h (j : Int) n = if (j : Int) ∈ L then 1 else 0) : worthW W h n = sumN (fun j => if (j : Int) ∈ L then W j else 0) m := by
 rw [worth_cnt n fun d _ => (hh.lt d).2];refine sumN_eq m fun j hj => ?_;rw [hc j hj]
 split
 ·exact Int.one_mul _
 ·exact Int.zero_mul _
end
def moreT (t : Tr) (f : Fl) : Tr := ⟨t.n,t.cl,t.fl ++ [f]⟩
section
variable {t : Tr} {f : Fl} {n : Nat}
theorem moreT_len : (moreT t f).fl.length = t.fl.length + 1 := by show (t.fl ++ [f]).length = _;rw [List.length_append,List.length_singleton]
theorem moreT_at {j : Nat} (hj : j < t.fl.length) : (moreT t f).fl[j]? = t.fl[j]? := List.getElem?_append_left hj
theorem moreT_last : (moreT t f).fl[t.fl.length]? = some f := by show (t.fl ++ [f])[t.fl.length]? = _;rw [List.getElem?_append_right (Nat.le_refl _),Nat.sub_self];rfl
theorem moreT_m {j : Nat} (hj : j < t.fl.length) : mAt (moreT t f).fl (j : Int) = mAt t.fl (j : Int) := mAt_eq (moreT_at hj)
theorem moreT_mf : mAt (moreT t f).fl (t.fl.length : Int) = f.m := by unfold mAt;rw [Int.toNat_natCast,moreT_last]
end
structure LatP (N : Int → List Nat) (n m : Nat) (l L : List Int) : Prop where
 can : canF N n L noPlan = true
 nd : L.Nodup
 mem : ∀ x ∈ L,x ∈ l ∨ x = (m : Int)
 one : ∀ x ∈ l,∀ y ∈ l,x ∉ L → y ∉ L → x = y
section
variable {t : Tr} {f : Fl} {n : Nat} {h : Nat → Int} {l : List Int}
structure LatS (t : Tr) (f : Fl) (n : Nat) (h : Nat → Int) (l : List Int) : Prop where
 hT : OptT t n
 hM : OptT (moreT t f) n
 pos : ∀ x ∈ t.fl,0 < x.m
 hb : BestP t n h
 nd : l.Nodup
 mm : ∀ x ∈ l,∃ k : Nat,x = (k : Int) ∧ k < t.fl.length
 srt : l.Pairwise fun a b => mAt t.fl a ≤ mAt t.fl b
 cnt : ∀ j : Nat,j < t.fl.length → cntN h (j : Int) n = if (j : Int) ∈ l then 1 else 0
theorem LatS.mm' (s : LatS t f n h l) {L : List Int} (hL : ∀ x ∈ L,x ∈ l ∨ x = (t.fl.length : Int)) : ∀ x ∈ L,∃ k : Nat,x = (k : Int) ∧ k < t.fl.length + 1 := fun x hx => by
 rcases hL x hx with q | q
 ·obtain ⟨k,e,hk⟩ := s.mm x q;exact ⟨k,e,by omega⟩
 ·exact ⟨_,q,Nat.lt_succ_self _⟩
theorem LatS.in (s : LatS t f n h l) {x : Int} (hx : x ∈ l) : cntN h x n = 1 := by
 obtain ⟨k,rfl,hk⟩ := s.mm x hx;rw [s.cnt k hk,if_pos hx]
theorem LatS.worth (s : LatS t f n h l) : sumN (fun j => if (j : Int) ∈ l then mAt t.fl j else 0) t.fl.length = meritF t n := by
 rw [← s.hb.w];exact (cnt_worth s.hb.ok s.cnt).symm
theorem LatS.val (s : LatS t f n h l) {L : List Int} (hL : LatP (moreT t f).N n t.fl.length l L) : OkP (moreT t f).N n (t.fl.length + 1) (L.foldl (addF (moreT t f).N n) noPlan) ∧
  (∀ j : Nat,cntN (L.foldl (addF (moreT t f).N n) noPlan) (j : Int) n = if (j : Int) ∈ L then 1 else 0) ∧
  worthW (mAt (moreT t f).fl) (L.foldl (addF (moreT t f).N n) noPlan) n = sumN (fun j => if (j : Int) ∈ L then mAt t.fl j else 0) t.fl.length + if ((t.fl.length : Nat) : Int) ∈ L then f.m else 0 := by
 obtain ⟨h1,h2⟩ := canF_plan (m := t.fl.length + 1) (trN_lt s.hM.span) hL.nd (s.mm' hL.mem) hL.can;refine ⟨h1,h2,?_⟩;rw [cnt_worth h1 fun j _ => h2 j]
 show sumN _ t.fl.length + (if ((t.fl.length : Nat) : Int) ∈ L then mAt (moreT t f).fl (t.fl.length : Nat) else 0) = _
 rw [moreT_mf,sumN_eq t.fl.length (g := fun j => if (j : Int) ∈ L then mAt t.fl j else 0) fun j hj => by rw [moreT_m hj]]
theorem LatS.one (s : LatS t f n h l) {L : List Int} (hL : LatP (moreT t f).N n t.fl.length l L)
  (hle : ∀ g,OkP (moreT t f).N n (t.fl.length + 1) g → worthW (mAt (moreT t f).fl) g n ≤ sumN (fun j => if (j : Int) ∈ L then mAt t.fl j else 0) t.fl.length + if ((t.fl.length : Nat) : Int) ∈ L then f.m else 0) :
  BestP (moreT t f) n (L.foldl (addF (moreT t f).N n) noPlan) := by
 obtain ⟨h1,-,h3⟩ := s.val hL;have o := meritF_opt s.hM;rw [moreT_len] at o;have ok : OkP (moreT t f).N n (moreT t f).fl.length (L.foldl (addF (moreT t f).N n) noPlan) := by rw [moreT_len];exact h1
 exact ⟨ok,IsOpt.eq (N := (moreT t f).N) (n := n) (m := t.fl.length + 1) (W := mAt (moreT t f).fl) ⟨⟨_,h1,rfl⟩,fun g hg => by rw [h3];exact hle g hg⟩ o⟩
end
theorem ClOk.of {n : Int} {cl : List Int} (hr : Rising cl) (hb : ∀ x ∈ cl,0 ≤ x ∧ x ≤ n - 1) : ClOk n cl := fun k hk => ⟨hb _ (gI_mem hk),fun h0 => hr (k - 1) k (by omega) hk⟩
structure InsP (a : List Int) (x : Int) (k : Nat) (Z : List Int) (put : Bool) : Prop where
 srt : Z.Pairwise (· < ·)
 mem : ∀ y,y ∈ Z ↔ y ∈ a.take k ∨ (put = true ∧ y = x)
 hi : put = true → ∀ y ∈ a.drop k,x < y
 lo : put = false → ∀ y ∈ a.take k,y < x
theorem pw_snoc {l : List Int} {x : Int} : (l ++ [x]).Pairwise (· < ·) ↔ l.Pairwise (· < ·) ∧ ∀ y ∈ l,y < x := by
 rw [List.pairwise_append]
 constructor
 ·rintro ⟨h1,-,h2⟩;exact ⟨h1,fun y hy => h2 y hy x (by simp)⟩
 ·rintro ⟨h1,h2⟩;exact ⟨h1,List.pairwise_singleton _ _,fun y hy z hz => by rw [List.mem_singleton] at hz;subst hz;exact h2 y hy⟩
section
variable {a : List Int} {x : Int} {k : Nat} {Z : List Int} {put : Bool}
theorem take_lt (ha : a.Pairwise (· < ·)) (hk : k < a.length) : ∀ y ∈ a.take k,y < a[k] := fun y hy => by
 obtain ⟨j,hj,e⟩ := List.getElem_of_mem hy;rw [List.length_take] at hj;rw [List.getElem_take] at e;rw [← e];exact List.pairwise_iff_getElem.1 ha j k (by omega) hk (by omega)
theorem InsP.on (h : InsP a x k Z put) (ha : a.Pairwise (· < ·)) (hk : k < a.length) (hx : put = true ∨ a[k] < x) : InsP a x (k + 1) (Z ++ [a[k]]) put := by
 refine ⟨pw_snoc.2 ⟨h.srt,fun y hy => ?_⟩,fun y => ?_,fun q y hy => ?_,fun q y hy => ?_⟩
 ·rcases (h.mem y).1 hy with q | ⟨q,rfl⟩
  ·exact take_lt ha hk y q
  ·exact h.hi q _ (by rw [List.drop_eq_getElem_cons hk];exact List.mem_cons_self)
 ·rw [List.mem_append,List.mem_singleton,h.mem,take_snoc hk,List.mem_append,List.mem_singleton]
  constructor
  ·rintro ((q | q) | q)
   ·exact .inl (.inl q)
   ·exact .inr q
   ·exact .inl (.inr q)
  ·rintro ((q | q) | q)
   ·exact .inl (.inl q)
   ·exact .inr q
   ·exact .inl (.inr q)
 ·exact h.hi q y (by rw [List.drop_eq_getElem_cons hk];exact List.mem_cons_of_mem _ hy)
 ·rw [take_snoc hk,List.mem_append,List.mem_singleton] at hy
  rcases hy with hy | rfl
  ·exact h.lo q y hy
  ·rcases hx with e | e
   ·rw [q] at e;cases e
   ·exact e
def insW (Z : List Int) (put : Bool) (x : Int) : List Int := if put = true then Z else Z ++ [x]
theorem InsP.done (h : InsP a x a.length Z put) : (insW Z put x).Pairwise (· < ·) ∧ ∀ y,y ∈ insW Z put x ↔ y ∈ a ∨ y = x := by
 have hm := h.mem;rw [List.take_length] at hm;unfold insW
 by_cases q : put = true
 ·rw [if_pos q];exact ⟨h.srt,fun y => by rw [hm];exact ⟨fun z => z.imp id fun z => z.2,fun z => z.imp id fun z => ⟨q,z⟩⟩⟩
 ·rw [if_neg q];have q0 : put = false := by simpa using q
  have hl := h.lo q0;rw [List.take_length] at hl;have hz : ∀ y ∈ Z,y ∈ a := fun y hy => ((hm y).1 hy).resolve_right fun z => q z.1;refine ⟨pw_snoc.2 ⟨h.srt,fun y hy => hl y (hz y hy)⟩,fun y => ?_⟩;rw [List.mem_append,List.mem_singleton,hm];exact ⟨fun z => z.elim (fun z => .inl (z.resolve_right fun z => q z.1)) .inr,fun z => z.elim (fun z => .inl (.inl z)) .inr⟩
end
end Go.Proofs.YtnklbepeoicgpaaGreat
namespace Go.Proofs.YtnklbepeoicgpaaGreat
open Go.RowKit Go.Wk Go.Proofs
attribute [local irreducible] Go.Wk.Wops Go.Wk.Wp Go.Wk.Mtree Go.Wk.Mops
set_option maxHeartbeats 8000000
set_option maxRecDepth 20000
theorem worthM_c (t : Tr) (n : Nat) (on : List Int) (v ov : Value) (w : World) (hP : PlanT t n) (hV : TourV w w.heap.size v t) (hI : IntsV w w.heap.size ov on) (hl : on.length = t.fl.length) :
  CallsV Tryz.prog 141 #[v,ov] w fun v' w' => v' = .int .i64 (wrthK t on t.fl.length) ∧ Ext w w' := by
 obtain ⟨A,c,A2,c2,rfl,hI1,hF⟩ := hV.open';obtain ⟨A1,c1,rfl,-,-⟩ := id hI;have hFS : FlawsS w w.heap.size (.slice A2 t.fl.length c2) t.fl := ⟨hF⟩;have hXS : IntsS w w.heap.size (.slice A1 on.length c1) on := ⟨hI⟩;clear hV hI1 hF hI;have hm12 := hP.fl;replace hl : ∃ _u : Unit,_ := ⟨(),hl⟩;refine Wp.fn Tryz.func141 rfl Tryz.ntmps141 (by simp) ?_;have xw := Ext.refl w;refine Wp.keep [0,1] ?_;rintro r1 ⟨p,B,-⟩;simp [go_sem] at p B;refine sRg fun K' gd hK => ?_;refine cu1 fun K1 hK1 => ?_;go_simp;apply hK1;clear hK1 K1;refine Wops.absA fun aB n2 i => ?_;obtain ⟨q2,i,s2,ak,f2,r2⟩ := i;try simp only [q2] at ak f2 r2 ⊢
 replace hFS := hFS.ext i;replace hXS := hXS.ext i;replace xw := xw.trans i;have al := ak 2 _ rfl;clear ak i;clear r2;go_simp;apply hK;clear hK K' gd;refine Wp.keep [1,2] ?_;rintro r2 ⟨C,G,-⟩;simp [go_sem,p,B] at C G;clear p B;refine sRg fun K' gd hK => ?_;go_simp;apply hK;clear hK K' gd;refine Wp.keep [1,2,5] ?_;rintro r3 ⟨D,H,O,-⟩;simp [go_sem,C,G] at D H O;clear C G;refine Wp.seq ?_;refine sRg fun K' gd hK => ?_;go_simp;apply hK;clear hK K' gd;refine Wp.keep [2,5,8,9,10] ?_;rintro r4 ⟨j,aw,l,m,ao,-⟩;simp [go_sem,D,H,O] at j aw l m ao;clear D H O;refine Wp.block ?_;refine Wp.loop (fun k ρ ds wk => AllEq [2,8,9] ρ r4 ∧ ds = [] ∧ (Ext aB wk) ∧ (ρ 10 = .int .i64 (k : Int) ∧ ρ 5 = .int .i64 (wrthK t on k))) (on.length) ?_ ?_
 ·refine ⟨AllEq.refl _ _,rfl,Ext.refl _,?_⟩;exact ⟨by rw [ao];rfl,by rw [aw];rfl⟩
 ·rintro k r5 _ wk hk ⟨hA,rfl,xl2,⟨e10,e5⟩⟩;obtain ⟨I,aa,ag,-⟩ := hA;rw [j] at I;rw [l] at aa;rw [m] at ag;replace hFS := hFS.ext xl2;replace hXS := hXS.ext xl2;replace xw := Ext.trans xw xl2;replace al := Ext.cell xl2 al;refine sRg fun K' gd hK => ?_;go_simp;apply hK;clear hK K' gd;refine Wp.keep [2,5,8,9,10,11] ?_;rintro r6 ⟨e,f,g,h,a,d,-⟩;simp [go_sem,I,e5,aa,ag,e10] at e f g h a d;clear I e5 aa ag e10;refine Wp.seq ?_
  by_cases hkn : k < on.length
  ·refine cTt ?_;have hkl : (k : Int) < (on.length : Int) := by omega
   have hkf : k < t.fl.length := by have := hl.choose_spec;omega
   have hkf2 : (k : Int) < (t.fl.length : Int) := by omega
   obtain ⟨b,o,cc,ev,hb,hcc⟩ := hXS.v.get hkn
   injection ev with ev1 _ ev2
   subst ev1;subst ev2;have d1 := hcc k hkn;clear hcc;obtain ⟨b2,o2,eA,hb2,x0,x1,x2,x3⟩ := FlawsV.at hFS.v hkf;subst eA;have hmr := hP.mr k hkf;have hwl := wrthK_le hP on k (by omega)
   by_cases h0 : 0 ≤ gI on k
   ·skip;refine skN ?_;refine sBk ?_;refine sRg fun K' gd hK => ?_;go_simp;apply hK;clear hK K' gd;refine Wp.keep [2,5,6,7,8,9,10] ?_;rintro r7 ⟨J,P,U,X,ab,ah,s,-⟩;simp [go_sem,e,f,g,h,a,d] at J P U X ab ah s;clear e f g h a d;refine sRg fun K' gd hK => ?_;go_simp;apply hK;clear hK K' gd;refine Wp.keep [2,5,6,8,9,10,16] ?_;rintro r8 ⟨K,Q,V,ac,ai,u,z,-⟩;simp [go_sem,J,P,U,X,ab,ah,s] at K Q V ac ai u z;clear J P U X ab ah s;refine cTt ?_;refine lRg fun K' gd hK => ?_;go_simp;apply hK;clear hK K' gd;refine Ends.keep [2,5,8,9,10] ?_;rintro r9 ⟨L,R,ad,aj,x,-⟩;simp [go_sem,K,Q,V,ac,ai,u,z] at L R ad aj x;clear K Q V ac ai u z;refine Ends.mk ?_;refine bNo ?_;refine tNo ?_;refine lRg fun K' gd hK => ?_;go_simp;apply hK;clear hK K' gd;refine Ends.keep [2,5,8,9,10] ?_;rintro r10 ⟨ap,au,ax,az,am,-⟩
    simp [go_sem,L,R,ad,aj,x] at ap au ax az am;clear L R ad aj x;refine Ends.mk ?_;refine thenK_normal ⟨by omega,⟨by rw [ap,j],by rw [ax,l],by rw [az,m],trivial⟩,rfl,xl2,?_⟩;exact ⟨by rw [am,IntWalk.i64_in _ (by omega)];rfl,by rw [au,wrthK_T hkf h0,IntWalk.i64_in _ (by omega)]⟩
   ·skip;refine skN ?_;refine sBk ?_;refine sRg fun K' gd hK => ?_;go_simp;apply hK;clear hK K' gd;refine Wp.keep [2,5,6,7,8,9,10] ?_;rintro r11 ⟨E,M,S,W,Y,ae,q,-⟩;simp [go_sem,e,f,g,h,a,d] at E M S W Y ae q;clear e f g h a d;refine sRg fun K' gd hK => ?_;go_simp;apply hK;clear hK K' gd;refine Wp.keep [2,5,6,8,9,10,16] ?_;rintro r12 ⟨F,N,T,Z,af,r,y,-⟩;simp [go_sem,E,M,S,W,Y,ae,q] at F N T Z af r y;clear E M S W Y ae q;refine cFf ?_;refine Wp.skip ?_;refine bNo ?_;refine tNo ?_;refine lRg fun K' gd hK => ?_;go_simp;apply hK;clear hK K' gd;refine Ends.keep [2,5,8,9,10] ?_;rintro r13 ⟨aq,av,ay,aA,an,-⟩;simp [go_sem,F,N,T,Z,af,r,y] at aq av ay aA an;clear F N T Z af r y;refine Ends.mk ?_;refine thenK_normal ⟨by omega,⟨by rw [aq,j],by rw [ay,l],by rw [aA,m],trivial⟩,rfl,xl2,?_⟩
    exact ⟨by rw [an,IntWalk.i64_in _ (by omega)];rfl,by rw [av,wrthK_F h0]⟩
  ·refine cFf ?_;have hkq : ∃ _u : Unit,k = t.fl.length := ⟨(),by have := hl.choose_spec;omega⟩;refine Wp.exit ?_;refine tEx ?_;refine tEx ?_;refine blockK_here ?_;refine tNo ?_;refine sRg fun K' gd hK => ?_;go_simp;apply hK;clear hK K' gd;refine Wp.keep [4] ?_;rintro r14 ⟨ar,-⟩;simp [go_sem,e,f,g,h,a,d] at ar;clear e f g h a d;refine Wp.ret ?_;refine endK_tmp Tryz.results141 (by decide) ?_;rw [ar];exact ⟨by rw [hkq.choose_spec],xw⟩
instance (t : Tr) (m : Md) : Decidable (ProvP t m) := by unfold ProvP;infer_instance
theorem SpansV.at {w : World} {B : Nat} {A : Option Addr} {n c : Nat} {l : List (Int × Int)} (h : SpansV w B (.slice A n c) l) {k : Nat} (hk : k < l.length) : ∃ b o,A = some ⟨b,o,none⟩ ∧ b < B ∧
  w.cell? ⟨b,o + k * 2,none⟩ = some (.int .i64 (gZ l k).1) ∧ w.cell? ⟨b,o + k * 2 + 1,none⟩ = some (.int .i64 (gZ l k).2) := by
 obtain ⟨A',c',hv,hx,-⟩ := h
 injection hv with h1 h2 h3;subst h1
 obtain ⟨b,o,hA,hb,hc⟩ := hx (by rintro rfl;exact absurd hk (Nat.not_lt_zero _));rw [gZ_lt hk];exact ⟨b,o,hA,hb,hc k hk 0 _ rfl,hc k hk 1 _ rfl⟩
structure SpansS (w : World) (S : Nat) (v : Value) (l : List (Int × Int)) : Prop where
 v : SpansV w S v l
section
variable {w V : World} {S : Nat} {v : Value} {l : List (Int × Int)}
theorem SpansS.ext (h : SpansS w S v l) (hE : Ext w V) : SpansS V S v l := ⟨h.v.cells fun _ _ _ _ hc => hE.cell hc⟩
theorem SpansS.chg {L : List Nat} (h : SpansS w S v l) (hC : Chg L w V) (hL : ∀ b ∈ L,S ≤ b) : SpansS V S v l := ⟨h.v.cells fun b _ _ hb hc => Chg.cell hC hc fun hm => by have := hL b hm;omega⟩
theorem SpansS.put {b i : Nat} {vs : List Value} (h : SpansS w S v l) (p : Put w V b i vs) (hb : S ≤ b) : SpansS V S v l := h.chg p.chg (by simpa using hb)
end
theorem prov_no1 {t : Tr} {m : Md} (h : ¬ m.on.length = t.fl.length) : decide (ProvP t m) = false := decide_eq_false fun q => h q.1.1
theorem prov_no2 {t : Tr} {m : Md} (h : ¬ m.full.length = t.fl.length) : decide (ProvP t m) = false := decide_eq_false fun q => h q.1.2.1
theorem prov_no3 {t : Tr} {m : Md} (h : 0 ≤ wrongI t m.on) : decide (ProvP t m) = false := decide_eq_false fun q => by have := q.1.2.2.1;omega
theorem prov_no4 {t : Tr} {m : Md} (h : ¬ wrthK t m.on t.fl.length = m.mt) : decide (ProvP t m) = false := decide_eq_false fun q => h q.1.2.2.2
theorem prov_no5 {t : Tr} {m : Md} {k : Nat} (hk : k < t.fl.length) (h : ¬ FullOk t m.on (gZ m.full k) k) : decide (ProvP t m) = false := decide_eq_false fun q => h (q.2 k hk)
theorem full_yes {t : Tr} {xs : List Int} {z : Int × Int} {k : Nat} (h0 : 0 ≤ gI xs k) : FullOk t xs z k ↔ z = (0,0) := by unfold FullOk;rw [if_pos h0]
theorem full_T {t : Tr} {xs : List Int} {lo : Nat} {hi m : Int} {A : Option Addr} {c : Nat} {A2 : Option Addr} {c2 : Nat} {A3 : Option Addr} {c3 : Nat} {w : World} {b : Bool} (hb : fullB t xs (lo : Int) hi m = b) (hT : TourV w w.heap.size (.agg #[.int .i64 t.n,.slice A t.cl.length c,.slice A2 t.fl.length c2]) t)
  (hI : IntsV w w.heap.size (.slice A t.cl.length c) t.cl) (hF : FlawsV w w.heap.size (.slice A2 t.fl.length c2) t.fl) (hX : IntsV w w.heap.size (.slice A3 xs.length c3) xs) (hxl : xs.length = t.fl.length) (hfl : t.fl.length ≤ 12) (hcl : t.cl.length ≤ 1000000000000000) (hhi : hi ≤ 1000000) :
  CallsV Tryz.prog 157 #[.agg #[.int .i64 t.n,.slice A t.cl.length c,.slice A2 t.fl.length c2],.slice A3 xs.length c3,.agg #[.int .i64 (lo : Int),.int .i64 hi],.int .i64 m] w fun v w' => v = .bool b ∧ Ext w w' := by
 rw [← hb];exact full_c t xs lo hi m A c A2 c2 A3 c3 w hT hI hF hX hxl hfl hcl hhi
theorem in_T {a b c d : Int} {r : Bool} (h : decide (c ≤ a ∧ b ≤ d) = r) (w : World) : CallsV Tryz.prog 156 #[.agg #[.int .i64 a,.int .i64 b],.agg #[.int .i64 c,.int .i64 d]] w fun v w' => v = .bool r ∧ Ext w w' := by rw [← h];exact in_c a b c d w
theorem proved_c (t : Tr) (m : Md) (v mv : Value) (w : World) (hg : GoodT t) (hl12 : t.fl.length ≤ 12) (hV : TourV w w.heap.size v t) (hM : MendV w w.heap.size mv m) :
  CallsV Tryz.prog 82 #[v,mv] w fun v' w' => v' = .bool (decide (ProvP t m)) ∧ Ext w w' := by
 obtain ⟨A,c,A2,c2,rfl,hCl,hF⟩ := hV.open';obtain ⟨xv,zv,rfl,hX,hZ⟩ := hM;obtain ⟨A3,c3,rfl,-,-⟩ := id hX;obtain ⟨A4,c4,rfl,-,-⟩ := id hZ;have hTS : TourS w w.heap.size (.agg #[.int .i64 t.n,.slice A t.cl.length c,.slice A2 t.fl.length c2]) t := ⟨hV⟩;have hFS : FlawsS w w.heap.size (.slice A2 t.fl.length c2) t.fl := ⟨hF⟩;have hCS : IntsS w w.heap.size (.slice A t.cl.length c) t.cl := ⟨hCl⟩;have hXS : IntsS w w.heap.size (.slice A3 m.on.length c3) m.on := ⟨hX⟩;have hZS : SpansS w w.heap.size (.slice A4 m.full.length c4) m.full := ⟨hZ⟩;clear hV hX hZ hF hCl;have hP := hg.plan hl12;have hn60 := hg.n;have hcl9 := hP.cl;refine Wp.fn Tryz.func82 rfl Tryz.ntmps82 (by simp) ?_;have xw := Ext.refl w;refine Wp.keep [0,1] ?_;rintro r1 ⟨an,ao,-⟩;simp [go_sem] at an ao;refine sRg fun K' gd hK => ?_;refine cu1 fun K1 hK1 => ?_;go_simp;apply hK1;clear hK1 K1;refine Wops.absA fun b5 n2 L => ?_;obtain ⟨q2,L,s2,af,f2,r2⟩ := L;try simp only [q2] at af f2 r2 ⊢
 replace hTS := hTS.ext L;replace hFS := hFS.ext L;replace hCS := hCS.ext L;replace hXS := hXS.ext L;replace hZS := hZS.ext L;replace xw := xw.trans L;have g := af 0 _ rfl;have h := af 1 _ rfl;have d := af 2 _ rfl;clear af L;clear r2;refine cu1 fun K1 hK1 => ?_;go_simp;apply hK1;clear hK1 K1;refine Wops.absA fun b6 n3 u => ?_;obtain ⟨q3,u,s3,ag,f3,r3⟩ := u;try simp only [q3] at ag f3 r3 ⊢
 replace hTS := hTS.ext u;replace hFS := hFS.ext u;replace hCS := hCS.ext u;replace hXS := hXS.ext u;replace hZS := hZS.ext u;replace xw := xw.trans u;replace g := u.cell g;replace h := u.cell h;replace d := u.cell d;have f := ag 0 _ rfl;have M := ag 1 _ rfl;have s := ag 2 _ rfl;clear ag u;clear r3;go_simp;apply hK;clear hK K' gd;refine Wp.keep [2,3] ?_;rintro r2 ⟨y,B,-⟩;simp [go_sem,an,ao] at y B;clear an ao;refine Wp.seq ?_
 by_cases h1 : m.on.length = t.fl.length
 ·skip;replace h1 : ∃ _u : Unit,_ := ⟨(),h1⟩;have h1i : ((m.on.length : Int) = (t.fl.length : Int)) = True := by simp [h1.choose_spec]
  by_cases h2 : m.full.length = t.fl.length
  ·skip;replace h2 : ∃ _u : Unit,_ := ⟨(),h2⟩;have h2i : ((m.full.length : Int) = (t.fl.length : Int)) = True := by simp [h2.choose_spec]
   obtain ⟨wi,hwi⟩ : ∃ wi : Int,∃ _u : Unit,wrongI t m.on = wi := ⟨_,(),rfl⟩;obtain ⟨wt,hwt⟩ : ∃ wt : Int,∃ _u : Unit,wrthK t m.on t.fl.length = wt := ⟨_,(),rfl⟩
   by_cases h3 : 0 ≤ wi
   ·skip;refine Wp.seqDraw (.inl rfl) mixed [([0,1,2,3,4],none),([5,6,7],none),([8,9,10,11,12],none),([13,14,15,16],none),([17,18,19],some (20,false)),([21,22,23],none),([24,25,26,28,29],some (27,false)),([30,31],none)] (by kernel_rfl) fun K' gd hK hg => ?_;have g7 : gd 7 = some 14 := hg 7;have g16 : gd 16 = some 23 := hg 16;have g23 : gd 23 = some 30 := hg 23;clear hg;simp only [pick,nth,List.map_cons,List.map_nil,Option.map_none,Option.map_some];refine Mops.absD fun D3 hD3 zD3 => ?_;replace hTS := hTS.ext hD3;replace hXS := hXS.ext hD3;replace xw := xw.trans hD3;replace g := hD3.cell g;replace h := hD3.cell h;replace d := hD3.cell d;replace f := hD3.cell f;replace s := hD3.cell s;clear hD3;refine mNo ?_
    apply Mops.none
    ·intro w' hE';go_simp;with_reducible rfl
    refine mNo ?_
    apply Mops.none
    ·intro w' hE';go_simp;with_reducible rfl
    refine mAc ?_
    intro K1 hK1;go_simp;refine Wcall (.inl rfl) (wrong_c t t.n.toNat m.on _ _ _ hP (hTS.v.more (Below.size (XE))) (hXS.v.more (Below.size (XE))) h1.choose_spec) ?_;rintro v w3 ⟨hv,hE⟩;rw [hwi.choose_spec] at hv;subst hv;go_simp;refine hK1 _ _ (by assumption) ?_;clear hK1 K1;replace xw := xw.trans hE;clear hE;apply Mops.none
    ·intro w' hE';go_simp;with_reducible rfl
    apply Mops.act
    ·intro w' hE';go_simp;with_reducible rfl
    intro K1 hK1;go_simp;refine hK1 _ _ (Ext.refl _) ?_;clear hK1 K1;apply Mops.none
    ·intro w' hE';go_simp;with_reducible rfl
    refine Mops.done ?_;apply hK;clear hK K' gd g7 g16 g23;refine Wp.keep [2,3,38] ?_;rintro r4 ⟨aB,aV,aG,-⟩;simp [go_sem,y,B] at aB aV aG;clear y B;refine cTt ?_;refine sRg fun K' gd hK => ?_;go_simp;apply hK;clear hK K' gd;refine Wp.keep [4] ?_;rintro r5 ⟨b1,-⟩;simp [go_sem,aB,aV,aG] at b1;clear aB aV aG;refine Wp.ret ?_;refine tRe ?_;refine endK_tmp Tryz.results82 (by decide) ?_;rw [b1];exact ⟨by rw [prov_no3 (by rw [hwi.choose_spec];exact h3)],xw⟩
   ·skip
    by_cases h4 : wt = m.mt
    ·skip;subst h4;refine Wp.seqDraw (.inl rfl) mixed [([0,1,2,3,4],none),([5,6,7],none),([8,9,10,11,12],none),([13,14,15,16],none),([17,18,19],some (20,false)),([21,22,23],none),([24,25,26,28,29],some (27,false)),([30,31],none)] (by kernel_rfl) fun K' gd hK hg => ?_;have g7 : gd 7 = some 14 := hg 7;have g16 : gd 16 = some 23 := hg 16;have g23 : gd 23 = some 30 := hg 23;clear hg;simp only [pick,nth,List.map_cons,List.map_nil,Option.map_none,Option.map_some];refine Mops.absD fun D4 hD4 zD4 => ?_;replace hTS := hTS.ext hD4;replace hFS := hFS.ext hD4;replace hCS := hCS.ext hD4;replace hXS := hXS.ext hD4;replace hZS := hZS.ext hD4;replace xw := xw.trans hD4;replace g := hD4.cell g;replace h := hD4.cell h;replace d := hD4.cell d;replace f := hD4.cell f;replace M := hD4.cell M;replace s := hD4.cell s;clear hD4;refine mNo ?_
     apply Mops.none
     ·intro w' hE';go_simp;with_reducible rfl
     refine mNo ?_
     apply Mops.none
     ·intro w' hE';go_simp;with_reducible rfl
     refine mAc ?_
     intro K1 hK1;go_simp;refine Wcall (.inl rfl) (wrong_c t t.n.toNat m.on _ _ _ hP (hTS.v.more (Below.size (XE))) (hXS.v.more (Below.size (XE))) h1.choose_spec) ?_;rintro v w3 ⟨hv,hE⟩;rw [hwi.choose_spec] at hv;subst hv;go_simp;refine hK1 _ _ (by assumption) ?_;clear hK1 K1;have z6 := Below.size hE;replace hTS := hTS.ext hE;replace hFS := hFS.ext hE;replace hCS := hCS.ext hE;replace hXS := hXS.ext hE;replace hZS := hZS.ext hE;replace xw := xw.trans hE;replace g := hE.cell g;replace h := hE.cell h;replace d := hE.cell d;replace f := hE.cell f;replace M := hE.cell M;replace s := hE.cell s;clear hE;apply Mops.none
     ·intro w' hE';go_simp;with_reducible rfl
     refine mAc ?_
     intro K1 hK1;go_simp;refine Wcall (.inl rfl) (worthM_c t t.n.toNat m.on _ _ _ hP (hTS.v.more (Below.size (XE))) (hXS.v.more (Below.size (XE))) h1.choose_spec) ?_;rintro v w4 ⟨hv,hE⟩;rw [hwt.choose_spec] at hv;subst hv;go_simp;refine hK1 _ _ (by assumption) ?_;clear hK1 K1;have z7 := Below.size hE;replace hTS := hTS.ext hE;replace hFS := hFS.ext hE;replace hCS := hCS.ext hE;replace hXS := hXS.ext hE;replace hZS := hZS.ext hE;replace xw := xw.trans hE;replace g := hE.cell g;replace h := hE.cell h;replace d := hE.cell d;replace f := hE.cell f;replace s := hE.cell s;clear hE;apply Mops.none
     ·intro w' hE';go_simp;with_reducible rfl
     refine Mops.done ?_;apply hK;clear hK K' gd g7 g16 g23;refine Wp.keep [2,3,38] ?_;rintro r8 ⟨aF,aZ,aK,-⟩;simp [go_sem,y,B] at aF aZ aK;clear y B;refine cFf ?_;refine skN ?_;refine Wp.seq ?_;refine sRg fun K' gd hK => ?_;go_simp;apply hK;clear hK K' gd;refine Wp.keep [2,3,40,41,42] ?_;rintro r9 ⟨ah,ai,aj,ak,bR,-⟩;simp [go_sem,aF,aZ,aK] at ah ai aj ak bR;clear aF aZ aK;refine Wp.block ?_;refine Wp.loop (fun k ρ ds wk => AllEq [2,3,40,41] ρ r9 ∧ ds = [] ∧ (Ext w4 wk) ∧ (ρ 42 = .int .i64 (k : Int) ∧ (∃ _u : Unit,∀ j,j < k → FullOk t m.on (gZ m.full j) j))) (t.fl.length) ?_ ?_
     ·refine ⟨AllEq.refl _ _,rfl,Ext.refl _,?_⟩;exact ⟨by rw [bR];rfl,(),fun j hj => absurd hj (Nat.not_lt_zero _)⟩
     ·rintro k r10 _ wk hk ⟨hA,rfl,xl5,⟨e42,hq⟩⟩;obtain ⟨V,X,Z,ab,-⟩ := hA;rw [ah] at V;rw [ai] at X;rw [aj] at Z;rw [ak] at ab;have zxl5 := Below.size xl5;replace hTS := hTS.ext xl5;replace hFS := hFS.ext xl5;replace hCS := hCS.ext xl5;replace hXS := hXS.ext xl5;replace hZS := hZS.ext xl5;replace xw := Ext.trans xw xl5;replace g := Ext.cell xl5 g;replace h := Ext.cell xl5 h;replace d := Ext.cell xl5 d;replace f := Ext.cell xl5 f;replace s := Ext.cell xl5 s
      by_cases hkf : k < t.fl.length
      ·skip;have hkl : (k : Int) < (m.full.length : Int) := by have := h2.choose_spec;omega
       have hkm : k < m.full.length := by omega
       refine sRg fun K' gd hK => ?_;go_simp;apply hK;clear hK K' gd;refine Wp.keep [2,3,40,41,42,43] ?_;rintro r11 ⟨W,Y,aa,ac,ad,ae,-⟩;simp [go_sem,V,X,Z,ab,e42] at W Y aa ac ad ae;clear V X Z ab e42;refine Wp.seq ?_;refine cTt ?_;have hkf2 : (k : Int) < (t.fl.length : Int) := by omega
       have hkx : k < m.on.length := by have := h1.choose_spec;omega
       have hkx2 : (k : Int) < (m.on.length : Int) := by omega
       obtain ⟨b2,o2,eA,hb2,x0,x1,x2,x3⟩ := FlawsV.at hFS.v hkf;subst eA;obtain ⟨b3,o3,eA,hb3,z1,z2⟩ := SpansV.at hZS.v hkm;subst eA;obtain ⟨b4,o4,cc,ev,hb4,hcc⟩ := hXS.v.get hkx
       injection ev with ev1 _ ev2
       subst ev1;subst ev2;have d1 := hcc k hkx;clear hcc;obtain ⟨⟨p,q⟩,hpq⟩ : ∃ z : Int × Int,∃ _u : Unit,gZ m.full k = z := ⟨_,(),rfl⟩;rw [hpq.choose_spec] at z1 z2
       dsimp only at z1 z2
       obtain ⟨G,hG⟩ : ∃ G,∃ _u : Unit,t.fl[k] = G := ⟨_,(),rfl⟩;rw [hG.choose_spec] at x0 x1 x2 x3
       by_cases h5 : 0 ≤ gI m.on k
       ·skip;refine skN ?_;refine sBk ?_;refine sRg fun K' gd hK => ?_;refine cu4 fun K1 hK1 => ?_;go_simp;apply hK1;clear hK1 K1;refine Wops.absA fun b7 n6 x => ?_;obtain ⟨q6,x,s6,al,f6,r6⟩ := x;try simp only [q6] at al f6 r6 ⊢
        replace xw := xw.trans x;replace xl5 := xl5.trans x;replace f := x.cell f;replace x1 := x.cell x1;replace x2 := x.cell x2;replace x3 := x.cell x3;replace z1 := x.cell z1;replace z2 := x.cell z2;replace d1 := x.cell d1;have l := al 0 _ rfl;have o := al 1 _ rfl;clear al x;clear r6;refine cu2 fun K1 hK1 => ?_;go_simp;apply hK1;clear hK1 K1;refine Wops.absS (b := n6) (i := 0) [_,_] (somes [cellVal l,cellVal o] (by simp) (by intro j v hj;match j,hj with | 0,hj => (simp at hj;subst hj;exact l) | 1,hj => (simp at hj;subst hj;exact o))) fun P7 hP7 => ?_;have zP7 := hP7.same;replace xw := Put.to xw hP7 (by omega);replace xl5 := Put.to xl5 hP7 (by omega);replace f := hP7.cell f (by omega);replace x1 := hP7.cell x1 (by omega);replace x2 := hP7.cell x2 (by omega);replace x3 := hP7.cell x3 (by omega);replace z1 := hP7.cell z1 (by omega);replace z2 := hP7.cell z2 (by omega);replace d1 := hP7.cell d1 (by omega);clear l;clear o;have l := hP7.new 0 _ rfl;try simp only [Nat.reduceAdd,Nat.zero_add,Nat.add_zero] at l
        have o := hP7.new 1 _ rfl;try simp only [Nat.reduceAdd,Nat.zero_add,Nat.add_zero] at o
        clear hP7;try simp only [Wops_nil,updO_some,updO_none]
        apply hK;clear hK K' gd;refine Wp.keep [2,3,5,6,40,41,42] ?_;rintro r12 ⟨ap,aL,bz,bB,a0,ba,bk,-⟩;simp [go_sem,W,Y,aa,ac,ad,ae] at ap aL bz bB a0 ba bk;clear W Y aa ac ad ae;refine Wp.seq ?_;refine sRg fun K' gd hK => ?_;go_simp;apply hK;clear hK K' gd;refine Wp.keep [2,3,5,6,40,41,42,52] ?_;rintro r13 ⟨N,O,T,U,P,Q,R,S,-⟩;simp [go_sem,ap,aL,bz,bB,a0,ba,bk] at N O T U P Q R S;clear ap aL bz bB a0 ba bk;refine cTt ?_
        by_cases h6 : p = 0
        ·skip
         by_cases h7 : q = 0
         ·skip;refine Wp.seq ?_;refine sRg fun K' gd hK => ?_;go_simp;apply hK;clear hK K' gd;refine Wp.keep [2,3,40,41,42,55] ?_;rintro r14 ⟨aq,aM,a1,bb,bl,bv,-⟩;simp [go_sem,N,O,T,U,P,Q,R,S] at aq aM a1 bb bl bv;clear N O T U P Q R S;refine cFf ?_;refine skN ?_;refine Wp.exit ?_;refine tEx ?_;refine blockK_here ?_;refine tNo ?_;refine lRg fun K' gd hK => ?_;go_simp;apply hK;clear hK K' gd;refine Ends.keep [2,3,40,41,42] ?_;rintro r15 ⟨bH,bJ,bL,bN,bP,-⟩;simp [go_sem,aq,aM,a1,bb,bl,bv] at bH bJ bL bN bP;clear aq aM a1 bb bl bv;refine Ends.mk ?_;refine thenK_normal ⟨by omega,⟨by rw [bH,ah],by rw [bJ,ai],by rw [bL,aj],by rw [bN,ak],trivial⟩,rfl,xl5,?_⟩;exact ⟨by rw [bP,IntWalk.i64_in _ (by omega)];rfl,(),fun j hj => by by_cases e : j = k;(subst e;rw [full_yes h5,hpq.choose_spec,h6,h7]);exact hq.choose_spec j (by omega)⟩
         ·skip;refine Wp.seq ?_;refine sRg fun K' gd hK => ?_;go_simp;apply hK;clear hK K' gd;refine Wp.keep [2,3,40,41,42,55] ?_;rintro r16 ⟨ar,aN,a2,bc,bm,bw,-⟩;simp [go_sem,N,O,T,U,P,Q,R,S] at ar aN a2 bc bm bw;clear N O T U P Q R S;refine cTt ?_;refine sRg fun K' gd hK => ?_;go_simp;apply hK;clear hK K' gd;refine Wp.keep [4] ?_;rintro r17 ⟨bS,-⟩;simp [go_sem,ar,aN,a2,bc,bm,bw] at bS;clear ar aN a2 bc bm bw;refine Wp.ret ?_;refine tRe ?_;refine tRe ?_;refine bRe ?_;refine tRe ?_;refine tRe ?_;refine bRe ?_;refine tRe ?_;refine endK_tmp Tryz.results82 (by decide) ?_;rw [bS];exact ⟨by rw [prov_no5 hkf (by rw [full_yes h5,hpq.choose_spec];intro e;injection e with e1 e2;exact h7 e2)],xw⟩
        ·skip;refine Wp.seq ?_;refine sRg fun K' gd hK => ?_;go_simp;apply hK;clear hK K' gd;refine Wp.keep [2,3,40,41,42,55] ?_;rintro r18 ⟨au,aO,a3,bd,bn,bx,-⟩;simp [go_sem,N,O,T,U,P,Q,R,S] at au aO a3 bd bn bx;clear N O T U P Q R S;refine cTt ?_;refine sRg fun K' gd hK => ?_;go_simp;apply hK;clear hK K' gd;refine Wp.keep [4] ?_;rintro r19 ⟨bT,-⟩;simp [go_sem,au,aO,a3,bd,bn,bx] at bT;clear au aO a3 bd bn bx;refine Wp.ret ?_;refine tRe ?_;refine tRe ?_;refine bRe ?_;refine tRe ?_;refine tRe ?_;refine bRe ?_;refine tRe ?_;refine endK_tmp Tryz.results82 (by decide) ?_;rw [bT];exact ⟨by rw [prov_no5 hkf (by rw [full_yes h5,hpq.choose_spec];intro e;injection e with e1 e2;exact h6 e1)],xw⟩
       ·skip;refine skN ?_;refine sBk ?_;refine sRg fun K' gd hK => ?_;refine cu4 fun K1 hK1 => ?_;go_simp;apply hK1;clear hK1 K1;refine Wops.absA fun b8 n6 r => ?_;obtain ⟨q6,r,s6,am,f6,r6⟩ := r;try simp only [q6] at am f6 r6 ⊢
        replace hTS := hTS.ext r;replace hFS := hFS.ext r;replace hCS := hCS.ext r;replace hXS := hXS.ext r;replace xw := xw.trans r;replace xl5 := xl5.trans r;replace g := r.cell g;replace h := r.cell h;replace d := r.cell d;replace f := r.cell f;replace x1 := r.cell x1;replace x2 := r.cell x2;replace x3 := r.cell x3;replace z1 := r.cell z1;replace z2 := r.cell z2;replace d1 := r.cell d1;have l := am 0 _ rfl;have o := am 1 _ rfl;clear am r;clear r6;refine cu2 fun K1 hK1 => ?_;go_simp;apply hK1;clear hK1 K1;refine Wops.absS (b := n6) (i := 0) [_,_] (somes [cellVal l,cellVal o] (by simp) (by intro j v hj;match j,hj with | 0,hj => (simp at hj;subst hj;exact l) | 1,hj => (simp at hj;subst hj;exact o))) fun P9 hP9 => ?_;have zP9 := hP9.same;replace hTS := hTS.put hP9 (by omega);replace hFS := hFS.put hP9 (by omega);replace hCS := hCS.put hP9 (by omega);replace hXS := hXS.put hP9 (by omega);replace xw := Put.to xw hP9 (by omega);replace xl5 := Put.to xl5 hP9 (by omega);replace g := hP9.cell g (by omega);replace h := hP9.cell h (by omega);replace d := hP9.cell d (by omega);replace f := hP9.cell f (by omega);replace x1 := hP9.cell x1 (by omega)
        replace x2 := hP9.cell x2 (by omega);replace x3 := hP9.cell x3 (by omega);replace z1 := hP9.cell z1 (by omega);replace z2 := hP9.cell z2 (by omega);replace d1 := hP9.cell d1 (by omega);clear l;clear o;have l := hP9.new 0 _ rfl;try simp only [Nat.reduceAdd,Nat.zero_add,Nat.add_zero] at l
        have o := hP9.new 1 _ rfl;try simp only [Nat.reduceAdd,Nat.zero_add,Nat.add_zero] at o
        clear hP9;try simp only [Wops_nil,updO_some,updO_none]
        apply hK;clear hK K' gd;refine Wp.keep [2,3,5,6,40,41,42] ?_;rintro r20 ⟨av,aP,bA,bC,a4,be,bo,-⟩;simp [go_sem,W,Y,aa,ac,ad,ae] at av aP bA bC a4 be bo;clear W Y aa ac ad ae;refine Wp.seq ?_;refine sRg fun K' gd hK => ?_;go_simp;apply hK;clear hK K' gd;refine Wp.keep [2,3,5,6,40,41,42,52] ?_;rintro r21 ⟨C,D,J,K,E,F,H,I,-⟩;simp [go_sem,av,aP,bA,bC,a4,be,bo] at C D J K E F H I;clear av aP bA bC a4 be bo;refine cFf ?_;have hfa : ∃ _u : Unit,FullOk t m.on (gZ m.full k) k ↔ (0 ≤ p ∧ p ≤ q ∧ q < t.n) ∧ (p ≤ G.lo ∧ G.hi ≤ q) ∧ fullB t m.on p q G.m = true := ⟨(),by rw [FullOk.at hkf h5,hpq.choose_spec,hG.choose_spec]⟩
        by_cases s1 : 0 ≤ p ∧ p ≤ q ∧ q < t.n
        ·skip;obtain ⟨a,ha⟩ : ∃ a : Nat,p = (a : Int) := ⟨p.toNat,by omega⟩;subst ha
         by_cases s2 : (a : Int) ≤ G.lo ∧ G.hi ≤ q
         ·skip
          by_cases s3 : fullB t m.on (a : Int) q G.m = true
          ·skip;refine skN ?_;refine Wp.seqDraw (.inl rfl) mixed [([0,1],some (2,false)),([3,4],none),([5,6,7,8,9],none),([10,11],some (12,false)),([13,14,15],none),([16,17,18,19,20],none),([21,22,23,24,25],some (26,false)),([27,28],none)] (by kernel_rfl) fun K' gd hK hg => ?_;have g4 : gd 4 = some 60 := hg 4;have g15 : gd 15 = some 71 := hg 15;clear hg;simp only [pick,nth,List.map_cons,List.map_nil,Option.map_none,Option.map_some];refine Mops.absD fun D10 hD10 zD10 => ?_;replace hTS := hTS.ext hD10;replace hFS := hFS.ext hD10;replace hCS := hCS.ext hD10;replace hXS := hXS.ext hD10;replace xw := xw.trans hD10;replace xl5 := xl5.trans hD10;replace g := hD10.cell g;replace h := hD10.cell h;replace d := hD10.cell d;replace f := hD10.cell f;replace x1 := hD10.cell x1;replace x2 := hD10.cell x2;replace x3 := hD10.cell x3;replace z1 := hD10.cell z1;replace z2 := hD10.cell z2;replace d1 := hD10.cell d1;replace l := hD10.cell l;replace o := hD10.cell o;clear hD10;refine mAc ?_
           intro K1 hK1;go_simp;refine Wcall (.inl rfl) (span_T s1 _) ?_;rintro v w5 ⟨rfl,hE⟩;go_simp;refine hK1 _ _ (by assumption) ?_;clear hK1 K1;replace hTS := hTS.ext hE;replace hFS := hFS.ext hE;replace hCS := hCS.ext hE;replace hXS := hXS.ext hE;replace xw := xw.trans hE;replace xl5 := xl5.trans hE;replace g := hE.cell g;replace h := hE.cell h;replace d := hE.cell d;replace f := hE.cell f;replace x1 := hE.cell x1;replace x2 := hE.cell x2;replace x3 := hE.cell x3;replace z1 := hE.cell z1;replace z2 := hE.cell z2;replace d1 := hE.cell d1;replace l := hE.cell l;replace o := hE.cell o;clear hE;apply Mops.none
           ·intro w' hE';go_simp;with_reducible rfl
           refine mNo ?_
           refine mAc ?_
           intro K1 hK1;go_simp;refine Wcall (.inl rfl) (in_T (decide_eq_true s2) _) ?_;rintro v w6 ⟨rfl,hE⟩;go_simp;refine hK1 _ _ (by assumption) ?_;clear hK1 K1;replace hTS := hTS.ext hE;replace hFS := hFS.ext hE;replace hCS := hCS.ext hE;replace hXS := hXS.ext hE;replace xw := xw.trans hE;replace xl5 := xl5.trans hE;replace g := hE.cell g;replace h := hE.cell h;replace d := hE.cell d;replace f := hE.cell f;replace x1 := hE.cell x1;replace x2 := hE.cell x2;replace x3 := hE.cell x3;replace z1 := hE.cell z1;replace z2 := hE.cell z2;replace d1 := hE.cell d1;replace l := hE.cell l;replace o := hE.cell o;clear hE;apply Mops.none
           ·intro w' hE';go_simp;with_reducible rfl
           refine mNo ?_
           refine mAc ?_
           intro K1 hK1;go_simp;refine Wcall (.inl rfl) (full_T s3 (hTS.v.more (Below.size (XE))) (hCS.v.more (Below.size (XE))) (hFS.v.more (Below.size (XE))) (hXS.v.more (Below.size (XE))) h1.choose_spec hl12 hcl9 (by omega)) ?_;rintro v w7 ⟨rfl,hE⟩;go_simp;refine hK1 _ _ (by assumption) ?_;clear hK1 K1;replace xw := xw.trans hE;replace xl5 := xl5.trans hE;replace x1 := hE.cell x1;replace x2 := hE.cell x2;replace x3 := hE.cell x3;replace z1 := hE.cell z1;replace z2 := hE.cell z2;replace d1 := hE.cell d1;clear hE;apply Mops.none
           ·intro w' hE';go_simp;with_reducible rfl
           refine Mops.done ?_;apply hK;clear hK K' gd g4 g15;refine Wp.keep [2,3,40,41,42,84] ?_;rintro r25 ⟨aw,aQ,a5,bf,bp,bD,-⟩;simp [go_sem,C,D,J,K,E,F,H,I] at aw aQ a5 bf bp bD;clear C D J K E F H I;refine cFf ?_;refine Wp.skip ?_;refine bNo ?_;refine tNo ?_;refine lRg fun K' gd hK => ?_;go_simp;apply hK;clear hK K' gd;refine Ends.keep [2,3,40,41,42] ?_;rintro r26 ⟨bI,bK,bM,bO,bQ,-⟩;simp [go_sem,aw,aQ,a5,bf,bp,bD] at bI bK bM bO bQ;clear aw aQ a5 bf bp bD;refine Ends.mk ?_;refine thenK_normal ⟨by omega,⟨by rw [bI,ah],by rw [bK,ai],by rw [bM,aj],by rw [bO,ak],trivial⟩,rfl,xl5,?_⟩;exact ⟨by rw [bQ,IntWalk.i64_in _ (by omega)];rfl,(),fun j hj => by by_cases e : j = k;(subst e;exact hfa.choose_spec.2 ⟨s1,s2,s3⟩);exact hq.choose_spec j (by omega)⟩
          ·skip;refine skN ?_;refine Wp.seqDraw (.inl rfl) mixed [([0,1],some (2,false)),([3,4],none),([5,6,7,8,9],none),([10,11],some (12,false)),([13,14,15],none),([16,17,18,19,20],none),([21,22,23,24,25],some (26,false)),([27,28],none)] (by kernel_rfl) fun K' gd hK hg => ?_;have g4 : gd 4 = some 60 := hg 4;have g15 : gd 15 = some 71 := hg 15;clear hg;simp only [pick,nth,List.map_cons,List.map_nil,Option.map_none,Option.map_some];refine Mops.absD fun D11 hD11 zD11 => ?_;replace hTS := hTS.ext hD11;replace hFS := hFS.ext hD11;replace hCS := hCS.ext hD11;replace hXS := hXS.ext hD11;replace xw := xw.trans hD11;replace xl5 := xl5.trans hD11;replace g := hD11.cell g;replace h := hD11.cell h;replace d := hD11.cell d;replace f := hD11.cell f;replace x1 := hD11.cell x1;replace x2 := hD11.cell x2;replace x3 := hD11.cell x3;replace l := hD11.cell l;replace o := hD11.cell o;clear hD11;refine mAc ?_
           intro K1 hK1;go_simp;refine Wcall (.inl rfl) (span_T s1 _) ?_;rintro v w5 ⟨rfl,hE⟩;go_simp;refine hK1 _ _ (by assumption) ?_;clear hK1 K1;replace hTS := hTS.ext hE;replace hFS := hFS.ext hE;replace hCS := hCS.ext hE;replace hXS := hXS.ext hE;replace xw := xw.trans hE;replace xl5 := xl5.trans hE;replace g := hE.cell g;replace h := hE.cell h;replace d := hE.cell d;replace f := hE.cell f;replace x1 := hE.cell x1;replace x2 := hE.cell x2;replace x3 := hE.cell x3;replace l := hE.cell l;replace o := hE.cell o;clear hE;apply Mops.none
           ·intro w' hE';go_simp;with_reducible rfl
           refine mNo ?_
           refine mAc ?_
           intro K1 hK1;go_simp;refine Wcall (.inl rfl) (in_T (decide_eq_true s2) _) ?_;rintro v w6 ⟨rfl,hE⟩;go_simp;refine hK1 _ _ (by assumption) ?_;clear hK1 K1;replace hTS := hTS.ext hE;replace hFS := hFS.ext hE;replace hCS := hCS.ext hE;replace hXS := hXS.ext hE;replace xw := xw.trans hE;replace xl5 := xl5.trans hE;replace g := hE.cell g;replace h := hE.cell h;replace d := hE.cell d;replace f := hE.cell f;replace x3 := hE.cell x3;replace l := hE.cell l;replace o := hE.cell o;clear hE;apply Mops.none
           ·intro w' hE';go_simp;with_reducible rfl
           refine mNo ?_
           refine mAc ?_
           intro K1 hK1;go_simp;refine Wcall (.inl rfl) (full_T (show fullB t m.on (a : Int) q G.m = false by simpa using s3) (hTS.v.more (Below.size (XE))) (hCS.v.more (Below.size (XE))) (hFS.v.more (Below.size (XE))) (hXS.v.more (Below.size (XE))) h1.choose_spec hl12 hcl9 (by omega)) ?_;rintro v w7 ⟨rfl,hE⟩;go_simp;refine hK1 _ _ (by assumption) ?_;clear hK1 K1;replace xw := xw.trans hE;replace xl5 := xl5.trans hE;clear hE;apply Mops.none
           ·intro w' hE';go_simp;with_reducible rfl
           refine Mops.done ?_;apply hK;clear hK K' gd g4 g15;refine Wp.keep [2,3,40,41,42,84] ?_;rintro r30 ⟨ax,aR,a6,bg,bq,bE,-⟩;simp [go_sem,C,D,J,K,E,F,H,I] at ax aR a6 bg bq bE;clear C D J K E F H I;refine cTt ?_;refine sRg fun K' gd hK => ?_;go_simp;apply hK;clear hK K' gd;refine Wp.keep [4] ?_;rintro r31 ⟨bU,-⟩;simp [go_sem,ax,aR,a6,bg,bq,bE] at bU;clear ax aR a6 bg bq bE;refine Wp.ret ?_;refine bRe ?_;refine tRe ?_;refine tRe ?_;refine bRe ?_;refine tRe ?_;refine endK_tmp Tryz.results82 (by decide) ?_;rw [bU];exact ⟨by rw [prov_no5 hkf fun e => s3 (hfa.choose_spec.1 e).2.2],xw⟩
         ·skip;refine skN ?_;refine Wp.seqDraw (.inl rfl) mixed [([0,1],some (2,false)),([3,4],none),([5,6,7,8,9],none),([10,11],some (12,false)),([13,14,15],none),([16,17,18,19,20],none),([21,22,23,24,25],some (26,false)),([27,28],none)] (by kernel_rfl) fun K' gd hK hg => ?_;have g4 : gd 4 = some 60 := hg 4;have g15 : gd 15 = some 71 := hg 15;clear hg;simp only [pick,nth,List.map_cons,List.map_nil,Option.map_none,Option.map_some];refine Mops.absD fun D12 hD12 zD12 => ?_;replace xw := xw.trans hD12;replace xl5 := xl5.trans hD12;replace g := hD12.cell g;replace h := hD12.cell h;replace d := hD12.cell d;replace x1 := hD12.cell x1;replace x2 := hD12.cell x2;replace l := hD12.cell l;replace o := hD12.cell o;clear hD12;refine mAc ?_
          intro K1 hK1;go_simp;refine Wcall (.inl rfl) (span_T s1 _) ?_;rintro v w5 ⟨rfl,hE⟩;go_simp;refine hK1 _ _ (by assumption) ?_;clear hK1 K1;replace xw := xw.trans hE;replace xl5 := xl5.trans hE;replace d := hE.cell d;replace x1 := hE.cell x1;replace x2 := hE.cell x2;replace l := hE.cell l;replace o := hE.cell o;clear hE;apply Mops.none
          ·intro w' hE';go_simp;with_reducible rfl
          refine mNo ?_
          refine mAc ?_
          intro K1 hK1;go_simp;refine Wcall (.inl rfl) (in_T (decide_eq_false s2) _) ?_;rintro v w6 ⟨rfl,hE⟩;go_simp;refine hK1 _ _ (by assumption) ?_;clear hK1 K1;replace xw := xw.trans hE;replace xl5 := xl5.trans hE;clear hE;apply Mops.none
          ·intro w' hE';go_simp;with_reducible rfl
          apply Mops.none
          ·intro w' hE';go_simp;with_reducible rfl
          apply Mops.act
          ·intro w' hE';go_simp;with_reducible rfl
          intro K1 hK1;go_simp;refine hK1 _ _ (Ext.refl _) ?_;clear hK1 K1;apply Mops.none
          ·intro w' hE';go_simp;with_reducible rfl
          refine Mops.done ?_;apply hK;clear hK K' gd g4 g15;refine Wp.keep [2,3,40,41,42,84] ?_;rintro r34 ⟨ay,aS,a7,bh,br,bF,-⟩;simp [go_sem,C,D,J,K,E,F,H,I] at ay aS a7 bh br bF;clear C D J K E F H I;refine cTt ?_;refine sRg fun K' gd hK => ?_;go_simp;apply hK;clear hK K' gd;refine Wp.keep [4] ?_;rintro r35 ⟨bV,-⟩;simp [go_sem,ay,aS,a7,bh,br,bF] at bV;clear ay aS a7 bh br bF;refine Wp.ret ?_;refine bRe ?_;refine tRe ?_;refine tRe ?_;refine bRe ?_;refine tRe ?_;refine endK_tmp Tryz.results82 (by decide) ?_;rw [bV];exact ⟨by rw [prov_no5 hkf fun e => s2 (hfa.choose_spec.1 e).2.1],xw⟩
        ·skip;refine skN ?_;refine Wp.seqDraw (.inl rfl) mixed [([0,1],some (2,false)),([3,4],none),([5,6,7,8,9],none),([10,11],some (12,false)),([13,14,15],none),([16,17,18,19,20],none),([21,22,23,24,25],some (26,false)),([27,28],none)] (by kernel_rfl) fun K' gd hK hg => ?_;have g4 : gd 4 = some 60 := hg 4;have g15 : gd 15 = some 71 := hg 15;clear hg;simp only [pick,nth,List.map_cons,List.map_nil,Option.map_none,Option.map_some];refine Mops.absD fun D13 hD13 zD13 => ?_;replace xw := xw.trans hD13;replace xl5 := xl5.trans hD13;replace g := hD13.cell g;replace h := hD13.cell h;replace d := hD13.cell d;replace l := hD13.cell l;replace o := hD13.cell o;clear hD13;refine mAc ?_
         intro K1 hK1;go_simp;refine Wcall (.inl rfl) (span_F s1 _) ?_;rintro v w5 ⟨rfl,hE⟩;go_simp;refine hK1 _ _ (by assumption) ?_;clear hK1 K1;replace xw := xw.trans hE;replace xl5 := xl5.trans hE;clear hE;apply Mops.none
         ·intro w' hE';go_simp;with_reducible rfl
         apply Mops.none
         ·intro w' hE';go_simp;with_reducible rfl
         apply Mops.act
         ·intro w' hE';go_simp;with_reducible rfl
         intro K1 hK1;go_simp;refine hK1 _ _ (Ext.refl _) ?_;clear hK1 K1;apply Mops.none
         ·intro w' hE';go_simp;with_reducible rfl
         apply Mops.none
         ·intro w' hE';go_simp;with_reducible rfl
         apply Mops.act
         ·intro w' hE';go_simp;with_reducible rfl
         intro K1 hK1;go_simp;refine hK1 _ _ (Ext.refl _) ?_;clear hK1 K1;apply Mops.none
         ·intro w' hE';go_simp;with_reducible rfl
         refine Mops.done ?_;apply hK;clear hK K' gd g4 g15;refine Wp.keep [2,3,40,41,42,84] ?_;rintro r37 ⟨az,aT,a8,bi,bs,bG,-⟩;simp [go_sem,C,D,J,K,E,F,H,I] at az aT a8 bi bs bG;clear C D J K E F H I;refine cTt ?_;refine sRg fun K' gd hK => ?_;go_simp;apply hK;clear hK K' gd;refine Wp.keep [4] ?_;rintro r38 ⟨bW,-⟩;simp [go_sem,az,aT,a8,bi,bs,bG] at bW;clear az aT a8 bi bs bG;refine Wp.ret ?_;refine bRe ?_;refine tRe ?_;refine tRe ?_;refine bRe ?_;refine tRe ?_;refine endK_tmp Tryz.results82 (by decide) ?_;rw [bW];exact ⟨by rw [prov_no5 hkf fun e => s1 (hfa.choose_spec.1 e).1],xw⟩
      ·skip;have hkq : ∃ _u : Unit,k = t.fl.length := ⟨(),by omega⟩;have hkl : ¬ (k : Int) < (m.full.length : Int) := by have := h2.choose_spec;omega
       refine sRg fun K' gd hK => ?_;go_simp;apply hK;clear hK K' gd;refine Wp.keep [2,3,40,41,42,43] ?_;rintro r39 ⟨aA,aU,a9,bj,bt,bu,-⟩;simp [go_sem,V,X,Z,ab,e42] at aA aU a9 bj bt bu;clear V X Z ab e42;refine Wp.seq ?_;refine cFf ?_;refine Wp.exit ?_;refine tEx ?_;refine tEx ?_;refine blockK_here ?_;refine tNo ?_;refine sRg fun K' gd hK => ?_;go_simp;apply hK;clear hK K' gd;refine Wp.keep [4] ?_;rintro r40 ⟨bX,-⟩;simp [go_sem,aA,aU,a9,bj,bt,bu] at bX;clear aA aU a9 bj bt bu;refine Wp.ret ?_;refine endK_tmp Tryz.results82 (by decide) ?_;rw [bX];exact ⟨by rw [decide_eq_true (show ProvP t m from ⟨⟨h1.choose_spec,h2.choose_spec,by rw [hwi.choose_spec];omega,hwt.choose_spec⟩,fun j hj => hq.choose_spec j (by rw [hkq.choose_spec];exact hj)⟩)],xw⟩
    ·skip;refine Wp.seqDraw (.inl rfl) mixed [([0,1,2,3,4],none),([5,6,7],none),([8,9,10,11,12],none),([13,14,15,16],none),([17,18,19],some (20,false)),([21,22,23],none),([24,25,26,28,29],some (27,false)),([30,31],none)] (by kernel_rfl) fun K' gd hK hg => ?_;have g7 : gd 7 = some 14 := hg 7;have g16 : gd 16 = some 23 := hg 16;have g23 : gd 23 = some 30 := hg 23;clear hg;simp only [pick,nth,List.map_cons,List.map_nil,Option.map_none,Option.map_some];refine Mops.absD fun D14 hD14 zD14 => ?_;replace hTS := hTS.ext hD14;replace hXS := hXS.ext hD14;replace xw := xw.trans hD14;replace g := hD14.cell g;replace h := hD14.cell h;replace d := hD14.cell d;replace f := hD14.cell f;replace M := hD14.cell M;replace s := hD14.cell s;clear hD14;refine mNo ?_
     apply Mops.none
     ·intro w' hE';go_simp;with_reducible rfl
     refine mNo ?_
     apply Mops.none
     ·intro w' hE';go_simp;with_reducible rfl
     refine mAc ?_
     intro K1 hK1;go_simp;refine Wcall (.inl rfl) (wrong_c t t.n.toNat m.on _ _ _ hP (hTS.v.more (Below.size (XE))) (hXS.v.more (Below.size (XE))) h1.choose_spec) ?_;rintro v w3 ⟨hv,hE⟩;rw [hwi.choose_spec] at hv;subst hv;go_simp;refine hK1 _ _ (by assumption) ?_;clear hK1 K1;replace hTS := hTS.ext hE;replace hXS := hXS.ext hE;replace xw := xw.trans hE;replace g := hE.cell g;replace h := hE.cell h;replace d := hE.cell d;replace f := hE.cell f;replace M := hE.cell M;clear hE;apply Mops.none
     ·intro w' hE';go_simp;with_reducible rfl
     refine mAc ?_
     intro K1 hK1;go_simp;refine Wcall (.inl rfl) (worthM_c t t.n.toNat m.on _ _ _ hP (hTS.v.more (Below.size (XE))) (hXS.v.more (Below.size (XE))) h1.choose_spec) ?_;rintro v w4 ⟨hv,hE⟩;rw [hwt.choose_spec] at hv;subst hv;go_simp;refine hK1 _ _ (by assumption) ?_;clear hK1 K1;replace xw := xw.trans hE;clear hE;apply Mops.none
     ·intro w' hE';go_simp;with_reducible rfl
     refine Mops.done ?_;apply hK;clear hK K' gd g7 g16 g23;refine Wp.keep [2,3,38] ?_;rintro r43 ⟨aC,aW,aH,-⟩;simp [go_sem,y,B] at aC aW aH;clear y B;refine cTt ?_;refine sRg fun K' gd hK => ?_;go_simp;apply hK;clear hK K' gd;refine Wp.keep [4] ?_;rintro r44 ⟨bY,-⟩;simp [go_sem,aC,aW,aH] at bY;clear aC aW aH;refine Wp.ret ?_;refine tRe ?_;refine endK_tmp Tryz.results82 (by decide) ?_;rw [bY];exact ⟨by rw [prov_no4 (by rw [hwt.choose_spec];exact h4)],xw⟩
  ·skip;have h2i : ((m.full.length : Int) = (t.fl.length : Int)) = False := by simp;omega
   refine Wp.seqDraw (.inl rfl) mixed [([0,1,2,3,4],none),([5,6,7],none),([8,9,10,11,12],none),([13,14,15,16],none),([17,18,19],some (20,false)),([21,22,23],none),([24,25,26,28,29],some (27,false)),([30,31],none)] (by kernel_rfl) fun K' gd hK hg => ?_;have g7 : gd 7 = some 14 := hg 7;have g16 : gd 16 = some 23 := hg 16;have g23 : gd 23 = some 30 := hg 23;clear hg;simp only [pick,nth,List.map_cons,List.map_nil,Option.map_none,Option.map_some];refine Mops.absD fun D15 hD15 zD15 => ?_;replace xw := xw.trans hD15;replace d := hD15.cell d;replace f := hD15.cell f;replace s := hD15.cell s;clear hD15;refine mNo ?_
   apply Mops.none
   ·intro w' hE';go_simp;with_reducible rfl
   refine mNo ?_
   apply Mops.none
   ·intro w' hE';go_simp;with_reducible rfl
   apply Mops.act
   ·intro w' hE';go_simp;with_reducible rfl
   intro K1 hK1;go_simp;refine hK1 _ _ (Ext.refl _) ?_;clear hK1 K1;apply Mops.none
   ·intro w' hE';go_simp;with_reducible rfl
   apply Mops.act
   ·intro w' hE';go_simp;with_reducible rfl
   intro K1 hK1;go_simp;refine hK1 _ _ (Ext.refl _) ?_;clear hK1 K1;apply Mops.none
   ·intro w' hE';go_simp;with_reducible rfl
   refine Mops.done ?_;apply hK;clear hK K' gd g7 g16 g23;refine Wp.keep [2,3,38] ?_;rintro r45 ⟨aD,aX,aI,-⟩;simp [go_sem,y,B] at aD aX aI;clear y B;refine cTt ?_;refine sRg fun K' gd hK => ?_;go_simp;apply hK;clear hK K' gd;refine Wp.keep [4] ?_;rintro r46 ⟨bZ,-⟩;simp [go_sem,aD,aX,aI] at bZ;clear aD aX aI;refine Wp.ret ?_;refine tRe ?_;refine endK_tmp Tryz.results82 (by decide) ?_;rw [bZ];exact ⟨by rw [prov_no2 h2],xw⟩
 ·skip;have h1i : ((m.on.length : Int) = (t.fl.length : Int)) = False := by simp;omega
  refine Wp.seqDraw (.inl rfl) mixed [([0,1,2,3,4],none),([5,6,7],none),([8,9,10,11,12],none),([13,14,15,16],none),([17,18,19],some (20,false)),([21,22,23],none),([24,25,26,28,29],some (27,false)),([30,31],none)] (by kernel_rfl) fun K' gd hK hg => ?_;have g7 : gd 7 = some 14 := hg 7;have g16 : gd 16 = some 23 := hg 16;have g23 : gd 23 = some 30 := hg 23;clear hg;simp only [pick,nth,List.map_cons,List.map_nil,Option.map_none,Option.map_some];refine Mops.absD fun D16 hD16 zD16 => ?_;replace xw := xw.trans hD16;replace d := hD16.cell d;replace f := hD16.cell f;clear hD16;refine mNo ?_
  apply Mops.none
  ·intro w' hE';go_simp;with_reducible rfl
  apply Mops.none
  ·intro w' hE';go_simp;with_reducible rfl
  apply Mops.none
  ·intro w' hE';go_simp;with_reducible rfl
  apply Mops.act
  ·intro w' hE';go_simp;with_reducible rfl
  intro K1 hK1;go_simp;refine hK1 _ _ (Ext.refl _) ?_;clear hK1 K1;apply Mops.none
  ·intro w' hE';go_simp;with_reducible rfl
  apply Mops.act
  ·intro w' hE';go_simp;with_reducible rfl
  intro K1 hK1;go_simp;refine hK1 _ _ (Ext.refl _) ?_;clear hK1 K1;apply Mops.none
  ·intro w' hE';go_simp;with_reducible rfl
  refine Mops.done ?_;apply hK;clear hK K' gd g7 g16 g23;refine Wp.keep [2,3,38] ?_;rintro r47 ⟨aE,aY,aJ,-⟩;simp [go_sem,y,B] at aE aY aJ;clear y B;refine cTt ?_;refine sRg fun K' gd hK => ?_;go_simp;apply hK;clear hK K' gd;refine Wp.keep [4] ?_;rintro r48 ⟨b0,-⟩;simp [go_sem,aE,aY,aJ] at b0;clear aE aY aJ;refine Wp.ret ?_;refine tRe ?_;refine endK_tmp Tryz.results82 (by decide) ?_;rw [b0];exact ⟨by rw [prov_no1 h1],xw⟩
def bestE (t : Tr) (m : Md) : Int := if checkT t ≠ 0 then checkT t else if ProvP t m then 0 else 8
theorem CheckBest_c (t : Tr) (m : Md) (v mv : Value) (w : World) (hV : TourV w w.heap.size v t) (hM : MendV w w.heap.size mv m) (hf : FitT t) (hl : checkT t = 0 → t.fl.length ≤ 12) :
  CallsV Tryz.prog 18 #[v,mv] w fun v' w' => v' = .int .i64 (bestE t m) ∧ Ext w w' := by
 obtain ⟨A,c,A2,c2,rfl,hCl,hF⟩ := hV.open';obtain ⟨xv,zv,rfl,hX,hZ⟩ := id hM;obtain ⟨A3,c3,rfl,-,-⟩ := id hX;obtain ⟨A4,c4,rfl,-,-⟩ := id hZ;refine Wp.fn Tryz.func18 rfl Tryz.ntmps18 (by simp) ?_;have xw := Ext.refl w;refine Wp.keep [0,1] ?_;rintro r1 ⟨n,o,-⟩;simp [go_sem] at n o;refine sRg fun K' gd hK => ?_;refine cu1 fun K1 hK1 => ?_;go_simp;apply hK1;clear hK1 K1;refine Wops.absA fun K n2 l => ?_;obtain ⟨q2,l,s2,g,f2,r2⟩ := l;try simp only [q2] at g f2 r2 ⊢
 replace xw := xw.trans l;have i := g 0 _ rfl;have j := g 1 _ rfl;have k := g 2 _ rfl;clear g l;clear r2;refine cu1 fun K1 hK1 => ?_;go_simp;apply hK1;clear hK1 K1;refine Wops.absA fun L n3 a => ?_;obtain ⟨q3,a,s3,h,f3,r3⟩ := a;try simp only [q3] at h f3 r3 ⊢
 replace xw := xw.trans a;replace i := a.cell i;replace j := a.cell j;replace k := a.cell k;have E := h 0 _ rfl;have F := h 1 _ rfl;have G := h 2 _ rfl;clear h a;clear r3;go_simp;apply hK;clear hK K' gd;refine Wp.keep [2,3] ?_;rintro r2 ⟨r,x,-⟩;simp [go_sem,n,o] at r x;clear n o;refine Wp.seq ?_;refine sRg fun K' gd hK => ?_;refine cu2 fun K1 hK1 => ?_;go_simp;refine Wcall (.inl rfl) (check_c t _ _ (hV.ext xw) hf) ?_;rintro v w2 ⟨rfl,hE⟩;go_simp;apply hK1;clear hK1 K1;replace xw := xw.trans hE;replace i := hE.cell i;replace j := hE.cell j;replace k := hE.cell k;replace E := hE.cell E;replace F := hE.cell F;replace G := hE.cell G;clear hE;go_simp;apply hK;clear hK K' gd;refine Wp.keep [2,3,5] ?_;rintro r4 ⟨d,e,f,-⟩;simp [go_sem,r,x] at d e f;clear r x
 by_cases h0 : checkT t = 0
 ·skip;have hg := checkT_zero.1 h0;have hbe : ∃ _u : Unit,bestE t m = if ProvP t m then 0 else 8 := ⟨(),by unfold bestE;rw [if_neg (not_not_intro h0)]⟩;refine sRg fun K' gd hK => ?_;go_simp;apply hK;clear hK K' gd;refine Wp.keep [2,3,5,9] ?_;rintro r5 ⟨s,y,B,D,-⟩;simp [go_sem,d,e,f] at s y B D;clear d e f;refine cFf ?_;refine skN ?_;refine Wp.seq ?_;refine sRg fun K' gd hK => ?_;refine cu3 fun K1 hK1 => ?_;go_simp;refine Wcall (.inl rfl) (proved_c t m _ _ _ hg (hl h0) (hV.ext xw) (hM.ext xw)) ?_;rintro v w3 ⟨hv,hE⟩;obtain ⟨p,hp⟩ : ∃ p : Bool,∃ _u : Unit,decide (ProvP t m) = p := ⟨_,(),rfl⟩;rw [hp.choose_spec] at hv;subst hv;go_simp;apply hK1;clear hK1 K1;replace xw := xw.trans hE;clear hE;go_simp;apply hK;clear hK K' gd;refine Wp.keep [14] ?_;rintro r7 ⟨b,-⟩;simp [go_sem,s,y,B,D] at b;clear s y B D
  by_cases h1 : p = true
  ·skip;refine cFf ?_;refine skN ?_;refine sRg fun K' gd hK => ?_;go_simp;apply hK;clear hK K' gd;refine Wp.keep [4] ?_;rintro r8 ⟨I,-⟩;simp [go_sem,b] at I;clear b;refine Wp.ret ?_;refine endK_tmp Tryz.results18 (by decide) ?_;rw [I];exact ⟨by rw [hbe.choose_spec,if_pos (of_decide_eq_true (hp.choose_spec.trans h1))],xw⟩
  ·skip;refine cTt ?_;refine sRg fun K' gd hK => ?_;go_simp;apply hK;clear hK K' gd;refine Wp.keep [4] ?_;rintro r9 ⟨J,-⟩;simp [go_sem,b] at J;clear b;refine Wp.ret ?_;refine tRe ?_;refine endK_tmp Tryz.results18 (by decide) ?_;rw [J];exact ⟨by rw [hbe.choose_spec,if_neg (of_decide_eq_false (hp.choose_spec.trans (by simpa using h1)))],xw⟩
 ·skip;refine sRg fun K' gd hK => ?_;go_simp;apply hK;clear hK K' gd;refine Wp.keep [2,3,5,9] ?_;rintro r10 ⟨q,u,z,C,-⟩;simp [go_sem,d,e,f] at q u z C;clear d e f;refine cTt ?_;refine sRg fun K' gd hK => ?_;go_simp;apply hK;clear hK K' gd;refine Wp.keep [4] ?_;rintro r11 ⟨H,-⟩;simp [go_sem,q,u,z,C] at H;clear q u z C;refine Wp.ret ?_;refine tRe ?_;refine endK_tmp Tryz.results18 (by decide) ?_;rw [H];exact ⟨by unfold bestE;rw [if_pos h0],xw⟩
end Go.Proofs.YtnklbepeoicgpaaGreat
namespace Go.Proofs.YtnklbepeoicgpaaGreat
theorem whole_best {t : Tr} (hg : GoodT t) : bestE t (wholeF t t.n.toNat (bestF t t.n.toNat)) = 0 ∧ (wholeF t t.n.toNat (bestF t t.n.toNat)).mt = meritF t t.n.toNat ∧ (wholeF t t.n.toNat (bestF t t.n.toNat)).on.length = t.fl.length := by
 have hp := best_prov hg.opt hg.nn hg.le hg.pos (bestF_best hg.opt);refine ⟨?_,rfl,onL_len⟩;unfold bestE;rw [if_neg (not_not_intro (checkT_zero.2 hg)),if_pos hp]
end Go.Proofs.YtnklbepeoicgpaaGreat
namespace Go.Proofs.YtnklbepeoicgpaaGreat
open Go.RowKit Go.Wk Go.Proofs
attribute [local irreducible] Go.Wk.Wops Go.Wk.Wp Go.Wk.Mtree Go.Wk.Mops
set_option maxHeartbeats 8000000
set_option maxRecDepth 20000
def smallM (m : Md) : Prop := m.on.length ≤ 60 ∧ m.full.length ≤ 60
instance (m : Md) : Decidable (smallM m) := by unfold smallM;infer_instance
theorem small_c (m : Md) (v : Value) (w : World) (hM : MendV w w.heap.size v m) :
  CallsV Tryz.prog 43 #[v] w fun v' w' => v' = .bool (decide (smallM m)) ∧ Ext w w' := by
 obtain ⟨xv,zv,rfl,hX,hZ⟩ := hM;obtain ⟨A3,c3,rfl,-,-⟩ := id hX;obtain ⟨A4,c4,rfl,-,-⟩ := id hZ;clear hX hZ;refine Wp.fn Tryz.func43 rfl Tryz.ntmps43 (by simp) ?_;have xw := Ext.refl w;refine Wp.keep [0] ?_;rintro r1 ⟨d,-⟩;simp [go_sem] at d;refine sRg fun K' gd hK => ?_;refine cu1 fun K1 hK1 => ?_;go_simp;apply hK1;clear hK1 K1;refine Wops.absA fun i n1 b => ?_;obtain ⟨q1,b,s1,c,f1,r1⟩ := b;try simp only [q1] at c f1 r1 ⊢
 replace xw := xw.trans b;have j := c 0 _ rfl;have k := c 2 _ rfl;clear c b;clear r1;go_simp;apply hK;clear hK K' gd;refine Wp.keep [1] ?_;rintro r2 ⟨a,-⟩;simp [go_sem,d] at a;clear d
 by_cases h1 : (m.on.length : Int) ≤ 60
 ·skip
  by_cases h2 : (m.full.length : Int) ≤ 60
  ·skip;refine sRh fun K' gd hK hg => ?_;have g4 : gd 4 = some 7 := hg 4;clear hg;go_simp;apply hK;clear hK K' gd g4;refine Wp.keep [2] ?_;rintro r3 ⟨e,-⟩;simp [go_sem,a] at e;clear a;refine Wp.ret ?_;refine endK_tmp Tryz.results43 (by decide) ?_;rw [e];exact ⟨by rw [decide_eq_true (show smallM m from ⟨by omega,by omega⟩)],xw⟩
  ·skip;refine sRh fun K' gd hK hg => ?_;have g4 : gd 4 = some 7 := hg 4;clear hg;go_simp;apply hK;clear hK K' gd g4;refine Wp.keep [2] ?_;rintro r4 ⟨f,-⟩;simp [go_sem,a] at f;clear a;refine Wp.ret ?_;refine endK_tmp Tryz.results43 (by decide) ?_;rw [f];exact ⟨by rw [decide_eq_false (fun h : smallM m => by unfold smallM at h;omega)],xw⟩
 ·skip;refine sRh fun K' gd hK hg => ?_;have g4 : gd 4 = some 7 := hg 4;clear hg;go_simp;apply hK;clear hK K' gd g4;refine Wp.keep [2] ?_;rintro r5 ⟨g,-⟩;simp [go_sem,a] at g;clear a;refine Wp.ret ?_;refine endK_tmp Tryz.results43 (by decide) ?_;rw [g];exact ⟨by rw [decide_eq_false (fun h : smallM m => by unfold smallM at h;omega)],xw⟩
theorem rin_c (a b c : Int) (w : World) : CallsV Tryz.prog 121 #[.int .i64 a,.int .i64 b,.int .i64 c] w fun v w' => v = .bool (decide (b ≤ a ∧ a ≤ c)) ∧ Ext w w' := by
 refine Wp.fn Tryz.func121 rfl Tryz.ntmps121 (by simp) ?_;have xw := Ext.refl w;refine Wp.keep [0,1,2] ?_;rintro r1 ⟨d,e,f,-⟩;simp [go_sem] at d e f
 by_cases h : b ≤ a
 ·skip;refine sRg fun K' gd hK => ?_;go_simp;apply hK;clear hK K' gd;refine Wp.keep [0,1,2] ?_;rintro r2 ⟨g,j,l,-⟩;simp [go_sem,d,e,f] at g j l;clear d e f;refine sRh fun K' gd hK hg => ?_;have g3 : gd 3 = some 10 := hg 3;clear hg;go_simp;apply hK;clear hK K' gd g3;refine Wp.keep [6] ?_;rintro r3 ⟨n,-⟩;simp [go_sem,g,j,l] at n;clear g j l;refine Wp.ret ?_;refine endK_tmp Tryz.results121 (by decide) ?_;rw [n];exact ⟨by first | (simp [h];done) | rfl,xw⟩
 ·skip;refine sRg fun K' gd hK => ?_;go_simp;apply hK;clear hK K' gd;refine Wp.keep [0,1,2] ?_;rintro r4 ⟨i,k,m,-⟩;simp [go_sem,d,e,f] at i k m;clear d e f;refine sRh fun K' gd hK hg => ?_;have g3 : gd 3 = some 10 := hg 3;clear hg;go_simp;apply hK;clear hK K' gd g3;refine Wp.keep [6] ?_;rintro r5 ⟨o,-⟩;simp [go_sem,i,k,m] at o;clear i k m;refine Wp.ret ?_;refine endK_tmp Tryz.results121 (by decide) ?_;rw [o];exact ⟨by first | (simp [h];done) | rfl,xw⟩
theorem rin_T {a b c : Int} (h : b ≤ a ∧ a ≤ c) (w : World) : CallsV Tryz.prog 121 #[.int .i64 a,.int .i64 b,.int .i64 c] w fun v w' => v = .bool true ∧ Ext w w' := (rin_c a b c w).mono fun v w' ⟨h1,h2⟩ => ⟨by rw [h1,decide_eq_true h],h2⟩
theorem rin_F {a b c : Int} (h : ¬ (b ≤ a ∧ a ≤ c)) (w : World) : CallsV Tryz.prog 121 #[.int .i64 a,.int .i64 b,.int .i64 c] w fun v w' => v = .bool false ∧ Ext w w' := (rin_c a b c w).mono fun v w' ⟨h1,h2⟩ => ⟨by rw [h1,decide_eq_false h],h2⟩
theorem rspan_c (n lo hi : Int) (cv fv : Value) (w : World) : CallsV Tryz.prog 120 #[.agg #[.int .i64 n,cv,fv],.agg #[.int .i64 lo,.int .i64 hi]] w fun v w' => v = .bool (decide (0 ≤ lo ∧ lo ≤ hi ∧ hi < n)) ∧ Ext w w' := by
 refine Wp.fn Tryz.func120 rfl Tryz.ntmps120 (by simp) ?_;have xw := Ext.refl w;refine Wp.keep [0,1] ?_;rintro r1 ⟨f,g,-⟩;simp [go_sem] at f g;refine sRg fun K' gd hK => ?_;refine cu1 fun K1 hK1 => ?_;go_simp;apply hK1;clear hK1 K1;refine Wops.absA fun o n2 d => ?_;obtain ⟨q2,d,s2,i,f2,r2⟩ := d;try simp only [q2] at i f2 r2 ⊢
 replace xw := xw.trans d;have j := i 0 _ rfl;clear i d;clear r2;refine cu1 fun K1 hK1 => ?_;go_simp;apply hK1;clear hK1 K1;refine Wops.absA fun p n3 c => ?_;obtain ⟨q3,c,s3,e,f3,r3⟩ := c;try simp only [q3] at e f3 r3 ⊢
 replace xw := xw.trans c;replace j := c.cell j;have q := e 0 _ rfl;have r := e 1 _ rfl;clear e c;clear r3;go_simp;apply hK;clear hK K' gd;refine Wp.keep [2,3] ?_;rintro r2 ⟨a,b,-⟩;simp [go_sem,f,g] at a b;clear f g
 by_cases h : 0 ≤ lo
 ·skip
  by_cases h2 : lo ≤ hi
  ·skip;refine sRh fun K' gd hK hg => ?_;have g3 : gd 3 = some 8 := hg 3;have g10 : gd 10 = some 15 := hg 10;clear hg;go_simp;apply hK;clear hK K' gd g3 g10;refine Wp.keep [4] ?_;rintro r3 ⟨k,-⟩;simp [go_sem,a,b] at k;clear a b;refine Wp.ret ?_;refine endK_tmp Tryz.results120 (by decide) ?_;rw [k];exact ⟨by first | (simp [h,h2];done) | rfl,xw⟩
  ·skip;refine sRh fun K' gd hK hg => ?_;have g3 : gd 3 = some 8 := hg 3;have g10 : gd 10 = some 15 := hg 10;clear hg;go_simp;apply hK;clear hK K' gd g3 g10;refine Wp.keep [4] ?_;rintro r4 ⟨l,-⟩;simp [go_sem,a,b] at l;clear a b;refine Wp.ret ?_;refine endK_tmp Tryz.results120 (by decide) ?_;rw [l];exact ⟨by first | (simp [h,h2];done) | rfl,xw⟩
 ·skip;refine sRh fun K' gd hK hg => ?_;have g3 : gd 3 = some 8 := hg 3;have g10 : gd 10 = some 15 := hg 10;clear hg;go_simp;apply hK;clear hK K' gd g3 g10;refine Wp.keep [4] ?_;rintro r5 ⟨m,-⟩;simp [go_sem,a,b] at m;clear a b;refine Wp.ret ?_;refine endK_tmp Tryz.results120 (by decide) ?_;rw [m];exact ⟨by first | (simp [h];done) | rfl,xw⟩
theorem rspan_T {n lo hi : Int} {cv fv : Value} (h : 0 ≤ lo ∧ lo ≤ hi ∧ hi < n) (w : World) : CallsV Tryz.prog 120 #[.agg #[.int .i64 n,cv,fv],.agg #[.int .i64 lo,.int .i64 hi]] w fun v w' => v = .bool true ∧ Ext w w' := (rspan_c n lo hi cv fv w).mono fun v w' ⟨h1,h2⟩ => ⟨by rw [h1,decide_eq_true h],h2⟩
theorem rspan_F {n lo hi : Int} {cv fv : Value} (h : ¬ (0 ≤ lo ∧ lo ≤ hi ∧ hi < n)) (w : World) : CallsV Tryz.prog 120 #[.agg #[.int .i64 n,cv,fv],.agg #[.int .i64 lo,.int .i64 hi]] w fun v w' => v = .bool false ∧ Ext w w' := (rspan_c n lo hi cv fv w).mono fun v w' ⟨h1,h2⟩ => ⟨by rw [h1,decide_eq_false h],h2⟩
theorem rwithin_c (a b c d : Int) (w : World) : CallsV Tryz.prog 180 #[.agg #[.int .i64 a,.int .i64 b],.agg #[.int .i64 c,.int .i64 d]] w fun v w' => v = .bool (decide (c ≤ a ∧ b ≤ d)) ∧ Ext w w' := by
 refine Wp.fn Tryz.func180 rfl Tryz.ntmps180 (by simp) ?_;have xw := Ext.refl w;refine Wp.keep [0,1] ?_;rintro r1 ⟨l,m,-⟩;simp [go_sem] at l m;refine sRg fun K' gd hK => ?_;refine cu1 fun K1 hK1 => ?_;go_simp;apply hK1;clear hK1 K1;refine Wops.absA fun r n2 i => ?_;obtain ⟨q2,i,s2,j,f2,r2⟩ := i;try simp only [q2] at j f2 r2 ⊢
 replace xw := xw.trans i;have n := j 0 _ rfl;have o := j 1 _ rfl;clear j i;clear r2;refine cu1 fun K1 hK1 => ?_;go_simp;apply hK1;clear hK1 K1;refine Wops.absA fun s n3 e => ?_;obtain ⟨q3,e,s3,k,f3,r3⟩ := e;try simp only [q3] at k f3 r3 ⊢
 replace xw := xw.trans e;replace n := e.cell n;replace o := e.cell o;have t := k 0 _ rfl;have u := k 1 _ rfl;clear k e;clear r3;go_simp;apply hK;clear hK K' gd;refine Wp.keep [2,3] ?_;rintro r2 ⟨f,g,-⟩;simp [go_sem,l,m] at f g;clear l m
 by_cases h : c ≤ a
 ·skip;refine sRh fun K' gd hK hg => ?_;have g5 : gd 5 = some 10 := hg 5;clear hg;go_simp;apply hK;clear hK K' gd g5;refine Wp.keep [4] ?_;rintro r3 ⟨p,-⟩;simp [go_sem,f,g] at p;clear f g;refine Wp.ret ?_;refine endK_tmp Tryz.results180 (by decide) ?_;rw [p];exact ⟨by first | (simp [h];done) | rfl,xw⟩
 ·skip;refine sRh fun K' gd hK hg => ?_;have g5 : gd 5 = some 10 := hg 5;clear hg;go_simp;apply hK;clear hK K' gd g5;refine Wp.keep [4] ?_;rintro r4 ⟨q,-⟩;simp [go_sem,f,g] at q;clear f g;refine Wp.ret ?_;refine endK_tmp Tryz.results180 (by decide) ?_;rw [q];exact ⟨by first | (simp [h];done) | rfl,xw⟩
theorem rhas_c (x : Value) (xs : List Int) (d : Int) (w : World) (hx : IntsV w w.heap.size x xs) (hl : xs.length ≤ 1000000000000000) :
  CallsV Tryz.prog 133 #[x,.int .i64 d] w fun v w' => v = .bool (decide (d ∈ xs)) ∧ Ext w w' := by
 obtain ⟨A,c,rfl,-,-⟩ := id hx;refine Wp.fn Tryz.func133 rfl Tryz.ntmps133 (by simp) ?_;have xw := Ext.refl w;refine Wp.keep [0,1] ?_;rintro r1 ⟨i,s,-⟩;simp [go_sem] at i s;refine sRg fun K' gd hK => ?_;go_simp;apply hK;clear hK K' gd;refine Wp.keep [0,1] ?_;rintro r2 ⟨j,t,-⟩;simp [go_sem,i,s] at j t;clear i s;refine Wp.seq ?_;refine sRg fun K' gd hK => ?_;go_simp;apply hK;clear hK K' gd;refine Wp.keep [0,1,5] ?_;rintro r3 ⟨l,u,I,-⟩;simp [go_sem,j,t] at l u I;clear j t;refine Wp.block ?_;refine Wp.loop (fun k ρ ds wk => AllEq [0,1] ρ r3 ∧ ds = [] ∧ (Ext w wk) ∧ (ρ 5 = .int .i64 (k : Int) ∧ d ∉ xs.take k)) (xs.length) ?_ ?_
 ·refine ⟨AllEq.refl _ _,rfl,Ext.refl _,?_⟩;exact ⟨by rw [I];rfl,by simp⟩
 ·rintro k r4 _ wk hk ⟨hA,rfl,xl1,⟨e5,hn⟩⟩;obtain ⟨m,y,-⟩ := hA;rw [l] at m;rw [u] at y;replace xw := Ext.trans xw xl1;refine Wp.seq ?_;refine sRg fun K' gd hK => ?_;go_simp;apply hK;clear hK K' gd;refine Wp.keep [0,1,5,9] ?_;rintro r5 ⟨a,e,f,g,-⟩;simp [go_sem,m,y,e5] at a e f g;clear m y e5
  by_cases h : k < xs.length
  ·refine cTt ?_;obtain ⟨b,o,c5,e1,hb,hc⟩ := hx.get h
   injection e1 with e1 _ e2
   subst e1;subst e2;have d1 := xw.cell (hc k h);rw [gI_lt h] at d1;clear hc
   by_cases h1 : xs[k] = d
   ·skip;refine skN ?_;refine sBk ?_;refine sRg fun K' gd hK => ?_;go_simp;apply hK;clear hK K' gd;refine Wp.keep [0,1,5,17] ?_;rintro r6 ⟨n,z,C,q,-⟩;simp [go_sem,a,e,f,g] at n z C q;clear a e f g;refine cTt ?_;refine sRg fun K' gd hK => ?_;go_simp;apply hK;clear hK K' gd;refine Wp.keep [4] ?_;rintro r7 ⟨H,-⟩;simp [go_sem,n,z,C,q] at H;clear n z C q;refine Wp.ret ?_;refine bRe ?_;refine tRe ?_;refine tRe ?_;refine bRe ?_;refine tRe ?_;refine endK_tmp Tryz.results133 (by decide) ?_;rw [H];exact ⟨by rw [decide_eq_true (show d ∈ xs by rw [← h1];exact List.getElem_mem h)],xw⟩
   ·skip;refine skN ?_;refine sBk ?_;refine sRg fun K' gd hK => ?_;go_simp;apply hK;clear hK K' gd;refine Wp.keep [0,1,5,17] ?_;rintro r8 ⟨p,B,D,r,-⟩;simp [go_sem,a,e,f,g] at p B D r;clear a e f g;refine cFf ?_;refine Wp.skip ?_;refine bNo ?_;refine tNo ?_;refine lRg fun K' gd hK => ?_;go_simp;apply hK;clear hK K' gd;refine Ends.keep [0,1,5] ?_;rintro r9 ⟨E,F,J,-⟩;simp [go_sem,p,B,D,r] at E F J;clear p B D r;refine Ends.mk ?_;refine thenK_normal ⟨by omega,⟨by rw [E,l],by rw [F,u],trivial⟩,rfl,xl1,?_⟩;exact ⟨by rw [J,IntWalk.i64_in _ (by omega)];rfl,by rw [take_snoc h,List.mem_append,List.mem_singleton];rintro (h2 | h2);exact hn h2;exact h1 h2.symm⟩
  ·refine cFf ?_;obtain rfl : k = xs.length := by omega
   rw [List.take_length] at hn;refine Wp.exit ?_;refine tEx ?_;refine tEx ?_;refine blockK_here ?_;refine tNo ?_;refine sRg fun K' gd hK => ?_;go_simp;apply hK;clear hK K' gd;refine Wp.keep [4] ?_;rintro r10 ⟨G,-⟩;simp [go_sem,a,e,f,g] at G;clear a e f g;refine Wp.ret ?_;refine endK_tmp Tryz.results133 (by decide) ?_;rw [G];exact ⟨by rw [decide_eq_false hn],xw⟩
theorem rflaw_c (t : Tr) (id : Int) (v : Value) (w : World) (hV : TourV w w.heap.size v t) (hl : t.fl.length ≤ 1000000000) :
  CallsV Tryz.prog 111 #[v,.int .i64 id] w fun v' w' => v' = .int .i64 (posF t.fl id) ∧ Ext w w' := by
 obtain ⟨A,c,A2,c2,rfl,hI,hF⟩ := hV.open';have hFS : FlawsS w w.heap.size (.slice A2 t.fl.length c2) t.fl := ⟨hF⟩;clear hV hI hF;refine Wp.fn Tryz.func111 rfl Tryz.ntmps111 (by simp) ?_;have xw := Ext.refl w;refine Wp.keep [0,1] ?_;rintro r1 ⟨l,m,-⟩;simp [go_sem] at l m;refine sRg fun K' gd hK => ?_;refine cu1 fun K1 hK1 => ?_;go_simp;apply hK1;clear hK1 K1;refine Wops.absA fun P n2 i => ?_;obtain ⟨q2,i,s2,H,f2,r2⟩ := i;try simp only [q2] at H f2 r2 ⊢
 replace hFS := hFS.ext i;replace xw := xw.trans i;have I := H 2 _ rfl;clear H i;clear r2;go_simp;apply hK;clear hK K' gd;refine Wp.keep [1,2] ?_;rintro r2 ⟨n,z,-⟩;simp [go_sem,l,m] at n z;clear l m;refine Wp.seq ?_;refine sRg fun K' gd hK => ?_;go_simp;apply hK;clear hK K' gd;refine Wp.keep [1,2,5] ?_;rintro r3 ⟨p,B,N,-⟩;simp [go_sem,n,z] at p B N;clear n z;refine Wp.block ?_;refine Wp.loop (fun k ρ ds wk => AllEq [1,2] ρ r3 ∧ ds = [] ∧ (Ext P wk) ∧ (ρ 5 = .int .i64 (k : Int) ∧ (∃ _u : Unit,∀ j (hj : j < t.fl.length),j < k → t.fl[j].id ≠ id))) (t.fl.length) ?_ ?_
 ·refine ⟨AllEq.refl _ _,rfl,Ext.refl _,?_⟩;exact ⟨by rw [N];rfl,(),fun j _ hj => absurd hj (Nat.not_lt_zero _)⟩
 ·rintro k r4 _ wk hk ⟨hA,rfl,xl2,⟨e5,hn⟩⟩;obtain ⟨q,C,-⟩ := hA;rw [p] at q;rw [B] at C;replace hFS := hFS.ext xl2;replace xw := Ext.trans xw xl2;replace I := Ext.cell xl2 I;refine Wp.seq ?_;refine sRg fun K' gd hK => ?_;go_simp;apply hK;clear hK K' gd;refine Wp.keep [1,2,5,10] ?_;rintro r5 ⟨d,f,g,a,-⟩;simp [go_sem,q,C,e5] at d f g a;clear q C e5
  by_cases h : k < t.fl.length
  ·refine cTt ?_;obtain ⟨b,o,eA,hb,x0,x1,x2,x3⟩ := FlawsV.at hFS.v h;subst eA;have hkl : (k : Int) < (t.fl.length : Int) := by omega
   by_cases he : t.fl[k].id = id
   ·skip;refine skN ?_;refine sBk ?_;refine sRg fun K' gd hK => ?_;go_simp;apply hK;clear hK K' gd;refine Wp.keep [1,2,5,20] ?_;rintro r6 ⟨s,D,F,x,-⟩;simp [go_sem,d,f,g,a] at s D F x;clear d f g a;refine cTt ?_;refine sRg fun K' gd hK => ?_;go_simp;apply hK;clear hK K' gd;refine Wp.keep [4] ?_;rintro r7 ⟨M,-⟩;simp [go_sem,s,D,F,x] at M;clear s D F x;refine Wp.ret ?_;refine bRe ?_;refine tRe ?_;refine tRe ?_;refine bRe ?_;refine tRe ?_;refine endK_tmp Tryz.results111 (by decide) ?_;rw [M];exact ⟨by rw [← FindP.eq (fl := t.fl) (id := id) (r := (k : Int)) (.inl ⟨k,rfl,h,he,fun j hj => hn.choose_spec j (by omega) hj⟩)],xw⟩
   ·skip;refine skN ?_;refine sBk ?_;refine sRg fun K' gd hK => ?_;go_simp;apply hK;clear hK K' gd;refine Wp.keep [1,2,5,20] ?_;rintro r8 ⟨u,E,G,y,-⟩;simp [go_sem,d,f,g,a] at u E G y;clear d f g a;refine cFf ?_;refine Wp.skip ?_;refine bNo ?_;refine tNo ?_;refine lRg fun K' gd hK => ?_;go_simp;apply hK;clear hK K' gd;refine Ends.keep [1,2,5] ?_;rintro r9 ⟨J,K,O,-⟩;simp [go_sem,u,E,G,y] at J K O;clear u E G y;refine Ends.mk ?_;refine thenK_normal ⟨by omega,⟨by rw [J,p],by rw [K,B],trivial⟩,rfl,xl2,?_⟩;exact ⟨by rw [O,IntWalk.i64_in _ (by omega)];rfl,(),fun j hj hk => by by_cases e : j = k;(subst e;exact he);exact hn.choose_spec j hj (by omega)⟩
  ·refine cFf ?_;refine Wp.exit ?_;refine tEx ?_;refine tEx ?_;refine blockK_here ?_;refine tNo ?_;refine sRg fun K' gd hK => ?_;go_simp;apply hK;clear hK K' gd;refine Wp.keep [4] ?_;rintro r10 ⟨L,-⟩;simp [go_sem,d,f,g,a] at L;clear d f g a;refine Wp.ret ?_;refine endK_tmp Tryz.results111 (by decide) ?_;rw [L];exact ⟨by rw [← FindP.eq (fl := t.fl) (id := id) (r := -1) (.inr ⟨rfl,fun j hj => hn.choose_spec j hj (by omega)⟩)],xw⟩
theorem rmay_c (t : Tr) (f : Fl) (d : Int) (v : Value) (w : World) (hV : TourV w w.heap.size v t) (hl : t.cl.length ≤ 1000000000000000) :
  CallsV Tryz.prog 112 #[v,flV f,.int .i64 d] w fun v' w' => v' = .bool (okDay t f.lo f.hi d) ∧ Ext w w' := by
 obtain ⟨A,c,A2,c2,rfl,hI,hF⟩ := hV.open';have hIS : IntsS w w.heap.size (.slice A t.cl.length c) t.cl := ⟨hI⟩;clear hV hI hF;unfold flV;refine Wp.fn Tryz.func112 rfl Tryz.ntmps112 (by simp) ?_;have xw := Ext.refl w;refine Wp.keep [0,1,2] ?_;rintro r1 ⟨l,m,n,-⟩;simp [go_sem] at l m n;refine sRg fun K' gd hK => ?_;refine cu1 fun K1 hK1 => ?_;go_simp;apply hK1;clear hK1 K1;refine Wops.absA fun s n3 i => ?_;obtain ⟨q3,i,s3,o,f3,r3⟩ := i;try simp only [q3] at o f3 r3 ⊢
 replace hIS := hIS.ext i;replace xw := xw.trans i;have j := o 1 _ rfl;clear o i;clear r3;refine cu1 fun K1 hK1 => ?_;go_simp;apply hK1;clear hK1 K1;refine Wops.absA fun u n4 a => ?_;obtain ⟨q4,a,s4,k,f4,r4⟩ := a;try simp only [q4] at k f4 r4 ⊢
 replace hIS := hIS.ext a;replace xw := xw.trans a;replace j := a.cell j;have x := k 1 _ rfl;have y := k 2 _ rfl;clear k a;clear r4;go_simp;apply hK;clear hK K' gd;refine Wp.keep [2,3,4] ?_;rintro r2 ⟨b,e,g,-⟩;simp [go_sem,l,m,n] at b e g;clear l m n
 by_cases h : f.lo ≤ d ∧ d ≤ f.hi
 ·skip;refine sRh fun K' gd hK hg => ?_;have g8 : gd 8 = some 15 := hg 8;clear hg;refine cu8 fun K1 hK1 => ?_;go_simp;refine Wcall (.inl rfl) (rin_T h _) ?_;rintro v w2 ⟨rfl,hE⟩;go_simp;apply hK1;clear hK1 K1;replace hIS := hIS.ext hE;replace xw := xw.trans hE;replace j := hE.cell j;clear hE;refine cu5 fun K1 hK1 => ?_;go_simp;refine Wcall (.inl rfl) (rhas_c _ t.cl d _ (hIS.v.more (Below.size (XE))) hl) ?_;rintro v w3 ⟨rfl,hE⟩;go_simp;apply hK1;clear hK1 K1;replace xw := xw.trans hE;clear hE;go_simp;apply hK;clear hK K' gd g8;refine Wp.keep [6] ?_;rintro r5 ⟨p,-⟩;simp [go_sem,b,e,g] at p;clear b e g;refine Wp.ret ?_;refine endK_tmp Tryz.results112 (by decide) ?_;rw [p];exact ⟨by first | (unfold okDay;simp [h];done) | (unfold okDay;rfl),xw⟩
 ·skip;refine sRh fun K' gd hK hg => ?_;have g8 : gd 8 = some 15 := hg 8;clear hg;refine cu8 fun K1 hK1 => ?_;go_simp;refine Wcall (.inl rfl) (rin_F h _) ?_;rintro v w2 ⟨rfl,hE⟩;go_simp;apply hK1;clear hK1 K1;replace xw := xw.trans hE;clear hE;refine cu5 fun K1 hK1 => ?_;go_simp;apply hK1;clear hK1 K1;go_simp;apply hK;clear hK K' gd g8;refine Wp.keep [6] ?_;rintro r7 ⟨r,-⟩;simp [go_sem,b,e,g] at r;clear b e g;refine Wp.ret ?_;refine endK_tmp Tryz.results112 (by decide) ?_;rw [r];exact ⟨by unfold okDay;rw [decide_eq_false fun q => h q.1],xw⟩
theorem rroom_c (lo : Nat) (hi n : Int) (A : Option Addr) (c : Nat) (cl : List Int) (fv : Value) (w : World) (hI : IntsV w w.heap.size (.slice A cl.length c) cl) (hcl : cl.length ≤ 1000000000000000) (hhi : hi ≤ 1000000) (hlo : lo ≤ 1000000) :
  CallsV Tryz.prog 181 #[.agg #[.int .i64 n,.slice A cl.length c,fv],.agg #[.int .i64 (lo : Int),.int .i64 hi]] w fun v w' => v = .int .i64 ((openN cl (lo : Int) hi).length : Int) ∧ Ext w w' := by
 have hIS : IntsS w w.heap.size (.slice A cl.length c) cl := ⟨hI⟩;clear hI;obtain ⟨m,hm⟩ : ∃ m,∃ _u : Unit,(hi + 1 - (lo : Int)).toNat = m := ⟨_,(),rfl⟩;refine Wp.fn Tryz.func181 rfl Tryz.ntmps181 (by simp) ?_;have xw := Ext.refl w;refine Wp.keep [0,1] ?_;rintro r1 ⟨s,y,-⟩;simp [go_sem] at s y;refine sRg fun K' gd hK => ?_;refine cu1 fun K1 hK1 => ?_;go_simp;apply hK1;clear hK1 K1;refine Wops.absA fun aj n2 l => ?_;obtain ⟨q2,l,s2,V,f2,r2⟩ := l;try simp only [q2] at V f2 r2 ⊢
 replace hIS := hIS.ext l;replace xw := xw.trans l;have o := V 1 _ rfl;clear V l;clear r2;refine cu1 fun K1 hK1 => ?_;go_simp;apply hK1;clear hK1 K1;refine Wops.absA fun ai n3 a => ?_;obtain ⟨q3,a,s3,r,f3,r3⟩ := a;try simp only [q3] at r f3 r3 ⊢
 replace hIS := hIS.ext a;replace xw := xw.trans a;replace o := a.cell o;have ak := r 0 _ rfl;have W := r 1 _ rfl;clear r a;clear r3;go_simp;apply hK;clear hK K' gd;refine Wp.keep [2,3] ?_;rintro r2 ⟨D,J,-⟩;simp [go_sem,s,y] at D J;clear s y;refine sRg fun K' gd hK => ?_;go_simp;apply hK;clear hK K' gd;refine Wp.keep [2,3,5] ?_;rintro r3 ⟨E,K,P,-⟩;simp [go_sem,D,J] at E K P;clear D J;refine Wp.seq ?_;refine sRg fun K' gd hK => ?_;go_simp;apply hK;clear hK K' gd;refine Wp.keep [2,3,5,6] ?_;rintro r4 ⟨p,q,ad,ag,-⟩;simp [go_sem,E,K,P] at p q ad ag;clear E K P;refine Wp.block ?_;refine Wp.loop (fun k ρ ds wk => AllEq [2,3] ρ r4 ∧ ds = [] ∧ (Ext ai wk) ∧ (ρ 6 = .int .i64 ((lo : Int) + (k : Int)) ∧ ρ 5 = .int .i64 (cntO cl lo k : Int) ∧ (∃ _u : Unit,cntO cl lo k ≤ k ∧ k ≤ m))) (m) ?_ ?_
 ·refine ⟨AllEq.refl _ _,rfl,Ext.refl _,?_⟩;exact ⟨by rw [ag,Int.natCast_zero,Int.add_zero],by rw [ad];rfl,(),Nat.le_refl _,Nat.zero_le _⟩
 ·rintro k r5 _ wk hk ⟨hA,rfl,xl3,⟨e6,e5,hle⟩⟩;obtain ⟨d,f,-⟩ := hA;rw [p] at d;rw [q] at f;replace hIS := hIS.ext xl3;replace xw := Ext.trans xw xl3;replace o := Ext.cell xl3 o;replace W := Ext.cell xl3 W
  by_cases h : k < m
  ·skip;have hkl : ((lo : Int) + (k : Int)) ≤ hi := by have := hm.choose_spec;omega
   refine Wp.seq ?_;refine sRg fun K' gd hK => ?_;go_simp;apply hK;clear hK K' gd;refine Wp.keep [2,3,5,6,12] ?_;rintro r6 ⟨e,g,i,j,b,-⟩;simp [go_sem,d,f,e5,e6] at e g i j b;clear d f e5 e6;refine cTt ?_
   by_cases hin : ((lo + k : Nat) : Int) ∈ cl
   ·skip;have hin2 : (lo : Int) + (k : Int) ∈ cl := by simpa using hin
    refine skN ?_;refine sBk ?_;refine sRg fun K' gd hK => ?_;refine cu4 fun K1 hK1 => ?_;go_simp;refine Wcall (.inl rfl) (rhas_c _ cl ((lo : Int) + (k : Int)) _ (hIS.v.more (Below.size (XE))) hcl) ?_;rintro v w3 ⟨rfl,hE⟩;rw [decide_eq_true hin2];go_simp;apply hK1;clear hK1 K1;replace xw := xw.trans hE;replace xl3 := xl3.trans hE;clear hE;go_simp;apply hK;clear hK K' gd;refine Wp.keep [2,3,5,6,19] ?_;rintro r8 ⟨F,L,Q,U,x,-⟩;simp [go_sem,e,g,i,j,b] at F L Q U x;clear e g i j b;refine cFf ?_;refine Wp.skip ?_;refine bNo ?_;refine tNo ?_;refine lRg fun K' gd hK => ?_;go_simp;apply hK;clear hK K' gd;refine Ends.keep [2,3,5,6] ?_;rintro r9 ⟨Y,aa,ae,ah,-⟩;simp [go_sem,F,L,Q,U,x] at Y aa ae ah;clear F L Q U x;refine Ends.mk ?_;refine thenK_normal ⟨by omega,⟨by rw [Y,p],by rw [aa,q],trivial⟩,rfl,xl3,?_⟩;exact ⟨by rw [ah,IntWalk.i64_in _ (by omega)];exact congrArg _ (by omega),by rw [ae,cntO_F hin],(),by rw [cntO_F hin];have := hle.choose_spec.1;omega,by omega⟩
   ·skip;have hin2 : ¬ (lo : Int) + (k : Int) ∈ cl := by simpa using hin
    refine skN ?_;refine sBk ?_;refine sRg fun K' gd hK => ?_;refine cu4 fun K1 hK1 => ?_;go_simp;refine Wcall (.inl rfl) (rhas_c _ cl ((lo : Int) + (k : Int)) _ (hIS.v.more (Below.size (XE))) hcl) ?_;rintro v w3 ⟨rfl,hE⟩;rw [decide_eq_false hin2];go_simp;apply hK1;clear hK1 K1;replace xw := xw.trans hE;replace xl3 := xl3.trans hE;clear hE;go_simp;apply hK;clear hK K' gd;refine Wp.keep [2,3,5,6,19] ?_;rintro r11 ⟨z,G,M,R,u,-⟩;simp [go_sem,e,g,i,j,b] at z G M R u;clear e g i j b;refine cTt ?_;refine lRg fun K' gd hK => ?_;go_simp;apply hK;clear hK K' gd;refine Ends.keep [2,3,5,6] ?_;rintro r12 ⟨B,H,N,S,-⟩;simp [go_sem,z,G,M,R,u] at B H N S;clear z G M R u;refine Ends.mk ?_;refine bNo ?_;refine tNo ?_;refine lRg fun K' gd hK => ?_;go_simp;apply hK;clear hK K' gd;refine Ends.keep [2,3,5,6] ?_;rintro r13 ⟨X,Z,ac,af,-⟩
    simp [go_sem,B,H,N,S] at X Z ac af;clear B H N S;refine Ends.mk ?_;refine thenK_normal ⟨by omega,⟨by rw [X,p],by rw [Z,q],trivial⟩,rfl,xl3,?_⟩;exact ⟨by rw [af,IntWalk.i64_in _ (by omega)];exact congrArg _ (by omega),by rw [ac,cntO_T hin,IntWalk.i64_in _ (by have := hm.choose_spec;omega)];rfl,(),by rw [cntO_T hin];omega,by omega⟩
  ·skip;obtain rfl : k = m := by have := hle.choose_spec.2;omega
   have hkl : ¬ ((lo : Int) + (k : Int)) ≤ hi := by have := hm.choose_spec;omega
   refine Wp.seq ?_;refine sRg fun K' gd hK => ?_;go_simp;apply hK;clear hK K' gd;refine Wp.keep [2,3,5,6,12] ?_;rintro r14 ⟨C,I,O,T,t,-⟩;simp [go_sem,d,f,e5,e6] at C I O T t;clear d f e5 e6;refine cFf ?_;refine Wp.exit ?_;refine tEx ?_;refine tEx ?_;refine blockK_here ?_;refine tNo ?_;refine sRg fun K' gd hK => ?_;go_simp;apply hK;clear hK K' gd;refine Wp.keep [4] ?_;rintro r15 ⟨ab,-⟩;simp [go_sem,C,I,O,T,t] at ab;clear C I O T t;refine Wp.ret ?_;refine endK_tmp Tryz.results181 (by decide) ?_;rw [ab];exact ⟨by rw [openN_len,hm.choose_spec],xw⟩
theorem posF_first {fl : List Fl} {id : Int} {i : Nat} : posF fl id < (i : Int) ∧ 0 ≤ posF fl id ↔ ∃ j : Nat,j < i ∧ ∃ h : j < fl.length,fl[j].id = id := by
 unfold posF
 cases e : fl.findIdx? (fun f => decide (f.id = id)) with
 | none =>
   refine ⟨fun h => absurd h.2 (by show ¬ (0 : Int) ≤ -1;decide),?_⟩;rintro ⟨j,-,hj,q⟩;rw [List.findIdx?_eq_none_iff] at e;have := e _ (List.getElem_mem hj);rw [decide_eq_false_iff_not] at this;exact absurd q this
 | some k =>
   show ((k : Int) < (i : Int) ∧ 0 ≤ (k : Int)) ↔ _
   rw [List.findIdx?_eq_some_iff_getElem] at e;obtain ⟨h1,h2,h3⟩ := e;rw [decide_eq_true_iff] at h2
   constructor
   ·rintro ⟨h,-⟩;exact ⟨k,by omega,h1,h2⟩
   ·rintro ⟨j,hj,hjl,q⟩;refine ⟨?_,by omega⟩
    by_cases c : j < k
    ·have := h3 j c;rw [decide_eq_true_iff] at this;exact absurd q this
    ·omega
theorem rcheck_c (t : Tr) (v : Value) (w : World) (hV : TourV w w.heap.size v t) (hf : FitT t) :
  CallsV Tryz.prog 66 #[v] w fun v' w' => v' = .int .i64 (checkT t) ∧ Ext w w' := by
 obtain ⟨A,c,A2,c2,rfl,hI,hF⟩ := hV.open';have hIS : IntsS w w.heap.size (.slice A t.cl.length c) t.cl := ⟨hI⟩;have hFS : FlawsS w w.heap.size (.slice A2 t.fl.length c2) t.fl := ⟨hF⟩;have hTS : TourS w w.heap.size (.agg #[.int .i64 t.n,.slice A t.cl.length c,.slice A2 t.fl.length c2]) t := ⟨hV⟩;obtain ⟨n,hn⟩ : ∃ n,∃ _u : Unit,t.n = n := ⟨_,(),rfl⟩;have hfc := hf.cl;have hff := hf.fl;clear hV hI hF;rw [hn.choose_spec] at hTS ⊢;refine Wp.fn Tryz.func66 rfl Tryz.ntmps66 (by simp) ?_;have xw := Ext.refl w;refine Wp.keep [0] ?_;rintro r1 ⟨H,-⟩;simp [go_sem] at H
 by_cases h1 : 1 ≤ n ∧ n ≤ 60
 ·skip;refine sRg fun K' gd hK => ?_;refine cu1 fun K1 hK1 => ?_;go_simp;apply hK1;clear hK1 K1;refine Wops.absA fun aY n1 B => ?_;obtain ⟨q1,B,s1,Q,f1,r1⟩ := B;try simp only [q1] at Q f1 r1 ⊢
  replace hIS := hIS.ext B;replace hFS := hFS.ext B;replace hTS := hTS.ext B;replace xw := xw.trans B;have d := Q 0 _ rfl;have a := Q 1 _ rfl;have f := Q 2 _ rfl;clear Q B;clear r1;go_simp;apply hK;clear hK K' gd;refine Wp.keep [1] ?_;rintro r2 ⟨W,-⟩;simp [go_sem,H] at W;clear H;refine Wp.seq ?_;refine sRg fun K' gd hK => ?_;refine cu3 fun K1 hK1 => ?_;go_simp;refine Wcall (.inl rfl) (rin_T h1 _) ?_;rintro v w2 ⟨rfl,hE⟩;go_simp;apply hK1;clear hK1 K1;replace hIS := hIS.ext hE;replace hFS := hFS.ext hE;replace hTS := hTS.ext hE;replace xw := xw.trans hE;replace d := hE.cell d;replace a := hE.cell a;replace f := hE.cell f;clear hE;go_simp;apply hK;clear hK K' gd;refine Wp.keep [1,9] ?_;rintro r4 ⟨ab,aE,-⟩;simp [go_sem,W] at ab aE;clear W;refine cFf ?_;have hw1 : IntKind.i64.wrap (n - 1) = n - 1 := IntWalk.i64_in _ (by omega);refine skN ?_;refine Wp.seq ?_;refine sRg fun K' gd hK => ?_;go_simp;apply hK;clear hK K' gd;refine Wp.keep [1,3] ?_;rintro r5 ⟨R,aV,-⟩;simp [go_sem,ab,aE] at R aV
  clear ab aE;refine Wp.block ?_;refine Wp.loop (fun k ρ ds wk => AllEq [1] ρ r5 ∧ ds = [] ∧ (Ext w2 wk) ∧ (ρ 3 = .int .i64 (k : Int) ∧ (∃ _u : Unit,∀ j,j < k → ClAt n t.cl j))) (t.cl.length) ?_ ?_
  ·refine ⟨AllEq.refl _ _,rfl,Ext.refl _,?_⟩;exact ⟨by rw [aV];rfl,(),fun j hj => absurd hj (Nat.not_lt_zero _)⟩
  ·rintro k r6 _ wk hk ⟨hA,rfl,xl2,⟨e3,hq⟩⟩;obtain ⟨ag,-⟩ := hA;rw [R] at ag;replace hIS := hIS.ext xl2;replace hFS := hFS.ext xl2;replace hTS := hTS.ext xl2;replace xw := Ext.trans xw xl2;replace d := Ext.cell xl2 d;replace a := Ext.cell xl2 a;replace f := Ext.cell xl2 f;refine Wp.seq ?_;refine sRg fun K' gd hK => ?_;go_simp;apply hK;clear hK K' gd;refine Wp.keep [1,3,14] ?_;rintro r7 ⟨p,r,l,-⟩;simp [go_sem,ag,e3] at p r l;clear ag e3
   by_cases hk : k < t.cl.length
   ·refine cTt ?_;have hkl : (k : Int) < (t.cl.length : Int) := by omega
    obtain ⟨b,o,cc,ev,hb,hcc⟩ := hIS.v.get hk
    injection ev with ev1 _ ev2
    subst ev1;subst ev2;have x1 := hcc k hk;refine skN ?_;refine sBk ?_
    by_cases h2 : 0 ≤ gI t.cl k ∧ gI t.cl k ≤ n - 1
    ·skip
     by_cases h3 : 0 < k
     ·skip;obtain ⟨j,hj⟩ : ∃ j,∃ _u : Unit,k = j + 1 := ⟨k - 1,(),by omega⟩;have hj2 : ∃ _u : Unit,j < t.cl.length := ⟨(),by have := hj.choose_spec;omega⟩;have x2 := hcc j hj2.choose_spec;have hk0 : (0 : Int) < (k : Int) := by omega
      have hkw : IntKind.i64.wrap ((k : Int) - 1) = (j : Int) := by have := hj.choose_spec;rw [IntWalk.i64_in _ (by omega)];omega
      have hjl : (j : Int) < (t.cl.length : Int) := by have := hj2.choose_spec;omega
      clear hcc
      by_cases h4 : gI t.cl k ≤ gI t.cl j
      ·skip;refine Wp.seqDraw (.inl rfl) mixed [([0,1,2,3,4],none),([5,6,7],some (8,false)),([9,10],none),([11,12,13],none),([14,15,16,17,18],none),([19,20,21,22,23],none),([24,25,26,27],none)] (by kernel_rfl) fun K' gd hK hg => ?_;have g10 : gd 10 = some 27 := hg 10;have g13 : gd 13 = some 30 := hg 13;clear hg;simp only [pick,nth,List.map_cons,List.map_nil,Option.map_none,Option.map_some];refine Mops.absD fun D3 hD3 zD3 => ?_;replace xw := xw.trans hD3;replace xl2 := xl2.trans hD3;replace d := hD3.cell d;replace a := hD3.cell a;replace x1 := hD3.cell x1;replace x2 := hD3.cell x2;clear hD3;refine mNo ?_
       refine mAc ?_
       intro K1 hK1;go_simp;refine Wcall (.inl rfl) (rin_T h2 _) ?_;rintro v w3 ⟨rfl,hE⟩;go_simp;refine hK1 _ _ (by assumption) ?_;clear hK1 K1;replace xw := xw.trans hE;replace xl2 := xl2.trans hE;replace a := hE.cell a;replace x1 := hE.cell x1;replace x2 := hE.cell x2;clear hE;apply Mops.none
       ·intro w' hE';go_simp;with_reducible rfl
       apply Mops.none
       ·intro w' hE';go_simp;with_reducible rfl
       refine mNo ?_
       refine mNo ?_
       refine mNo ?_
       refine Mops.done ?_;apply hK;clear hK K' gd g10 g13;refine Wp.keep [1,3,44] ?_;rintro r9 ⟨ah,al,ap,-⟩;simp [go_sem,p,r,l] at ah al ap;clear p r l;refine cTt ?_;refine sRg fun K' gd hK => ?_;go_simp;apply hK;clear hK K' gd;refine Wp.keep [2] ?_;rintro r10 ⟨aK,-⟩;simp [go_sem,ah,al,ap] at aK;clear ah al ap;refine Wp.ret ?_;refine bRe ?_;refine tRe ?_;refine tRe ?_;refine bRe ?_;refine tRe ?_;refine endK_tmp Tryz.results66 (by decide) ?_;rw [aK];exact ⟨by unfold checkT;rw [hn.choose_spec,if_neg (by simpa using h1),if_pos fun hc => by have := (hc k hk).2 h3;rw [show k - 1 = j by have := hj.choose_spec;omega] at this;omega],xw⟩
      ·skip;refine Wp.seqDraw (.inl rfl) mixed [([0,1,2,3,4],none),([5,6,7],some (8,false)),([9,10],none),([11,12,13],none),([14,15,16,17,18],none),([19,20,21,22,23],none),([24,25,26,27],none)] (by kernel_rfl) fun K' gd hK hg => ?_;have g10 : gd 10 = some 27 := hg 10;have g13 : gd 13 = some 30 := hg 13;clear hg;simp only [pick,nth,List.map_cons,List.map_nil,Option.map_none,Option.map_some];refine Mops.absD fun D4 hD4 zD4 => ?_;replace xw := xw.trans hD4;replace xl2 := xl2.trans hD4;replace d := hD4.cell d;replace a := hD4.cell a;replace x1 := hD4.cell x1;replace x2 := hD4.cell x2;clear hD4;refine mNo ?_
       refine mAc ?_
       intro K1 hK1;go_simp;refine Wcall (.inl rfl) (rin_T h2 _) ?_;rintro v w3 ⟨rfl,hE⟩;go_simp;refine hK1 _ _ (by assumption) ?_;clear hK1 K1;replace xw := xw.trans hE;replace xl2 := xl2.trans hE;replace a := hE.cell a;replace x1 := hE.cell x1;replace x2 := hE.cell x2;clear hE;apply Mops.none
       ·intro w' hE';go_simp;with_reducible rfl
       apply Mops.none
       ·intro w' hE';go_simp;with_reducible rfl
       refine mNo ?_
       refine mNo ?_
       refine mNo ?_
       refine Mops.done ?_;apply hK;clear hK K' gd g10 g13;refine Wp.keep [1,3,44] ?_;rintro r12 ⟨T,ai,am,-⟩;simp [go_sem,p,r,l] at T ai am;clear p r l;refine cFf ?_;refine Wp.skip ?_;refine bNo ?_;refine tNo ?_;refine lRg fun K' gd hK => ?_;go_simp;apply hK;clear hK K' gd;refine Ends.keep [1,3] ?_;rintro r13 ⟨aH,aT,-⟩;simp [go_sem,T,ai,am] at aH aT;clear T ai am;refine Ends.mk ?_;refine thenK_normal ⟨by omega,⟨by rw [aH,R],trivial⟩,rfl,xl2,?_⟩;exact ⟨by rw [aT,IntWalk.i64_in _ (by omega)];rfl,(),fun i hi => by by_cases e : i = k;(subst e;exact ⟨h2,fun _ => by rw [show i - 1 = j by have := hj.choose_spec;omega];omega⟩);exact hq.choose_spec i (by omega)⟩
     ·skip;have hk0 : ¬ (0 : Int) < (k : Int) := by omega
      clear hcc;refine Wp.seqDraw (.inl rfl) mixed [([0,1,2,3,4],none),([5,6,7],some (8,false)),([9,10],none),([11,12,13],none),([14,15,16,17,18],none),([19,20,21,22,23],none),([24,25,26,27],none)] (by kernel_rfl) fun K' gd hK hg => ?_;have g10 : gd 10 = some 27 := hg 10;have g13 : gd 13 = some 30 := hg 13;clear hg;simp only [pick,nth,List.map_cons,List.map_nil,Option.map_none,Option.map_some];refine Mops.absD fun D5 hD5 zD5 => ?_;replace xw := xw.trans hD5;replace xl2 := xl2.trans hD5;replace d := hD5.cell d;replace a := hD5.cell a;replace x1 := hD5.cell x1;clear hD5;refine mNo ?_
      refine mAc ?_
      intro K1 hK1;go_simp;refine Wcall (.inl rfl) (rin_T h2 _) ?_;rintro v w3 ⟨rfl,hE⟩;go_simp;refine hK1 _ _ (by assumption) ?_;clear hK1 K1;replace xw := xw.trans hE;replace xl2 := xl2.trans hE;replace x1 := hE.cell x1;clear hE;apply Mops.none
      ·intro w' hE';go_simp;with_reducible rfl
      apply Mops.none
      ·intro w' hE';go_simp;with_reducible rfl
      apply Mops.none
      ·intro w' hE';go_simp;with_reducible rfl
      apply Mops.none
      ·intro w' hE';go_simp;with_reducible rfl
      apply Mops.none
      ·intro w' hE';go_simp;with_reducible rfl
      refine Mops.done ?_;apply hK;clear hK K' gd g10 g13;refine Wp.keep [1,3,44] ?_;rintro r15 ⟨U,aj,an,-⟩;simp [go_sem,p,r,l] at U aj an;clear p r l;refine cFf ?_;refine Wp.skip ?_;refine bNo ?_;refine tNo ?_;refine lRg fun K' gd hK => ?_;go_simp;apply hK;clear hK K' gd;refine Ends.keep [1,3] ?_;rintro r16 ⟨aI,aU,-⟩;simp [go_sem,U,aj,an] at aI aU;clear U aj an;refine Ends.mk ?_;refine thenK_normal ⟨by omega,⟨by rw [aI,R],trivial⟩,rfl,xl2,?_⟩;exact ⟨by rw [aU,IntWalk.i64_in _ (by omega)];rfl,(),fun i hi => by by_cases e : i = k;(subst e;exact ⟨h2,fun h => absurd h h3⟩);exact hq.choose_spec i (by omega)⟩
    ·skip;clear hcc;refine Wp.seqDraw (.inl rfl) mixed [([0,1,2,3,4],none),([5,6,7],some (8,false)),([9,10],none),([11,12,13],none),([14,15,16,17,18],none),([19,20,21,22,23],none),([24,25,26,27],none)] (by kernel_rfl) fun K' gd hK hg => ?_;have g10 : gd 10 = some 27 := hg 10;have g13 : gd 13 = some 30 := hg 13;clear hg;simp only [pick,nth,List.map_cons,List.map_nil,Option.map_none,Option.map_some];refine Mops.absD fun D6 hD6 zD6 => ?_;replace xw := xw.trans hD6;replace xl2 := xl2.trans hD6;replace d := hD6.cell d;replace a := hD6.cell a;replace x1 := hD6.cell x1;clear hD6;refine mNo ?_
     refine mAc ?_
     intro K1 hK1;go_simp;refine Wcall (.inl rfl) (rin_F h2 _) ?_;rintro v w3 ⟨rfl,hE⟩;go_simp;refine hK1 _ _ (by assumption) ?_;clear hK1 K1;replace xw := xw.trans hE;replace xl2 := xl2.trans hE;clear hE;apply Mops.none
     ·intro w' hE';go_simp;with_reducible rfl
     apply Mops.none
     ·intro w' hE';go_simp;with_reducible rfl
     apply Mops.none
     ·intro w' hE';go_simp;with_reducible rfl
     apply Mops.none
     ·intro w' hE';go_simp;with_reducible rfl
     apply Mops.none
     ·intro w' hE';go_simp;with_reducible rfl
     refine Mops.done ?_;apply hK;clear hK K' gd g10 g13;refine Wp.keep [1,3,44] ?_;rintro r18 ⟨V,ak,ao,-⟩;simp [go_sem,p,r,l] at V ak ao;clear p r l;refine cTt ?_;refine sRg fun K' gd hK => ?_;go_simp;apply hK;clear hK K' gd;refine Wp.keep [2] ?_;rintro r19 ⟨aL,-⟩;simp [go_sem,V,ak,ao] at aL;clear V ak ao;refine Wp.ret ?_;refine bRe ?_;refine tRe ?_;refine tRe ?_;refine bRe ?_;refine tRe ?_;refine endK_tmp Tryz.results66 (by decide) ?_;rw [aL];exact ⟨by unfold checkT;rw [hn.choose_spec,if_neg (by simpa using h1),if_pos fun hc => h2 (hc k hk).1],xw⟩
   ·refine cFf ?_;have hcl : ∃ _u : Unit,ClOk n t.cl := ⟨(),fun j hj => hq.choose_spec j (by omega)⟩;refine Wp.exit ?_;refine tEx ?_;refine tEx ?_;refine blockK_here ?_;refine tNo ?_;refine Wp.seq ?_;refine sRg fun K' gd hK => ?_;go_simp;apply hK;clear hK K' gd;refine Wp.keep [1,48] ?_;rintro r20 ⟨I,L,-⟩;simp [go_sem,p,r,l] at I L;clear p r l
    by_cases h5 : (40 : Int) < (t.fl.length : Int)
    ·refine cTt ?_;refine sRg fun K' gd hK => ?_;go_simp;apply hK;clear hK K' gd;refine Wp.keep [2] ?_;rintro r21 ⟨aM,-⟩;simp [go_sem,I,L] at aM;clear I L;refine Wp.ret ?_;refine tRe ?_;refine endK_tmp Tryz.results66 (by decide) ?_;rw [aM];exact ⟨by unfold checkT;rw [hn.choose_spec,if_neg (by simpa using h1),if_neg (by simpa using hcl.choose_spec),if_pos (by omega)],xw⟩
    ·refine cFf ?_;have hcs : ∃ _u : Unit,checkT t = chkFl n [] t.fl := ⟨(),by unfold checkT;rw [hn.choose_spec,if_neg (by simpa using h1),if_neg (by simpa using hcl.choose_spec),if_neg (by omega)]⟩;refine skN ?_;refine Wp.seq ?_;refine sRg fun K' gd hK => ?_;go_simp;apply hK;clear hK K' gd;refine Wp.keep [1,4] ?_;rintro r22 ⟨X,aW,-⟩;simp [go_sem,I,L] at X aW;clear I L;refine Wp.block ?_;refine Wp.loop (fun i ρ ds wi => AllEq [1] ρ r22 ∧ ds = [] ∧ (Ext wk wi) ∧ (∃ ids,ρ 4 = .int .i64 (i : Int) ∧ (∃ _u : Unit,(∀ x : Int,x ∈ ids ↔ ∃ j : Nat,j < i ∧ ∃ h : j < t.fl.length,t.fl[j].id = x) ∧ chkFl n ids (t.fl.drop i) = checkT t))) (t.fl.length) ?_ ?_
     ·refine ⟨AllEq.refl _ _,rfl,Ext.refl _,?_⟩;exact ⟨[],by rw [aW];rfl,(),fun x => ⟨fun h => absurd h List.not_mem_nil,fun ⟨j,hj,_⟩ => absurd hj (Nat.not_lt_zero _)⟩,by rw [List.drop_zero];exact hcs.choose_spec.symm⟩
     ·rintro i r23 _ wi hi ⟨hA,rfl,xl7,⟨ids,e4,hil⟩⟩;obtain ⟨Y,-⟩ := hA;rw [X] at Y;replace hFS := hFS.ext xl7;replace hTS := hTS.ext xl7;replace xw := Ext.trans xw xl7;replace xl2 := Ext.trans xl2 xl7;replace d := Ext.cell xl7 d;replace a := Ext.cell xl7 a;replace f := Ext.cell xl7 f;refine Wp.seq ?_;refine sRg fun K' gd hK => ?_;go_simp;apply hK;clear hK K' gd;refine Wp.keep [1,4,53] ?_;rintro r24 ⟨J,M,O,-⟩;simp [go_sem,Y,e4] at J M O;clear Y e4
      by_cases hi : i < t.fl.length
      ·refine cTt ?_;have hif2 : (i : Int) < (t.fl.length : Int) := by omega
       obtain ⟨b2,o2,eA,hb2,x0,x1,x2,x3⟩ := FlawsV.at hFS.v hi;subst eA;obtain ⟨G,hG⟩ : ∃ G,∃ _u : Unit,t.fl[i] = G := ⟨_,(),rfl⟩;rw [hG.choose_spec] at x0 x1 x2 x3;have hck : ∃ _u : Unit,chkFl n ids (G :: t.fl.drop (i + 1)) = checkT t := ⟨(),by have := hil.choose_spec.2;rwa [drop_cons hi,hG.choose_spec] at this⟩;refine skN ?_;refine sBk ?_;refine sRg fun K' gd hK => ?_;refine cu7 fun K1 hK1 => ?_;go_simp;apply hK1;clear hK1 K1;refine Wops.absA fun a0 n5 g => ?_;obtain ⟨q5,g,s5,F,f5,r5⟩ := g;try simp only [q5] at F f5 r5 ⊢
       replace hTS := hTS.ext g;replace xw := xw.trans g;replace xl2 := xl2.trans g;replace xl7 := xl7.trans g;replace d := g.cell d;replace a := g.cell a;replace f := g.cell f;replace x0 := g.cell x0;replace x1 := g.cell x1;replace x2 := g.cell x2;replace x3 := g.cell x3;have C := F 0 _ rfl;have D := F 1 _ rfl;have E := F 2 _ rfl;have z := F 3 _ rfl;clear F g;clear r5;try simp only [Wops_nil,updO_some,updO_none]
       apply hK;clear hK K' gd;refine Wp.keep [1,4,5] ?_;rintro r25 ⟨s,u,y,-⟩;simp [go_sem,J,M,O] at s u y;clear J M O;refine Wp.seq ?_
       by_cases k1 : 1 ≤ G.id ∧ G.id ≤ 1099511627776
       ·skip
        by_cases k2 : 0 ≤ G.lo ∧ G.lo ≤ G.hi ∧ G.hi < n
        ·skip
         by_cases k3 : 1 ≤ G.m ∧ G.m ≤ 1000
         ·skip;refine sRh fun K' gd hK hg => ?_;have g4 : gd 4 = some 65 := hg 4;have g11 : gd 11 = some 72 := hg 11;clear hg;refine cu3 fun K1 hK1 => ?_;go_simp;refine Wcall (.inl rfl) (rin_T k1 _) ?_;rintro v w3 ⟨rfl,hE⟩;go_simp;apply hK1;clear hK1 K1;replace hTS := hTS.ext hE;replace xw := xw.trans hE;replace xl2 := xl2.trans hE;replace xl7 := xl7.trans hE;replace d := hE.cell d;replace a := hE.cell a;replace f := hE.cell f;replace x0 := hE.cell x0;replace x1 := hE.cell x1;replace x2 := hE.cell x2;replace x3 := hE.cell x3;replace C := hE.cell C;replace D := hE.cell D;replace E := hE.cell E;replace z := hE.cell z;clear hE;refine cu6 fun K1 hK1 => ?_;go_simp;refine Wcall (.inl rfl) (rspan_T k2 _) ?_;rintro v w4 ⟨rfl,hE⟩;go_simp;apply hK1;clear hK1 K1;replace hTS := hTS.ext hE;replace xw := xw.trans hE;replace xl2 := xl2.trans hE;replace xl7 := xl7.trans hE;replace d := hE.cell d;replace a := hE.cell a;replace f := hE.cell f;replace x0 := hE.cell x0;replace x1 := hE.cell x1;replace x2 := hE.cell x2;replace x3 := hE.cell x3
          replace C := hE.cell C;replace z := hE.cell z;clear hE;refine cu6 fun K1 hK1 => ?_;go_simp;refine Wcall (.inl rfl) (rin_T k3 _) ?_;rintro v w5 ⟨rfl,hE⟩;go_simp;apply hK1;clear hK1 K1;replace hTS := hTS.ext hE;replace xw := xw.trans hE;replace xl2 := xl2.trans hE;replace xl7 := xl7.trans hE;replace d := hE.cell d;replace a := hE.cell a;replace f := hE.cell f;replace x0 := hE.cell x0;replace x1 := hE.cell x1;replace x2 := hE.cell x2;replace x3 := hE.cell x3;replace C := hE.cell C;clear hE;go_simp;apply hK;clear hK K' gd g4 g11;refine Wp.keep [1,4,5,77] ?_;rintro r29 ⟨Z,aq,aw,aA,-⟩;simp [go_sem,s,u,y] at Z aq aw aA;clear s u y;refine cFf ?_;have hpf := posF_first (fl := t.fl) (id := G.id) (i := i);have hpn : 0 ≤ posF t.fl G.id := ((posF_first (fl := t.fl) (id := G.id) (i := i + 1)).2 ⟨i,Nat.lt_succ_self _,hi,by rw [hG.choose_spec]⟩).2;replace hpf : ∃ _u : Unit,_ := ⟨(),hpf⟩;have hmi : ∃ _u : Unit,(G.id ∈ ids ↔ posF t.fl G.id < (i : Int)) := ⟨(),⟨fun h => (hpf.choose_spec.2 ((hil.choose_spec.1 _).1 h)).1,fun h => (hil.choose_spec.1 _).2 (hpf.choose_spec.1 ⟨h,hpn⟩)⟩⟩;refine skN ?_;refine sRg fun K' gd hK => ?_;refine cu4 fun K1 hK1 => ?_;go_simp;refine Wcall (.inl rfl) (rflaw_c t G.id _ _ (hTS.v.more (Below.size (XE))) (by omega)) ?_;rintro v w6 ⟨rfl,hE⟩;go_simp;apply hK1;clear hK1 K1;replace xw := xw.trans hE;replace xl2 := xl2.trans hE;replace xl7 := xl7.trans hE;replace x0 := hE.cell x0;replace x1 := hE.cell x1;replace x2 := hE.cell x2;replace x3 := hE.cell x3;clear hE;go_simp;apply hK;clear hK K' gd;refine Wp.keep [1,4,83] ?_;rintro r31 ⟨K,N,P,-⟩;simp [go_sem,Z,aq,aw,aA] at K N P;clear Z aq aw aA
          by_cases k4 : posF t.fl G.id < (i : Int)
          ·refine cTt ?_;refine sRg fun K' gd hK => ?_;go_simp;apply hK;clear hK K' gd;refine Wp.keep [2] ?_;rintro r32 ⟨aN,-⟩;simp [go_sem,K,N,P] at aN;clear K N P;refine Wp.ret ?_;refine bRe ?_;refine tRe ?_;refine tRe ?_;refine bRe ?_;refine tRe ?_;refine endK_tmp Tryz.results66 (by decide) ?_;rw [aN];exact ⟨by rw [← hck.choose_spec,chkFl,if_neg (not_not_intro ⟨k1,k2,k3⟩),if_pos (hmi.choose_spec.2 k4)],xw⟩
          ·refine cFf ?_;refine Wp.skip ?_;refine bNo ?_;refine tNo ?_;refine lRg fun K' gd hK => ?_;go_simp;apply hK;clear hK K' gd;refine Ends.keep [1,4] ?_;rintro r33 ⟨aJ,aX,-⟩;simp [go_sem,K,N,P] at aJ aX;clear K N P;refine Ends.mk ?_;refine thenK_normal ⟨by omega,⟨by rw [aJ,X],trivial⟩,rfl,xl7,?_⟩;exact ⟨G.id :: ids,by rw [aX,IntWalk.i64_in _ (by omega)];rfl,(),fun x => by rw [List.mem_cons,hil.choose_spec.1];exact ⟨fun h => h.elim (fun e => ⟨i,Nat.lt_succ_self _,hi,by rw [hG.choose_spec,e]⟩) fun ⟨j,hj,hl,e⟩ => ⟨j,by omega,hl,e⟩,fun ⟨j,hj,hl,e⟩ => by by_cases q : j = i;(subst q;rw [hG.choose_spec] at e;exact .inl e.symm);exact .inr ⟨j,by omega,hl,e⟩⟩,by rw [← hck.choose_spec];conv => rhs;rw [chkFl,if_neg (not_not_intro ⟨k1,k2,k3⟩),if_neg fun h => k4 (hmi.choose_spec.1 h)]⟩
         ·skip;refine sRh fun K' gd hK hg => ?_;have g4 : gd 4 = some 65 := hg 4;have g11 : gd 11 = some 72 := hg 11;clear hg;refine cu3 fun K1 hK1 => ?_;go_simp;refine Wcall (.inl rfl) (rin_T k1 _) ?_;rintro v w3 ⟨rfl,hE⟩;go_simp;apply hK1;clear hK1 K1;replace xw := xw.trans hE;replace xl2 := xl2.trans hE;replace xl7 := xl7.trans hE;replace d := hE.cell d;replace a := hE.cell a;replace f := hE.cell f;replace D := hE.cell D;replace E := hE.cell E;replace z := hE.cell z;clear hE;refine cu6 fun K1 hK1 => ?_;go_simp;refine Wcall (.inl rfl) (rspan_T k2 _) ?_;rintro v w4 ⟨rfl,hE⟩;go_simp;apply hK1;clear hK1 K1;replace xw := xw.trans hE;replace xl2 := xl2.trans hE;replace xl7 := xl7.trans hE;replace z := hE.cell z;clear hE;refine cu6 fun K1 hK1 => ?_;go_simp;refine Wcall (.inl rfl) (rin_F k3 _) ?_;rintro v w5 ⟨rfl,hE⟩;go_simp;apply hK1;clear hK1 K1;replace xw := xw.trans hE;replace xl2 := xl2.trans hE;replace xl7 := xl7.trans hE;clear hE;go_simp;apply hK
          clear hK K' gd g4 g11;refine Wp.keep [1,4,5,77] ?_;rintro r37 ⟨aa,ar,ax,aB,-⟩;simp [go_sem,s,u,y] at aa ar ax aB;clear s u y;refine cTt ?_;refine sRg fun K' gd hK => ?_;go_simp;apply hK;clear hK K' gd;refine Wp.keep [2] ?_;rintro r38 ⟨aO,-⟩;simp [go_sem,aa,ar,ax,aB] at aO;clear aa ar ax aB;refine Wp.ret ?_;refine tRe ?_;refine bRe ?_;refine tRe ?_;refine tRe ?_;refine bRe ?_;refine tRe ?_;refine endK_tmp Tryz.results66 (by decide) ?_;rw [aO];exact ⟨by rw [← hck.choose_spec,chkFl,if_pos fun h => k3 h.2.2],xw⟩
        ·skip;refine sRh fun K' gd hK hg => ?_;have g4 : gd 4 = some 65 := hg 4;have g11 : gd 11 = some 72 := hg 11;clear hg;refine cu3 fun K1 hK1 => ?_;go_simp;refine Wcall (.inl rfl) (rin_T k1 _) ?_;rintro v w3 ⟨rfl,hE⟩;go_simp;apply hK1;clear hK1 K1;replace xw := xw.trans hE;replace xl2 := xl2.trans hE;replace xl7 := xl7.trans hE;replace d := hE.cell d;replace a := hE.cell a;replace f := hE.cell f;replace D := hE.cell D;replace E := hE.cell E;clear hE;refine cu6 fun K1 hK1 => ?_;go_simp;refine Wcall (.inl rfl) (rspan_F k2 _) ?_;rintro v w4 ⟨rfl,hE⟩;go_simp;apply hK1;clear hK1 K1;replace xw := xw.trans hE;replace xl2 := xl2.trans hE;replace xl7 := xl7.trans hE;clear hE;refine cu6 fun K1 hK1 => ?_;go_simp;apply hK1;clear hK1 K1;go_simp;apply hK;clear hK K' gd g4 g11;refine Wp.keep [1,4,5,77] ?_;rintro r41 ⟨ac,au,ay,aC,-⟩;simp [go_sem,s,u,y] at ac au ay aC;clear s u y;refine cTt ?_
         refine sRg fun K' gd hK => ?_;go_simp;apply hK;clear hK K' gd;refine Wp.keep [2] ?_;rintro r42 ⟨aP,-⟩;simp [go_sem,ac,au,ay,aC] at aP;clear ac au ay aC;refine Wp.ret ?_;refine tRe ?_;refine bRe ?_;refine tRe ?_;refine tRe ?_;refine bRe ?_;refine tRe ?_;refine endK_tmp Tryz.results66 (by decide) ?_;rw [aP];exact ⟨by rw [← hck.choose_spec,chkFl,if_pos fun h => k2 h.2.1],xw⟩
       ·skip;refine sRh fun K' gd hK hg => ?_;have g4 : gd 4 = some 65 := hg 4;have g11 : gd 11 = some 72 := hg 11;clear hg;refine cu3 fun K1 hK1 => ?_;go_simp;refine Wcall (.inl rfl) (rin_F k1 _) ?_;rintro v w3 ⟨rfl,hE⟩;go_simp;apply hK1;clear hK1 K1;replace xw := xw.trans hE;replace xl2 := xl2.trans hE;replace xl7 := xl7.trans hE;clear hE;refine cu6 fun K1 hK1 => ?_;go_simp;apply hK1;clear hK1 K1;refine cu6 fun K1 hK1 => ?_;go_simp;apply hK1;clear hK1 K1;go_simp;apply hK;clear hK K' gd g4 g11;refine Wp.keep [1,4,5,77] ?_;rintro r44 ⟨ad,av,az,aD,-⟩;simp [go_sem,s,u,y] at ad av az aD;clear s u y;refine cTt ?_;refine sRg fun K' gd hK => ?_;go_simp;apply hK;clear hK K' gd;refine Wp.keep [2] ?_;rintro r45 ⟨aQ,-⟩;simp [go_sem,ad,av,az,aD] at aQ;clear ad av az aD;refine Wp.ret ?_;refine tRe ?_;refine bRe ?_;refine tRe ?_
        refine tRe ?_;refine bRe ?_;refine tRe ?_;refine endK_tmp Tryz.results66 (by decide) ?_;rw [aQ];exact ⟨by rw [← hck.choose_spec,chkFl,if_pos fun h => k1 h.1],xw⟩
      ·refine cFf ?_;have him : i = t.fl.length := by omega
       refine Wp.exit ?_;refine tEx ?_;refine tEx ?_;refine blockK_here ?_;refine tNo ?_;refine sRg fun K' gd hK => ?_;go_simp;apply hK;clear hK K' gd;refine Wp.keep [2] ?_;rintro r46 ⟨aR,-⟩;simp [go_sem,J,M,O] at aR;clear J M O;refine Wp.ret ?_;refine endK_tmp Tryz.results66 (by decide) ?_;rw [aR];exact ⟨by rw [← hil.choose_spec.2,him,List.drop_length];rfl,xw⟩
 ·skip;refine sRg fun K' gd hK => ?_;refine cu1 fun K1 hK1 => ?_;go_simp;apply hK1;clear hK1 K1;refine Wops.absA fun aZ n1 S => ?_;obtain ⟨q1,S,s1,aG,f1,r1⟩ := S;try simp only [q1] at aG f1 r1 ⊢
  replace xw := xw.trans S;have d := aG 0 _ rfl;clear aG S;clear r1;go_simp;apply hK;clear hK K' gd;refine Wp.keep [1] ?_;rintro r47 ⟨ae,-⟩;simp [go_sem,H] at ae;clear H;refine Wp.seq ?_;refine sRg fun K' gd hK => ?_;refine cu3 fun K1 hK1 => ?_;go_simp;refine Wcall (.inl rfl) (rin_F h1 _) ?_;rintro v w2 ⟨rfl,hE⟩;go_simp;apply hK1;clear hK1 K1;replace xw := xw.trans hE;clear hE;go_simp;apply hK;clear hK K' gd;refine Wp.keep [1,9] ?_;rintro r49 ⟨af,aF,-⟩;simp [go_sem,ae] at af aF;clear ae;refine cTt ?_;refine sRg fun K' gd hK => ?_;go_simp;apply hK;clear hK K' gd;refine Wp.keep [2] ?_;rintro r50 ⟨aS,-⟩;simp [go_sem,af,aF] at aS;clear af aF;refine Wp.ret ?_;refine tRe ?_;refine endK_tmp Tryz.results66 (by decide) ?_;rw [aS];exact ⟨by unfold checkT;rw [hn.choose_spec,if_pos (by simpa using h1)],xw⟩
theorem IntsV.takeV {w : World} {B n c : Nat} {A : Option Addr} {xs : List Int} (h : IntsV w B (.slice A n c) xs) {k : Nat} (hk : k ≤ xs.length) : IntsV w B (.slice A k c) (xs.take k) := by
 obtain ⟨A',c',hv,hx,hcap⟩ := h
 injection hv with h1 h2 h3
 subst h1;subst h3;have e : (xs.take k).length = k := by rw [List.length_take];omega
 refine ⟨A,c,by rw [e],fun hne => ?_,by rw [e];omega⟩;obtain ⟨b,o,hA,hb,hc⟩ := hx (fun q => hne (by rw [q];simp));exact ⟨b,o,hA,hb,fun j hj => by rw [List.getElem_take];exact hc j (by omega)⟩
theorem takN_has {xs : List Int} {k : Nat} (hk : k ≤ xs.length) {x : Int} (h0 : 0 ≤ x) : takN xs k x.toNat = decide (x ∈ xs.take k) := by
 rw [Bool.eq_iff_iff,takN_true,decide_eq_true_iff]
 constructor
 ·rintro ⟨j,hj,e⟩;rw [List.mem_take_iff_getElem];exact ⟨j,by omega,by rw [← gI_lt (show j < xs.length by omega),e];omega⟩
 ·intro h;rw [List.mem_take_iff_getElem] at h;obtain ⟨j,hj,e⟩ := h;exact ⟨j,by omega,by rw [gI_lt (show j < xs.length by omega),e];omega⟩
theorem rFits_c (t : Tr) (xs : List Int) (v xv : Value) (w : World) (hV : TourV w w.heap.size v t) (hX : IntsV w w.heap.size xv xs) (hf : FitT t) :
  CallsV Tryz.prog 63 #[v,xv] w fun v' w' => v' = .tuple #[.int .i64 (fitsI t xs),.bool (fitsB t xs),.int .i64 (fitsE t xs)] ∧ Ext w w' := by
 obtain ⟨A,c,A2,c2,rfl,hCl,hF⟩ := hV.open';obtain ⟨A1,c1,rfl,-,hxc⟩ := id hX;have hTS : TourS w w.heap.size (.agg #[.int .i64 t.n,.slice A t.cl.length c,.slice A2 t.fl.length c2]) t := ⟨hV⟩;have hFS : FlawsS w w.heap.size (.slice A2 t.fl.length c2) t.fl := ⟨hF⟩;have hXS : IntsS w w.heap.size (.slice A1 xs.length c1) xs := ⟨hX⟩;obtain ⟨e,he⟩ : ∃ e : Int,∃ _u : Unit,checkT t = e := ⟨_,(),rfl⟩;have hff := hf.fl;have hfc := hf.cl;clear hV hCl hF hX;refine Wp.fn Tryz.func63 rfl Tryz.ntmps63 (by simp) ?_;have xw := Ext.refl w;refine Wp.keep [0,1] ?_;rintro r1 ⟨F,H,-⟩;simp [go_sem] at F H;refine sRg fun K' gd hK => ?_;refine cu1 fun K1 hK1 => ?_;go_simp;apply hK1;clear hK1 K1;refine Wops.absA fun a1 n2 B => ?_;obtain ⟨q2,B,s2,C,f2,r2⟩ := B;try simp only [q2] at C f2 r2 ⊢
 replace hTS := hTS.ext B;replace hFS := hFS.ext B;replace hXS := hXS.ext B;replace xw := xw.trans B;have d := C 0 _ rfl;have f := C 1 _ rfl;have a := C 2 _ rfl;clear C B;clear r2;go_simp;apply hK;clear hK K' gd;refine Wp.keep [1,2] ?_;rintro r2 ⟨L,ae,-⟩;simp [go_sem,F,H] at L ae;clear F H;refine sRg fun K' gd hK => ?_;refine cu2 fun K1 hK1 => ?_;go_simp;refine Wcall (.inl rfl) (rcheck_c t _ _ (hTS.v.more (Below.size (XE))) hf) ?_;rintro v w2 ⟨hv,hE⟩;rw [he.choose_spec] at hv;subst hv;go_simp;apply hK1;clear hK1 K1;replace hTS := hTS.ext hE;replace hFS := hFS.ext hE;replace hXS := hXS.ext hE;replace xw := xw.trans hE;replace d := hE.cell d;replace f := hE.cell f;replace a := hE.cell a;clear hE;go_simp;apply hK;clear hK K' gd;refine Wp.keep [1,2,7] ?_;rintro r4 ⟨h,r,x,-⟩;simp [go_sem,L,ae] at h r x;clear L ae
 by_cases h0 : e = 0
 ·skip
  by_cases h1 : xs.length = t.fl.length
  ·skip;replace h1 : ∃ _u : Unit,_ := ⟨(),h1⟩;have h1i : ((xs.length : Int) = (t.fl.length : Int)) = True := by simp [h1.choose_spec]
   have hck : checkT t = 0 := he.choose_spec.trans h0;have hfe : ∃ _u : Unit,fitsE t xs = 0 := ⟨(),by unfold fitsE;rw [if_neg (not_not_intro hck),if_neg (not_not_intro h1.choose_spec)]⟩;have hg := checkT_zero.1 hck;have hfl40 := hg.fl;clear hck;refine Wp.seq ?_;refine sRh fun K' gd hK hg => ?_;have g2 : gd 2 = some 13 := hg 2;clear hg;go_simp;apply hK;clear hK K' gd g2;refine Wp.keep [1,2,7,20] ?_;rintro r5 ⟨S,al,az,X,-⟩;simp [go_sem,h,r,x] at S al az X;clear h r x;refine cFf ?_;refine skN ?_;refine Wp.seq ?_;refine sRg fun K' gd hK => ?_;go_simp;apply hK;clear hK K' gd;refine Wp.keep [1,2,7,22] ?_;rintro r6 ⟨T,am,aA,aa,-⟩;simp [go_sem,S,al,az,X] at T am aA aa;clear S al az X;refine cFf ?_;refine skN ?_;refine Wp.seq ?_;refine sRg fun K' gd hK => ?_;go_simp;apply hK;clear hK K' gd;refine Wp.keep [1,2,8] ?_;rintro r7 ⟨D,E,a0,-⟩;simp [go_sem,T,am,aA,aa] at D E a0;clear T am aA aa;refine Wp.block ?_;refine Wp.loop (fun k ρ ds wk => AllEq [1,2] ρ r7 ∧ ds = [] ∧ (Ext w2 wk) ∧ (ρ 8 = .int .i64 (k : Int) ∧ (∃ _u : Unit,∀ j,j < k → badK t xs j = false))) (xs.length) ?_ ?_
   ·refine ⟨AllEq.refl _ _,rfl,Ext.refl _,?_⟩;exact ⟨by rw [a0];rfl,(),fun j hj => absurd hj (Nat.not_lt_zero _)⟩
   ·rintro k r8 _ wk hk ⟨hA,rfl,xl2,⟨e8,hq⟩⟩;obtain ⟨U,an,-⟩ := hA;rw [D] at U;rw [E] at an;replace hTS := hTS.ext xl2;replace hFS := hFS.ext xl2;replace hXS := hXS.ext xl2;replace xw := Ext.trans xw xl2;replace d := Ext.cell xl2 d;replace f := Ext.cell xl2 f;replace a := Ext.cell xl2 a;refine Wp.seq ?_;refine sRg fun K' gd hK => ?_;go_simp;apply hK;clear hK K' gd;refine Wp.keep [1,2,8,27] ?_;rintro r9 ⟨i,s,z,l,-⟩;simp [go_sem,U,an,e8] at i s z l;clear U an e8
    by_cases hkx : k < xs.length
    ·refine cTt ?_;have hkl : (k : Int) < (xs.length : Int) := by omega
     have hkf : k < t.fl.length := by have := h1.choose_spec;omega
     have hkf2 : (k : Int) < (t.fl.length : Int) := by omega
     obtain ⟨b,o,cc,ev,hb,hcc⟩ := hXS.v.get hkx
     injection ev with ev1 _ ev2
     subst ev1;subst ev2;have d1 := hcc k hkx;clear hcc;obtain ⟨b2,o2,eA,hb2,x0,x1,x2,x3⟩ := FlawsV.at hFS.v hkf;subst eA;obtain ⟨G,hG⟩ : ∃ G,∃ _u : Unit,t.fl[k] = G ∧ idAt t.fl k = G.id := ⟨_,(),rfl,idAt_at hkf⟩;rw [hG.choose_spec.1] at x0 x1 x2 x3;have hbk : ∃ _u : Unit,badK t xs k = (decide (gI xs k ≠ -1) && (!okDay t G.lo G.hi (gI xs k) || takN xs k (gI xs k).toNat)) := ⟨(),by rw [badK_at hkf,hG.choose_spec.1]⟩;have hkc : (k : Int) ≤ (c1 : Int) := by omega
     by_cases hm1 : gI xs k = -1
     ·skip;rw [hm1] at d1;refine skN ?_;refine sBk ?_;refine Wp.seq ?_;refine sRg fun K' gd hK => ?_;go_simp;apply hK;clear hK K' gd;refine Wp.keep [1,2,8,34] ?_;rintro r10 ⟨I,ab,aB,ao,-⟩;simp [go_sem,i,s,z,l] at I ab aB ao;clear i s z l;refine cTt ?_;refine Wp.exit ?_;refine tEx ?_;refine blockK_here ?_;refine tNo ?_;refine lRg fun K' gd hK => ?_;go_simp;apply hK;clear hK K' gd;refine Ends.keep [1,2,8] ?_;rintro r11 ⟨aF,aH,aY,-⟩;simp [go_sem,I,ab,aB,ao] at aF aH aY;clear I ab aB ao;refine Ends.mk ?_;refine thenK_normal ⟨by omega,⟨by rw [aF,D],by rw [aH,E],trivial⟩,rfl,xl2,?_⟩;exact ⟨by rw [aY,IntWalk.i64_in _ (by omega)];rfl,(),fun j hj => by by_cases e : j = k;(subst e;rw [hbk.choose_spec];rw [hm1];rfl);exact hq.choose_spec j (by omega)⟩
     ·skip;refine skN ?_;refine sBk ?_;refine Wp.seq ?_;refine sRg fun K' gd hK => ?_;go_simp;apply hK;clear hK K' gd;refine Wp.keep [1,2,8,34] ?_;rintro r12 ⟨g,p,y,u,-⟩;simp [go_sem,i,s,z,l] at g p y u;clear i s z l;refine cFf ?_;have hfl4 := (show flV G = .agg #[.int .i64 G.id,.int .i64 G.lo,.int .i64 G.hi,.int .i64 G.m] from rfl);replace hfl4 : ∃ _u : Unit,_ := ⟨(),hfl4⟩
      by_cases ho : okDay t G.lo G.hi (gI xs k) = true
      ·skip;have h0x : 0 ≤ gI xs k := by have q := (of_decide_eq_true ho).1;have := (hg.ok _ (List.getElem_mem hkf)).2.1;rw [hG.choose_spec.1] at this;omega
       by_cases ht : gI xs k ∈ xs.take k
       ·skip;refine skN ?_;refine Wp.seqDraw (.inl rfl) mixed [([0,1,2,3,4],none),([5,6,7,8,9],some (10,false)),([11,12],none),([13,14,15,16,17],none),([18,19],some (20,false)),([21],none)] (by kernel_rfl) fun K' gd hK hg => ?_;have g12 : gd 12 = some 47 := hg 12;clear hg;simp only [pick,nth,List.map_cons,List.map_nil,Option.map_none,Option.map_some];refine Mops.absD fun D3 hD3 zD3 => ?_;replace hTS := hTS.ext hD3;replace hXS := hXS.ext hD3;replace xw := xw.trans hD3;replace xl2 := xl2.trans hD3;replace d := hD3.cell d;replace f := hD3.cell f;replace a := hD3.cell a;replace d1 := hD3.cell d1;replace x0 := hD3.cell x0;replace x1 := hD3.cell x1;replace x2 := hD3.cell x2;replace x3 := hD3.cell x3;clear hD3;refine mNo ?_
        refine mAc ?_
        intro K1 hK1;go_simp;refine Wcall (.inl rfl) ((by have q := rmay_c t G (gI xs k) (.agg #[.int .i64 t.n,.slice A t.cl.length c,.slice (some ⟨b2,o2,none⟩) t.fl.length c2]) _ (hTS.v.more (Below.size (XE))) hfc;rw [hfl4.choose_spec,ho] at q;exact q)) ?_;rintro v w3 ⟨rfl,hE⟩;go_simp;refine hK1 _ _ (by assumption) ?_;clear hK1 K1;replace hXS := hXS.ext hE;replace xw := xw.trans hE;replace xl2 := xl2.trans hE;replace a := hE.cell a;replace d1 := hE.cell d1;replace x0 := hE.cell x0;clear hE;apply Mops.none
        ·intro w' hE';go_simp;with_reducible rfl
        apply Mops.none
        ·intro w' hE';go_simp;with_reducible rfl
        refine mAc ?_
        intro K1 hK1;go_simp;refine Wcall (.inl rfl) (rhas_c _ (xs.take k) (gI xs k) _ (IntsV.takeV (hXS.v.more (Below.size (XE))) (by omega)) (by rw [List.length_take];omega)) ?_;rintro v w4 ⟨hv,hE⟩;rw [decide_eq_true ht] at hv;subst hv;go_simp;refine hK1 _ _ (by assumption) ?_;clear hK1 K1;replace xw := xw.trans hE;replace xl2 := xl2.trans hE;replace a := hE.cell a;replace x0 := hE.cell x0;clear hE;apply Mops.none
        ·intro w' hE';go_simp;with_reducible rfl
        refine Mops.done ?_;apply hK;clear hK K' gd g12;refine Wp.keep [1,2,8,56] ?_;rintro r15 ⟨J,ac,aC,ap,-⟩;simp [go_sem,g,p,y,u] at J ac aC ap;clear g p y u;refine cTt ?_;have hwr : ∃ _u : Unit,wrongI t xs = (k : Int) := ⟨(),wrongI_some hkx hq.choose_spec (by rw [hbk.choose_spec,ho,takN_has (by omega) h0x,decide_eq_true ht];simpa using hm1)⟩;refine sRg fun K' gd hK => ?_;go_simp;apply hK;clear hK K' gd;refine Wp.keep [4,5,6] ?_;rintro r16 ⟨aJ,aO,aT,-⟩;simp [go_sem,J,ac,aC,ap] at aJ aO aT;clear J ac aC ap;refine Wp.ret ?_;refine bRe ?_;refine tRe ?_;refine tRe ?_;refine bRe ?_;refine tRe ?_;refine endK_tmp3 Tryz.results63 (by decide) (by decide) (by decide) ?_;rw [aJ,aO,aT];exact ⟨by unfold fitsI fitsB;rw [hfe.choose_spec,hwr.choose_spec,if_neg (by decide),if_neg (by omega),Int.toNat_natCast,hG.choose_spec.2,decide_eq_false (by omega)],xw⟩
       ·skip;refine skN ?_;refine Wp.seqDraw (.inl rfl) mixed [([0,1,2,3,4],none),([5,6,7,8,9],some (10,false)),([11,12],none),([13,14,15,16,17],none),([18,19],some (20,false)),([21],none)] (by kernel_rfl) fun K' gd hK hg => ?_;have g12 : gd 12 = some 47 := hg 12;clear hg;simp only [pick,nth,List.map_cons,List.map_nil,Option.map_none,Option.map_some];refine Mops.absD fun D4 hD4 zD4 => ?_;replace hTS := hTS.ext hD4;replace hXS := hXS.ext hD4;replace xw := xw.trans hD4;replace xl2 := xl2.trans hD4;replace d := hD4.cell d;replace f := hD4.cell f;replace a := hD4.cell a;replace d1 := hD4.cell d1;replace x0 := hD4.cell x0;replace x1 := hD4.cell x1;replace x2 := hD4.cell x2;replace x3 := hD4.cell x3;clear hD4;refine mNo ?_
        refine mAc ?_
        intro K1 hK1;go_simp;refine Wcall (.inl rfl) ((by have q := rmay_c t G (gI xs k) (.agg #[.int .i64 t.n,.slice A t.cl.length c,.slice (some ⟨b2,o2,none⟩) t.fl.length c2]) _ (hTS.v.more (Below.size (XE))) hfc;rw [hfl4.choose_spec,ho] at q;exact q)) ?_;rintro v w3 ⟨rfl,hE⟩;go_simp;refine hK1 _ _ (by assumption) ?_;clear hK1 K1;replace hXS := hXS.ext hE;replace xw := xw.trans hE;replace xl2 := xl2.trans hE;replace d1 := hE.cell d1;replace x0 := hE.cell x0;replace x1 := hE.cell x1;replace x2 := hE.cell x2;replace x3 := hE.cell x3;clear hE;apply Mops.none
        ·intro w' hE';go_simp;with_reducible rfl
        apply Mops.none
        ·intro w' hE';go_simp;with_reducible rfl
        refine mAc ?_
        intro K1 hK1;go_simp;refine Wcall (.inl rfl) (rhas_c _ (xs.take k) (gI xs k) _ (IntsV.takeV (hXS.v.more (Below.size (XE))) (by omega)) (by rw [List.length_take];omega)) ?_;rintro v w4 ⟨hv,hE⟩;rw [decide_eq_false ht] at hv;subst hv;go_simp;refine hK1 _ _ (by assumption) ?_;clear hK1 K1;replace xw := xw.trans hE;replace xl2 := xl2.trans hE;replace d1 := hE.cell d1;replace x0 := hE.cell x0;replace x1 := hE.cell x1;replace x2 := hE.cell x2;replace x3 := hE.cell x3;clear hE;apply Mops.none
        ·intro w' hE';go_simp;with_reducible rfl
        refine Mops.done ?_;apply hK;clear hK K' gd g12;refine Wp.keep [1,2,8,56] ?_;rintro r19 ⟨K,ad,aD,aq,-⟩;simp [go_sem,g,p,y,u] at K ad aD aq;clear g p y u;refine cFf ?_;refine Wp.skip ?_;refine bNo ?_;refine tNo ?_;refine lRg fun K' gd hK => ?_;go_simp;apply hK;clear hK K' gd;refine Ends.keep [1,2,8] ?_;rintro r20 ⟨aG,aI,aZ,-⟩;simp [go_sem,K,ad,aD,aq] at aG aI aZ;clear K ad aD aq;refine Ends.mk ?_;refine thenK_normal ⟨by omega,⟨by rw [aG,D],by rw [aI,E],trivial⟩,rfl,xl2,?_⟩;exact ⟨by rw [aZ,IntWalk.i64_in _ (by omega)];rfl,(),fun j hj => by by_cases e : j = k;(subst e;rw [hbk.choose_spec,ho,takN_has (by omega) h0x,decide_eq_false ht];simp);exact hq.choose_spec j (by omega)⟩
      ·skip;have ho2 : okDay t G.lo G.hi (gI xs k) = false := by simpa using ho
       refine skN ?_;refine Wp.seqDraw (.inl rfl) mixed [([0,1,2,3,4],none),([5,6,7,8,9],some (10,false)),([11,12],none),([13,14,15,16,17],none),([18,19],some (20,false)),([21],none)] (by kernel_rfl) fun K' gd hK hg => ?_;have g12 : gd 12 = some 47 := hg 12;clear hg;simp only [pick,nth,List.map_cons,List.map_nil,Option.map_none,Option.map_some];refine Mops.absD fun D5 hD5 zD5 => ?_;replace hTS := hTS.ext hD5;replace xw := xw.trans hD5;replace xl2 := xl2.trans hD5;replace d := hD5.cell d;replace f := hD5.cell f;replace a := hD5.cell a;replace d1 := hD5.cell d1;replace x0 := hD5.cell x0;replace x1 := hD5.cell x1;replace x2 := hD5.cell x2;replace x3 := hD5.cell x3;clear hD5;refine mNo ?_
       refine mAc ?_
       intro K1 hK1;go_simp;refine Wcall (.inl rfl) ((by have q := rmay_c t G (gI xs k) (.agg #[.int .i64 t.n,.slice A t.cl.length c,.slice (some ⟨b2,o2,none⟩) t.fl.length c2]) _ (hTS.v.more (Below.size (XE))) hfc;rw [hfl4.choose_spec,ho2] at q;exact q)) ?_;rintro v w3 ⟨rfl,hE⟩;go_simp;refine hK1 _ _ (by assumption) ?_;clear hK1 K1;replace xw := xw.trans hE;replace xl2 := xl2.trans hE;replace a := hE.cell a;replace x0 := hE.cell x0;clear hE;apply Mops.none
       ·intro w' hE';go_simp;with_reducible rfl
       apply Mops.none
       ·intro w' hE';go_simp;with_reducible rfl
       apply Mops.act
       ·intro w' hE';go_simp;with_reducible rfl
       intro K1 hK1;go_simp;refine hK1 _ _ (Ext.refl _) ?_;clear hK1 K1;apply Mops.none
       ·intro w' hE';go_simp;with_reducible rfl
       refine Mops.done ?_;apply hK;clear hK K' gd g12;refine Wp.keep [1,2,8,56] ?_;rintro r22 ⟨M,af,aE,ar,-⟩;simp [go_sem,g,p,y,u] at M af aE ar;clear g p y u;refine cTt ?_;have hwr : ∃ _u : Unit,wrongI t xs = (k : Int) := ⟨(),wrongI_some hkx hq.choose_spec (by rw [hbk.choose_spec,ho2];simpa using hm1)⟩;refine sRg fun K' gd hK => ?_;go_simp;apply hK;clear hK K' gd;refine Wp.keep [4,5,6] ?_;rintro r23 ⟨aK,aP,aU,-⟩;simp [go_sem,M,af,aE,ar] at aK aP aU;clear M af aE ar;refine Wp.ret ?_;refine bRe ?_;refine tRe ?_;refine tRe ?_;refine bRe ?_;refine tRe ?_;refine endK_tmp3 Tryz.results63 (by decide) (by decide) (by decide) ?_;rw [aK,aP,aU];exact ⟨by unfold fitsI fitsB;rw [hfe.choose_spec,hwr.choose_spec,if_neg (by decide),if_neg (by omega),Int.toNat_natCast,hG.choose_spec.2,decide_eq_false (by omega)],xw⟩
    ·refine cFf ?_;have hwr : ∃ _u : Unit,wrongI t xs = -1 := ⟨(),wrongI_none fun j hj => hq.choose_spec j (by omega)⟩;refine Wp.exit ?_;refine tEx ?_;refine tEx ?_;refine blockK_here ?_;refine tNo ?_;refine sRg fun K' gd hK => ?_;go_simp;apply hK;clear hK K' gd;refine Wp.keep [4,5,6] ?_;rintro r24 ⟨aL,aQ,aV,-⟩;simp [go_sem,i,s,z,l] at aL aQ aV;clear i s z l;refine Wp.ret ?_;refine endK_tmp3 Tryz.results63 (by decide) (by decide) (by decide) ?_;rw [aL,aQ,aV];exact ⟨by unfold fitsI fitsB;rw [hfe.choose_spec,hwr.choose_spec];rfl,xw⟩
  ·skip;have h1i : ((xs.length : Int) = (t.fl.length : Int)) = False := by simp;omega
   have hfe : ∃ _u : Unit,fitsE t xs = 1 := ⟨(),by unfold fitsE;rw [if_neg (not_not_intro (he.choose_spec.trans h0)),if_pos h1]⟩;refine Wp.seq ?_;refine sRh fun K' gd hK hg => ?_;have g2 : gd 2 = some 13 := hg 2;clear hg;go_simp;apply hK;clear hK K' gd g2;refine Wp.keep [1,2,7,20] ?_;rintro r25 ⟨N,ag,au,V,-⟩;simp [go_sem,h,r,x] at N ag au V;clear h r x;refine cTt ?_;refine lRg fun K' gd hK => ?_;go_simp;apply hK;clear hK K' gd;refine Ends.keep [1,2,7] ?_;rintro r26 ⟨O,ah,av,-⟩;simp [go_sem,N,ag,au,V] at O ah av;clear N ag au V;refine Ends.mk ?_;refine tNo ?_;refine Wp.seq ?_;refine sRg fun K' gd hK => ?_;go_simp;apply hK;clear hK K' gd;refine Wp.keep [1,2,7,22] ?_;rintro r27 ⟨P,ai,aw,Y,-⟩;simp [go_sem,O,ah,av] at P ai aw Y;clear O ah av;refine cTt ?_;refine sRg fun K' gd hK => ?_;go_simp;apply hK;clear hK K' gd;refine Wp.keep [4,5,6] ?_;rintro r28 ⟨aM,aR,aW,-⟩;simp [go_sem,P,ai,aw,Y] at aM aR aW
   clear P ai aw Y;refine Wp.ret ?_;refine tRe ?_;refine endK_tmp3 Tryz.results63 (by decide) (by decide) (by decide) ?_;rw [aM,aR,aW];exact ⟨by unfold fitsI fitsB;rw [hfe.choose_spec];rfl,xw⟩
 ·skip;have hfe : ∃ _u : Unit,fitsE t xs = e := ⟨(),by unfold fitsE;rw [if_pos (fun q => h0 (he.choose_spec.symm.trans q)),he.choose_spec]⟩;refine Wp.seq ?_;refine sRh fun K' gd hK hg => ?_;have g2 : gd 2 = some 13 := hg 2;clear hg;go_simp;apply hK;clear hK K' gd g2;refine Wp.keep [1,2,7,20] ?_;rintro r29 ⟨Q,aj,ax,W,-⟩;simp [go_sem,h,r,x] at Q aj ax W;clear h r x;refine cFf ?_;refine skN ?_;refine Wp.seq ?_;refine sRg fun K' gd hK => ?_;go_simp;apply hK;clear hK K' gd;refine Wp.keep [1,2,7,22] ?_;rintro r30 ⟨R,ak,ay,Z,-⟩;simp [go_sem,Q,aj,ax,W] at R ak ay Z;clear Q aj ax W;refine cTt ?_;refine sRg fun K' gd hK => ?_;go_simp;apply hK;clear hK K' gd;refine Wp.keep [4,5,6] ?_;rintro r31 ⟨aN,aS,aX,-⟩;simp [go_sem,R,ak,ay,Z] at aN aS aX;clear R ak ay Z;refine Wp.ret ?_;refine tRe ?_;refine endK_tmp3 Tryz.results63 (by decide) (by decide) (by decide) ?_;rw [aN,aS,aX];exact ⟨by unfold fitsI fitsB;rw [hfe.choose_spec,if_pos h0,decide_eq_false fun q => h0 q.1],xw⟩
theorem pw_ext {α : Type} {r : α → α → Prop} (ha : ∀ x y,r x y → r y x → False) : ∀ l1 l2 : List α,l1.Pairwise r → l2.Pairwise r → (∀ x,x ∈ l1 ↔ x ∈ l2) → l1 = l2
 | [],[],_,_,_ => rfl
 | [],y :: l2,_,_,h => absurd ((h y).2 List.mem_cons_self) List.not_mem_nil
 | x :: l1,[],_,_,h => absurd ((h x).1 List.mem_cons_self) List.not_mem_nil
 | x :: l1,y :: l2,h1,h2,h => by
   obtain ⟨a1,a2⟩ := List.pairwise_cons.1 h1;obtain ⟨b1,b2⟩ := List.pairwise_cons.1 h2
   have e : x = y := by
    rcases List.mem_cons.1 ((h x).1 List.mem_cons_self) with e | hx
    ·exact e
    ·rcases List.mem_cons.1 ((h y).2 List.mem_cons_self) with e | hy
     ·exact e.symm
     ·exact (ha x y (a1 y hy) (b1 x hx)).elim
   subst e;rw [pw_ext ha l1 l2 a2 b2 fun z => ?_]
   constructor
   ·intro hz
    rcases List.mem_cons.1 ((h z).1 (List.mem_cons_of_mem _ hz)) with e | q
    ·subst e;exact (ha z z (a1 z hz) (a1 z hz)).elim
    ·exact q
   ·intro hz
    rcases List.mem_cons.1 ((h z).2 (List.mem_cons_of_mem _ hz)) with e | q
    ·subst e;exact (ha z z (b1 z hz) (b1 z hz)).elim
    ·exact q
theorem range'_pw (a k : Nat) : (List.range' a k).Pairwise (· < ·) := List.pairwise_lt_range'
def restD (t : Tr) (lo hi : Int) (n d : Nat) : List Nat := (List.range' d (n - d)).filter fun e : Nat => okDay t lo hi (e : Int)
theorem restD_all {t : Tr} {lo hi : Int} {n : Nat} (h0 : 0 ≤ lo) (hh : hi < n) : openN t.cl lo hi = restD t lo hi n 0 := by
 refine pw_ext (fun x y h1 h2 => by omega) _ _ ((range'_pw _ _).filter _) ((range'_pw _ _).filter _) fun d => ?_;rw [openN_in h0];unfold restD okDay;rw [List.mem_filter,List.mem_range'_1,decide_eq_true_iff]
 constructor
 ·rintro ⟨a,b,c⟩;exact ⟨⟨Nat.zero_le _,by omega⟩,⟨a,b⟩,c⟩
 ·rintro ⟨-,⟨a,b⟩,c⟩;exact ⟨a,b,c⟩
theorem restD_T {t : Tr} {lo hi : Int} {n d : Nat} (hd : d < n) (h : okDay t lo hi (d : Int) = true) : restD t lo hi n d = d :: restD t lo hi n (d + 1) := by
 unfold restD;rw [show n - d = (n - (d + 1)) + 1 by omega,List.range'_succ];exact List.filter_cons_of_pos h
theorem restD_F {t : Tr} {lo hi : Int} {n d : Nat} (hd : d < n) (h : okDay t lo hi (d : Int) = false) : restD t lo hi n d = restD t lo hi n (d + 1) := by
 unfold restD;rw [show n - d = (n - (d + 1)) + 1 by omega,List.range'_succ];exact List.filter_cons_of_neg (by show ¬ okDay t lo hi (d : Int) = true;rw [h];decide)
theorem restD_end {t : Tr} {lo hi : Int} {n : Nat} : restD t lo hi n n = [] := by unfold restD;rw [Nat.sub_self];rfl
structure PlaceD (W : World) (S sb hb tb n : Nat) (A : Option Addr) (c : Nat) (A2 : Option Addr) (c2 : Nat) (t : Tr) : Prop where
 k0 : W.cell? ⟨sb,0,none⟩ = some (.int .i64 t.n)
 k1 : W.cell? ⟨sb,1,none⟩ = some (.slice A t.cl.length c)
 k2 : W.cell? ⟨sb,2,none⟩ = some (.slice A2 t.fl.length c2)
 k3 : W.cell? ⟨sb,3,none⟩ = some (.slice (some ⟨hb,0,none⟩) n n)
 k4 : W.cell? ⟨sb,4,none⟩ = some (.slice (some ⟨tb,0,none⟩) n n)
 tour : TourS W S (.agg #[.int .i64 t.n,.slice A t.cl.length c,.slice A2 t.fl.length c2]) t
 s : S ≤ hb ∧ S ≤ tb ∧ S ≤ W.heap.size
 ne : sb ≠ hb ∧ sb ≠ tb ∧ hb ≠ tb
section
variable {W V : World} {S sb hb tb n : Nat} {A : Option Addr} {c : Nat} {A2 : Option Addr} {c2 : Nat} {t : Tr}
theorem PlaceD.chg {L : List Nat} (h : PlaceD W S sb hb tb n A c A2 c2 t) (hC : Chg L W V) (hL : ∀ b,b ≠ hb ∧ b ≠ tb → b ∉ L) : PlaceD V S sb hb tb n A c A2 c2 t := by
 obtain ⟨n1,n2,n3⟩ := h.ne;have e := hL sb ⟨n1,n2⟩;refine ⟨Chg.cell hC h.k0 e,Chg.cell hC h.k1 e,Chg.cell hC h.k2 e,Chg.cell hC h.k3 e,Chg.cell hC h.k4 e,h.tour.chg hC fun b hb2 => ?_,⟨h.s.1,h.s.2.1,Nat.le_trans h.s.2.2 hC.size⟩,h.ne⟩
 by_cases q : b = hb ∨ b = tb
 ·have := h.s;omega
 ·exact absurd hb2 (hL b (by omega))
theorem PlaceD.ext (h : PlaceD W S sb hb tb n A c A2 c2 t) (hE : Ext W V) : PlaceD V S sb hb tb n A c A2 c2 t := h.chg ((Chg.refl [] W).ext hE) (fun _ _ => by simp)
theorem PlaceD.put {k i : Nat} {vs : List Value} (h : PlaceD W S sb hb tb n A c A2 c2 t) (p : Put W V k i vs) (hk : k = hb ∨ k = tb) : PlaceD V S sb hb tb n A c A2 c2 t := h.chg p.chg (fun b hb2 => by simp;omega)
end
theorem place_c (t : Tr) (S sb hb tb n : Nat) (A : Option Addr) (c : Nat) (A2 : Option Addr) (c2 : Nat) (hn : n ≤ 60) (hnn : ∃ _u : Unit,t.n = (n : Int)) (hcl : t.cl.length ≤ 1000000000000000) (hfl : t.fl.length ≤ 1000) (hfd : ∀ k (h : k < t.fl.length),0 ≤ t.fl[k].lo ∧ t.fl[k].hi < n) :
  ∀ (f i : Nat) (h : Nat → Int) (tr : Nat → Bool) (w : World),untr n tr < f → i < t.fl.length → (∀ d,h d < t.fl.length) → PlaceD w S sb hb tb n A c A2 c2 t → RowF w hb n h → RowT w tb n tr →
  CallsV Tryz.prog 170 #[.pointer (some ⟨sb,0,none⟩),.int .i64 (i : Int)] w fun v w' =>
   v = .bool (giveF t.N f i h tr).1 ∧ RowF w' hb n (giveF t.N f i h tr).2.1 ∧ RowT w' tb n (giveF t.N f i h tr).2.2 ∧ Chg [hb,tb] w w'
 | 0,_,_,_,_,h0,_,_,_,_,_ => absurd h0 (Nat.not_lt_zero _)
 | f + 1,i,h,tr,w,hun,hi,hhl,hD,hR,hT => by
   have IH := place_c t S sb hb tb n A c A2 c2 hn hnn hcl hfl hfd f;obtain ⟨m1,m2,m3⟩ := hD.ne;obtain ⟨s1,s2,s3⟩ := hD.s;have hFS : FlawsS w S (.slice A2 t.fl.length c2) t.fl := ⟨by obtain ⟨cv,fv,e,h1,h2⟩ := hD.tour.v;injection e with e;simp only [Array.mk.injEq,List.cons.injEq,and_true] at e;obtain ⟨-,rfl,rfl⟩ := e;exact h2⟩;obtain ⟨b4,o4,rfl,hb4,x0,x1,x2,x3⟩ := FlawsV.at hFS.v hi;obtain ⟨F,hF⟩ : ∃ F,∃ _u : Unit,t.fl[i] = F := ⟨_,(),rfl⟩;have hsp := hfd i hi;rw [hF.choose_spec] at x0 x1 x2 x3 hsp;obtain ⟨R,hRR⟩ : ∃ R,∃ _u : Unit,giveF t.N (f + 1) i h tr = R ∧ loopF (giveF t.N f) i (restD t F.lo F.hi n 0) h tr = R := ⟨_,(),rfl,by rw [← restD_all hsp.1 hsp.2];show loopF _ _ _ _ _ = loopF _ _ (t.N i) _ _;rw [trN_at hi,hF.choose_spec]⟩;rw [hRR.choose_spec.1];have y0 := hD.k0;have y1 := hD.k1;have y2 := hD.k2;have y3 := hD.k3;have y4 := hD.k4;have hii : (i : Int) < (t.fl.length : Int) := by omega
   have hfl4 : ∃ _u : Unit,flV F = .agg #[.int .i64 F.id,.int .i64 F.lo,.int .i64 F.hi,.int .i64 F.m] := ⟨(),rfl⟩;replace hhl : ∃ _u : Unit,_ := ⟨(),hhl⟩;clear hFS;refine Wp.fn Tryz.func170 rfl Tryz.ntmps170 (by simp) ?_;have xw := Ext.refl w;refine Wp.keep [0,1] ?_;rintro r1 ⟨D,M,-⟩;simp [go_sem] at D M;have xg := Chg.refl [hb,tb] w;refine sRg fun K' gd hK => ?_;go_simp;apply hK;clear hK K' gd;refine Wp.keep [0,1] ?_;rintro r2 ⟨G,Q,-⟩;simp [go_sem,D,M] at G Q;clear D M;refine Wp.seq ?_;refine sRg fun K' gd hK => ?_;go_simp;apply hK;clear hK K' gd;refine Wp.keep [0,1,5] ?_;rintro r3 ⟨x,B,az,-⟩;simp [go_sem,G,Q] at x B az;clear G Q;refine Wp.block ?_;refine Wp.loop (fun d ρ ds wd => AllEq [0,1] ρ r3 ∧ ds = [] ∧ (Chg [hb,tb] w wd) ∧ (∃ (h1 : Nat → Int) (t1 : Nat → Bool),ρ 5 = .int .i64 (d : Int) ∧ RowF wd hb n h1 ∧ RowT wd tb n t1 ∧ (∃ _u : Unit,loopF (giveF t.N f) i (restD t F.lo F.hi n d) h1 t1 = R ∧ untr n t1 ≤ f ∧ ∀ d,h1 d < t.fl.length))) (n) ?_ ?_
   ·refine ⟨AllEq.refl _ _,rfl,Chg.refl _ _,?_⟩;exact ⟨h,tr,by rw [az];rfl,hR,hT,(),hRR.choose_spec.2,by omega,hhl.choose_spec⟩
   ·rintro d r4 _ wd hd ⟨hA,rfl,xl2,⟨h1,t1,e5,hR1,hT1,hq⟩⟩;obtain ⟨z,C,-⟩ := hA;rw [x] at z;rw [B] at C;replace hD := hD.chg xl2 XB;clear xw;replace xg := Chg.more xg xl2 (by intro b hm;simp only [List.mem_cons,List.not_mem_nil,or_false] at hm;first | (left;omega) | (right;simp [hm];done) | (rcases hm with hm | hm <;> first | (left;omega) | (right;simp [hm])));replace y0 := Chg.cell xl2 y0 XN;replace y1 := Chg.cell xl2 y1 XN;replace y2 := Chg.cell xl2 y2 XN;replace y3 := Chg.cell xl2 y3 XN;replace y4 := Chg.cell xl2 y4 XN;replace x0 := Chg.cell xl2 x0 XN;replace x1 := Chg.cell xl2 x1 XN;replace x2 := Chg.cell xl2 x2 XN;replace x3 := Chg.cell xl2 x3 XN
    by_cases hdn : d < n
    ·skip;have hdl : (d : Int) < t.n := by have := hnn.choose_spec;omega
     have hdl2 : (d : Int) < (n : Int) := by omega
     refine Wp.seq ?_;refine sRg fun K' gd hK => ?_;go_simp;apply hK;clear hK K' gd;refine Wp.keep [0,1,5,12] ?_;rintro r5 ⟨g,p,u,l,-⟩;simp [go_sem,z,C,e5] at g p u l;clear z C e5;refine cTt ?_;have z1 := hT1.c d hdn;have z2 := hR1.c d hdn
     by_cases ho : okDay t F.lo F.hi (d : Int) = true
     ·skip;have hq0 : ∃ _u : Unit,loopF (giveF t.N f) i (d :: restD t F.lo F.hi n (d + 1)) h1 t1 = R := ⟨(),by rw [← restD_T hdn ho];exact hq.choose_spec.1⟩
      by_cases ht : t1 d = true
      ·skip;rw [ht] at z1;refine skN ?_;refine sBk ?_;refine Wp.seq ?_;refine Wp.seqDraw (.inl rfl) mixed [([0,1,2,3,4],none),([5,6,7,8,9],none),([10,11,12],some (13,false)),([14,15],none),([16,17,18,19,20],none),([21,22,23],none)] (by kernel_rfl) fun K' gd hK hg => ?_;have g15 : gd 15 = some 30 := hg 15;clear hg;simp only [pick,nth,List.map_cons,List.map_nil,Option.map_none,Option.map_some];refine Mops.absD fun D3 hD3 zD3 => ?_;replace hD := hD.ext hD3;replace hR1 := hR1.ext hD3;replace hT1 := hT1.ext hD3;replace xg := Chg.ext xg hD3;replace xl2 := Chg.ext xl2 hD3;replace y0 := hD3.cell y0;replace y1 := hD3.cell y1;replace y2 := hD3.cell y2;replace y4 := hD3.cell y4;replace x0 := hD3.cell x0;replace x1 := hD3.cell x1;replace x2 := hD3.cell x2;replace x3 := hD3.cell x3;replace z1 := hD3.cell z1;clear hD3;refine mNo ?_
       refine mNo ?_
       refine mAc ?_
       intro K1 hK1;go_simp;refine Wcall (.inl rfl) ((by have q := rmay_c t F (d : Int) (.agg #[.int .i64 t.n,.slice A t.cl.length c,.slice (some ⟨b4,o4,none⟩) t.fl.length c2]) _ (hD.tour.v.more hD.s.2.2) hcl;rw [hfl4.choose_spec,ho] at q;exact q)) ?_;rintro v w3 ⟨rfl,hE⟩;go_simp;refine hK1 _ _ (by assumption) ?_;clear hK1 K1;replace hR1 := hR1.ext hE;replace hT1 := hT1.ext hE;replace xg := Chg.ext xg hE;replace xl2 := Chg.ext xl2 hE;replace y4 := hE.cell y4;replace z1 := hE.cell z1;clear hE;apply Mops.none
       ·intro w' hE';go_simp;with_reducible rfl
       refine mNo ?_
       refine mNo ?_
       refine Mops.done ?_;apply hK;clear hK K' gd g15;refine Wp.keep [0,1,5,38] ?_;rintro r7 ⟨K,W,ae,Z,-⟩;simp [go_sem,g,p,u,l] at K W ae Z;clear g p u l;refine cTt ?_;refine Wp.exit ?_;refine tEx ?_;refine blockK_here ?_;refine tNo ?_;refine lRg fun K' gd hK => ?_;go_simp;apply hK;clear hK K' gd;refine Ends.keep [0,1,5] ?_;rintro r8 ⟨ak,ap,aA,-⟩;simp [go_sem,K,W,ae,Z] at ak ap aA;clear K W ae Z;refine Ends.mk ?_;refine thenK_normal ⟨by omega,⟨by rw [ak,x],by rw [ap,B],trivial⟩,rfl,xl2,?_⟩;exact ⟨h1,t1,by rw [aA,IntWalk.i64_in _ (by omega)];rfl,hR1,hT1,(),by rw [← hq0.choose_spec,loopF,if_pos ht],hq.choose_spec.2⟩
      ·skip;have ht2 : t1 d = false := by simpa using ht
       rw [ht2] at z1;refine skN ?_;refine sBk ?_;refine Wp.seq ?_;refine Wp.seqDraw (.inl rfl) mixed [([0,1,2,3,4],none),([5,6,7,8,9],none),([10,11,12],some (13,false)),([14,15],none),([16,17,18,19,20],none),([21,22,23],none)] (by kernel_rfl) fun K' gd hK hg => ?_;have g15 : gd 15 = some 30 := hg 15;clear hg;simp only [pick,nth,List.map_cons,List.map_nil,Option.map_none,Option.map_some];refine Mops.absD fun D4 hD4 zD4 => ?_;replace hD := hD.ext hD4;replace hR1 := hR1.ext hD4;replace hT1 := hT1.ext hD4;replace xg := Chg.ext xg hD4;replace xl2 := Chg.ext xl2 hD4;replace y0 := hD4.cell y0;replace y1 := hD4.cell y1;replace y2 := hD4.cell y2;replace y3 := hD4.cell y3;replace y4 := hD4.cell y4;replace x0 := hD4.cell x0;replace x1 := hD4.cell x1;replace x2 := hD4.cell x2;replace x3 := hD4.cell x3;replace z1 := hD4.cell z1;replace z2 := hD4.cell z2;clear hD4;refine mNo ?_
       refine mNo ?_
       refine mAc ?_
       intro K1 hK1;go_simp;refine Wcall (.inl rfl) ((by have q := rmay_c t F (d : Int) (.agg #[.int .i64 t.n,.slice A t.cl.length c,.slice (some ⟨b4,o4,none⟩) t.fl.length c2]) _ (hD.tour.v.more hD.s.2.2) hcl;rw [hfl4.choose_spec,ho] at q;exact q)) ?_;rintro v w3 ⟨rfl,hE⟩;go_simp;refine hK1 _ _ (by assumption) ?_;clear hK1 K1;replace hD := hD.ext hE;replace hR1 := hR1.ext hE;replace hT1 := hT1.ext hE;replace xg := Chg.ext xg hE;replace xl2 := Chg.ext xl2 hE;replace y3 := hE.cell y3;replace y4 := hE.cell y4;replace z1 := hE.cell z1;replace z2 := hE.cell z2;clear hE;apply Mops.none
       ·intro w' hE';go_simp;with_reducible rfl
       refine mNo ?_
       refine mNo ?_
       refine Mops.done ?_;apply hK;clear hK K' gd g15;refine Wp.keep [0,1,5,38] ?_;rintro r10 ⟨E,O,aa,X,-⟩;simp [go_sem,g,p,u,l] at E O aa X;clear g p u l;refine cFf ?_;have ft := hT1.fz;refine skN ?_;refine sRg fun K' gd hK => ?_;refine cu7 fun K1 hK1 => ?_;go_simp;apply hK1;clear hK1 K1;refine Wops.absS (b := tb) (i := d) [_] (hT1.some hdn) fun P1 hP1 => ?_;replace hD := hD.put hP1 (by omega);replace hR1 := hR1.put hP1 (by omega);replace xg := Put.more xg hP1 (.inr (by simp));replace xl2 := Put.more xl2 hP1 (.inr (by simp));replace y3 := hP1.cell y3 (by omega);replace z2 := hP1.cell z2 (by omega);try simp only [Wops_nil,updO_some,updO_none]
       apply hK;clear hK K' gd;refine Wp.keep [0,1,5] ?_;rintro r11 ⟨a,o,r,-⟩;simp [go_sem,E,O,aa,X] at a o r;clear E O aa X;have hT2 : RowT P1 tb n (markT t1 d) := hT1.mark hP1
       by_cases hneg : h1 d < 0
       ·skip;refine sRh fun K' gd hK hg => ?_;have g8 : gd 8 = some 53 := hg 8;clear hg;refine cu18 fun K1 hK1 => ?_;go_simp;apply hK1;clear hK1 K1;go_simp;apply hK;clear hK K' gd g8;refine Wp.keep [0,1,5,63] ?_;rintro r12 ⟨ag,al,av,aB,-⟩;simp [go_sem,a,o,r] at ag al av aB;clear a o r;refine cTt ?_;have fh := hR1.fz;refine sRg fun K' gd hK => ?_;refine cu8 fun K1 hK1 => ?_;go_simp;apply hK1;clear hK1 K1;refine Wops.absS (b := hb) (i := d) [_] (hR1.some hdn) fun P2 hP2 => ?_;replace hT2 := hT2.put hP2 (by omega);replace xg := Put.more xg hP2 (.inr (by simp));replace xl2 := Put.more xl2 hP2 (.inr (by simp));try simp only [Wops_nil,updO_some,updO_none]
        apply hK;clear hK K' gd;refine Wp.keep [] fun r13 hkeep => ?_;clear hkeep;clear ag al av aB;have hR2 : RowF P2 hb n (updI h1 d i) := hR1.store hP2;have hRe : ∃ _u : Unit,R = (true,updI h1 d i,markT t1 d) := ⟨(),by rw [← hq0.choose_spec,loopF,if_neg ht,if_pos hneg]⟩;refine sRg fun K' gd hK => ?_;go_simp;apply hK;clear hK K' gd;refine Wp.keep [4] ?_;rintro r14 ⟨aq,-⟩;simp [go_sem] at aq;refine Wp.ret ?_;refine bRe ?_;refine tRe ?_;refine tRe ?_;refine bRe ?_;refine tRe ?_;refine endK_tmp Tryz.results170 (by decide) ?_;rw [aq];exact ⟨by rw [hRe.choose_spec],by rw [hRe.choose_spec];exact hR2,by rw [hRe.choose_spec];exact hT2,xg⟩
       ·skip;obtain ⟨j,hj⟩ : ∃ j : Nat,∃ _u : Unit,h1 d = (j : Int) ∧ j < t.fl.length := ⟨(h1 d).toNat,(),by omega,by have := hq.choose_spec.2.2 d;omega⟩;rw [hj.choose_spec.1] at z2;have hjn : ¬ (j : Int) < 0 := by omega
        have hu2 : ∃ _u : Unit,untr n (markT t1 d) < f := ⟨(),by have := untr_mark hdn ht2;have := hq.choose_spec.2.1;omega⟩;obtain ⟨r1,hr1⟩ : ∃ r1,∃ _u : Unit,giveF t.N f (j : Int) h1 (markT t1 d) = r1 := ⟨_,(),rfl⟩;have hstep : ∃ _u : Unit,(if r1.1 = true then (true,updI r1.2.1 d i,r1.2.2) else loopF (giveF t.N f) i (restD t F.lo F.hi n (d + 1)) r1.2.1 r1.2.2) = R := ⟨(),by rw [← hq0.choose_spec,loopF,if_neg ht,if_neg hneg];dsimp only;rw [hj.choose_spec.1,hr1.choose_spec]⟩
        by_cases hb1 : r1.1 = true
        ·skip;refine sRh fun K' gd hK hg => ?_;have g8 : gd 8 = some 53 := hg 8;clear hg;refine cu18 fun K1 hK1 => ?_;go_simp;refine Wcall (.inl rfl) (IH j h1 (markT t1 d) _ hu2.choose_spec hj.choose_spec.2 hq.choose_spec.2.2 hD hR1 hT2) ?_;rintro v w5 ⟨hv,hR3,hT3,hC⟩;rw [hr1.choose_spec] at hv hR3 hT3;rw [hb1] at hv;subst hv;go_simp;apply hK1;clear hK1 K1;replace xg := Chg.more xg hC (by intro b hm;simp only [List.mem_cons,List.not_mem_nil,or_false] at hm;first | (left;omega) | (right;simp [hm];done) | (rcases hm with hm | hm <;> first | (left;omega) | (right;simp [hm])));replace xl2 := Chg.more xl2 hC (by intro b hm;simp only [List.mem_cons,List.not_mem_nil,or_false] at hm;first | (left;omega) | (right;simp [hm];done) | (rcases hm with hm | hm <;> first | (left;omega) | (right;simp [hm])));replace y3 := Chg.cell hC y3 XN;go_simp;apply hK;clear hK K' gd g8;refine Wp.keep [0,1,5,63] ?_;rintro r16 ⟨ah,am,aw,aC,-⟩;simp [go_sem,a,o,r] at ah am aw aC;clear a o r;refine cTt ?_;have z3 := hR3.c d hdn;have fh := hR3.fz;refine sRg fun K' gd hK => ?_;refine cu8 fun K1 hK1 => ?_
         go_simp;apply hK1;clear hK1 K1;refine Wops.absS (b := hb) (i := d) [_] (hR3.some hdn) fun P2 hP2 => ?_;replace hT3 := hT3.put hP2 (by omega);replace xg := Put.more xg hP2 (.inr (by simp));replace xl2 := Put.more xl2 hP2 (.inr (by simp));try simp only [Wops_nil,updO_some,updO_none]
         apply hK;clear hK K' gd;refine Wp.keep [] fun r17 hkeep => ?_;clear hkeep;clear ah am aw aC;have hR4 : RowF P2 hb n (updI r1.2.1 d i) := hR3.store hP2;have hRe : ∃ _u : Unit,R = (true,updI r1.2.1 d i,r1.2.2) := ⟨(),by rw [← hstep.choose_spec,if_pos hb1]⟩;refine sRg fun K' gd hK => ?_;go_simp;apply hK;clear hK K' gd;refine Wp.keep [4] ?_;rintro r18 ⟨ar,-⟩;simp [go_sem] at ar;refine Wp.ret ?_;refine bRe ?_;refine tRe ?_;refine tRe ?_;refine bRe ?_;refine tRe ?_;refine endK_tmp Tryz.results170 (by decide) ?_;rw [ar];exact ⟨by rw [hRe.choose_spec],by rw [hRe.choose_spec];exact hR4,by rw [hRe.choose_spec];exact hT3,xg⟩
        ·skip;refine sRh fun K' gd hK hg => ?_;have g8 : gd 8 = some 53 := hg 8;clear hg;refine cu18 fun K1 hK1 => ?_;go_simp;refine Wcall (.inl rfl) (IH j h1 (markT t1 d) _ hu2.choose_spec hj.choose_spec.2 hq.choose_spec.2.2 hD hR1 hT2) ?_;rintro v w5 ⟨hv,hR3,hT3,hC⟩;rw [hr1.choose_spec] at hv hR3 hT3;rw [show r1.1 = false by simpa using hb1] at hv;subst hv;go_simp;apply hK1;clear hK1 K1;replace xg := Chg.more xg hC (by intro b hm;simp only [List.mem_cons,List.not_mem_nil,or_false] at hm;first | (left;omega) | (right;simp [hm];done) | (rcases hm with hm | hm <;> first | (left;omega) | (right;simp [hm])));replace xl2 := Chg.more xl2 hC (by intro b hm;simp only [List.mem_cons,List.not_mem_nil,or_false] at hm;first | (left;omega) | (right;simp [hm];done) | (rcases hm with hm | hm <;> first | (left;omega) | (right;simp [hm])));go_simp;apply hK;clear hK K' gd g8;refine Wp.keep [0,1,5,63] ?_;rintro r20 ⟨H,T,ab,af,-⟩;simp [go_sem,a,o,r] at H T ab af;clear a o r;refine cFf ?_;refine Wp.skip ?_;refine bNo ?_;refine tNo ?_;refine lRg fun K' gd hK => ?_;go_simp;apply hK;clear hK K' gd;refine Ends.keep [0,1,5] fun r21 hkeep => ?_
         obtain ⟨ai,an,ax,-⟩ := hkeep;simp [go_sem,H,T,ab,af] at ai an ax;clear H T ab af;refine Ends.mk ?_;refine thenK_normal ⟨by omega,⟨by rw [ai,x],by rw [an,B],trivial⟩,rfl,xl2,?_⟩;exact ⟨r1.2.1,r1.2.2,by rw [ax,IntWalk.i64_in _ (by omega)];rfl,hR3,hT3,(),by rw [← hstep.choose_spec,if_neg hb1],by have g1 := hu2.choose_spec;have g2 := untr_le (n := n) (t := markT t1 d) (t2 := r1.2.2) (fun e he => by rw [← hr1.choose_spec];exact giveF_mono f j h1 _ e he);omega,by rw [← hr1.choose_spec];exact giveF_vals (P := fun y => y < (t.fl.length : Int)) f j h1 _ (by have := hj.choose_spec.2;omega) hq.choose_spec.2.2⟩
     ·skip;have ho2 : okDay t F.lo F.hi (d : Int) = false := by simpa using ho
      refine skN ?_;refine sBk ?_;refine Wp.seq ?_;refine Wp.seqDraw (.inl rfl) mixed [([0,1,2,3,4],none),([5,6,7,8,9],none),([10,11,12],some (13,false)),([14,15],none),([16,17,18,19,20],none),([21,22,23],none)] (by kernel_rfl) fun K' gd hK hg => ?_;have g15 : gd 15 = some 30 := hg 15;clear hg;simp only [pick,nth,List.map_cons,List.map_nil,Option.map_none,Option.map_some];refine Mops.absD fun D8 hD8 zD8 => ?_;replace hD := hD.ext hD8;replace hR1 := hR1.ext hD8;replace hT1 := hT1.ext hD8;replace xg := Chg.ext xg hD8;replace xl2 := Chg.ext xl2 hD8;replace y0 := hD8.cell y0;replace y1 := hD8.cell y1;replace y2 := hD8.cell y2;replace x0 := hD8.cell x0;replace x1 := hD8.cell x1;replace x2 := hD8.cell x2;replace x3 := hD8.cell x3;clear hD8;refine mNo ?_
      refine mNo ?_
      refine mAc ?_
      intro K1 hK1;go_simp;refine Wcall (.inl rfl) ((by have q := rmay_c t F (d : Int) (.agg #[.int .i64 t.n,.slice A t.cl.length c,.slice (some ⟨b4,o4,none⟩) t.fl.length c2]) _ (hD.tour.v.more hD.s.2.2) hcl;rw [hfl4.choose_spec,ho2] at q;exact q)) ?_;rintro v w3 ⟨rfl,hE⟩;go_simp;refine hK1 _ _ (by assumption) ?_;clear hK1 K1;replace hR1 := hR1.ext hE;replace hT1 := hT1.ext hE;replace xg := Chg.ext xg hE;replace xl2 := Chg.ext xl2 hE;clear hE;apply Mops.none
      ·intro w' hE';go_simp;with_reducible rfl
      apply Mops.none
      ·intro w' hE';go_simp;with_reducible rfl
      apply Mops.none
      ·intro w' hE';go_simp;with_reducible rfl
      refine Mops.done ?_;apply hK;clear hK K' gd g15;refine Wp.keep [0,1,5,38] ?_;rintro r23 ⟨I,U,ac,Y,-⟩;simp [go_sem,g,p,u,l] at I U ac Y;clear g p u l;refine cTt ?_;refine Wp.exit ?_;refine tEx ?_;refine blockK_here ?_;refine tNo ?_;refine lRg fun K' gd hK => ?_;go_simp;apply hK;clear hK K' gd;refine Ends.keep [0,1,5] ?_;rintro r24 ⟨aj,ao,ay,-⟩;simp [go_sem,I,U,ac,Y] at aj ao ay;clear I U ac Y;refine Ends.mk ?_;refine thenK_normal ⟨by omega,⟨by rw [aj,x],by rw [ao,B],trivial⟩,rfl,xl2,?_⟩;exact ⟨h1,t1,by rw [ay,IntWalk.i64_in _ (by omega)];rfl,hR1,hT1,(),by rw [← restD_F hdn ho2];exact hq.choose_spec.1,hq.choose_spec.2⟩
    ·skip;obtain rfl : d = n := by omega
     have hdl : ¬ (d : Int) < t.n := by have := hnn.choose_spec;omega
     have hRe : ∃ _u : Unit,R = (false,h1,t1) := ⟨(),by have := hq.choose_spec.1;rw [restD_end] at this;exact this.symm⟩;refine Wp.seq ?_;refine sRg fun K' gd hK => ?_;go_simp;apply hK;clear hK K' gd;refine Wp.keep [0,1,5,12] ?_;rintro r25 ⟨J,V,ad,L,-⟩;simp [go_sem,z,C,e5] at J V ad L;clear z C e5;refine cFf ?_;refine Wp.exit ?_;refine tEx ?_;refine tEx ?_;refine blockK_here ?_;refine tNo ?_;refine sRg fun K' gd hK => ?_;go_simp;apply hK;clear hK K' gd;refine Wp.keep [4] ?_;rintro r26 ⟨au,-⟩;simp [go_sem,J,V,ad,L] at au;clear J V ad L;refine Wp.ret ?_;refine endK_tmp Tryz.results170 (by decide) ?_;rw [au];exact ⟨by rw [hRe.choose_spec],by rw [hRe.choose_spec];exact hR1,by rw [hRe.choose_spec];exact hT1,xg⟩
theorem app_noneI (w : World) (ty : TypeId) (A : Option Addr) (n c k : Nat) (h : n ≤ c) : (Builtin.append_ #[22,22] ty #[.slice A n c,.slice none 0 k]).run Tryz.prog w = .ok (.slice A n c) w := by
 simp [Builtin.append_,go_sem,h]
 cases A <;> rfl
theorem own_cap {w : World} {base e size n c k : Nat} {A : Option Addr} {xs : List Value} (h : w.ownsRow base e size (.slice A n c) k xs) : n = k ∧ n ≤ c := by
 rcases h.2 with ⟨e,hn⟩ | ⟨g,cap,cur,e,hb,hg,hnc,-⟩
 ·injection e with e1 e2 e3;omega
 ·injection e with e1 e2 e3;subst e2;subst e3;exact ⟨rfl,hnc⟩
theorem app0I {w : World} {base c n k : Nat} {A : Option Addr} {xs : List Value} (ty : TypeId) (h : w.ownsRow base 3 1 (.slice A n c) k xs) :
  ∃ v' w',(Builtin.append_ #[22,22] ty #[.slice A n c,.slice none 0 0]).run Tryz.prog w = .ok v' w' ∧ w'.ownsRow base 3 1 v' k xs ∧ w.grownBy w' (Value.slice A n c).ownBlock ∧ True :=
 ⟨_,w,app_noneI w ty A n c 0 (own_cap h).2,h,⟨rfl,rfl,rfl,Nat.le_refl _,fun _ _ _ => rfl⟩,trivial⟩
theorem newsT {w : World} {b o : Nat} {l : List Int} (hc : ∀ k,k < l.length → w.cell? ⟨b,o + k,none⟩ = some (.int .i64 (gI l k))) (k : Nat) : ∀ q u,((l.take k).map (Value.int .i64))[q]? = some u → w.cell? ((⟨b,o,none⟩ : Addr).add q) = some u := by
 intro q u hu;rw [List.getElem?_map,List.getElem?_take] at hu
 by_cases hq : q < k
 ·rw [if_pos hq] at hu;obtain ⟨x,hx,rfl⟩ := Option.map_eq_some_iff.1 hu;obtain ⟨hql,hx2⟩ := List.getElem?_eq_some_iff.1 hx;rw [Addr.add_lit,hc q hql,gI_lt hql,hx2]
 ·rw [if_neg hq] at hu;cases hu
theorem newsD {w : World} {b o : Nat} {l : List Int} (hc : ∀ k,k < l.length → w.cell? ⟨b,o + k,none⟩ = some (.int .i64 (gI l k))) (k : Nat) : ∀ q u,((l.drop k).map (Value.int .i64))[q]? = some u → w.cell? ((⟨b,o + k,none⟩ : Addr).add q) = some u := by
 intro q u hu;rw [List.getElem?_map,List.getElem?_drop] at hu;obtain ⟨x,hx,rfl⟩ := Option.map_eq_some_iff.1 hu;obtain ⟨hql,hx2⟩ := List.getElem?_eq_some_iff.1 hx;rw [Addr.add_lit,Nat.add_assoc,hc (k + q) hql,gI_lt hql,hx2]
end Go.Proofs.YtnklbepeoicgpaaGreat
namespace Go.Proofs.YtnklbepeoicgpaaGreat
open Go.Wk Go.Proofs
set_option maxHeartbeats 8000000
theorem sumN_at {i : Nat} {W : Nat → Int} : ∀ m,sumN (fun j => if i = j then W j else 0) m = if i < m then W i else 0
 | 0 => by rw [if_neg (by omega)];rfl
 | m + 1 => by
   show sumN _ m + (if i = m then W m else 0) = _
   rw [sumN_at m]
   by_cases h : i = m
   ·subst h;rw [if_neg (by omega),if_pos rfl,if_pos (by omega)];omega
   ·rw [if_neg h]
    by_cases h2 : i < m
    ·rw [if_pos h2,if_pos (by omega)];omega
    ·rw [if_neg h2,if_neg (by omega)];rfl
theorem worth_one {W : Int → Int} {g h : Nat → Int} {n m i : Nat} (hg : ∀ d,d < n → g d < m) (hh : ∀ d,d < n → h d < m) (hi : i < m) (hc : ∀ j : Nat,cntN g (j : Int) n = cntN h (j : Int) n + if i = j then 1 else 0) :
  worthW W g n = worthW W h n + W i := by
 rw [worth_cnt (m := m) n hg,worth_cnt (m := m) n hh]
 have e : sumN (fun j => cntN g (j : Int) n * W (j : Int)) m = sumN (fun j => cntN h (j : Int) n * W (j : Int) + if i = j then W (j : Int) else 0) m := sumN_eq m fun j _ => by
  rw [hc,Int.add_mul]
  congr 1
  split
  ·rw [Int.one_mul]
  ·rw [Int.zero_mul]
 rw [e,sumN_add,sumN_at (W := fun j => W (j : Int)),if_pos hi]
theorem planF_snoc {N : Int → List Nat} {n k : Nat} {l : List Int} (hk : k < l.length) : planF N n (l.take (k + 1)) = addF N n (planF N n (l.take k)) (gI l k) := by
 unfold planF;rw [take_snoc hk,List.foldl_append,gI_lt hk]
 rfl
theorem best_step {t : Tr} {n k i : Nat} (h : OptT t n) (hk : k < (ordL t.fl).length) (hi : gI (ordL t.fl) k = (i : Int)) :
  (addR t.N n (planF t.N n ((ordL t.fl).take k)) i).2.1 = planF t.N n ((ordL t.fl).take (k + 1)) ∧
  worthN t.fl (planF t.N n ((ordL t.fl).take (k + 1))) n = worthN t.fl (planF t.N n ((ordL t.fl).take k)) n + (if (addR t.N n (planF t.N n ((ordL t.fl).take k)) i).1 = true then mAt t.fl i else 0) ∧
  ∀ d,planF t.N n ((ordL t.fl).take k) d < t.fl.length := by
 have hN := trN_lt h.span
 have hC : PlanC t.N n t.fl.length (fun a b => mAt t.fl b ≤ mAt t.fl a) ((ordL t.fl).take k) (planF t.N n ((ordL t.fl).take k)) :=
  planF_C hN ((ordL_nodup t.fl).sublist (List.take_sublist _ _)) ((ordL_sorted t.fl).sublist (List.take_sublist _ _)) fun _ hx => ordL_mem.1 (List.mem_of_mem_take hx)
 rw [gI_lt hk] at hi
 have him : i < t.fl.length := by
  obtain ⟨q,e,hq⟩ := ordL_mem.1 (List.getElem_mem hk);rw [hi] at e;omega
 have hnot : ((i : Nat) : Int) ∉ (ordL t.fl).take k := by
  have hnd := ordL_nodup t.fl;rw [← List.take_append_drop k (ordL t.fl),List.drop_eq_getElem_cons hk,hi] at hnd;intro hm;exact (List.nodup_append.1 hnd).2.2 _ hm _ List.mem_cons_self rfl
 have h0 : cntN (planF t.N n ((ordL t.fl).take k)) (i : Int) n = 0 := Decidable.byContradiction fun hc => hnot (hC.only i hc);rw [planF_snoc hk,gI_lt hk,hi,worthN_W,worthN_W];refine ⟨?_,?_,fun d => (hC.ok.lt d).2⟩
 ·unfold addF
  split
  ·rfl
  ·rename_i hb
   exact (addR_R (i := i) hN hC.ok).same (by simpa using hb)
 ·cases hb : addB t.N n (planF t.N n ((ordL t.fl).take k)) i with
  | true =>
    obtain ⟨a1,a2⟩ := add_true hN hC.ok him h0 hb;have hb2 : (addR t.N n (planF t.N n ((ordL t.fl).take k)) i).1 = true := hb;rw [if_pos hb2,worth_one (fun d _ => (a1.lt d).2) (fun d _ => (hC.ok.lt d).2) him a2]
  | false =>
    have hb2 : (addR t.N n (planF t.N n ((ordL t.fl).take k)) i).1 = false := hb;rw [hb2,(add_false hN hC.ok him h0 hb).1,if_neg (by decide),Int.add_zero]
theorem worthN_leC {fl : List Fl} {C : Int} (h0 : 0 ≤ C) (hm : ∀ k (h : k < fl.length),0 ≤ fl[k].m ∧ fl[k].m ≤ C) (h : Nat → Int) : ∀ k,0 ≤ worthN fl h k ∧ worthN fl h k ≤ C * (k : Int)
 | 0 => ⟨Int.le_refl _,by simp [worthN]⟩
 | k + 1 => by
   have ih := worthN_leC h0 hm h k
   have hx : 0 ≤ mAt fl (h k) ∧ mAt fl (h k) ≤ C := by
    unfold mAt
    cases e : fl[(h k).toNat]? with
    | none => exact ⟨Int.le_refl _,h0⟩
    | some f => obtain ⟨hk,rfl⟩ := List.getElem?_eq_some_iff.1 e;exact hm _ hk
   have e : C * ((k + 1 : Nat) : Int) = C * (k : Int) + C := by rw [Int.natCast_add,Int.mul_add];omega
   unfold worthN;rw [e]
   split <;> omega
theorem worthN_noPlan (fl : List Fl) (n : Nat) : worthN fl noPlan n = 0 := by rw [worthN_W];exact worth_no n
end Go.Proofs.YtnklbepeoicgpaaGreat
