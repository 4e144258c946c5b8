/- The chapter's examples: head. Small lemmas of the laws. What the greatest plan is worth: other names of the flaws, fewer days, a day that is taken. What a tour's best mending is worth: the greatest plan; with a day closed or open, without flaws, on a day. Days for the flaws and plans; spans that prove a mending. Plain laws of the best mending: exchange, parts, gains, days. Plain law of a further flaw. Plain laws at right tours: gains, wider days, places of flaws. Plain laws of parts: flaws of a list, and a turned order. Plain laws of days: Earliest is a best mending; its first day. Plain laws  -/
import Derived.Test.YtnklbepeoicgpaaGreatA4
import Derived.Test.YtnklbepeoicgpaaGreatA3
set_option linter.all false
namespace Go.Proofs.YtnklbepeoicgpaaGreat
open Go.RowKit Go.Wk Go.Proofs
attribute [local irreducible] Go.Wk.Wops Go.Wk.Wp Go.Wk.Mtree Go.Wk.Mops
set_option maxHeartbeats 8000000
set_option maxRecDepth 20000
theorem rowC_ints {W : World} {b n : Nat} {t : TypeId} {xs : List Int} {cs : List Value} (h : RowC W b t cs) (hcs : cs = xs.map (Value.int .i64)) (hn : xs.length = n) : IntsV W W.heap.size (.slice (some ⟨b,0,none⟩) n n) xs := by
 subst hcs;subst hn;exact RowI.all ⟨t,h⟩ (Nat.le_refl _)
theorem sameI_T {x y : Value} {xs ys : List Int} (he : xs = ys) (w : World) (hx : IntsV w w.heap.size x xs) (hy : IntsV w w.heap.size y ys) (hl : xs.length ≤ 1000000000000000) :
  CallsV Tryz.prog 36 #[x,y] w fun v w' => v = .bool true ∧ Ext w w' :=
 (sameInts_c x y xs ys w hx hy hl).mono fun v w' ⟨h1,h2⟩ => ⟨by rw [h1,decide_eq_true he],h2⟩
theorem sameLi_T {x y : Value} {xs ys : List (List Int)} (he : xs = ys) (w : World) (hx : ListsV w w.heap.size x xs) (hy : ListsV w w.heap.size y ys) (hl : xs.length ≤ 1000000000000000) (hl2 : ∀ l ∈ xs,l.length ≤ 1000000000000000) :
  CallsV Tryz.prog 49 #[x,y] w fun v w' => v = .bool true ∧ Ext w w' :=
 (sameLists_c x y xs ys w hx hy hl hl2).mono fun v w' ⟨h1,h2⟩ => ⟨by rw [h1,decide_eq_true he],h2⟩
theorem list_one {W : World} {b k n : Nat} {t : TypeId} {xs : List Int} (h : RowC W b t [.slice (some ⟨k,0,none⟩) n n]) (hI : IntsV W W.heap.size (.slice (some ⟨k,0,none⟩) n n) xs) : ListsV W W.heap.size (.slice (some ⟨b,0,none⟩) 1 1) [xs] :=
 ⟨_,1,rfl,fun _ => ⟨b,0,rfl,h.lt,fun i hi => by
  obtain rfl : i = 0 := by simpa using hi
  exact ⟨_,by rw [h.cell];rfl,hI⟩⟩,Nat.le_refl _⟩
theorem taker_one {W : World} {b k n : Nat} {t : TypeId} {xs : List Int} {id d : Int} (h : RowC W b t [.int .i64 id,.int .i64 d,.slice (some ⟨k,0,none⟩) n n]) (hI : IntsV W W.heap.size (.slice (some ⟨k,0,none⟩) n n) xs) : TakersV W W.heap.size (.slice (some ⟨b,0,none⟩) 1 1) [⟨id,d,xs⟩] :=
 ⟨_,1,rfl,fun _ => ⟨b,0,rfl,h.lt,fun i hi => by
  obtain rfl : i = 0 := by simpa using hi
  exact ⟨by rw [h.cell];rfl,by rw [h.cell];rfl,_,by rw [h.cell];rfl,hI⟩⟩,Nat.le_refl _⟩
theorem exFit : FitT exT := ⟨by decide,by decide⟩
theorem ex_chk : checkT exT = 0 := by decide +kernel
def exM : Md := wholeF exT exT.n.toNat (bestF exT exT.n.toNat)
theorem ex_on : exM.on = [0,-1,1,3,4] := by decide +kernel
theorem ex_mt : exM.mt = 12 := by decide +kernel
theorem ex_merit : (if checkT exT = 0 then meritF exT exT.n.toNat else 0) = 12 := by decide +kernel
theorem ex_jam : listE exT [1,2,3] = 0 ∧ (jamS exT [1,2,3]).isSome = true ∧ (jamP exT [1,2,3]).1 = 0 ∧ (jamP exT [1,2,3]).2 = 2 := by decide +kernel
theorem ex_sure : sureL exT = [1,3,4,5] := by decide +kernel
theorem ex_some : someL exT = [1,3,4,5] := by decide +kernel
theorem ex_days : daysE exT 1 = 0 ∧ daysR exT 1 = [0] := by decide +kernel
theorem ex_earl : earlL exT = [0,-1,1,3,4] := by decide +kernel
theorem ex_gain : gainF exT 2 = 3 ∧ dayE exT 2 = 0 := by decide +kernel
theorem ex_lost : lostF exT 4 = 1 ∧ dayE exT 4 = 0 := by decide +kernel
theorem ex_wide : widerF exT 2 0 4 = 2 ∧ widerE exT 2 0 4 = 0 := by decide +kernel
theorem ex_spread : spreadE exT exM [⟨8,1,[1,2,3]⟩] = 0 ∧ spreadL exT exM [⟨8,1,[1,2,3]⟩] = [[2,3]] := by decide +kernel
theorem head_c (w : World) : CallsV Tryz.prog 28 #[] w fun v w' => v = .bool true ∧ Ext w w' := by
 refine Wp.fn Tryz.func28 rfl Tryz.ntmps28 (by simp) ?_;have xw := Ext.refl w;refine Wp.keep [] fun r1 hkeep => ?_;clear hkeep;refine sRg fun K' gd hK => ?_;go_simp;apply hK;clear hK K' gd;refine Wp.keep [] fun r2 hkeep => ?_;clear hkeep;refine sRg fun K' gd hK => ?_;refine cu1 fun K1 hK1 => ?_;go_simp;refine Wcall (.inl rfl) (example_c _) ?_;rintro v w2 ⟨hT,hE⟩;have xs := Ext.refl w2;obtain ⟨A,c1,A2,c2,rfl⟩ := hT.open';go_simp;apply hK1;clear hK1 K1;replace xw := xw.trans hE;clear hE;refine cu2 fun K1 hK1 => ?_;go_simp;apply hK1;clear hK1 K1;refine Wops.absT fun cP n1 y R1 => ?_;obtain ⟨q1,y,s1,z,f1,r1⟩ := y;try simp only [q1] at z f1 r1 ⊢
 replace xw := xw.trans y;replace xs := xs.trans y;have g := z 0 _ rfl;have h := z 1 _ rfl;have i := z 2 _ rfl;clear z y;clear r1;try simp only [Wops_nil,updO_some,updO_none]
 apply hK;clear hK K' gd;refine Wp.keep [1] ?_;rintro r4 ⟨aX,-⟩;simp [go_sem] at aX;refine sRg fun K' gd hK => ?_;refine cu2 fun K1 hK1 => ?_;go_simp;refine Wcall (.inl rfl) (Best_c exT _ _ (hT.ext xs).tourV exFit (fun _ => by decide)) ?_;rintro v w3 ⟨⟨mv,hv,hB,-⟩,hE⟩;rw [ex_chk] at hv;subst hv;have hM : MendB _ _ mv exM := hB ex_chk;clear hB;obtain ⟨xv,zv,hmv,hIm,hZm⟩ := hM.ex;rw [ex_mt] at hmv;subst hmv;obtain ⟨Am,nm,cm,rfl⟩ : ∃ A n c,xv = .slice A n c := by obtain ⟨A,c,e⟩ := hIm.slice;exact ⟨A,_,c,e⟩
 obtain ⟨Az,nz,cz,rfl⟩ : ∃ A n c,zv = .slice A n c := by obtain ⟨A,c,e⟩ := hZm.slice;exact ⟨A,_,c,e⟩
 have xm := Ext.refl w3;go_simp;apply hK1;clear hK1 K1;replace xw := xw.trans hE;replace xs := xs.trans hE;replace g := hE.cell g;replace h := hE.cell h;replace i := hE.cell i;clear hE;refine cu5 fun K1 hK1 => ?_;go_simp;apply hK1;clear hK1 K1;refine Wops.absT fun cQ n2 u R2 => ?_;obtain ⟨q2,u,s2,B,f2,r2⟩ := u;try simp only [q2] at B f2 r2 ⊢
 replace xw := xw.trans u;replace xs := xs.trans u;replace xm := xm.trans u;replace g := u.cell g;replace h := u.cell h;replace i := u.cell i;have b := B 0 _ rfl;have a := B 1 _ rfl;have j := B 2 _ rfl;clear B u;clear r2;go_simp;apply hK;clear hK K' gd;refine Wp.keep [1,2,3] ?_;rintro r6 ⟨aY,bo,bz,-⟩;simp [go_sem,aX] at aY bo bz;clear aX;refine sRg fun K' gd hK => ?_;refine cu2 fun K1 hK1 => ?_;go_simp;refine Wcall (.inl rfl) (Merit_c exT _ _ (hT.ext xs).tourV exFit (fun _ => by decide)) ?_;rintro v w4 ⟨hv,hE⟩;rw [ex_merit,ex_chk] at hv;subst hv;go_simp;apply hK1;clear hK1 K1;replace xw := xw.trans hE;replace xs := xs.trans hE;replace xm := xm.trans hE;replace g := hE.cell g;replace h := hE.cell h;replace i := hE.cell i;replace b := hE.cell b;replace a := hE.cell a;replace j := hE.cell j;clear hE;go_simp;apply hK;clear hK K' gd;refine Wp.keep [1,2,3,4,5] ?_;rintro r8 ⟨aZ,bp,bA,bM,bV,-⟩;simp [go_sem,aY,bo,bz] at aZ bp bA bM bV;clear aY bo bz;refine sRg fun K' gd hK => ?_;refine cu2 fun K1 hK1 => ?_;go_simp;apply hK1;clear hK1 K1;refine Wops.absT fun cR n39 q R39 => ?_;obtain ⟨q39,q,s39,cH,f39,r39⟩ := q;try simp only [q39] at cH f39 r39 ⊢
 replace R39 := (show RowC _ _ _ _ from R39);replace xw := xw.trans q;replace xs := xs.trans q;replace xm := xm.trans q;replace g := q.cell g;replace h := q.cell h;replace i := q.cell i;replace b := q.cell b;replace a := q.cell a;replace j := q.cell j;clear q f39;clear cH;refine cu1 fun K1 hK1 => ?_;go_simp;refine Wcall (.inl rfl) (Jam_c exT [1,2,3] _ _ _ (hT.ext xs).tourV (rowC_ints R39 rfl rfl) exFit (by decide)) ?_;rintro v w5 ⟨hv,hE⟩;rw [ex_jam.1,ex_jam.2.1,ex_jam.2.2.1,ex_jam.2.2.2] at hv;subst hv;go_simp;apply hK1;clear hK1 K1;replace xw := xw.trans hE;replace xs := xs.trans hE;replace xm := xm.trans hE;replace g := hE.cell g;replace h := hE.cell h;replace i := hE.cell i;replace b := hE.cell b;replace a := hE.cell a;replace j := hE.cell j;clear hE;refine cu6 fun K1 hK1 => ?_;go_simp;apply hK1;clear hK1 K1;refine Wops.absT fun cS n6 r R6 => ?_;obtain ⟨q6,r,s6,C,f6,r6⟩ := r;try simp only [q6] at C f6 r6 ⊢
 replace xw := xw.trans r;replace xs := xs.trans r;replace xm := xm.trans r;replace g := r.cell g;replace h := r.cell h;replace i := r.cell i;replace b := r.cell b;replace a := r.cell a;replace j := r.cell j;have d := C 0 _ rfl;have f := C 1 _ rfl;clear C r;clear r6;go_simp;apply hK;clear hK K' gd;refine Wp.keep [1,2,3,4,5,6,7,8] ?_;rintro r10 ⟨aQ,bd,bq,bB,bN,bW,b7,ci,-⟩;simp [go_sem,aZ,bp,bA,bM,bV] at aQ bd bq bB bN bW b7 ci;clear aZ bp bA bM bV;refine sRg fun K' gd hK => ?_;refine cu2 fun K1 hK1 => ?_;go_simp;refine Wcall (.inl rfl) (Surely_c exT _ _ (hT.ext xs).tourV exFit (fun _ => by decide)) ?_;rintro v w6 ⟨⟨la,lb,hv,hI9,hI10⟩,hE⟩;rw [ex_chk] at hv;subst hv;rw [ex_sure] at hI9;rw [ex_some] at hI10;have x9 := Ext.refl w6;go_simp;apply hK1;clear hK1 K1;replace xw := xw.trans hE;replace xs := xs.trans hE;replace xm := xm.trans hE;replace g := hE.cell g;replace h := hE.cell h;replace i := hE.cell i;replace b := hE.cell b;replace a := hE.cell a;replace j := hE.cell j
 replace d := hE.cell d;replace f := hE.cell f;clear hE;go_simp;apply hK;clear hK K' gd;refine Wp.keep [1,2,3,4,5,6,7,8,9,10,11] ?_;rintro r12 ⟨aR,be,br,bC,bO,bX,b8,cj,cr,D,M,-⟩;simp [go_sem,aQ,bd,bq,bB,bN,bW,b7,ci] at aR be br bC bO bX b8 cj cr D M;clear aQ bd bq bB bN bW b7 ci;refine sRg fun K' gd hK => ?_;refine cu2 fun K1 hK1 => ?_;go_simp;refine Wcall (.inl rfl) (Days_c exT 1 _ _ (hT.ext xs).tourV exFit (fun _ => by decide)) ?_;rintro v w7 ⟨⟨lc,hv,hI12⟩,hE⟩;rw [ex_days.1] at hv;subst hv;rw [ex_days.2] at hI12;have x12 := Ext.refl w7;go_simp;apply hK1;clear hK1 K1;replace xw := xw.trans hE;replace xs := xs.trans hE;replace xm := xm.trans hE;replace x9 := x9.trans hE;replace g := hE.cell g;replace h := hE.cell h;replace i := hE.cell i;replace b := hE.cell b;replace a := hE.cell a;replace j := hE.cell j;replace d := hE.cell d;replace f := hE.cell f;clear hE;go_simp;apply hK;clear hK K' gd;refine Wp.keep [1,2,3,4,5,6,7,8,9,10,11,12,13] ?_;rintro r14 ⟨aS,bf,bs,bD,bP,bY,b9,ck,cs,E,N,U,ac,-⟩
 simp [go_sem,aR,be,br,bC,bO,bX,b8,cj,cr,D,M] at aS bf bs bD bP bY b9 ck cs E N U ac;clear aR be br bC bO bX b8 cj cr D M;refine sRg fun K' gd hK => ?_;refine cu2 fun K1 hK1 => ?_;go_simp;refine Wcall (.inl rfl) (Earliest_c exT _ _ (hT.ext xs).tourV exFit (fun _ => by decide)) ?_;rintro v w8 ⟨⟨ld,hv,hI14⟩,hE⟩;rw [ex_chk] at hv;subst hv;rw [ex_earl] at hI14;have x14 := Ext.refl w8;go_simp;apply hK1;clear hK1 K1;replace xw := xw.trans hE;replace xs := xs.trans hE;replace xm := xm.trans hE;replace x9 := x9.trans hE;replace x12 := x12.trans hE;replace g := hE.cell g;replace h := hE.cell h;replace i := hE.cell i;replace b := hE.cell b;replace a := hE.cell a;replace j := hE.cell j;replace d := hE.cell d;replace f := hE.cell f;clear hE;go_simp;apply hK;clear hK K' gd;refine Wp.keep [1,2,3,4,5,6,7,8,9,10,11,12,13,14,15] ?_;rintro r16 ⟨aT,bg,bt,bE,bQ,bZ,ca,cl,ct,F,O,V,ad,ai,ap,-⟩;simp [go_sem,aS,bf,bs,bD,bP,bY,b9,ck,cs,E,N,U,ac] at aT bg bt bE bQ bZ ca cl ct F O V ad ai ap
 clear aS bf bs bD bP bY b9 ck cs E N U ac;refine sRg fun K' gd hK => ?_;refine cu2 fun K1 hK1 => ?_;go_simp;refine Wcall (.inl rfl) (Gain_c exT 2 _ _ (hT.ext xs).tourV exFit (fun _ => by decide)) ?_;rintro v w9 ⟨hv,hE⟩;rw [ex_gain.1,ex_gain.2] at hv;subst hv;go_simp;apply hK1;clear hK1 K1;replace xw := xw.trans hE;replace xs := xs.trans hE;replace xm := xm.trans hE;replace x9 := x9.trans hE;replace x12 := x12.trans hE;replace x14 := x14.trans hE;replace g := hE.cell g;replace h := hE.cell h;replace i := hE.cell i;replace b := hE.cell b;replace a := hE.cell a;replace j := hE.cell j;replace d := hE.cell d;replace f := hE.cell f;clear hE;go_simp;apply hK;clear hK K' gd;refine Wp.keep [1,2,3,4,5,6,7,8,9,10,11,12,13,14,15,16,17] ?_;rintro r18 ⟨aU,bh,bu,bF,bR,b0,cb,cn,cu,G,P,W,ae,aj,aq,aw,aD,-⟩;simp [go_sem,aT,bg,bt,bE,bQ,bZ,ca,cl,ct,F,O,V,ad,ai,ap] at aU bh bu bF bR b0 cb cn cu G P W ae aj aq aw aD
 clear aT bg bt bE bQ bZ ca cl ct F O V ad ai ap;refine sRg fun K' gd hK => ?_;refine cu2 fun K1 hK1 => ?_;go_simp;refine Wcall (.inl rfl) (Lost_c exT 4 _ _ (hT.ext xs).tourV exFit (fun _ => by decide)) ?_;rintro v w10 ⟨hv,hE⟩;rw [ex_lost.1,ex_lost.2] at hv;subst hv;go_simp;apply hK1;clear hK1 K1;replace xw := xw.trans hE;replace xs := xs.trans hE;replace xm := xm.trans hE;replace x9 := x9.trans hE;replace x12 := x12.trans hE;replace x14 := x14.trans hE;replace g := hE.cell g;replace h := hE.cell h;replace i := hE.cell i;replace b := hE.cell b;replace a := hE.cell a;replace j := hE.cell j;replace d := hE.cell d;replace f := hE.cell f;clear hE;go_simp;apply hK;clear hK K' gd;refine Wp.keep [1,2,3,4,5,6,7,8,9,10,11,12,13,14,15,16,17,18,19] ?_;rintro r20 ⟨aV,bi,bv,bG,bS,b1,cc,co,cv,H,Q,X,af,ak,ar,ax,aE,aH,aN,-⟩;simp [go_sem,aU,bh,bu,bF,bR,b0,cb,cn,cu,G,P,W,ae,aj,aq,aw,aD] at aV bi bv bG bS b1 cc co cv H Q X af ak ar ax aE aH aN
 clear aU bh bu bF bR b0 cb cn cu G P W ae aj aq aw aD;refine sRg fun K' gd hK => ?_;refine cu3 fun K1 hK1 => ?_;go_simp;refine Wcall (.inl rfl) (Wider_c exT 2 0 4 _ _ (hT.ext xs).tourV exFit (fun _ => by decide)) ?_;rintro v w11 ⟨hv,hE⟩;rw [ex_wide.1,ex_wide.2] at hv;subst hv;go_simp;apply hK1;clear hK1 K1;replace xw := xw.trans hE;replace xs := xs.trans hE;replace xm := xm.trans hE;replace x9 := x9.trans hE;replace x12 := x12.trans hE;replace x14 := x14.trans hE;replace g := hE.cell g;replace h := hE.cell h;replace i := hE.cell i;replace b := hE.cell b;replace a := hE.cell a;replace j := hE.cell j;replace d := hE.cell d;replace f := hE.cell f;clear hE;go_simp;apply hK;clear hK K' gd;refine Wp.keep [1,2,3,4,5,6,7,8,9,10,11,12,13,14,15,16,17,18,19,20,21] ?_;rintro r22 ⟨aW,bj,bw,bH,bT,b2,cd,cp,cw,I,R,Y,ag,al,au,ay,aF,aI,aO,a0,a5,-⟩;simp [go_sem,aV,bi,bv,bG,bS,b1,cc,co,cv,H,Q,X,af,ak,ar,ax,aE,aH,aN] at aW bj bw bH bT b2 cd cp cw I R Y ag al au ay aF aI aO a0 a5
 clear aV bi bv bG bS b1 cc co cv H Q X af ak ar ax aE aH aN;refine sRg fun K' gd hK => ?_;refine cu3 fun K1 hK1 => ?_;go_simp;apply hK1;clear hK1 K1;refine Wops.absT fun cT n79 p R79 => ?_;obtain ⟨q79,p,s79,cI,f79,r79⟩ := p;try simp only [q79] at cI f79 r79 ⊢
 replace R79 := (show RowC _ _ _ _ from R79);replace xw := xw.trans p;replace xs := xs.trans p;replace xm := xm.trans p;replace x9 := x9.trans p;replace x12 := x12.trans p;replace x14 := x14.trans p;replace b := p.cell b;replace a := p.cell a;replace d := p.cell d;replace f := p.cell f;clear p f79;clear cI;refine cu2 fun K1 hK1 => ?_;go_simp;apply hK1;clear hK1 K1;refine Wops.absT fun cU n81 m R81 => ?_;obtain ⟨q81,m,s81,cJ,f81,r81⟩ := m;try simp only [q81] at cJ f81 r81 ⊢
 replace R81 := (show RowC _ _ _ _ from R81);replace R79 := R79.ext m;replace xw := xw.trans m;replace xs := xs.trans m;replace xm := xm.trans m;replace x9 := x9.trans m;replace x12 := x12.trans m;replace x14 := x14.trans m;replace b := m.cell b;replace a := m.cell a;replace d := m.cell d;replace f := m.cell f;clear m f81;clear cJ;refine cu1 fun K1 hK1 => ?_;go_simp;refine Wcall (.inl rfl) (Spread_c exT exM [⟨8,1,[1,2,3]⟩] _ _ _ _ (hT.ext xs).tourV ⟨_,_,by rw [ex_mt],(hIm.ext xm).ints,(hZm.ext xm).rowsV⟩ (taker_one R81 (rowC_ints R79 rfl rfl)) exFit (fun _ => by decide) (by intro x hx;rw [List.mem_singleton] at hx;subst hx;decide)) ?_;rintro v w12 ⟨⟨tv,hv,hT22⟩,hE⟩;rw [ex_spread.1] at hv;subst hv;rw [ex_spread.2] at hT22;have x22 := Ext.refl w12;go_simp;apply hK1;clear hK1 K1;replace xw := xw.trans hE;replace xs := xs.trans hE;replace xm := xm.trans hE;replace x9 := x9.trans hE;replace x12 := x12.trans hE;replace x14 := x14.trans hE;replace b := hE.cell b;replace a := hE.cell a;replace d := hE.cell d;replace f := hE.cell f;clear hE;go_simp;apply hK;clear hK K' gd;refine Wp.keep [2,3,4,5,6,7,8,9,10,11,12,13,14,15,16,17,18,19,20,21,22,23] fun r24 hkeep => ?_
 obtain ⟨bk,bx,bI,bU,b3,ce,cq,cx,J,S,Z,ah,am,av,az,aG,aJ,aP,a1,a6,a7,ba,-⟩ := hkeep;simp [go_sem,aW,bj,bw,bH,bT,b2,cd,cp,cw,I,R,Y,ag,al,au,ay,aF,aI,aO,a0,a5] at bk bx bI bU b3 ce cq cx J S Z ah am av az aG aJ aP a1 a6 a7 ba;clear aW bj bw bH bT b2 cd cp cw I R Y ag al au ay aF aI aO a0 a5;refine Wp.seq ?_;refine sRh fun K' gd hK hg => ?_;have g2 : gd 2 = some 87 := hg 2;have g6 : gd 6 = some 91 := hg 6;have g10 : gd 10 = some 95 := hg 10;have g14 : gd 14 = some 99 := hg 14;have g18 : gd 18 = some 103 := hg 18;have g22 : gd 22 = some 107 := hg 22;have g26 : gd 26 = some 111 := hg 26;have g30 : gd 30 = some 115 := hg 30;have g34 : gd 34 = some 119 := hg 34;clear hg;go_simp;apply hK;clear hK K' gd g2 g6 g10 g14 g18 g22 g26 g30 g34;refine Wp.keep [2,4,6,7,9,10,12,14,16,18,20,22,122] ?_;rintro r25 ⟨bl,bJ,b4,cf,cy,K,aa,an,aA,aK,a2,a8,T,-⟩;simp [go_sem,bk,bx,bI,bU,b3,ce,cq,cx,J,S,Z,ah,am,av,az,aG,aJ,aP,a1,a6,a7,ba] at bl bJ b4 cf cy K aa an aA aK a2 a8 T
 clear bk bx bI bU b3 ce cq cx J S Z ah am av az aG aJ aP a1 a6 a7 ba;refine cFf ?_;refine skN ?_;refine sRg fun K' gd hK => ?_;refine cu1 fun K1 hK1 => ?_;go_simp;apply hK1;clear hK1 K1;refine Wops.absT fun cK n123 l R123 => ?_;obtain ⟨q123,l,s123,cC,f123,r123⟩ := l;try simp only [q123] at cC f123 r123 ⊢
 replace R123 := (show RowC _ _ _ _ from R123);replace xw := xw.trans l;replace xs := xs.trans l;replace xm := xm.trans l;replace x9 := x9.trans l;replace x12 := x12.trans l;replace x14 := x14.trans l;replace x22 := x22.trans l;replace b := l.cell b;replace a := l.cell a;replace d := l.cell d;replace f := l.cell f;clear l f123;clear cC;go_simp;apply hK;clear hK K' gd;refine Wp.keep [2,4,6,7,9,10,12,14,16,18,20,22,24] ?_;rintro r26 ⟨bm,bK,b5,cg,cA,L,ab,ao,aB,aL,a3,a9,bb,-⟩;simp [go_sem,bl,bJ,b4,cf,cy,K,aa,an,aA,aK,a2,a8,T] at bm bK b5 cg cA L ab ao aB aL a3 a9 bb;clear bl bJ b4 cf cy K aa an aA aK a2 a8 T;refine sRh fun K' gd hK hg => ?_;have g4 : gd 4 = some 128 := hg 4;have g9 : gd 9 = some 133 := hg 9;have g14 : gd 14 = some 138 := hg 14;have g19 : gd 19 = some 143 := hg 19;have g25 : gd 25 = some 149 := hg 25;clear hg;refine cu3 fun K1 hK1 => ?_;go_simp;apply hK1;clear hK1 K1;refine Wops.absT fun cL n126 k R126 => ?_
 obtain ⟨q126,k,s126,cD,f126,r126⟩ := k;try simp only [q126] at cD f126 r126 ⊢
 replace R126 := (show RowC _ _ _ _ from R126);replace R123 := R123.ext k;replace xw := xw.trans k;replace xs := xs.trans k;replace xm := xm.trans k;replace x9 := x9.trans k;replace x12 := x12.trans k;replace x14 := x14.trans k;replace x22 := x22.trans k;replace b := k.cell b;replace a := k.cell a;replace d := k.cell d;replace f := k.cell f;clear k f126;clear cD;refine cu1 fun K1 hK1 => ?_;go_simp;refine Wcall (.inl rfl) (sameI_T ex_on _ (hIm.ext xm).ints (rowC_ints R126 rfl rfl) (by rw [ex_on];decide)) ?_;rintro v w13 ⟨rfl,hE⟩;go_simp;apply hK1;clear hK1 K1;replace R123 := R123.ext hE;replace xw := xw.trans hE;replace xs := xs.trans hE;replace xm := xm.trans hE;replace x9 := x9.trans hE;replace x12 := x12.trans hE;replace x14 := x14.trans hE;replace x22 := x22.trans hE;replace b := hE.cell b;replace a := hE.cell a;replace d := hE.cell d;replace f := hE.cell f;clear hE;refine cu4 fun K1 hK1 => ?_;go_simp;refine Wcall (.inl rfl) (sameI_T rfl _ (hI9.ext x9).ints (rowC_ints R123 rfl rfl) (by decide)) ?_;rintro v w14 ⟨rfl,hE⟩;go_simp;apply hK1
 clear hK1 K1;replace R123 := R123.ext hE;replace xw := xw.trans hE;replace xs := xs.trans hE;replace xm := xm.trans hE;replace x9 := x9.trans hE;replace x12 := x12.trans hE;replace x14 := x14.trans hE;replace x22 := x22.trans hE;replace b := hE.cell b;replace a := hE.cell a;replace d := hE.cell d;replace f := hE.cell f;clear hE;refine cu5 fun K1 hK1 => ?_;go_simp;refine Wcall (.inl rfl) (sameI_T rfl _ (hI10.ext x9).ints (rowC_ints R123 rfl rfl) (by decide)) ?_;rintro v w15 ⟨rfl,hE⟩;go_simp;apply hK1;clear hK1 K1;replace xw := xw.trans hE;replace xs := xs.trans hE;replace xm := xm.trans hE;replace x12 := x12.trans hE;replace x14 := x14.trans hE;replace x22 := x22.trans hE;replace b := hE.cell b;replace a := hE.cell a;replace d := hE.cell d;replace f := hE.cell f;clear hE;refine cu4 fun K1 hK1 => ?_;go_simp;apply hK1;clear hK1 K1;refine Wops.absT fun cM n140 o R140 => ?_;obtain ⟨q140,o,s140,cE,f140,r140⟩ := o;try simp only [q140] at cE f140 r140 ⊢
 replace R140 := (show RowC _ _ _ _ from R140);replace xw := xw.trans o;replace xs := xs.trans o;replace xm := xm.trans o;replace x12 := x12.trans o;replace x14 := x14.trans o;replace x22 := x22.trans o;replace b := o.cell b;replace a := o.cell a;replace d := o.cell d;replace f := o.cell f;clear o f140;clear cE;refine cu1 fun K1 hK1 => ?_;go_simp;refine Wcall (.inl rfl) (sameI_T rfl _ (hI12.ext x12).ints (rowC_ints R140 rfl rfl) (by decide)) ?_;rintro v w16 ⟨rfl,hE⟩;go_simp;apply hK1;clear hK1 K1;replace xw := xw.trans hE;replace xs := xs.trans hE;replace xm := xm.trans hE;replace x14 := x14.trans hE;replace x22 := x22.trans hE;replace b := hE.cell b;replace a := hE.cell a;replace d := hE.cell d;replace f := hE.cell f;clear hE;refine cu6 fun K1 hK1 => ?_;go_simp;refine Wcall (.inl rfl) (sameI_T ex_on.symm _ (hI14.ext x14).ints (hIm.ext xm).ints (by decide)) ?_;rintro v w17 ⟨rfl,hE⟩;go_simp;apply hK1;clear hK1 K1;replace xw := xw.trans hE;replace xs := xs.trans hE;replace xm := xm.trans hE;replace x22 := x22.trans hE
 replace a := hE.cell a;replace d := hE.cell d;replace f := hE.cell f;clear hE;refine cu4 fun K1 hK1 => ?_;go_simp;apply hK1;clear hK1 K1;refine Wops.absT fun cN n151 t R151 => ?_;obtain ⟨q151,t,s151,cF,f151,r151⟩ := t;try simp only [q151] at cF f151 r151 ⊢
 replace R151 := (show RowC _ _ _ _ from R151);replace xw := xw.trans t;replace xs := xs.trans t;replace xm := xm.trans t;replace x22 := x22.trans t;replace a := t.cell a;replace d := t.cell d;replace f := t.cell f;clear t f151;clear cF;refine cu1 fun K1 hK1 => ?_;go_simp;apply hK1;clear hK1 K1;refine Wops.absT fun cO n152 s R152 => ?_;obtain ⟨q152,s,s152,cG,f152,r152⟩ := s;try simp only [q152] at cG f152 r152 ⊢
 replace R152 := (show RowC _ _ _ _ from R152);replace R151 := R151.ext s;replace xw := xw.trans s;replace xs := xs.trans s;replace xm := xm.trans s;replace x22 := x22.trans s;replace a := s.cell a;replace d := s.cell d;replace f := s.cell f;clear s f152;clear cG;refine cu1 fun K1 hK1 => ?_;go_simp;refine Wcall (.inl rfl) (sameLi_T rfl _ (hT22.ext x22).listsV (list_one R152 (rowC_ints R151 rfl rfl)) (by decide) (by decide)) ?_;rintro v w18 ⟨rfl,hE⟩;go_simp;apply hK1;clear hK1 K1;replace xw := xw.trans hE;replace xs := xs.trans hE;replace xm := xm.trans hE;replace a := hE.cell a;replace d := hE.cell d;replace f := hE.cell f;clear hE;go_simp;apply hK;clear hK K' gd g4 g9 g14 g19 g25;refine Wp.keep [2,4,6,7,16,18,20,25] ?_;rintro r33 ⟨bn,bL,b6,ch,aC,aM,a4,bc,-⟩;simp [go_sem,bm,bK,b5,cg,cA,L,ab,ao,aB,aL,a3,a9,bb] at bn bL b6 ch aC aM a4 bc;clear bm bK b5 cg cA L ab ao aB aL a3 a9 bb;refine sRh fun K' gd hK hg => ?_;have g1 : gd 1 = some 156 := hg 1
 have g6 : gd 6 = some 161 := hg 6;have g10 : gd 10 = some 165 := hg 10;have g13 : gd 13 = some 168 := hg 13;have g18 : gd 18 = some 173 := hg 18;have g22 : gd 22 = some 177 := hg 22;have g26 : gd 26 = some 181 := hg 26;clear hg;go_simp;apply hK;clear hK K' gd g1 g6 g10 g13 g18 g22 g26;refine Wp.keep [0] ?_;rintro r34 ⟨cB,-⟩;simp [go_sem,bn,bL,b6,ch,aC,aM,a4,bc] at cB;clear bn bL b6 ch aC aM a4 bc;refine Wp.ret ?_;refine endK_tmp Tryz.results28 (by decide) ?_;rw [cB];exact ⟨by first | rfl | go_simp,xw⟩
theorem few_len {t : Tr} (hf : fewT t) (h0 : checkT t = 0) : t.fl.length ≤ 12 := by
 have := (checkT_zero.1 h0).fl;have := hf.2;omega
theorem few_fit {t : Tr} (hf : fewT t) : FitT t := ⟨by have := hf.1;omega,by have := hf.2;omega⟩
end Go.Proofs.YtnklbepeoicgpaaGreat
namespace Go.Proofs.YtnklbepeoicgpaaGreat
theorem cntN_le_one {h : Nat → Int} {j : Int} : ∀ {n : Nat},(∀ d e,d < n → e < n → h d = j → h e = j → d = e) → cntN h j n ≤ 1
 | 0,_ => by show (0 : Int) ≤ 1;decide
 | n + 1,q => by
   rw [cntN_S]
   by_cases e : h n = j
   ·rw [if_pos e,cntN_of_zero fun d hd hj => by have := q d n (by omega) (by omega) hj e;omega];decide
   ·rw [if_neg e,Int.add_zero];exact cntN_le_one fun d e hd he => q d e (by omega) (by omega)
section
variable {N N' : Int → List Nat} {n m m' i d : Nat} {W W' : Int → Int} {v v' : Int} {g p : Nat → Int}
theorem OkP.inj (h : OkP N n m g) {d e : Nat} (hd : d < n) (he : e < n) (h0 : 0 ≤ g d) (q : g d = g e) : d = e := by
 obtain ⟨j,hj⟩ : ∃ j : Nat,g d = (j : Int) := ⟨(g d).toNat,by omega⟩;exact cntN_two (h.one j) hd he hj (by omega)
theorem OkP.of (lt : ∀ d,-1 ≤ p d ∧ p d < m) (day : ∀ d,d < n → 0 ≤ p d → d ∈ N (p d)) (inj : ∀ d e,d < n → e < n → 0 ≤ p d → p d = p e → d = e) : OkP N n m p :=
 ⟨lt,day,fun j => cntN_le_one fun d e hd he h1 h2 => inj d e hd he (by omega) (by omega)⟩
theorem OkP.sub (h : OkP N n m g) (hN : ∀ d,d < n → 0 ≤ g d → d ∈ N (g d) → d ∈ N' (g d)) : OkP N' n m g := ⟨h.lt,fun d hd h0 => hN d hd h0 (h.day d hd h0),h.one⟩
theorem OkP.at' (h : OkP N n m g) {d : Nat} (h0 : 0 ≤ g d) : ∃ j : Nat,g d = (j : Int) ∧ j < m := ⟨(g d).toNat,by omega,by have := (h.lt d).2;omega⟩
theorem worth_eq (n : Nat) (h : ∀ d,d < n → (0 ≤ g d ↔ 0 ≤ p d) ∧ (0 ≤ g d → W (g d) = W' (p d))) : worthW W g n = worthW W' p n := sumN_eq n fun d hd => by
 obtain ⟨h1,h2⟩ := h d hd
 by_cases h0 : 0 ≤ g d
 ·rw [if_pos h0,if_pos (h1.1 h0),h2 h0]
 ·rw [if_neg h0,if_neg fun q => h0 (h1.2 q)]
theorem worth_W (n : Nat) (h : ∀ d,d < n → 0 ≤ g d → W (g d) ≤ W' (g d)) : worthW W g n ≤ worthW W' g n := sumN_le n fun d hd => by
 by_cases h0 : 0 ≤ g d
 ·rw [if_pos h0,if_pos h0];exact h d hd h0
 ·rw [if_neg h0,if_neg h0];exact Int.le_refl _
theorem worth_no : ∀ n,worthW W noPlan n = 0
 | 0 => rfl
 | n + 1 => by show worthW W noPlan n + _ = 0;rw [worth_no n];rfl
theorem worth_upd {x : Int} : ∀ {n : Nat},d < n → worthW W (updI g d x) n = worthW W g n - (if 0 ≤ g d then W (g d) else 0) + if 0 ≤ x then W x else 0
 | 0,hd => absurd hd (Nat.not_lt_zero _)
 | n + 1,hd => by
   show worthW W (updI g d x) n + (if 0 ≤ updI g d x n then W (updI g d x n) else 0) = worthW W g n + (if 0 ≤ g n then W (g n) else 0) - _ + _
   by_cases e : n = d
   ·subst e;have : worthW W (updI g n x) n = worthW W g n := sumN_eq n fun d hd => by have e : updI g n x d = g d := if_neg (show ¬ d = n by omega);rw [e]
    rw [this];have e : updI g n x n = x := if_pos rfl;rw [e];omega
   ·rw [worth_upd (n := n) (by omega)];have e : updI g d x n = g n := if_neg e;rw [e];omega
structure IsOpt (N : Int → List Nat) (n m : Nat) (W : Int → Int) (v : Int) : Prop where
 ex : ∃ h,OkP N n m h ∧ worthW W h n = v
 le : ∀ g,OkP N n m g → worthW W g n ≤ v
theorem IsOpt.eq (h : IsOpt N n m W v) (h' : IsOpt N n m W v') : v = v' := by
 obtain ⟨g,g1,g2⟩ := h.ex;obtain ⟨k,k1,k2⟩ := h'.ex;have := h.le k k1;have := h'.le g g1;omega
theorem IsOpt.pos (h : IsOpt N n m W v) : 0 ≤ v := by
 have := h.le noPlan noPlan_ok
 rwa [worth_no] at this
theorem IsOpt.congr (h : IsOpt N n m W v) (hN : ∀ j : Nat,j < m → ∀ d,d < n → (d ∈ N j ↔ d ∈ N' j)) (hW : ∀ j : Nat,j < m → W j = W' j) : IsOpt N' n m W' v := by
 have e : ∀ g,OkP N n m g → worthW W g n = worthW W' g n := fun g hg => worth_eq n fun d hd => ⟨Iff.rfl,fun h0 => by
  obtain ⟨j,hj,hjm⟩ := hg.at' h0
  rw [hj];exact hW j hjm⟩
 have s : ∀ g,OkP N' n m g → OkP N n m g := fun g hg => hg.sub fun d hd h0 hm => by
  obtain ⟨j,hj,hjm⟩ := hg.at' h0;rw [hj] at hm ⊢;exact (hN j hjm d hd).2 hm
 obtain ⟨g,g1,g2⟩ := h.ex
 exact ⟨⟨g,g1.sub fun d hd h0 hm => by
  obtain ⟨j,hj,hjm⟩ := g1.at' h0
  rw [hj] at hm ⊢;exact (hN j hjm d hd).1 hm,by rw [← e g g1];exact g2⟩,fun k hk => by rw [← e k (s k hk)];exact h.le k (s k hk)⟩
theorem IsOpt.mono (h : IsOpt N n m W v) (h' : IsOpt N' n m W' v') (hN : ∀ j : Nat,j < m → ∀ d,d < n → d ∈ N j → d ∈ N' j) (hW : ∀ j : Nat,j < m → W j ≤ W' j) : v ≤ v' := by
 obtain ⟨g,g1,g2⟩ := h.ex
 have q := h'.le g (g1.sub fun d hd h0 hm => by
  obtain ⟨j,hj,hjm⟩ := g1.at' h0
  rw [hj] at hm ⊢;exact hN j hjm d hd hm)
 have := worth_W (W := W) (W' := W') (g := g) n fun d hd h0 => by
  obtain ⟨j,hj,hjm⟩ := g1.at' h0;rw [hj];exact hW j hjm
 omega
theorem IsOpt.emb {f : Nat → Nat} (finj : ∀ a b,a < m' → b < m' → f a = f b → a = b) (flt : ∀ a,a < m' → f a < m) (fN : ∀ a : Nat,a < m' → ∀ d,d < n → (d ∈ N' a ↔ d ∈ N (f a : Nat))) (fW : ∀ a : Nat,a < m' → W' a = W (f a : Nat))
  (hout : ∀ j : Nat,j < m → (∀ a,a < m' → f a ≠ j) → N j = []) (h : IsOpt N' n m' W' v) : IsOpt N n m W v := by
 refine ⟨?_,fun g hg => ?_⟩
 ·obtain ⟨g,g1,g2⟩ := h.ex
  let p : Nat → Int := fun d => if 0 ≤ g d then (f (g d).toNat : Nat) else -1
  have key : ∀ d,0 ≤ g d → ∃ a : Nat,g d = (a : Int) ∧ a < m' ∧ p d = (f a : Nat) := fun d h0 => by
   obtain ⟨a,ha,ham⟩ := g1.at' h0;refine ⟨a,ha,ham,?_⟩
   show (if 0 ≤ g d then ((f (g d).toNat : Nat) : Int) else -1) = _
   rw [if_pos h0,ha,Int.toNat_natCast]
  have no : ∀ d,¬ 0 ≤ g d → p d = -1 := fun d h0 => if_neg h0
  have bk : ∀ d,0 ≤ p d → 0 ≤ g d := fun d h => by
   by_cases h0 : 0 ≤ g d
   ·exact h0
   ·have := no d h0;omega
  refine ⟨p,OkP.of (fun d => ?_) (fun d hd h0 => ?_) (fun d e hd he h0 q => ?_),?_⟩
  ·by_cases h0 : 0 ≤ g d
   ·obtain ⟨a,-,ham,e⟩ := key d h0;have := flt a ham;omega
   ·have := no d h0;omega
  ·obtain ⟨a,ea,ham,e⟩ := key d (bk d h0);rw [e];have := g1.day d hd (bk d h0);rw [ea] at this;exact (fN a ham d hd).1 this
  ·obtain ⟨a,ea,ham,e1⟩ := key d (bk d h0);obtain ⟨b,eb,hbm,e2⟩ := key e (bk e (by omega));have := finj a b ham hbm (by omega);subst this;exact g1.inj hd he (by omega) (by omega)
  ·rw [← g2];refine (worth_eq n fun d hd => ⟨⟨fun h0 => ?_,bk d⟩,fun h0 => ?_⟩).symm
   ·obtain ⟨a,-,-,e⟩ := key d h0;omega
   ·obtain ⟨a,ea,ham,e⟩ := key d h0;rw [ea,e];exact fW a ham
 ·have ch : ∀ d : Nat,∃ x : Int,(d < n ∧ 0 ≤ g d ∧ ∃ a : Nat,a < m' ∧ x = a ∧ g d = (f a : Nat)) ∨ (¬ (d < n ∧ 0 ≤ g d) ∧ x = -1) := fun d => by
   by_cases h0 : d < n ∧ 0 ≤ g d
   ·obtain ⟨j,hj,hjm⟩ := hg.at' h0.2
    by_cases hex : ∃ a,a < m' ∧ f a = j
    ·obtain ⟨a,ha,rfl⟩ := hex;exact ⟨a,.inl ⟨h0.1,h0.2,a,ha,rfl,hj⟩⟩
    ·exfalso
     have := hg.day d h0.1 h0.2;rw [hj,hout j hjm fun a ha e => hex ⟨a,ha,e⟩] at this
     cases this
   ·exact ⟨-1,.inr ⟨h0,rfl⟩⟩
  obtain ⟨p,hp⟩ := Classical.axiomOfChoice ch
  have q := h.le p (OkP.of (fun d => by
   rcases hp d with ⟨-,-,a,ha,e,-⟩ | ⟨-,e⟩ <;> omega) (fun d hd h0 => by
   rcases hp d with ⟨-,h1,a,ha,e,e2⟩ | ⟨-,e⟩
   ·rw [e];have := hg.day d hd h1;rw [e2] at this;exact (fN a ha d hd).2 this
   ·omega) (fun d e hd he h0 q => by
   rcases hp d with ⟨-,h1,a,ha,e1,e2⟩ | ⟨-,e1⟩
   ·rcases hp e with ⟨-,h1',b,hb,e1',e2'⟩ | ⟨-,e1'⟩
    ·obtain rfl : a = b := by omega
     exact hg.inj hd he h1 (by omega)
    ·omega
   ·omega))
  have e : worthW W g n = worthW W' p n := worth_eq n fun d hd => by
   rcases hp d with ⟨-,h1,a,ha,e1,e2⟩ | ⟨h1,e1⟩
   ·refine ⟨⟨fun _ => by omega,fun _ => h1⟩,fun _ => ?_⟩;rw [e1,e2];exact (fW a ha).symm
   ·exact ⟨⟨fun h0 => absurd ⟨hd,h0⟩ h1,fun h0 => by omega⟩,fun h0 => absurd ⟨hd,h0⟩ h1⟩
  omega
def shutN (N : Int → List Nat) (d : Nat) : Int → List Nat := fun j => (N j).filter fun e => !decide (e = d)
def dropN (N : Int → List Nat) (i : Int) : Int → List Nat := fun j => if j = i then [] else N j
theorem shutN_mem {N : Int → List Nat} {d e : Nat} {j : Int} : e ∈ shutN N d j ↔ e ∈ N j ∧ e ≠ d := by unfold shutN;rw [List.mem_filter];simp
theorem dropN_mem {N : Int → List Nat} {i j : Int} {e : Nat} : e ∈ dropN N i j ↔ j ≠ i ∧ e ∈ N j := by
 unfold dropN
 by_cases q : j = i
 ·rw [if_pos q];simp [q]
 ·rw [if_neg q];simp [q]
theorem updI_cases (g : Nat → Int) (d : Nat) (x : Int) (e : Nat) : (e = d ∧ updI g d x e = x) ∨ (e ≠ d ∧ updI g d x e = g e) := by
 by_cases q : e = d
 ·exact .inl ⟨q,if_pos q⟩
 ·exact .inr ⟨q,if_neg q⟩
theorem OkP.free (h : OkP N n m g) (d : Nat) : OkP (shutN N d) n m (updI g d (-1)) := by
 refine OkP.of (fun e => ?_) (fun e he h0 => ?_) (fun e k he hk h0 q => ?_)
 ·rcases updI_cases g d (-1) e with ⟨-,e1⟩ | ⟨-,e1⟩ <;> rw [e1]
  ·omega
  ·exact h.lt e
 ·rcases updI_cases g d (-1) e with ⟨-,e1⟩ | ⟨ne,e1⟩ <;> rw [e1] at h0 ⊢
  ·omega
  ·exact shutN_mem.2 ⟨h.day e he h0,ne⟩
 ·rcases updI_cases g d (-1) e with ⟨-,e1⟩ | ⟨ne,e1⟩ <;> rw [e1] at h0 q
  ·omega
  ·rcases updI_cases g d (-1) k with ⟨-,e2⟩ | ⟨nk,e2⟩ <;> rw [e2] at q
   ·omega
   ·exact h.inj he hk h0 q
theorem IsOpt.drop (h : IsOpt N n m W v) (h' : IsOpt (dropN N i) n m W v') : v' ≤ v ∧ (v' < v ↔ ∀ g,OkP N n m g → worthW W g n = v → cntN g i n ≠ 0) := by
 have hle : v' ≤ v := h'.mono h (fun j _ e _ hm => (dropN_mem.1 hm).2) fun _ _ => Int.le_refl _;refine ⟨hle,fun hlt g hg e hz => ?_,fun hall => ?_⟩
 ·have := h'.le g (hg.sub fun d hd h0 hm => dropN_mem.2 ⟨cntN_zero hz d hd,hm⟩);omega
 ·obtain ⟨g,g1,g2⟩ := h'.ex;have ok : OkP N n m g := g1.sub fun d _ _ hm => (dropN_mem.1 hm).2
  by_cases e : v' = v
  ·exact absurd (cntN_of_zero fun d hd q => by
    have := g1.day d hd (by omega)
    exact (dropN_mem.1 this).1 q) (hall g ok (by omega))
  ·omega
theorem IsOpt.split {N1 N2 : Int → List Nat} {v1 v2 : Int} (h : IsOpt N n m W v) (h1 : IsOpt N1 n m W v1) (h2 : IsOpt N2 n m W v2) (hW : ∀ j : Nat,j < m → 0 ≤ W j)
  (hs : ∀ j : Nat,j < m → (∀ d,d ∈ N j → d ∈ N1 j) ∨ (∀ d,d ∈ N j → d ∈ N2 j)) : v ≤ v1 + v2 := by
 obtain ⟨g,g1,g2⟩ := h.ex
 let P : Nat → Prop := fun d => 0 ≤ g d ∧ ∀ e,e ∈ N (g d) → e ∈ N1 (g d)
 have ch : ∀ d : Nat,∃ x : Int × Int,(P d ∧ x = (g d,-1)) ∨ (¬ P d ∧ x = (-1,g d)) := fun d => by
  by_cases h0 : P d
  ·exact ⟨_,.inl ⟨h0,rfl⟩⟩
  ·exact ⟨_,.inr ⟨h0,rfl⟩⟩
 obtain ⟨p,hp⟩ := Classical.axiomOfChoice ch
 have q1 := h1.le (fun d => (p d).1) (OkP.of (fun d => by
  have := g1.lt d
  rcases hp d with ⟨-,e⟩ | ⟨-,e⟩ <;> rw [e] <;> show -1 ≤ _ ∧ _ <;> dsimp only <;> omega) (fun d hd h0 => by
  rcases hp d with ⟨hP,e⟩ | ⟨-,e⟩ <;> rw [e] at h0 ⊢
  ·exact hP.2 d (g1.day d hd hP.1)
  ·exact absurd h0 (by dsimp only;omega)) (fun d e hd he h0 q => by
  rcases hp d with ⟨hP,e1⟩ | ⟨-,e1⟩ <;> rw [e1] at h0 q
  ·rcases hp e with ⟨hP',e2⟩ | ⟨-,e2⟩ <;> rw [e2] at q
   ·exact g1.inj hd he hP.1 q
   ·have q : g d = -1 := q;have := hP.1;omega
  ·exact absurd h0 (by dsimp only;omega)))
 have q2 := h2.le (fun d => (p d).2) (OkP.of (fun d => by
  have := g1.lt d
  rcases hp d with ⟨-,e⟩ | ⟨-,e⟩ <;> rw [e] <;> show -1 ≤ _ ∧ _ <;> dsimp only <;> omega) (fun d hd h0 => by
  rcases hp d with ⟨-,e⟩ | ⟨hP,e⟩ <;> rw [e] at h0 ⊢
  ·exact absurd h0 (by dsimp only;omega)
  ·have h0 : 0 ≤ g d := h0;obtain ⟨j,hj,hjm⟩ := g1.at' h0;have hd2 := g1.day d hd h0
   show d ∈ N2 (g d)
   rcases hs j hjm with q | q
   ·exact absurd ⟨h0,by rw [hj];exact q⟩ hP
   ·rw [hj] at hd2 ⊢;exact q d hd2) (fun d e hd he h0 q => by
  rcases hp d with ⟨-,e1⟩ | ⟨hP,e1⟩ <;> rw [e1] at h0 q
  ·exact absurd h0 (by dsimp only;omega)
  ·have h0 : 0 ≤ g d := h0
   rcases hp e with ⟨-,e2⟩ | ⟨hP',e2⟩ <;> rw [e2] at q
   ·have q : g d = -1 := q;omega
   ·exact g1.inj hd he h0 q))
 have : worthW W g n ≤ worthW W (fun d => (p d).1) n + worthW W (fun d => (p d).2) n := by
  unfold worthW;rw [← sumN_add];refine sumN_le n fun d hd => ?_
  show (if 0 ≤ g d then W (g d) else 0) ≤ (if 0 ≤ (p d).1 then W (p d).1 else 0) + if 0 ≤ (p d).2 then W (p d).2 else 0
  rcases hp d with ⟨-,e⟩ | ⟨-,e⟩ <;> rw [e] <;> dsimp only
  ·rw [if_neg (show ¬ (0 : Int) ≤ -1 by decide)];omega
  ·rw [if_neg (show ¬ (0 : Int) ≤ -1 by decide)];omega
 omega
end
theorem insQ_perm (lt : Int → Int → Bool) (l : List Int) (x : Int) : (insQ lt l x).Perm (x :: l) := by
 unfold insQ;refine List.perm_middle.trans ?_;rw [List.take_append_drop]
theorem sortQ_perm (lt : Int → Int → Bool) (l : List Int) : (sortQ lt l).Perm l := by
 have key : ∀ (l a : List Int),(l.foldl (insQ lt) a).Perm (a ++ l) := by
  intro l
  induction l with
  | nil => intro a;rw [List.append_nil];exact List.Perm.refl _
  | cons x l ih =>
    intro a;rw [List.foldl_cons];refine (ih _).trans (((insQ_perm lt a x).append_right l).trans ?_);exact List.perm_middle.symm
 have := key l [];exact this
theorem posQ_spec (lt : Int → Int → Bool) (l : List Int) (x : Int) : ∀ k,(∀ j,posQ lt l x k ≤ j → j < k → lt x (gI l j) = true) ∧ (0 < posQ lt l x k → lt x (gI l (posQ lt l x k - 1)) = false)
 | 0 => ⟨fun j _ h => absurd h (Nat.not_lt_zero _),fun h => absurd h (Nat.lt_irrefl _)⟩
 | k + 1 => by
   obtain ⟨h1,h2⟩ := posQ_spec lt l x k
   by_cases h : lt x (gI l k) = true
   ·have e : posQ lt l x (k + 1) = posQ lt l x k := if_pos h;rw [e]
    exact ⟨fun j hj hk => by
     by_cases q : j = k
     ·rw [q];exact h
     ·exact h1 j hj (by omega),h2⟩
   ·have e : posQ lt l x (k + 1) = k + 1 := if_neg h;rw [e];exact ⟨fun j hj hk => by omega,fun _ => by simpa using h⟩
theorem insQ_sorted {lt : Int → Int → Bool} {key : Int → Int} {l : List Int} {x : Int} (hl : l.Pairwise fun a b => key b ≤ key a) (hk : ∀ a ∈ l,lt x a = decide (key a < key x)) : (insQ lt l x).Pairwise fun a b => key b ≤ key a := by
 obtain ⟨h1,h2⟩ := posQ_spec lt l x l.length;have hp := posQ_le lt l x l.length;unfold insQ;have hl' := hl;rw [← List.take_append_drop (posQ lt l x l.length) l,List.pairwise_append] at hl';rw [List.pairwise_append];refine ⟨hl'.1,List.pairwise_cons.2 ⟨fun y hy => ?_,hl'.2.1⟩,fun u hu v hv => ?_⟩
 ·obtain ⟨j,hj,rfl⟩ := List.getElem_of_mem hy;rw [List.length_drop] at hj;rw [List.getElem_drop];have q := h1 (posQ lt l x l.length + j) (by omega) (by omega);rw [gI_lt (by omega),hk _ (List.getElem_mem _),decide_eq_true_iff] at q;omega
 ·rcases List.mem_cons.1 hv with rfl | hv
  ·obtain ⟨j,hj,rfl⟩ := List.getElem_of_mem hu;rw [List.length_take] at hj;rw [List.getElem_take];have q := h2 (by omega);rw [gI_lt (show posQ lt l v l.length - 1 < l.length by omega),hk _ (List.getElem_mem _),decide_eq_false_iff_not] at q
   by_cases e : j = posQ lt l v l.length - 1
   ·subst e;omega
   ·have := List.pairwise_iff_getElem.1 hl j (posQ lt l v l.length - 1) (by omega) (by omega) (by omega);omega
  ·exact hl'.2.2 u hu v hv
theorem sortQ_sorted {lt : Int → Int → Bool} {key : Int → Int} {l : List Int} (hk : ∀ a ∈ l,∀ b ∈ l,lt a b = decide (key b < key a)) : (sortQ lt l).Pairwise fun a b => key b ≤ key a := by
 have go : ∀ (r a : List Int),(∀ x ∈ a,x ∈ l) → (∀ x ∈ r,x ∈ l) → (a.Pairwise fun a b => key b ≤ key a) → (r.foldl (insQ lt) a).Pairwise fun a b => key b ≤ key a := by
  intro r
  induction r with
  | nil => intro a _ _ h;exact h
  | cons x r ih =>
    intro a ha hr h;rw [List.foldl_cons];refine ih _ (fun y hy => ?_) (fun y hy => hr y (List.mem_cons_of_mem _ hy)) (insQ_sorted h fun y hy => hk x (hr x List.mem_cons_self) y (ha y hy))
    rcases (insQ_mem lt a x y).1 hy with rfl | hy
    ·exact hr _ List.mem_cons_self
    ·exact ha y hy
 exact go l [] (fun x hx => absurd hx List.not_mem_nil) (fun x hx => hx) List.Pairwise.nil
theorem rangeI_nodup (n : Nat) : (rangeI n).Nodup := by
 unfold rangeI;rw [List.nodup_iff_pairwise_ne,List.pairwise_map];exact List.nodup_range.imp fun h e => h (by omega)
theorem ordL_nodup (fl : List Fl) : (ordL fl).Nodup := (sortQ_perm _ _).nodup_iff.2 (rangeI_nodup _)
theorem ordL_sorted (fl : List Fl) : (ordL fl).Pairwise fun a b => mAt fl b ≤ mAt fl a := sortQ_sorted fun a ha b hb => by
 obtain ⟨i,rfl,hi⟩ := rangeI_mem.1 ha;obtain ⟨j,rfl,hj⟩ := rangeI_mem.1 hb;rw [ltM_at hi hj,mAt_at hi,mAt_at hj]
theorem worthN_W (fl : List Fl) (h : Nat → Int) : ∀ k,worthN fl h k = worthW (mAt fl) h k
 | 0 => rfl
 | k + 1 => by
   show (if 0 ≤ h k then worthN fl h k + mAt fl (h k) else worthN fl h k) = worthW (mAt fl) h k + (if 0 ≤ h k then mAt fl (h k) else 0)
   rw [worthN_W fl h k]
   split
   ·rfl
   ·rw [Int.add_zero]
theorem mAt_pos {fl : List Fl} (hm : ∀ f ∈ fl,0 ≤ f.m) (x : Int) : 0 ≤ mAt fl x := by
 unfold mAt
 split
 ·rename_i f hf;exact hm f (List.mem_of_getElem? hf)
 ·exact Int.le_refl _
structure OptT (t : Tr) (n : Nat) : Prop where
 sp : ∀ f ∈ t.fl,0 ≤ f.lo ∧ f.hi < n
 mr : ∀ f ∈ t.fl,0 ≤ f.m
theorem OptT.span {t : Tr} {n : Nat} (h : OptT t n) : SpanT t n := ⟨fun k hk => h.sp _ (List.getElem_mem hk)⟩
theorem PlanT.opt {t : Tr} {n : Nat} (h : PlanT t n) : OptT t n := ⟨fun f hf => by
 obtain ⟨k,hk,rfl⟩ := List.getElem_of_mem hf;exact h.sp k hk,fun f hf => by
 obtain ⟨k,hk,rfl⟩ := List.getElem_of_mem hf;exact (h.mr k hk).1⟩
theorem bestF_C {t : Tr} {n : Nat} (h : OptT t n) : PlanC t.N n t.fl.length (fun a b => mAt t.fl b ≤ mAt t.fl a) (ordL t.fl) (bestF t n) :=
 planF_C (trN_lt h.span) (ordL_nodup _) (ordL_sorted _) fun _ hx => ordL_mem.1 hx
theorem meritF_opt {t : Tr} {n : Nat} (h : OptT t n) : IsOpt t.N n t.fl.length (mAt t.fl) (meritF t n) := by
 have hC := bestF_C h;have e : worthW (mAt t.fl) (bestF t n) n = meritF t n := (worthN_W _ _ _).symm;refine ⟨⟨_,hC.ok,e⟩,fun g hg => ?_⟩;rw [← e];refine dual_max (S := fun _ => True) hC.ok hg (fun _ _ _ => .inl trivial) (mAt_pos h.mr) fun i hi _ hz => ?_;obtain ⟨X,h1,h2,h3⟩ := hC.cert i (ordL_mem.2 ⟨i,rfl,hi⟩) hz;exact ⟨X,h1,h2,h3⟩
structure BestP (t : Tr) (n : Nat) (g : Nat → Int) : Prop where
 ok : OkP t.N n t.fl.length g
 w : worthW (mAt t.fl) g n = meritF t n
def nCl (cl : List Int) (fl : List Fl) : Int → List Nat := Tr.N ⟨0,cl,fl⟩
theorem OptT.cl {t : Tr} {n : Nat} (h : OptT t n) (k : Int) (cl : List Int) : OptT ⟨k,cl,t.fl⟩ n := ⟨h.sp,h.mr⟩
theorem OptT.keep {t : Tr} {n : Nat} (h : OptT t n) (k : Int) (cl l : List Int) : OptT ⟨k,cl,keepN l t.fl t.fl.length⟩ n :=
 ⟨fun f hf => h.sp f (keepN_mem hf),fun f hf => h.mr f (keepN_mem hf)⟩
theorem mAt_eq {fl fl' : List Fl} {a b : Nat} (h : fl[a]? = fl'[b]?) : mAt fl (a : Int) = mAt fl' (b : Int) := by unfold mAt;rw [Int.toNat_natCast,Int.toNat_natCast,h]
theorem nCl_eq {cl : List Int} {fl fl' : List Fl} {a b : Nat} (h : fl[a]? = fl'[b]?) : nCl cl fl (a : Int) = nCl cl fl' (b : Int) := by
 unfold nCl Tr.N;dsimp only;rw [Int.toNat_natCast,Int.toNat_natCast,h]
structure OnP (N : Int → List Nat) (n m : Nat) (xs : List Int) (h : Nat → Int) : Prop where
 ok : OkP N n m h
 len : xs.length = m
 on : ∀ i : Nat,i < m → (gI xs i = -1 ∧ cntN h i n = 0) ∨ ∃ d : Nat,d < n ∧ gI xs i = (d : Int) ∧ h d = (i : Int)
section
variable {N : Int → List Nat} {n m : Nat} {xs : List Int} {h : Nat → Int}
theorem OnP.cnt (q : OnP N n m xs h) {i : Nat} (hi : i < m) : cntN h i n = if 0 ≤ gI xs i then 1 else 0 := by
 rcases q.on i hi with ⟨e,hz⟩ | ⟨d,hd,e,e2⟩
 ·rw [e,hz];rfl
 ·rw [if_pos (by omega)];have := cntN_ge hd e2;have := q.ok.one i;omega
theorem OnP.has (q : OnP N n m xs h) {i : Nat} (hi : i < m) : 0 ≤ gI xs i ↔ cntN h i n ≠ 0 := by
 rw [q.cnt hi]
 split
 ·rename_i h0;exact ⟨fun _ => by decide,fun _ => h0⟩
 ·rename_i h0;exact ⟨fun x => absurd x h0,fun x => absurd rfl x⟩
theorem OnP.of_day (q : OnP N n m xs h) {d : Nat} (hd : d < n) {i : Nat} (e : h d = (i : Int)) : i < m ∧ gI xs i = (d : Int) := by
 have hi : i < m := by have := (q.ok.lt d).2;omega
 refine ⟨hi,?_⟩
 rcases q.on i hi with ⟨-,hz⟩ | ⟨d',hd',e',e2⟩
 ·exact absurd e (cntN_zero hz d hd)
 ·rw [e',q.ok.inj hd hd' (by omega) (by omega)]
theorem OnP.to_day (q : OnP N n m xs h) {i : Nat} (hi : i < m) (h0 : 0 ≤ gI xs i) : ∃ d : Nat,d < n ∧ gI xs i = (d : Int) ∧ h d = (i : Int) := by
 rcases q.on i hi with ⟨e,-⟩ | hd
 ·omega
 ·exact hd
theorem OnP.worth (q : OnP N n m xs h) (W : Int → Int) : worthW W h n = sumN (fun j => if 0 ≤ gI xs j then W (j : Int) else 0) m := by
 rw [worth_cnt n fun d _ => (q.ok.lt d).2];refine sumN_eq m fun j hj => ?_;rw [q.cnt hj]
 split
 ·exact Int.one_mul _
 ·exact Int.zero_mul _
end
theorem wrthK_sum {t : Tr} {xs : List Int} : ∀ k,k ≤ t.fl.length → wrthK t xs k = sumN (fun j => if 0 ≤ gI xs j then mAt t.fl (j : Int) else 0) k
 | 0,_ => rfl
 | k + 1,hk => by
   show wrthK t xs k + (if 0 ≤ gI xs k then (match t.fl[k]? with | some f => f.m | none => 0) else 0) = sumN _ k + (if 0 ≤ gI xs k then mAt t.fl (k : Int) else 0)
   rw [wrthK_sum k (by omega),mAt_at (show k < t.fl.length by omega),List.getElem?_eq_getElem (show k < t.fl.length by omega)]
theorem OnP.wrth {t : Tr} {n : Nat} {xs : List Int} {h : Nat → Int} (q : OnP t.N n t.fl.length xs h) : wrthK t xs t.fl.length = worthW (mAt t.fl) h n := by
 rw [wrthK_sum _ (Nat.le_refl _),q.worth]
theorem onN_spec (h : Nat → Int) (i : Nat) : ∀ k,(onN h k i = -1 ∧ ∀ d,d < k → h d ≠ (i : Int)) ∨ ∃ d : Nat,d < k ∧ onN h k i = (d : Int) ∧ h d = (i : Int)
 | 0 => .inl ⟨rfl,fun d hd => absurd hd (Nat.not_lt_zero _)⟩
 | k + 1 => by
   by_cases h0 : 0 ≤ h k
   ·have e : onN h (k + 1) = updF (onN h k) (h k).toNat (k : Int) := if_pos h0;rw [e];unfold updF
    by_cases q : i = (h k).toNat
    ·rw [if_pos q];exact .inr ⟨k,Nat.lt_succ_self _,rfl,by omega⟩
    ·rw [if_neg q]
     rcases onN_spec h i k with ⟨h1,h2⟩ | ⟨d,h1,h2,h3⟩
     ·exact .inl ⟨h1,fun d hd => by
       rcases Nat.lt_or_ge d k with q2 | q2
       ·exact h2 d q2
       ·obtain rfl : d = k := by omega
        omega⟩
     ·exact .inr ⟨d,by omega,h2,h3⟩
   ·have e : onN h (k + 1) = onN h k := if_neg h0;rw [e]
    rcases onN_spec h i k with ⟨h1,h2⟩ | ⟨d,h1,h2,h3⟩
    ·exact .inl ⟨h1,fun d hd => by
      rcases Nat.lt_or_ge d k with q2 | q2
      ·exact h2 d q2
      ·obtain rfl : d = k := by omega
       omega⟩
    ·exact .inr ⟨d,by omega,h2,h3⟩
theorem onL_on {N : Int → List Nat} {n m : Nat} {h : Nat → Int} (hh : OkP N n m h) : OnP N n m (onL h n m) h :=
 ⟨hh,onL_len,fun i hi => by
  rw [onL_at hi]
  rcases onN_spec h i n with ⟨h1,h2⟩ | h1
  ·exact .inl ⟨h1,cntN_of_zero h2⟩
  ·exact .inr h1⟩
theorem wrong_plan {t : Tr} {n : Nat} {xs : List Int} (hT : OptT t n) (hl : xs.length = t.fl.length) : wrongI t xs < 0 ↔ ∃ h,OnP t.N n t.fl.length xs h := by
 constructor
 ·intro hw;have hb := wrongI_neg (t := t) (xs := xs) (by omega)
  have good : ∀ i (hi : i < t.fl.length),gI xs i = -1 ∨ ∃ d : Nat,d < n ∧ gI xs i = (d : Int) ∧ d ∈ t.N (i : Int) ∧ ∀ j,j < i → gI xs j ≠ gI xs i := fun i hi => by
   have q := hb i (by omega);rw [badK_at hi] at q
   by_cases e : gI xs i = -1
   ·exact .inl e
   ·rw [decide_eq_true (show gI xs i ≠ -1 from e),Bool.true_and,Bool.or_eq_false_iff] at q;obtain ⟨q1,q2⟩ := q;have q1 : okDay t t.fl[i].lo t.fl[i].hi (gI xs i) = true := by simpa using q1
    unfold okDay at q1;rw [decide_eq_true_iff] at q1;have hs := hT.sp _ (List.getElem_mem hi);obtain ⟨d,hd⟩ : ∃ d : Nat,gI xs i = (d : Int) := ⟨(gI xs i).toNat,by omega⟩;refine .inr ⟨d,by omega,hd,?_,fun j hj e2 => ?_⟩
    ·rw [trN_at hi,openN_in hs.1];rw [hd] at q1;exact ⟨q1.1.1,q1.1.2,q1.2⟩
    ·rw [hd,Int.toNat_natCast] at q2;have := takN_true.2 ⟨j,hj,e2.trans hd⟩;rw [q2] at this;cases this
  have ch : ∀ d : Nat,∃ x : Int,(∃ i : Nat,i < t.fl.length ∧ x = i ∧ gI xs i = (d : Int)) ∨ ((∀ i : Nat,i < t.fl.length → gI xs i ≠ (d : Int)) ∧ x = -1) := fun d => by
   by_cases q : ∃ i : Nat,i < t.fl.length ∧ gI xs i = (d : Int)
   ·obtain ⟨i,hi,e⟩ := q;exact ⟨i,.inl ⟨i,hi,rfl,e⟩⟩
   ·exact ⟨-1,.inr ⟨fun i hi e => q ⟨i,hi,e⟩,rfl⟩⟩
  obtain ⟨p,hp⟩ := Classical.axiomOfChoice ch
  have same : ∀ i j : Nat,i < t.fl.length → j < t.fl.length → 0 ≤ gI xs i → gI xs i = gI xs j → i = j := fun i j hi hj h0 e => by
   rcases Nat.lt_trichotomy i j with q | q | q
   ·rcases good j hj with h1 | ⟨d,-,-,-,h1⟩
    ·omega
    ·exact absurd e (h1 i q)
   ·exact q
   ·rcases good i hi with h1 | ⟨d,-,-,-,h1⟩
    ·omega
    ·exact absurd e.symm (h1 j q)
  refine ⟨p,OkP.of (fun d => ?_) (fun d hd h0 => ?_) (fun d e hd he h0 q => ?_),hl,fun i hi => ?_⟩
  ·rcases hp d with ⟨i,hi,e,-⟩ | ⟨-,e⟩ <;> omega
  ·rcases hp d with ⟨i,hi,e,e2⟩ | ⟨-,e⟩
   ·rcases good i hi with h1 | ⟨d',-,h1,h2,-⟩
    ·omega
    ·obtain rfl : d' = d := by omega
     rw [e];exact h2
   ·omega
  ·rcases hp d with ⟨i,hi,e1,e2⟩ | ⟨-,e1⟩
   ·rcases hp e with ⟨j,hj,e3,e4⟩ | ⟨-,e3⟩
    ·obtain rfl : i = j := by omega
     omega
    ·omega
   ·omega
  ·rcases good i hi with h1 | ⟨d,h0,h1,h2,-⟩
   ·refine .inl ⟨h1,cntN_of_zero fun d hd q => ?_⟩
    rcases hp d with ⟨j,hj,e1,e2⟩ | ⟨-,e1⟩
    ·obtain rfl : j = i := by omega
     omega
    ·omega
   ·refine .inr ⟨d,h0,h1,?_⟩
    rcases hp d with ⟨j,hj,e1,e2⟩ | ⟨h3,-⟩
    ·rw [e1,same j i hj hi (by omega) (by omega)]
    ·exact absurd h1 (h3 i hi)
 ·rintro ⟨h,q⟩
  have : wrongI t xs = -1 := wrongI_none fun i hi => by
   have hi' : i < t.fl.length := by omega
   rw [badK_at hi']
   rcases q.on i hi' with ⟨e,-⟩ | ⟨d,hd,e,e2⟩
   ·rw [e];rfl
   ·have hs := hT.sp _ (List.getElem_mem hi');have hday := q.ok.day d hd (by omega);rw [e2,trN_at hi',openN_in hs.1] at hday;have h1 : okDay t t.fl[i].lo t.fl[i].hi (gI xs i) = true := decide_eq_true (by rw [e];exact ⟨⟨hday.1,hday.2.1⟩,hday.2.2⟩)
    have h2 : takN xs i (gI xs i).toNat = false := by
     by_cases c : takN xs i (gI xs i).toNat = true
     ·obtain ⟨j,hj,ej⟩ := takN_true.1 c
      exfalso
      rcases q.on j (by omega) with ⟨e3,-⟩ | ⟨d',hd',e3,e4⟩
      ·omega
      ·obtain rfl : d' = d := by omega
       omega
     ·simpa using c
    rw [h1,h2];simp
  omega
theorem onL_right {t : Tr} {n : Nat} {h : Nat → Int} (hT : OptT t n) (hh : OkP t.N n t.fl.length h) : wrongI t (onL h n t.fl.length) < 0 := (wrong_plan hT onL_len).2 ⟨h,onL_on hh⟩
-- full spans
theorem fullN_sum {fl : List Fl} {xs : List Int} {a b : Int} : ∀ k,k ≤ fl.length → (fullN fl xs a b k : Int) = sumN (fun j => if 0 ≤ gI xs j then inW fl a b (j : Int) else 0) k
 | 0,_ => rfl
 | k + 1,hk => by
   have ih := fullN_sum (fl := fl) (xs := xs) (a := a) (b := b) k (by omega)
   show ((if insF fl xs a b k = true then fullN fl xs a b k + 1 else fullN fl xs a b k : Nat) : Int) = sumN _ k + (if 0 ≤ gI xs k then inW fl a b (k : Int) else 0)
   rw [← ih,insF_at (show k < fl.length by omega)];unfold inW;rw [inA_at (show k < fl.length by omega)]
   by_cases h1 : 0 ≤ gI xs k
   ·rw [if_pos h1,decide_eq_true h1,Bool.true_and]
    split <;> omega
   ·rw [if_neg h1,decide_eq_false h1,Bool.false_and,if_neg (by decide)];omega
theorem lowN_false {fl : List Fl} {xs : List Int} {a b m : Int} : ∀ {k},lowN fl xs a b m k = false ↔ ∀ j,j < k → insF fl xs a b j = true → m ≤ mAt fl (j : Int)
 | 0 => ⟨fun _ j hj => absurd hj (Nat.not_lt_zero _),fun _ => rfl⟩
 | k + 1 => by
   show (lowN fl xs a b m k || (insF fl xs a b k && decide (mAt fl (k : Int) < m))) = false ↔ _
   rw [Bool.or_eq_false_iff,lowN_false (k := k),Bool.and_eq_false_iff,decide_eq_false_iff_not]
   constructor
   ·rintro ⟨h1,h2⟩ j hj hi
    rcases Nat.lt_or_ge j k with q | q
    ·exact h1 j q hi
    ·obtain rfl : j = k := by omega
     rcases h2 with h2 | h2
     ·rw [h2] at hi;cases hi
     ·omega
   ·intro h;refine ⟨fun j hj hi => h j (by omega) hi,?_⟩
    by_cases q : insF fl xs a b k = true
    ·right;have := h k (Nat.lt_succ_self _) q;omega
    ·left;simpa using q
theorem fullB_iff {t : Tr} {n a b : Nat} {xs : List Int} {h : Nat → Int} {m : Int} (hT : OptT t n) (hP : OnP t.N n t.fl.length xs h) (hb : b < n) :
  fullB t xs (a : Int) (b : Int) m = true ↔ (∀ d,a ≤ d → d ≤ b → (d : Int) ∉ t.cl → 0 ≤ h d ∧ inA t.fl a b (h d) = true ∧ m ≤ mAt t.fl (h d)) := by
 unfold fullB;rw [Bool.and_eq_true,decide_eq_true_iff,Bool.not_eq_true',lowN_false]
 have e : fullN t.fl xs a b t.fl.length = (openN t.cl a b).length ↔ worthW (inW t.fl a b) h n = ((openN t.cl (a : Int) (b : Int)).length : Int) := by
  rw [hP.worth,← fullN_sum _ (Nat.le_refl _)];omega
 rw [e,full_iff hT.span hP.ok hb]
 constructor
 ·rintro ⟨h1,h2⟩ d d1 d2 d3;obtain ⟨q1,q2⟩ := h2 d d1 d2 d3;refine ⟨q1,q2,?_⟩;obtain ⟨j,hj,hjm⟩ := hP.ok.at' q1;rw [hj] at q2 ⊢;refine h1 j hjm ?_;rw [insF_at hjm,(hP.of_day (by omega) hj).2];rw [inA_at hjm] at q2;rw [q2];simp
 ·intro hall;refine ⟨fun j hj hi => ?_,fun d d1 d2 d3 => ⟨(hall d d1 d2 d3).1,(hall d d1 d2 d3).2.1⟩⟩;rw [insF_at hj,Bool.and_eq_true,decide_eq_true_iff] at hi;obtain ⟨d,hd,e1,e2⟩ := hP.to_day hj hi.1;have hin : inA t.fl a b (h d) = true := by rw [e2,inA_at hj];exact hi.2
  have := day_in (a := a) (b := b) hT.span hP.ok hd (by omega) hin;have := (hall d this.1 this.2.1 this.2.2).2.2
  rwa [e2] at this
def FullOk (t : Tr) (xs : List Int) (z : Int × Int) (k : Nat) : Prop :=
 if 0 ≤ gI xs k then z = (0,0) else match t.fl[k]? with
 | some f => (0 ≤ z.1 ∧ z.1 ≤ z.2 ∧ z.2 < t.n) ∧ (z.1 ≤ f.lo ∧ f.hi ≤ z.2) ∧ fullB t xs z.1 z.2 f.m = true
 | none => True
theorem FullOk.at {t : Tr} {xs : List Int} {z : Int × Int} {k : Nat} (hk : k < t.fl.length) (h0 : ¬ 0 ≤ gI xs k) : FullOk t xs z k ↔ (0 ≤ z.1 ∧ z.1 ≤ z.2 ∧ z.2 < t.n) ∧ (z.1 ≤ t.fl[k].lo ∧ t.fl[k].hi ≤ z.2) ∧ fullB t xs z.1 z.2 t.fl[k].m = true := by
 unfold FullOk;rw [if_neg h0,List.getElem?_eq_getElem hk]
instance {t : Tr} {xs : List Int} {z : Int × Int} {k : Nat} : Decidable (FullOk t xs z k) := by
 unfold FullOk;split
 ·infer_instance
 ·split <;> infer_instance
def gZ (l : List (Int × Int)) (i : Nat) : Int × Int := l[i]?.getD (0,0)
theorem gZ_lt {l : List (Int × Int)} {i : Nat} (h : i < l.length) : gZ l i = l[i] := by unfold gZ;rw [List.getElem?_eq_getElem h];rfl
def ProvP (t : Tr) (m : Md) : Prop := (m.on.length = t.fl.length ∧ m.full.length = t.fl.length ∧ wrongI t m.on < 0 ∧ wrthK t m.on t.fl.length = m.mt) ∧ ∀ k,k < t.fl.length → FullOk t m.on (gZ m.full k) k
theorem prov_best {t : Tr} {n : Nat} {m : Md} (hT : OptT t n) (hn : t.n = (n : Int)) (hp : ProvP t m) : ∃ h,OnP t.N n t.fl.length m.on h ∧ BestP t n h ∧ meritF t n = m.mt := by
 obtain ⟨⟨h1,h2,h3,h4⟩,h5⟩ := hp;obtain ⟨h,hP⟩ := (wrong_plan hT h1).1 h3;have opt := meritF_opt hT
 have e : worthW (mAt t.fl) h n = meritF t n := by
  refine IsOpt.eq (N := t.N) (n := n) (m := t.fl.length) (W := mAt t.fl) ⟨⟨h,hP.ok,rfl⟩,fun g hg => ?_⟩ opt;refine dual_max (S := fun _ => True) hP.ok hg (fun _ _ _ => .inl trivial) (mAt_pos hT.mr) fun i hi _ hz => ?_;have h0 : ¬ 0 ≤ gI m.on i := fun q => (hP.has hi).1 q hz;obtain ⟨s1,s2,s3⟩ := (FullOk.at hi h0).1 (h5 i hi);obtain ⟨a,ha⟩ : ∃ a : Nat,(gZ m.full i).1 = (a : Int) := ⟨(gZ m.full i).1.toNat,by omega⟩;obtain ⟨b,hb⟩ : ∃ b : Nat,(gZ m.full i).2 = (b : Int) := ⟨(gZ m.full i).2.toNat,by omega⟩;rw [ha,hb] at s1 s2 s3;have hall := (fullB_iff hT hP (by omega)).1 s3
  have hin : ∀ j : Nat,(hj : j < t.fl.length) → inA t.fl a b (j : Int) = true → ∀ d ∈ t.N (j : Int),a ≤ d ∧ d ≤ b ∧ (d : Int) ∉ t.cl := fun j hj hi d hd => by
   rw [inA_at hj,decide_eq_true_iff] at hi;rw [trN_at hj,openN_in (hT.sp _ (List.getElem_mem hj)).1] at hd;exact ⟨by omega,by omega,hd.2.2⟩
  refine ⟨fun d => a ≤ d ∧ d ≤ b ∧ (d : Int) ∉ t.cl,fun d hd => ?_,fun d hd => ?_,fun d hd => ?_⟩
  ·obtain ⟨q1,q2,-⟩ := hall d hd.1 hd.2.1 hd.2.2;obtain ⟨j,hj,hjm⟩ := hP.ok.at' q1;refine ⟨by omega,q1,fun e he => ?_⟩;rw [hj] at q2 he;exact hin j hjm q2 e he
  ·exact hin i hi (by rw [inA_at hi,decide_eq_true_iff];exact s2) d hd
  ·rw [mAt_at hi];exact (hall d hd.1 hd.2.1 hd.2.2).2.2
 exact ⟨h,hP,⟨hP.ok,e⟩,by rw [← e,← hP.wrth,h4]⟩
theorem best_prov {t : Tr} {n : Nat} {h : Nat → Int} (hT : OptT t n) (hn : t.n = (n : Int)) (hle : ∀ f ∈ t.fl,f.lo ≤ f.hi) (hpos : ∀ f ∈ t.fl,0 < f.m) (hb : BestP t n h) : ProvP t (wholeF t n h) := by
 have hP := onL_on hb.ok;refine ⟨⟨onL_len,by show ((List.range _).map _).length = _;simp,onL_right hT hb.ok,?_⟩,fun k hk => ?_⟩
 ·show wrthK t (onL h n t.fl.length) t.fl.length = worthN t.fl h n
  rw [hP.wrth,worthN_W]
 ·have e : gZ (wholeF t n h).full k = fullS t (onL h n t.fl.length) n k := by
   show gZ ((List.range t.fl.length).map _) k = _
   rw [gZ_lt (by simpa using hk)];simp
  rw [e]
  show FullOk t (onL h n t.fl.length) _ k
  by_cases h0 : 0 ≤ gI (onL h n t.fl.length) k
  ·unfold FullOk fullS;rw [if_pos h0,if_pos h0]
  ·rw [FullOk.at hk h0]
   have hz : cntN h (k : Int) n = 0 := by
    by_cases q : cntN h (k : Int) n = 0
    ·exact q
    ·exact absurd ((hP.has hk).2 q) h0
   have opt := meritF_opt hT;obtain ⟨X,hX,hX2,hX3⟩ := max_cert (W := mAt t.fl) (trN_lt hT.span) hb.ok (fun j hj => by rw [mAt_at hj];exact hpos _ (List.getElem_mem hj)) (fun g hg => by rw [hb.w];exact opt.le g hg) k hk hz;obtain ⟨a,b,w1,w2,w3,w4⟩ := window_of hT.span (fun k hk => hle _ (List.getElem_mem hk)) hb.ok hX hk hX2
   have hful : fullB t (onL h n t.fl.length) (a : Int) (b : Int) t.fl[k].m = true := (fullB_iff hT hP w2).2 fun d d1 d2 d3 => by
    obtain ⟨q1,q2⟩ := w4 d d1 d2 d3;have := hX3 d q1;rw [mAt_at hk] at this;exact ⟨(hX d q1).2.1,q2,this⟩
   rw [inA_at hk,decide_eq_true_iff] at w3
   have hne : firstS t (onL h n t.fl.length) n t.fl[k] ≠ none := fun q => by
    unfold firstS at q;rw [List.find?_eq_none] at q;refine q (a,b) (spanU_mem.2 ⟨by show a < n;omega,w1,w2⟩) ?_
    dsimp only
    rw [hful,decide_eq_true w3];rfl
   obtain ⟨p,hp⟩ := Option.ne_none_iff_exists'.1 hne
   have e2 : fullS t (onL h n t.fl.length) n k = ((p.1 : Int),(p.2 : Int)) := by
    unfold fullS;rw [if_neg h0,List.getElem?_eq_getElem hk]
    dsimp only
    rw [hp]
   rw [e2];unfold firstS at hp;have m1 := List.mem_of_find?_eq_some hp;have m2 := List.find?_some hp;rw [spanU_mem] at m1;rw [Bool.and_eq_true,decide_eq_true_iff] at m2;exact ⟨by dsimp only;omega,m2.1,m2.2⟩
theorem GoodT.opt {t : Tr} (h : GoodT t) : OptT t t.n.toNat := ⟨fun f hf => by
 have h1 := (h.ok f hf).2.1;have := h.n;exact ⟨h1.1,by omega⟩,fun f hf => by have := (h.ok f hf).2.2;omega⟩
theorem GoodT.le {t : Tr} (h : GoodT t) : ∀ f ∈ t.fl,f.lo ≤ f.hi := fun f hf => (h.ok f hf).2.1.2.1
theorem GoodT.pos {t : Tr} (h : GoodT t) : ∀ f ∈ t.fl,0 < f.m := fun f hf => by have := (h.ok f hf).2.2;omega
theorem GoodT.nn {t : Tr} (h : GoodT t) : t.n = (t.n.toNat : Int) := by have := h.n;omega
section
variable {N : Int → List Nat} {n m : Nat}
theorem canF_plan {l : List Int} (hN : ∀ i,∀ d ∈ N i,d < n) (hd : l.Nodup) (hm : ∀ x ∈ l,∃ k : Nat,x = (k : Int) ∧ k < m) (hc : canF N n l noPlan = true) :
  OkP N n m (l.foldl (addF N n) noPlan) ∧ ∀ j : Nat,cntN (l.foldl (addF N n) noPlan) (j : Int) n = if (j : Int) ∈ l then 1 else 0 := by
 obtain ⟨h1,h2⟩ := canF_true hN l noPlan noPlan_ok hd (fun x hx => by obtain ⟨k,rfl,hk⟩ := hm x hx;exact ⟨k,rfl,hk,noPlan_cnt⟩) hc;exact ⟨h1,fun j => by rw [h2,noPlan_cnt,Int.zero_add]⟩
end
theorem OptT.wider {t : Tr} {n i : Nat} {lo hi : Int} (hT : OptT t n) (h : i < t.fl.length) (hs : 0 ≤ lo ∧ hi < n) : OptT (widerT t i lo hi) n := by
 constructor
 ·intro f hf;rw [widerT_at h] at hf
  rcases List.mem_or_eq_of_mem_set hf with hf | rfl
  ·exact hT.sp f hf
  ·exact hs
 ·intro f hf;rw [widerT_at h] at hf
  rcases List.mem_or_eq_of_mem_set hf with hf | rfl
  ·exact hT.mr f hf
  ·show 0 ≤ t.fl[i].m
   exact hT.mr _ (List.getElem_mem h)
section
variable {N N' : Int → List Nat} {n m : Nat} {W : Int → Int} {w v v' : Int} {g h : Nat → Int}
theorem OkP.up (hh : OkP N n m h) : OkP N n (m + 1) h := ⟨fun d => by have := hh.lt d;omega,hh.day,hh.one⟩
theorem IsOpt.drop_le {i : Nat} (hv : IsOpt N n m W v) (hv' : IsOpt (dropN N i) n m W v') (h0 : 0 ≤ W i) : v ≤ v' + W i := by
 obtain ⟨g,g1,g2⟩ := hv.ex
 by_cases hz : cntN g (i : Int) n = 0
 ·have := hv'.le g (g1.sub fun d hd _ hm => dropN_mem.2 ⟨cntN_zero hz d hd,hm⟩);omega
 ·obtain ⟨d,hd,e⟩ := cntN_some hz
  have q := hv'.le (updI g d (-1)) ((g1.free d).sub fun k hk hk0 hm => by
   rcases updI_cases g d (-1) k with ⟨-,e1⟩ | ⟨ne,e1⟩ <;> rw [e1] at hk0 hm ⊢
   ·omega
   ·exact dropN_mem.2 ⟨fun q => ne (g1.inj hk hd hk0 (by omega)),(shutN_mem.1 hm).1⟩)
  rw [worth_upd hd,if_neg (show ¬ (0 : Int) ≤ -1 by decide),e,if_pos (Int.natCast_nonneg i)] at q;omega
theorem later_cert (hN : ∀ i,∀ d ∈ N i,d < n) (hh : OkP N n m h) (hadd : addB N n h m = false) (hpos : ∀ j : Nat,j < m → 0 < W j) (hmax : ∀ g,OkP N n m g → worthW W g n ≤ worthW W h n) (hw0 : 0 ≤ w)
  (hw : ∀ i : Nat,i < m → cntN h i n ≠ 0 → (∃ g,OkP N n (m + 1) g ∧ cntN g (m : Nat) n = 1 ∧ ∀ j : Nat,j ≠ i → cntN h j n ≠ 0 → cntN g j n = 1) → w ≤ W i) (hg : OkP N n (m + 1) g) :
  sumN (fun j => cntN g (j : Int) n * W j) m + cntN g (m : Nat) n * w ≤ worthW W h n := by
 let W' : Int → Int := fun j => if j = (m : Int) then w else if 0 ≤ j ∧ j < m then W j else 0
 have Wm : W' (m : Int) = w := if_pos rfl
 have Wj : ∀ j : Nat,j < m → W' (j : Int) = W j := fun j hj => by
  show (if (j : Int) = m then w else if 0 ≤ (j : Int) ∧ (j : Int) < m then W j else 0) = _
  rw [if_neg (by omega),if_pos (by omega)]
 have W0 : ∀ j,0 ≤ W' j := fun j => by
  show 0 ≤ (if j = (m : Int) then w else if 0 ≤ j ∧ j < m then W j else 0)
  split
  ·exact hw0
  ·split
   ·rename_i q
    have := hpos j.toNat (by omega);rw [show ((j.toNat : Nat) : Int) = j by omega] at this;omega
   ·exact Int.le_refl _
 have hz : cntN h (m : Nat) n = 0 := cntN_of_zero fun d _ e => by have := (hh.lt d).2;omega
 have e : worthW W' h n = worthW W h n := worth_eq n fun d _ => ⟨Iff.rfl,fun h0 => by
  obtain ⟨j,hj,hjm⟩ := hh.at' h0
  rw [hj];exact Wj j hjm⟩
 have q := dual_max (W := W') (S := fun _ => True) hh.up hg (fun _ _ _ => .inl trivial) W0 (fun i hi _ hiz => by
  by_cases c : i = m
  ·subst c;obtain ⟨-,X,h2,h3,h4⟩ := add_false hN hh.up (Nat.lt_succ_self i) hz hadd;refine ⟨X,h2,h3,fun d hd => ?_⟩;have hX := h2 d hd;obtain ⟨k,hk,hkm⟩ := hh.at' hX.2.1;rw [Wm,hk,Wj k hkm];refine hw k hkm (fun q => cntN_zero q d hX.1 hk) ?_;obtain ⟨g',g1,g2⟩ := h4 d hd;refine ⟨g',g1,?_,fun j hj hjz => ?_⟩
   ·rw [g2,hz,if_neg (by omega),if_pos rfl];rfl
   ·have hji : i ≠ j := fun q => by subst q;exact hjz hz
    rw [g2,if_neg (by omega),if_neg hji];have := hh.one j;have := cntN_pos (h := h) (j := (j : Int)) (n := n);omega
  ·obtain ⟨X,h1,h2,h3⟩ := max_cert hN hh hpos hmax i (by omega) hiz;refine ⟨X,h1,h2,fun d hd => ?_⟩;have hX := h1 d hd;obtain ⟨k,hk,hkm⟩ := hh.at' hX.2.1;have := h3 d hd;rw [hk] at this ⊢
   rw [Wj k hkm,Wj i (by omega)];exact this)
 rw [e,worth_cnt n fun d _ => (hg.lt d).2] at q;have q : sumN (fun j => cntN g (j : Int) n * W' j) m + cntN g (m : Nat) n * W' m ≤ worthW W h n := q;rw [Wm,sumN_eq m (g := fun j => cntN g (j : Int) n * W j) fun j hj => by rw [Wj j hj]] at q;exact q
theorem cnt_worth {L : List Int} (hh : OkP N n m h) (hc : ∀ j : Nat,j < m → cntN h (j : Int) n = if (j : Int) ∈ L then 1 else 0) : worthW W h n = sumN (fun j => if (j : Int) ∈ L then W j else 0) m := by
 rw [worth_cnt n fun d _ => (hh.lt d).2];refine sumN_eq m fun j hj => ?_;rw [hc j hj]
 split
 ·exact Int.one_mul _
 ·exact Int.zero_mul _
end
def moreT (t : Tr) (f : Fl) : Tr := ⟨t.n,t.cl,t.fl ++ [f]⟩
section
variable {t : Tr} {f : Fl} {n : Nat}
theorem moreT_len : (moreT t f).fl.length = t.fl.length + 1 := by show (t.fl ++ [f]).length = _;rw [List.length_append,List.length_singleton]
theorem moreT_at {j : Nat} (hj : j < t.fl.length) : (moreT t f).fl[j]? = t.fl[j]? := List.getElem?_append_left hj
theorem moreT_last : (moreT t f).fl[t.fl.length]? = some f := by show (t.fl ++ [f])[t.fl.length]? = _;rw [List.getElem?_append_right (Nat.le_refl _),Nat.sub_self];rfl
theorem moreT_N {j : Nat} (hj : j < t.fl.length) : (moreT t f).N (j : Int) = t.N (j : Int) := nCl_eq (cl := t.cl) (moreT_at hj)
theorem moreT_m {j : Nat} (hj : j < t.fl.length) : mAt (moreT t f).fl (j : Int) = mAt t.fl (j : Int) := mAt_eq (moreT_at hj)
theorem moreT_mf : mAt (moreT t f).fl (t.fl.length : Int) = f.m := by unfold mAt;rw [Int.toNat_natCast,moreT_last]
theorem OkP.toMore {g : Nat → Int} (hg : OkP t.N n t.fl.length g) : OkP (moreT t f).N n t.fl.length g := hg.sub fun d _ h0 hm => by
 obtain ⟨j,hj,hjm⟩ := hg.at' h0;rw [hj] at hm ⊢;rw [moreT_N hjm];exact hm
theorem OkP.ofMore {g : Nat → Int} (hg : OkP (moreT t f).N n t.fl.length g) : OkP t.N n t.fl.length g := hg.sub fun d _ h0 hm => by
 obtain ⟨j,hj,hjm⟩ := hg.at' h0;rw [hj] at hm ⊢;rw [← moreT_N hjm];exact hm
theorem more_bounds (hT : OptT t n) (hM : OptT (moreT t f) n) : meritF t n ≤ meritF (moreT t f) n ∧ meritF (moreT t f) n ≤ meritF t n + f.m := by
 have o1 := meritF_opt hT;have o2 := meritF_opt hM
 have o3 : IsOpt (dropN (moreT t f).N (t.fl.length : Nat)) n (moreT t f).fl.length (mAt (moreT t f).fl) (meritF t n) := by
  refine IsOpt.emb (f := id) (fun a b _ _ e => e) (fun a ha => by rw [moreT_len];exact Nat.lt_succ_of_lt ha) (fun a ha d _ => ?_) (fun a ha => (moreT_m ha).symm) (fun j hj hn => ?_) o1
  ·rw [dropN_mem,id,moreT_N ha];exact ⟨fun q => ⟨by omega,q⟩,fun q => q.2⟩
  ·rw [moreT_len] at hj
   have : j = t.fl.length := by
    by_cases c : j < t.fl.length
    ·exact absurd rfl (hn j c)
    ·omega
   subst this;exact if_pos rfl
 have h1 := (o2.drop o3).1;have h2 := o2.drop_le o3 (mAt_pos hM.mr _);rw [moreT_mf] at h2;exact ⟨h1,h2⟩
end
def swapL (N : Int → List Nat) (n : Nat) (m : Int) (W : Int → Int) (l : List Int) : Nat → Nat → List Int
 | _,0 => l
 | k,u + 1 => if W m ≤ W (gI l k) then l else if canF N n (l.eraseIdx k ++ [m]) noPlan = true then l.eraseIdx k ++ [m] else swapL N n m W l (k + 1) u
def laterL (N : Int → List Nat) (n : Nat) (m : Int) (W : Int → Int) (l : List Int) : List Int := if canF N n (l ++ [m]) noPlan = true then l ++ [m] else swapL N n m W l 0 l.length
structure LatP (N : Int → List Nat) (n m : Nat) (l L : List Int) : Prop where
 can : canF N n L noPlan = true
 nd : L.Nodup
 mem : ∀ x ∈ L,x ∈ l ∨ x = (m : Int)
 one : ∀ x ∈ l,∀ y ∈ l,x ∉ L → y ∉ L → x = y
theorem nodup_snoc {l : List Int} {x : Int} (h : l.Nodup) (hx : x ∉ l) : (l ++ [x]).Nodup := by
 rw [List.nodup_append];refine ⟨h,by simp,fun a ha b hb e => ?_⟩;rw [List.mem_singleton] at hb;exact hx (by rw [← hb,← e];exact ha)
theorem mem_eraseIdx_nd {l : List Int} (h : l.Nodup) {k : Nat} (hk : k < l.length) {x : Int} : x ∈ l.eraseIdx k ↔ x ∈ l ∧ x ≠ gI l k := by
 rw [gI_lt hk,List.mem_eraseIdx_iff_getElem]
 constructor
 ·rintro ⟨i,hi,hne,rfl⟩;exact ⟨List.getElem_mem hi,fun e => hne ((List.getElem_inj h).1 e)⟩
 ·rintro ⟨hx,hne⟩;obtain ⟨i,hi,rfl⟩ := List.getElem_of_mem hx;exact ⟨i,hi,fun e => hne (by subst e;rfl),rfl⟩
section
variable {t : Tr} {f : Fl} {n : Nat} {h : Nat → Int} {l : List Int}
structure LatS (t : Tr) (f : Fl) (n : Nat) (h : Nat → Int) (l : List Int) : Prop where
 hT : OptT t n
 hM : OptT (moreT t f) n
 pos : ∀ x ∈ t.fl,0 < x.m
 hb : BestP t n h
 nd : l.Nodup
 mm : ∀ x ∈ l,∃ k : Nat,x = (k : Int) ∧ k < t.fl.length
 srt : l.Pairwise fun a b => mAt t.fl a ≤ mAt t.fl b
 cnt : ∀ j : Nat,j < t.fl.length → cntN h (j : Int) n = if (j : Int) ∈ l then 1 else 0
theorem LatS.not (s : LatS t f n h l) : ((t.fl.length : Nat) : Int) ∉ l := fun q => by
 obtain ⟨k,e,hk⟩ := s.mm _ q;omega
theorem LatS.mm' (s : LatS t f n h l) {L : List Int} (hL : ∀ x ∈ L,x ∈ l ∨ x = (t.fl.length : Int)) : ∀ x ∈ L,∃ k : Nat,x = (k : Int) ∧ k < t.fl.length + 1 := fun x hx => by
 rcases hL x hx with q | q
 ·obtain ⟨k,e,hk⟩ := s.mm x q;exact ⟨k,e,by omega⟩
 ·exact ⟨_,q,Nat.lt_succ_self _⟩
theorem LatS.in (s : LatS t f n h l) {x : Int} (hx : x ∈ l) : cntN h x n = 1 := by
 obtain ⟨k,rfl,hk⟩ := s.mm x hx;rw [s.cnt k hk,if_pos hx]
theorem LatS.worth (s : LatS t f n h l) : sumN (fun j => if (j : Int) ∈ l then mAt t.fl j else 0) t.fl.length = meritF t n := by
 rw [← s.hb.w];exact (cnt_worth s.hb.ok s.cnt).symm
theorem LatS.val (s : LatS t f n h l) {L : List Int} (hL : LatP (moreT t f).N n t.fl.length l L) : OkP (moreT t f).N n (t.fl.length + 1) (L.foldl (addF (moreT t f).N n) noPlan) ∧
  (∀ j : Nat,cntN (L.foldl (addF (moreT t f).N n) noPlan) (j : Int) n = if (j : Int) ∈ L then 1 else 0) ∧
  worthW (mAt (moreT t f).fl) (L.foldl (addF (moreT t f).N n) noPlan) n = sumN (fun j => if (j : Int) ∈ L then mAt t.fl j else 0) t.fl.length + if ((t.fl.length : Nat) : Int) ∈ L then f.m else 0 := by
 obtain ⟨h1,h2⟩ := canF_plan (m := t.fl.length + 1) (trN_lt s.hM.span) hL.nd (s.mm' hL.mem) hL.can;refine ⟨h1,h2,?_⟩;rw [cnt_worth h1 fun j _ => h2 j]
 show sumN _ t.fl.length + (if ((t.fl.length : Nat) : Int) ∈ L then mAt (moreT t f).fl (t.fl.length : Nat) else 0) = _
 rw [moreT_mf,sumN_eq t.fl.length (g := fun j => if (j : Int) ∈ L then mAt t.fl j else 0) fun j hj => by rw [moreT_m hj]]
theorem LatS.one (s : LatS t f n h l) {L : List Int} (hL : LatP (moreT t f).N n t.fl.length l L)
  (hle : ∀ g,OkP (moreT t f).N n (t.fl.length + 1) g → worthW (mAt (moreT t f).fl) g n ≤ sumN (fun j => if (j : Int) ∈ L then mAt t.fl j else 0) t.fl.length + if ((t.fl.length : Nat) : Int) ∈ L then f.m else 0) :
  BestP (moreT t f) n (L.foldl (addF (moreT t f).N n) noPlan) := by
 obtain ⟨h1,-,h3⟩ := s.val hL;have o := meritF_opt s.hM;rw [moreT_len] at o;have ok : OkP (moreT t f).N n (moreT t f).fl.length (L.foldl (addF (moreT t f).N n) noPlan) := by rw [moreT_len];exact h1
 exact ⟨ok,IsOpt.eq (N := (moreT t f).N) (n := n) (m := t.fl.length + 1) (W := mAt (moreT t f).fl) ⟨⟨_,h1,rfl⟩,fun g hg => by rw [h3];exact hle g hg⟩ o⟩
theorem sum_erase {l : List Int} {W : Int → Int} {m k : Nat} {i : Nat} (hn : l.Nodup) (hk : k < l.length) (hi : gI l k = (i : Int)) (him : i < m) :
  sumN (fun j => if (j : Int) ∈ l then W j else 0) m = sumN (fun j => if (j : Int) ∈ l.eraseIdx k then W j else 0) m + W i := by
 rw [sumN_eq m (f := fun j => if (j : Int) ∈ l then W j else 0) (g := fun j => (if (j : Int) ∈ l.eraseIdx k then W j else 0) + if j = i then W j else 0) fun j _ => by
  by_cases e : j = i
  ·subst e;rw [if_pos (by rw [← hi];exact gI_mem hk),if_neg (by rw [mem_eraseIdx_nd hn hk,hi];exact fun q => q.2 rfl),if_pos rfl,Int.zero_add]
  ·rw [if_neg e,Int.add_zero]
   by_cases c : (j : Int) ∈ l
   ·rw [if_pos c,if_pos ((mem_eraseIdx_nd hn hk).2 ⟨c,by rw [hi];omega⟩)]
   ·rw [if_neg c,if_neg fun q => c ((mem_eraseIdx_nd hn hk).1 q).1],sumN_add,sumN_one (F := fun j => W (j : Int)),if_pos him]
theorem LatS.sorted (s : LatS t f n h l) {a b : Nat} (hab : a ≤ b) (hb : b < l.length) : mAt t.fl (gI l a) ≤ mAt t.fl (gI l b) := by
 rcases Nat.lt_or_ge a b with q | q
 ·have := List.pairwise_iff_getElem.1 s.srt a b (by omega) hb q;rw [gI_lt (by omega),gI_lt hb];exact this
 ·obtain rfl : a = b := by omega
  exact Int.le_refl _
theorem LatS.swap (s : LatS t f n h l) (hno : canF (moreT t f).N n (l ++ [((t.fl.length : Nat) : Int)]) noPlan = false) : ∀ (u k : Nat),k + u = l.length →
  (∀ j,j < k → canF (moreT t f).N n (l.eraseIdx j ++ [((t.fl.length : Nat) : Int)]) noPlan = false ∧ mAt t.fl (gI l j) < f.m) →
  LatP (moreT t f).N n t.fl.length l (swapL (moreT t f).N n (t.fl.length : Nat) (mAt (moreT t f).fl) l k u) ∧ BestP (moreT t f) n ((swapL (moreT t f).N n (t.fl.length : Nat) (mAt (moreT t f).fl) l k u).foldl (addF (moreT t f).N n) noPlan) := by
 intro u k hku hbad;have hNM := trN_lt s.hM.span;have fm0 : 0 ≤ f.m := s.hM.mr f (by show f ∈ t.fl ++ [f];simp);have okM : OkP (moreT t f).N n t.fl.length h := s.hb.ok.toMore
 have hadd : addB (moreT t f).N n h ((t.fl.length : Nat) : Int) = false := by
  by_cases c : addB (moreT t f).N n h ((t.fl.length : Nat) : Int) = true
  ·exfalso
   have hz : cntN h ((t.fl.length : Nat) : Int) n = 0 := cntN_of_zero fun d _ e => by have := (s.hb.ok.lt d).2;omega
   obtain ⟨a1,a2⟩ := add_true hNM okM.up (Nat.lt_succ_self _) hz c
   have : canF (moreT t f).N n (l ++ [((t.fl.length : Nat) : Int)]) noPlan = true := (can_iff hNM (nodup_snoc s.nd s.not) (s.mm' (fun x hx => by rw [List.mem_append,List.mem_singleton] at hx;exact hx))).2 ⟨_,a1,fun x hx => by
    rw [List.mem_append,List.mem_singleton] at hx
    rcases hx with hx | hx
    ·obtain ⟨j,rfl,hj⟩ := s.mm x hx;rw [a2,s.in hx,if_neg (by omega)];rfl
    ·subst hx;rw [a2,hz,if_pos rfl];rfl⟩
   rw [hno] at this;cases this
  ·simpa using c
 have ndE : ∀ j,j < l.length → (l.eraseIdx j ++ [((t.fl.length : Nat) : Int)]).Nodup := fun j hj => nodup_snoc (s.nd.eraseIdx j) fun q => s.not ((mem_eraseIdx_nd s.nd hj).1 q).1
 have mmE : ∀ j,j < l.length → ∀ x ∈ l.eraseIdx j ++ [((t.fl.length : Nat) : Int)],x ∈ l ∨ x = ((t.fl.length : Nat) : Int) := fun j hj x hx => by
  rw [List.mem_append,List.mem_singleton] at hx;exact hx.imp (fun q => ((mem_eraseIdx_nd s.nd hj).1 q).1) id
 -- what can make room stands at k or behind
 have room : ∀ w : Int,0 ≤ w → (∀ j,k ≤ j → j < l.length → w ≤ mAt t.fl (gI l j)) → ∀ g,OkP (moreT t f).N n (t.fl.length + 1) g → sumN (fun j => cntN g (j : Int) n * mAt t.fl j) t.fl.length + cntN g ((t.fl.length : Nat) : Int) n * w ≤ meritF t n := fun w hw0 hw g hg => by
  rw [← s.hb.w];refine later_cert hNM okM hadd (fun j hj => by rw [mAt_at hj];exact s.pos _ (List.getElem_mem hj)) (fun g' hg' => by rw [s.hb.w];exact (meritF_opt s.hT).le g' hg'.ofMore) hw0 (fun i hi hiz hex => ?_) hg;obtain ⟨g',g1,g2,g3⟩ := hex
  have hil : (i : Int) ∈ l := by
   by_cases c : (i : Int) ∈ l
   ·exact c
   ·exact absurd (by rw [s.cnt i hi,if_neg c]) hiz
  obtain ⟨j,hj,e⟩ := List.getElem_of_mem hil;have ej : gI l j = (i : Int) := by rw [gI_lt hj,e]
  rw [← ej];refine hw j ?_ hj
  by_cases c : k ≤ j
  ·exact c
  ·exfalso
   have q := (hbad j (by omega)).1
   have : canF (moreT t f).N n (l.eraseIdx j ++ [((t.fl.length : Nat) : Int)]) noPlan = true := (can_iff hNM (ndE j hj) (s.mm' (mmE j hj))).2 ⟨g',g1,fun x hx => by
    rw [List.mem_append,List.mem_singleton] at hx
    rcases hx with hx | hx
    ·obtain ⟨x1,x2⟩ := (mem_eraseIdx_nd s.nd hj).1 hx;obtain ⟨b,rfl,hb⟩ := s.mm x x1;exact g3 b (by rw [ej] at x2;omega) (by rw [s.in x1];decide)
    ·subst hx;exact g2⟩
   rw [q] at this;cases this
 have sums : ∀ g,OkP (moreT t f).N n (t.fl.length + 1) g → worthW (mAt (moreT t f).fl) g n = sumN (fun j => cntN g (j : Int) n * mAt t.fl j) t.fl.length + cntN g ((t.fl.length : Nat) : Int) n * f.m := fun g hg => by
  rw [worth_cnt n fun d _ => (hg.lt d).2]
  show sumN _ t.fl.length + cntN g ((t.fl.length : Nat) : Int) n * mAt (moreT t f).fl ((t.fl.length : Nat) : Int) = _
  rw [moreT_mf,sumN_eq t.fl.length (g := fun j => cntN g (j : Int) n * mAt t.fl j) fun j hj => by rw [moreT_m hj]]
 have own : LatP (moreT t f).N n t.fl.length l l := ⟨(can_iff hNM s.nd (s.mm' fun x hx => .inl hx)).2 ⟨h,okM.up,fun x hx => s.in hx⟩,s.nd,fun x hx => .inl hx,fun x hx y _ hx' _ => absurd hx hx'⟩
 have stay : (∀ j,k ≤ j → j < l.length → f.m ≤ mAt t.fl (gI l j)) → BestP (moreT t f) n (l.foldl (addF (moreT t f).N n) noPlan) := fun hall => s.one own fun g hg => by
  rw [sums g hg,s.worth,if_neg s.not];have := room f.m fm0 hall g hg;omega
 cases u with
 | zero =>
   show LatP _ _ _ l l ∧ BestP _ _ (l.foldl _ _)
   exact ⟨own,stay fun j hj hjl => by omega⟩
 | succ u =>
   unfold swapL;rw [moreT_mf];have hkl : k < l.length := by omega
   obtain ⟨i,ei,him⟩ := s.mm _ (gI_mem hkl);have emk : mAt (moreT t f).fl (gI l k) = mAt t.fl (gI l k) := by rw [ei];exact moreT_m him
   rw [emk]
   by_cases c : f.m ≤ mAt t.fl (gI l k)
   ·rw [if_pos c];exact ⟨own,stay fun j hj hjl => by have := s.sorted hj hjl;omega⟩
   ·rw [if_neg c]
    by_cases c2 : canF (moreT t f).N n (l.eraseIdx k ++ [((t.fl.length : Nat) : Int)]) noPlan = true
    ·rw [if_pos c2]
     have lp : LatP (moreT t f).N n t.fl.length l (l.eraseIdx k ++ [((t.fl.length : Nat) : Int)]) := ⟨c2,ndE k hkl,mmE k hkl,fun x hx y hy hx' hy' => by
      have key : ∀ z ∈ l,z ∉ l.eraseIdx k ++ [((t.fl.length : Nat) : Int)] → z = gI l k := fun z hz hz' => by
       by_cases q : z = gI l k
       ·exact q
       ·exact absurd (List.mem_append_left _ ((mem_eraseIdx_nd s.nd hkl).2 ⟨hz,q⟩)) hz'
      rw [key x hx hx',key y hy hy']⟩
     refine ⟨lp,s.one lp fun g hg => ?_⟩;have w0 : 0 ≤ mAt t.fl (gI l k) := mAt_pos s.hT.mr _;have q := room (mAt t.fl (gI l k)) w0 (fun j hj hjl => s.sorted hj hjl) g hg;have q2 := sum_erase (W := mAt t.fl) s.nd hkl ei him;rw [s.worth] at q2
     have e3 : sumN (fun j => if (j : Int) ∈ l.eraseIdx k ++ [((t.fl.length : Nat) : Int)] then mAt t.fl j else 0) t.fl.length = sumN (fun j => if (j : Int) ∈ l.eraseIdx k then mAt t.fl j else 0) t.fl.length := sumN_eq _ fun j hj => by
      by_cases z : (j : Int) ∈ l.eraseIdx k
      ·rw [if_pos z,if_pos (List.mem_append_left _ z)]
      ·rw [if_neg z,if_neg (by rw [List.mem_append,List.mem_singleton];rintro (a | a);exact z a;omega)]
     rw [sums g hg,e3,if_pos (by simp)];have c1 := hg.one t.fl.length;have c0 := cntN_pos (h := g) (j := ((t.fl.length : Nat) : Int)) (n := n);rw [ei] at c q
     rcases (show cntN g ((t.fl.length : Nat) : Int) n = 0 ∨ cntN g ((t.fl.length : Nat) : Int) n = 1 by omega) with z | z
     ·rw [z,Int.zero_mul] at q ⊢;omega
     ·rw [z,Int.one_mul] at q ⊢;omega
    ·rw [if_neg c2]
     exact s.swap hno u (k + 1) (by omega) fun j hj => by
      rcases Nat.lt_or_ge j k with q | q
      ·exact hbad j q
      ·obtain rfl : j = k := by omega
       exact ⟨by simpa using c2,by omega⟩
theorem LatS.later (s : LatS t f n h l) : LatP (moreT t f).N n t.fl.length l (laterL (moreT t f).N n (t.fl.length : Nat) (mAt (moreT t f).fl) l) ∧ BestP (moreT t f) n ((laterL (moreT t f).N n (t.fl.length : Nat) (mAt (moreT t f).fl) l).foldl (addF (moreT t f).N n) noPlan) := by
 unfold laterL
 by_cases c : canF (moreT t f).N n (l ++ [((t.fl.length : Nat) : Int)]) noPlan = true
 ·rw [if_pos c];have lp : LatP (moreT t f).N n t.fl.length l (l ++ [((t.fl.length : Nat) : Int)]) := ⟨c,nodup_snoc s.nd s.not,fun x hx => by rw [List.mem_append,List.mem_singleton] at hx;exact hx,fun x hx y _ hx' _ => absurd (List.mem_append_left _ hx) hx'⟩;refine ⟨lp,s.one lp fun g hg => ?_⟩
  have e3 : sumN (fun j => if (j : Int) ∈ l ++ [((t.fl.length : Nat) : Int)] then mAt t.fl j else 0) t.fl.length = sumN (fun j => if (j : Int) ∈ l then mAt t.fl j else 0) t.fl.length := sumN_eq _ fun j hj => by
   by_cases z : (j : Int) ∈ l
   ·rw [if_pos z,if_pos (List.mem_append_left _ z)]
   ·rw [if_neg z,if_neg (by rw [List.mem_append,List.mem_singleton];rintro (a | a);exact z a;omega)]
  rw [e3,s.worth,if_pos (by simp)];have o := meritF_opt s.hM;rw [moreT_len] at o;have := o.le g hg;have := (more_bounds s.hT s.hM).2;omega
 ·rw [if_neg c];exact s.swap (by simpa using c) l.length 0 (by omega) fun j hj => absurd hj (Nat.not_lt_zero _)
end
theorem ClOk.of {n : Int} {cl : List Int} (hr : Rising cl) (hb : ∀ x ∈ cl,0 ≤ x ∧ x ≤ n - 1) : ClOk n cl := fun k hk => ⟨hb _ (gI_mem hk),fun h0 => hr (k - 1) k (by omega) hk⟩
structure InsP (a : List Int) (x : Int) (k : Nat) (Z : List Int) (put : Bool) : Prop where
 srt : Z.Pairwise (· < ·)
 mem : ∀ y,y ∈ Z ↔ y ∈ a.take k ∨ (put = true ∧ y = x)
 hi : put = true → ∀ y ∈ a.drop k,x < y
 lo : put = false → ∀ y ∈ a.take k,y < x
theorem pw_snoc {l : List Int} {x : Int} : (l ++ [x]).Pairwise (· < ·) ↔ l.Pairwise (· < ·) ∧ ∀ y ∈ l,y < x := by
 rw [List.pairwise_append]
 constructor
 ·rintro ⟨h1,-,h2⟩;exact ⟨h1,fun y hy => h2 y hy x (by simp)⟩
 ·rintro ⟨h1,h2⟩;exact ⟨h1,List.pairwise_singleton _ _,fun y hy z hz => by rw [List.mem_singleton] at hz;subst hz;exact h2 y hy⟩
section
variable {a : List Int} {x : Int} {k : Nat} {Z : List Int} {put : Bool}
theorem take_lt (ha : a.Pairwise (· < ·)) (hk : k < a.length) : ∀ y ∈ a.take k,y < a[k] := fun y hy => by
 obtain ⟨j,hj,e⟩ := List.getElem_of_mem hy;rw [List.length_take] at hj;rw [List.getElem_take] at e;rw [← e];exact List.pairwise_iff_getElem.1 ha j k (by omega) hk (by omega)
theorem InsP.on (h : InsP a x k Z put) (ha : a.Pairwise (· < ·)) (hk : k < a.length) (hx : put = true ∨ a[k] < x) : InsP a x (k + 1) (Z ++ [a[k]]) put := by
 refine ⟨pw_snoc.2 ⟨h.srt,fun y hy => ?_⟩,fun y => ?_,fun q y hy => ?_,fun q y hy => ?_⟩
 ·rcases (h.mem y).1 hy with q | ⟨q,rfl⟩
  ·exact take_lt ha hk y q
  ·exact h.hi q _ (by rw [List.drop_eq_getElem_cons hk];exact List.mem_cons_self)
 ·rw [List.mem_append,List.mem_singleton,h.mem,take_snoc hk,List.mem_append,List.mem_singleton]
  constructor
  ·rintro ((q | q) | q)
   ·exact .inl (.inl q)
   ·exact .inr q
   ·exact .inl (.inr q)
  ·rintro ((q | q) | q)
   ·exact .inl (.inl q)
   ·exact .inr q
   ·exact .inl (.inr q)
 ·exact h.hi q y (by rw [List.drop_eq_getElem_cons hk];exact List.mem_cons_of_mem _ hy)
 ·rw [take_snoc hk,List.mem_append,List.mem_singleton] at hy
  rcases hy with hy | rfl
  ·exact h.lo q y hy
  ·rcases hx with e | e
   ·rw [q] at e;cases e
   ·exact e
def insW (Z : List Int) (put : Bool) (x : Int) : List Int := if put = true then Z else Z ++ [x]
theorem InsP.done (h : InsP a x a.length Z put) : (insW Z put x).Pairwise (· < ·) ∧ ∀ y,y ∈ insW Z put x ↔ y ∈ a ∨ y = x := by
 have hm := h.mem;rw [List.take_length] at hm;unfold insW
 by_cases q : put = true
 ·rw [if_pos q];exact ⟨h.srt,fun y => by rw [hm];exact ⟨fun z => z.imp id fun z => z.2,fun z => z.imp id fun z => ⟨q,z⟩⟩⟩
 ·rw [if_neg q];have q0 : put = false := by simpa using q
  have hl := h.lo q0;rw [List.take_length] at hl;have hz : ∀ y ∈ Z,y ∈ a := fun y hy => ((hm y).1 hy).resolve_right fun z => q z.1;refine ⟨pw_snoc.2 ⟨h.srt,fun y hy => hl y (hz y hy)⟩,fun y => ?_⟩;rw [List.mem_append,List.mem_singleton,hm];exact ⟨fun z => z.elim (fun z => .inl (z.resolve_right fun z => q z.1)) .inr,fun z => z.elim (fun z => .inl (.inl z)) .inr⟩
end
end Go.Proofs.YtnklbepeoicgpaaGreat
namespace Go.Proofs.YtnklbepeoicgpaaGreat
open Go.RowKit Go.Wk Go.Proofs
attribute [local irreducible] Go.Wk.Wops Go.Wk.Wp Go.Wk.Mtree Go.Wk.Mops
set_option maxHeartbeats 8000000
set_option maxRecDepth 20000
theorem worthM_c (t : Tr) (n : Nat) (on : List Int) (v ov : Value) (w : World) (hP : PlanT t n) (hV : TourV w w.heap.size v t) (hI : IntsV w w.heap.size ov on) (hl : on.length = t.fl.length) :
  CallsV Tryz.prog 141 #[v,ov] w fun v' w' => v' = .int .i64 (wrthK t on t.fl.length) ∧ Ext w w' := by
 obtain ⟨A,c,A2,c2,rfl,hI1,hF⟩ := hV.open';obtain ⟨A1,c1,rfl,-,-⟩ := id hI;have hFS : FlawsS w w.heap.size (.slice A2 t.fl.length c2) t.fl := ⟨hF⟩;have hXS : IntsS w w.heap.size (.slice A1 on.length c1) on := ⟨hI⟩;clear hV hI1 hF hI;have hm12 := hP.fl;replace hl : ∃ _u : Unit,_ := ⟨(),hl⟩;refine Wp.fn Tryz.func141 rfl Tryz.ntmps141 (by simp) ?_;have xw := Ext.refl w;refine Wp.keep [0,1] ?_;rintro r1 ⟨p,B,-⟩;simp [go_sem] at p B;refine sRg fun K' gd hK => ?_;refine cu1 fun K1 hK1 => ?_;go_simp;apply hK1;clear hK1 K1;refine Wops.absA fun aB n2 i => ?_;obtain ⟨q2,i,s2,ak,f2,r2⟩ := i;try simp only [q2] at ak f2 r2 ⊢
 replace hFS := hFS.ext i;replace hXS := hXS.ext i;replace xw := xw.trans i;have al := ak 2 _ rfl;clear ak i;clear r2;go_simp;apply hK;clear hK K' gd;refine Wp.keep [1,2] ?_;rintro r2 ⟨C,G,-⟩;simp [go_sem,p,B] at C G;clear p B;refine sRg fun K' gd hK => ?_;go_simp;apply hK;clear hK K' gd;refine Wp.keep [1,2,5] ?_;rintro r3 ⟨D,H,O,-⟩;simp [go_sem,C,G] at D H O;clear C G;refine Wp.seq ?_;refine sRg fun K' gd hK => ?_;go_simp;apply hK;clear hK K' gd;refine Wp.keep [2,5,8,9,10] ?_;rintro r4 ⟨j,aw,l,m,ao,-⟩;simp [go_sem,D,H,O] at j aw l m ao;clear D H O;refine Wp.block ?_;refine Wp.loop (fun k ρ ds wk => AllEq [2,8,9] ρ r4 ∧ ds = [] ∧ (Ext aB wk) ∧ (ρ 10 = .int .i64 (k : Int) ∧ ρ 5 = .int .i64 (wrthK t on k))) (on.length) ?_ ?_
 ·refine ⟨AllEq.refl _ _,rfl,Ext.refl _,?_⟩;exact ⟨by rw [ao];rfl,by rw [aw];rfl⟩
 ·rintro k r5 _ wk hk ⟨hA,rfl,xl2,⟨e10,e5⟩⟩;obtain ⟨I,aa,ag,-⟩ := hA;rw [j] at I;rw [l] at aa;rw [m] at ag;replace hFS := hFS.ext xl2;replace hXS := hXS.ext xl2;replace xw := Ext.trans xw xl2;replace al := Ext.cell xl2 al;refine sRg fun K' gd hK => ?_;go_simp;apply hK;clear hK K' gd;refine Wp.keep [2,5,8,9,10,11] ?_;rintro r6 ⟨e,f,g,h,a,d,-⟩;simp [go_sem,I,e5,aa,ag,e10] at e f g h a d;clear I e5 aa ag e10;refine Wp.seq ?_
  by_cases hkn : k < on.length
  ·refine cTt ?_;have hkl : (k : Int) < (on.length : Int) := by omega
   have hkf : k < t.fl.length := by have := hl.choose_spec;omega
   have hkf2 : (k : Int) < (t.fl.length : Int) := by omega
   obtain ⟨b,o,cc,ev,hb,hcc⟩ := hXS.v.get hkn
   injection ev with ev1 _ ev2
   subst ev1;subst ev2;have d1 := hcc k hkn;clear hcc;obtain ⟨b2,o2,eA,hb2,x0,x1,x2,x3⟩ := FlawsV.at hFS.v hkf;subst eA;have hmr := hP.mr k hkf;have hwl := wrthK_le hP on k (by omega)
   by_cases h0 : 0 ≤ gI on k
   ·skip;refine skN ?_;refine sBk ?_;refine sRg fun K' gd hK => ?_;go_simp;apply hK;clear hK K' gd;refine Wp.keep [2,5,6,7,8,9,10] ?_;rintro r7 ⟨J,P,U,X,ab,ah,s,-⟩;simp [go_sem,e,f,g,h,a,d] at J P U X ab ah s;clear e f g h a d;refine sRg fun K' gd hK => ?_;go_simp;apply hK;clear hK K' gd;refine Wp.keep [2,5,6,8,9,10,16] ?_;rintro r8 ⟨K,Q,V,ac,ai,u,z,-⟩;simp [go_sem,J,P,U,X,ab,ah,s] at K Q V ac ai u z;clear J P U X ab ah s;refine cTt ?_;refine lRg fun K' gd hK => ?_;go_simp;apply hK;clear hK K' gd;refine Ends.keep [2,5,8,9,10] ?_;rintro r9 ⟨L,R,ad,aj,x,-⟩;simp [go_sem,K,Q,V,ac,ai,u,z] at L R ad aj x;clear K Q V ac ai u z;refine Ends.mk ?_;refine bNo ?_;refine tNo ?_;refine lRg fun K' gd hK => ?_;go_simp;apply hK;clear hK K' gd;refine Ends.keep [2,5,8,9,10] ?_;rintro r10 ⟨ap,au,ax,az,am,-⟩
    simp [go_sem,L,R,ad,aj,x] at ap au ax az am;clear L R ad aj x;refine Ends.mk ?_;refine thenK_normal ⟨by omega,⟨by rw [ap,j],by rw [ax,l],by rw [az,m],trivial⟩,rfl,xl2,?_⟩;exact ⟨by rw [am,IntWalk.i64_in _ (by omega)];rfl,by rw [au,wrthK_T hkf h0,IntWalk.i64_in _ (by omega)]⟩
   ·skip;refine skN ?_;refine sBk ?_;refine sRg fun K' gd hK => ?_;go_simp;apply hK;clear hK K' gd;refine Wp.keep [2,5,6,7,8,9,10] ?_;rintro r11 ⟨E,M,S,W,Y,ae,q,-⟩;simp [go_sem,e,f,g,h,a,d] at E M S W Y ae q;clear e f g h a d;refine sRg fun K' gd hK => ?_;go_simp;apply hK;clear hK K' gd;refine Wp.keep [2,5,6,8,9,10,16] ?_;rintro r12 ⟨F,N,T,Z,af,r,y,-⟩;simp [go_sem,E,M,S,W,Y,ae,q] at F N T Z af r y;clear E M S W Y ae q;refine cFf ?_;refine Wp.skip ?_;refine bNo ?_;refine tNo ?_;refine lRg fun K' gd hK => ?_;go_simp;apply hK;clear hK K' gd;refine Ends.keep [2,5,8,9,10] ?_;rintro r13 ⟨aq,av,ay,aA,an,-⟩;simp [go_sem,F,N,T,Z,af,r,y] at aq av ay aA an;clear F N T Z af r y;refine Ends.mk ?_;refine thenK_normal ⟨by omega,⟨by rw [aq,j],by rw [ay,l],by rw [aA,m],trivial⟩,rfl,xl2,?_⟩
    exact ⟨by rw [an,IntWalk.i64_in _ (by omega)];rfl,by rw [av,wrthK_F h0]⟩
  ·refine cFf ?_;have hkq : ∃ _u : Unit,k = t.fl.length := ⟨(),by have := hl.choose_spec;omega⟩;refine Wp.exit ?_;refine tEx ?_;refine tEx ?_;refine blockK_here ?_;refine tNo ?_;refine sRg fun K' gd hK => ?_;go_simp;apply hK;clear hK K' gd;refine Wp.keep [4] ?_;rintro r14 ⟨ar,-⟩;simp [go_sem,e,f,g,h,a,d] at ar;clear e f g h a d;refine Wp.ret ?_;refine endK_tmp Tryz.results141 (by decide) ?_;rw [ar];exact ⟨by rw [hkq.choose_spec],xw⟩
instance (t : Tr) (m : Md) : Decidable (ProvP t m) := by unfold ProvP;infer_instance
theorem SpansV.at {w : World} {B : Nat} {A : Option Addr} {n c : Nat} {l : List (Int × Int)} (h : SpansV w B (.slice A n c) l) {k : Nat} (hk : k < l.length) : ∃ b o,A = some ⟨b,o,none⟩ ∧ b < B ∧
  w.cell? ⟨b,o + k * 2,none⟩ = some (.int .i64 (gZ l k).1) ∧ w.cell? ⟨b,o + k * 2 + 1,none⟩ = some (.int .i64 (gZ l k).2) := by
 obtain ⟨A',c',hv,hx,-⟩ := h
 injection hv with h1 h2 h3;subst h1
 obtain ⟨b,o,hA,hb,hc⟩ := hx (by rintro rfl;exact absurd hk (Nat.not_lt_zero _));rw [gZ_lt hk];exact ⟨b,o,hA,hb,hc k hk 0 _ rfl,hc k hk 1 _ rfl⟩
structure SpansS (w : World) (S : Nat) (v : Value) (l : List (Int × Int)) : Prop where
 v : SpansV w S v l
section
variable {w V : World} {S : Nat} {v : Value} {l : List (Int × Int)}
theorem SpansS.ext (h : SpansS w S v l) (hE : Ext w V) : SpansS V S v l := ⟨h.v.cells fun _ _ _ _ hc => hE.cell hc⟩
theorem SpansS.chg {L : List Nat} (h : SpansS w S v l) (hC : Chg L w V) (hL : ∀ b ∈ L,S ≤ b) : SpansS V S v l := ⟨h.v.cells fun b _ _ hb hc => Chg.cell hC hc fun hm => by have := hL b hm;omega⟩
theorem SpansS.put {b i : Nat} {vs : List Value} (h : SpansS w S v l) (p : Put w V b i vs) (hb : S ≤ b) : SpansS V S v l := h.chg p.chg (by simpa using hb)
end
theorem prov_no1 {t : Tr} {m : Md} (h : ¬ m.on.length = t.fl.length) : decide (ProvP t m) = false := decide_eq_false fun q => h q.1.1
theorem prov_no2 {t : Tr} {m : Md} (h : ¬ m.full.length = t.fl.length) : decide (ProvP t m) = false := decide_eq_false fun q => h q.1.2.1
theorem prov_no3 {t : Tr} {m : Md} (h : 0 ≤ wrongI t m.on) : decide (ProvP t m) = false := decide_eq_false fun q => by have := q.1.2.2.1;omega
theorem prov_no4 {t : Tr} {m : Md} (h : ¬ wrthK t m.on t.fl.length = m.mt) : decide (ProvP t m) = false := decide_eq_false fun q => h q.1.2.2.2
theorem prov_no5 {t : Tr} {m : Md} {k : Nat} (hk : k < t.fl.length) (h : ¬ FullOk t m.on (gZ m.full k) k) : decide (ProvP t m) = false := decide_eq_false fun q => h (q.2 k hk)
theorem full_yes {t : Tr} {xs : List Int} {z : Int × Int} {k : Nat} (h0 : 0 ≤ gI xs k) : FullOk t xs z k ↔ z = (0,0) := by unfold FullOk;rw [if_pos h0]
theorem full_T {t : Tr} {xs : List Int} {lo : Nat} {hi m : Int} {A : Option Addr} {c : Nat} {A2 : Option Addr} {c2 : Nat} {A3 : Option Addr} {c3 : Nat} {w : World} {b : Bool} (hb : fullB t xs (lo : Int) hi m = b) (hT : TourV w w.heap.size (.agg #[.int .i64 t.n,.slice A t.cl.length c,.slice A2 t.fl.length c2]) t)
  (hI : IntsV w w.heap.size (.slice A t.cl.length c) t.cl) (hF : FlawsV w w.heap.size (.slice A2 t.fl.length c2) t.fl) (hX : IntsV w w.heap.size (.slice A3 xs.length c3) xs) (hxl : xs.length = t.fl.length) (hfl : t.fl.length ≤ 12) (hcl : t.cl.length ≤ 1000000000000000) (hhi : hi ≤ 1000000) :
  CallsV Tryz.prog 157 #[.agg #[.int .i64 t.n,.slice A t.cl.length c,.slice A2 t.fl.length c2],.slice A3 xs.length c3,.agg #[.int .i64 (lo : Int),.int .i64 hi],.int .i64 m] w fun v w' => v = .bool b ∧ Ext w w' := by
 rw [← hb];exact full_c t xs lo hi m A c A2 c2 A3 c3 w hT hI hF hX hxl hfl hcl hhi
theorem in_T {a b c d : Int} {r : Bool} (h : decide (c ≤ a ∧ b ≤ d) = r) (w : World) : CallsV Tryz.prog 156 #[.agg #[.int .i64 a,.int .i64 b],.agg #[.int .i64 c,.int .i64 d]] w fun v w' => v = .bool r ∧ Ext w w' := by rw [← h];exact in_c a b c d w
theorem proved_c (t : Tr) (m : Md) (v mv : Value) (w : World) (hg : GoodT t) (hl12 : t.fl.length ≤ 12) (hV : TourV w w.heap.size v t) (hM : MendV w w.heap.size mv m) :
  CallsV Tryz.prog 82 #[v,mv] w fun v' w' => v' = .bool (decide (ProvP t m)) ∧ Ext w w' := by
 obtain ⟨A,c,A2,c2,rfl,hCl,hF⟩ := hV.open';obtain ⟨xv,zv,rfl,hX,hZ⟩ := hM;obtain ⟨A3,c3,rfl,-,-⟩ := id hX;obtain ⟨A4,c4,rfl,-,-⟩ := id hZ;have hTS : TourS w w.heap.size (.agg #[.int .i64 t.n,.slice A t.cl.length c,.slice A2 t.fl.length c2]) t := ⟨hV⟩;have hFS : FlawsS w w.heap.size (.slice A2 t.fl.length c2) t.fl := ⟨hF⟩;have hCS : IntsS w w.heap.size (.slice A t.cl.length c) t.cl := ⟨hCl⟩;have hXS : IntsS w w.heap.size (.slice A3 m.on.length c3) m.on := ⟨hX⟩;have hZS : SpansS w w.heap.size (.slice A4 m.full.length c4) m.full := ⟨hZ⟩;clear hV hX hZ hF hCl;have hP := hg.plan hl12;have hn60 := hg.n;have hcl9 := hP.cl;refine Wp.fn Tryz.func82 rfl Tryz.ntmps82 (by simp) ?_;have xw := Ext.refl w;refine Wp.keep [0,1] ?_;rintro r1 ⟨an,ao,-⟩;simp [go_sem] at an ao;refine sRg fun K' gd hK => ?_;refine cu1 fun K1 hK1 => ?_;go_simp;apply hK1;clear hK1 K1;refine Wops.absA fun b5 n2 L => ?_;obtain ⟨q2,L,s2,af,f2,r2⟩ := L;try simp only [q2] at af f2 r2 ⊢
 replace hTS := hTS.ext L;replace hFS := hFS.ext L;replace hCS := hCS.ext L;replace hXS := hXS.ext L;replace hZS := hZS.ext L;replace xw := xw.trans L;have g := af 0 _ rfl;have h := af 1 _ rfl;have d := af 2 _ rfl;clear af L;clear r2;refine cu1 fun K1 hK1 => ?_;go_simp;apply hK1;clear hK1 K1;refine Wops.absA fun b6 n3 u => ?_;obtain ⟨q3,u,s3,ag,f3,r3⟩ := u;try simp only [q3] at ag f3 r3 ⊢
 replace hTS := hTS.ext u;replace hFS := hFS.ext u;replace hCS := hCS.ext u;replace hXS := hXS.ext u;replace hZS := hZS.ext u;replace xw := xw.trans u;replace g := u.cell g;replace h := u.cell h;replace d := u.cell d;have f := ag 0 _ rfl;have M := ag 1 _ rfl;have s := ag 2 _ rfl;clear ag u;clear r3;go_simp;apply hK;clear hK K' gd;refine Wp.keep [2,3] ?_;rintro r2 ⟨y,B,-⟩;simp [go_sem,an,ao] at y B;clear an ao;refine Wp.seq ?_
 by_cases h1 : m.on.length = t.fl.length
 ·skip;replace h1 : ∃ _u : Unit,_ := ⟨(),h1⟩;have h1i : ((m.on.length : Int) = (t.fl.length : Int)) = True := by simp [h1.choose_spec]
  by_cases h2 : m.full.length = t.fl.length
  ·skip;replace h2 : ∃ _u : Unit,_ := ⟨(),h2⟩;have h2i : ((m.full.length : Int) = (t.fl.length : Int)) = True := by simp [h2.choose_spec]
   obtain ⟨wi,hwi⟩ : ∃ wi : Int,∃ _u : Unit,wrongI t m.on = wi := ⟨_,(),rfl⟩;obtain ⟨wt,hwt⟩ : ∃ wt : Int,∃ _u : Unit,wrthK t m.on t.fl.length = wt := ⟨_,(),rfl⟩
   by_cases h3 : 0 ≤ wi
   ·skip;refine Wp.seqDraw (.inl rfl) mixed [([0,1,2,3,4],none),([5,6,7],none),([8,9,10,11,12],none),([13,14,15,16],none),([17,18,19],some (20,false)),([21,22,23],none),([24,25,26,28,29],some (27,false)),([30,31],none)] (by kernel_rfl) fun K' gd hK hg => ?_;have g7 : gd 7 = some 14 := hg 7;have g16 : gd 16 = some 23 := hg 16;have g23 : gd 23 = some 30 := hg 23;clear hg;simp only [pick,nth,List.map_cons,List.map_nil,Option.map_none,Option.map_some];refine Mops.absD fun D3 hD3 zD3 => ?_;replace hTS := hTS.ext hD3;replace hXS := hXS.ext hD3;replace xw := xw.trans hD3;replace g := hD3.cell g;replace h := hD3.cell h;replace d := hD3.cell d;replace f := hD3.cell f;replace s := hD3.cell s;clear hD3;refine mNo ?_
    apply Mops.none
    ·intro w' hE';go_simp;with_reducible rfl
    refine mNo ?_
    apply Mops.none
    ·intro w' hE';go_simp;with_reducible rfl
    refine mAc ?_
    intro K1 hK1;go_simp;refine Wcall (.inl rfl) (wrong_c t t.n.toNat m.on _ _ _ hP (hTS.v.more (Below.size (XE))) (hXS.v.more (Below.size (XE))) h1.choose_spec) ?_;rintro v w3 ⟨hv,hE⟩;rw [hwi.choose_spec] at hv;subst hv;go_simp;refine hK1 _ _ (by assumption) ?_;clear hK1 K1;replace xw := xw.trans hE;clear hE;apply Mops.none
    ·intro w' hE';go_simp;with_reducible rfl
    apply Mops.act
    ·intro w' hE';go_simp;with_reducible rfl
    intro K1 hK1;go_simp;refine hK1 _ _ (Ext.refl _) ?_;clear hK1 K1;apply Mops.none
    ·intro w' hE';go_simp;with_reducible rfl
    refine Mops.done ?_;apply hK;clear hK K' gd g7 g16 g23;refine Wp.keep [2,3,38] ?_;rintro r4 ⟨aB,aV,aG,-⟩;simp [go_sem,y,B] at aB aV aG;clear y B;refine cTt ?_;refine sRg fun K' gd hK => ?_;go_simp;apply hK;clear hK K' gd;refine Wp.keep [4] ?_;rintro r5 ⟨b1,-⟩;simp [go_sem,aB,aV,aG] at b1;clear aB aV aG;refine Wp.ret ?_;refine tRe ?_;refine endK_tmp Tryz.results82 (by decide) ?_;rw [b1];exact ⟨by rw [prov_no3 (by rw [hwi.choose_spec];exact h3)],xw⟩
   ·skip
    by_cases h4 : wt = m.mt
    ·skip;subst h4;refine Wp.seqDraw (.inl rfl) mixed [([0,1,2,3,4],none),([5,6,7],none),([8,9,10,11,12],none),([13,14,15,16],none),([17,18,19],some (20,false)),([21,22,23],none),([24,25,26,28,29],some (27,false)),([30,31],none)] (by kernel_rfl) fun K' gd hK hg => ?_;have g7 : gd 7 = some 14 := hg 7;have g16 : gd 16 = some 23 := hg 16;have g23 : gd 23 = some 30 := hg 23;clear hg;simp only [pick,nth,List.map_cons,List.map_nil,Option.map_none,Option.map_some];refine Mops.absD fun D4 hD4 zD4 => ?_;replace hTS := hTS.ext hD4;replace hFS := hFS.ext hD4;replace hCS := hCS.ext hD4;replace hXS := hXS.ext hD4;replace hZS := hZS.ext hD4;replace xw := xw.trans hD4;replace g := hD4.cell g;replace h := hD4.cell h;replace d := hD4.cell d;replace f := hD4.cell f;replace M := hD4.cell M;replace s := hD4.cell s;clear hD4;refine mNo ?_
     apply Mops.none
     ·intro w' hE';go_simp;with_reducible rfl
     refine mNo ?_
     apply Mops.none
     ·intro w' hE';go_simp;with_reducible rfl
     refine mAc ?_
     intro K1 hK1;go_simp;refine Wcall (.inl rfl) (wrong_c t t.n.toNat m.on _ _ _ hP (hTS.v.more (Below.size (XE))) (hXS.v.more (Below.size (XE))) h1.choose_spec) ?_;rintro v w3 ⟨hv,hE⟩;rw [hwi.choose_spec] at hv;subst hv;go_simp;refine hK1 _ _ (by assumption) ?_;clear hK1 K1;have z6 := Below.size hE;replace hTS := hTS.ext hE;replace hFS := hFS.ext hE;replace hCS := hCS.ext hE;replace hXS := hXS.ext hE;replace hZS := hZS.ext hE;replace xw := xw.trans hE;replace g := hE.cell g;replace h := hE.cell h;replace d := hE.cell d;replace f := hE.cell f;replace M := hE.cell M;replace s := hE.cell s;clear hE;apply Mops.none
     ·intro w' hE';go_simp;with_reducible rfl
     refine mAc ?_
     intro K1 hK1;go_simp;refine Wcall (.inl rfl) (worthM_c t t.n.toNat m.on _ _ _ hP (hTS.v.more (Below.size (XE))) (hXS.v.more (Below.size (XE))) h1.choose_spec) ?_;rintro v w4 ⟨hv,hE⟩;rw [hwt.choose_spec] at hv;subst hv;go_simp;refine hK1 _ _ (by assumption) ?_;clear hK1 K1;have z7 := Below.size hE;replace hTS := hTS.ext hE;replace hFS := hFS.ext hE;replace hCS := hCS.ext hE;replace hXS := hXS.ext hE;replace hZS := hZS.ext hE;replace xw := xw.trans hE;replace g := hE.cell g;replace h := hE.cell h;replace d := hE.cell d;replace f := hE.cell f;replace s := hE.cell s;clear hE;apply Mops.none
     ·intro w' hE';go_simp;with_reducible rfl
     refine Mops.done ?_;apply hK;clear hK K' gd g7 g16 g23;refine Wp.keep [2,3,38] ?_;rintro r8 ⟨aF,aZ,aK,-⟩;simp [go_sem,y,B] at aF aZ aK;clear y B;refine cFf ?_;refine skN ?_;refine Wp.seq ?_;refine sRg fun K' gd hK => ?_;go_simp;apply hK;clear hK K' gd;refine Wp.keep [2,3,40,41,42] ?_;rintro r9 ⟨ah,ai,aj,ak,bR,-⟩;simp [go_sem,aF,aZ,aK] at ah ai aj ak bR;clear aF aZ aK;refine Wp.block ?_;refine Wp.loop (fun k ρ ds wk => AllEq [2,3,40,41] ρ r9 ∧ ds = [] ∧ (Ext w4 wk) ∧ (ρ 42 = .int .i64 (k : Int) ∧ (∃ _u : Unit,∀ j,j < k → FullOk t m.on (gZ m.full j) j))) (t.fl.length) ?_ ?_
     ·refine ⟨AllEq.refl _ _,rfl,Ext.refl _,?_⟩;exact ⟨by rw [bR];rfl,(),fun j hj => absurd hj (Nat.not_lt_zero _)⟩
     ·rintro k r10 _ wk hk ⟨hA,rfl,xl5,⟨e42,hq⟩⟩;obtain ⟨V,X,Z,ab,-⟩ := hA;rw [ah] at V;rw [ai] at X;rw [aj] at Z;rw [ak] at ab;have zxl5 := Below.size xl5;replace hTS := hTS.ext xl5;replace hFS := hFS.ext xl5;replace hCS := hCS.ext xl5;replace hXS := hXS.ext xl5;replace hZS := hZS.ext xl5;replace xw := Ext.trans xw xl5;replace g := Ext.cell xl5 g;replace h := Ext.cell xl5 h;replace d := Ext.cell xl5 d;replace f := Ext.cell xl5 f;replace s := Ext.cell xl5 s
      by_cases hkf : k < t.fl.length
      ·skip;have hkl : (k : Int) < (m.full.length : Int) := by have := h2.choose_spec;omega
       have hkm : k < m.full.length := by omega
       refine sRg fun K' gd hK => ?_;go_simp;apply hK;clear hK K' gd;refine Wp.keep [2,3,40,41,42,43] ?_;rintro r11 ⟨W,Y,aa,ac,ad,ae,-⟩;simp [go_sem,V,X,Z,ab,e42] at W Y aa ac ad ae;clear V X Z ab e42;refine Wp.seq ?_;refine cTt ?_;have hkf2 : (k : Int) < (t.fl.length : Int) := by omega
       have hkx : k < m.on.length := by have := h1.choose_spec;omega
       have hkx2 : (k : Int) < (m.on.length : Int) := by omega
       obtain ⟨b2,o2,eA,hb2,x0,x1,x2,x3⟩ := FlawsV.at hFS.v hkf;subst eA;obtain ⟨b3,o3,eA,hb3,z1,z2⟩ := SpansV.at hZS.v hkm;subst eA;obtain ⟨b4,o4,cc,ev,hb4,hcc⟩ := hXS.v.get hkx
       injection ev with ev1 _ ev2
       subst ev1;subst ev2;have d1 := hcc k hkx;clear hcc;obtain ⟨⟨p,q⟩,hpq⟩ : ∃ z : Int × Int,∃ _u : Unit,gZ m.full k = z := ⟨_,(),rfl⟩;rw [hpq.choose_spec] at z1 z2
       dsimp only at z1 z2
       obtain ⟨G,hG⟩ : ∃ G,∃ _u : Unit,t.fl[k] = G := ⟨_,(),rfl⟩;rw [hG.choose_spec] at x0 x1 x2 x3
       by_cases h5 : 0 ≤ gI m.on k
       ·skip;refine skN ?_;refine sBk ?_;refine sRg fun K' gd hK => ?_;refine cu4 fun K1 hK1 => ?_;go_simp;apply hK1;clear hK1 K1;refine Wops.absA fun b7 n6 x => ?_;obtain ⟨q6,x,s6,al,f6,r6⟩ := x;try simp only [q6] at al f6 r6 ⊢
        replace xw := xw.trans x;replace xl5 := xl5.trans x;replace f := x.cell f;replace x1 := x.cell x1;replace x2 := x.cell x2;replace x3 := x.cell x3;replace z1 := x.cell z1;replace z2 := x.cell z2;replace d1 := x.cell d1;have l := al 0 _ rfl;have o := al 1 _ rfl;clear al x;clear r6;refine cu2 fun K1 hK1 => ?_;go_simp;apply hK1;clear hK1 K1;refine Wops.absS (b := n6) (i := 0) [_,_] (somes [cellVal l,cellVal o] (by simp) (by intro j v hj;match j,hj with | 0,hj => (simp at hj;subst hj;exact l) | 1,hj => (simp at hj;subst hj;exact o))) fun P7 hP7 => ?_;have zP7 := hP7.same;replace xw := Put.to xw hP7 (by omega);replace xl5 := Put.to xl5 hP7 (by omega);replace f := hP7.cell f (by omega);replace x1 := hP7.cell x1 (by omega);replace x2 := hP7.cell x2 (by omega);replace x3 := hP7.cell x3 (by omega);replace z1 := hP7.cell z1 (by omega);replace z2 := hP7.cell z2 (by omega);replace d1 := hP7.cell d1 (by omega);clear l;clear o;have l := hP7.new 0 _ rfl;try simp only [Nat.reduceAdd,Nat.zero_add,Nat.add_zero] at l
        have o := hP7.new 1 _ rfl;try simp only [Nat.reduceAdd,Nat.zero_add,Nat.add_zero] at o
        clear hP7;try simp only [Wops_nil,updO_some,updO_none]
        apply hK;clear hK K' gd;refine Wp.keep [2,3,5,6,40,41,42] ?_;rintro r12 ⟨ap,aL,bz,bB,a0,ba,bk,-⟩;simp [go_sem,W,Y,aa,ac,ad,ae] at ap aL bz bB a0 ba bk;clear W Y aa ac ad ae;refine Wp.seq ?_;refine sRg fun K' gd hK => ?_;go_simp;apply hK;clear hK K' gd;refine Wp.keep [2,3,5,6,40,41,42,52] ?_;rintro r13 ⟨N,O,T,U,P,Q,R,S,-⟩;simp [go_sem,ap,aL,bz,bB,a0,ba,bk] at N O T U P Q R S;clear ap aL bz bB a0 ba bk;refine cTt ?_
        by_cases h6 : p = 0
        ·skip
         by_cases h7 : q = 0
         ·skip;refine Wp.seq ?_;refine sRg fun K' gd hK => ?_;go_simp;apply hK;clear hK K' gd;refine Wp.keep [2,3,40,41,42,55] ?_;rintro r14 ⟨aq,aM,a1,bb,bl,bv,-⟩;simp [go_sem,N,O,T,U,P,Q,R,S] at aq aM a1 bb bl bv;clear N O T U P Q R S;refine cFf ?_;refine skN ?_;refine Wp.exit ?_;refine tEx ?_;refine blockK_here ?_;refine tNo ?_;refine lRg fun K' gd hK => ?_;go_simp;apply hK;clear hK K' gd;refine Ends.keep [2,3,40,41,42] ?_;rintro r15 ⟨bH,bJ,bL,bN,bP,-⟩;simp [go_sem,aq,aM,a1,bb,bl,bv] at bH bJ bL bN bP;clear aq aM a1 bb bl bv;refine Ends.mk ?_;refine thenK_normal ⟨by omega,⟨by rw [bH,ah],by rw [bJ,ai],by rw [bL,aj],by rw [bN,ak],trivial⟩,rfl,xl5,?_⟩;exact ⟨by rw [bP,IntWalk.i64_in _ (by omega)];rfl,(),fun j hj => by by_cases e : j = k;(subst e;rw [full_yes h5,hpq.choose_spec,h6,h7]);exact hq.choose_spec j (by omega)⟩
         ·skip;refine Wp.seq ?_;refine sRg fun K' gd hK => ?_;go_simp;apply hK;clear hK K' gd;refine Wp.keep [2,3,40,41,42,55] ?_;rintro r16 ⟨ar,aN,a2,bc,bm,bw,-⟩;simp [go_sem,N,O,T,U,P,Q,R,S] at ar aN a2 bc bm bw;clear N O T U P Q R S;refine cTt ?_;refine sRg fun K' gd hK => ?_;go_simp;apply hK;clear hK K' gd;refine Wp.keep [4] ?_;rintro r17 ⟨bS,-⟩;simp [go_sem,ar,aN,a2,bc,bm,bw] at bS;clear ar aN a2 bc bm bw;refine Wp.ret ?_;refine tRe ?_;refine tRe ?_;refine bRe ?_;refine tRe ?_;refine tRe ?_;refine bRe ?_;refine tRe ?_;refine endK_tmp Tryz.results82 (by decide) ?_;rw [bS];exact ⟨by rw [prov_no5 hkf (by rw [full_yes h5,hpq.choose_spec];intro e;injection e with e1 e2;exact h7 e2)],xw⟩
        ·skip;refine Wp.seq ?_;refine sRg fun K' gd hK => ?_;go_simp;apply hK;clear hK K' gd;refine Wp.keep [2,3,40,41,42,55] ?_;rintro r18 ⟨au,aO,a3,bd,bn,bx,-⟩;simp [go_sem,N,O,T,U,P,Q,R,S] at au aO a3 bd bn bx;clear N O T U P Q R S;refine cTt ?_;refine sRg fun K' gd hK => ?_;go_simp;apply hK;clear hK K' gd;refine Wp.keep [4] ?_;rintro r19 ⟨bT,-⟩;simp [go_sem,au,aO,a3,bd,bn,bx] at bT;clear au aO a3 bd bn bx;refine Wp.ret ?_;refine tRe ?_;refine tRe ?_;refine bRe ?_;refine tRe ?_;refine tRe ?_;refine bRe ?_;refine tRe ?_;refine endK_tmp Tryz.results82 (by decide) ?_;rw [bT];exact ⟨by rw [prov_no5 hkf (by rw [full_yes h5,hpq.choose_spec];intro e;injection e with e1 e2;exact h6 e1)],xw⟩
       ·skip;refine skN ?_;refine sBk ?_;refine sRg fun K' gd hK => ?_;refine cu4 fun K1 hK1 => ?_;go_simp;apply hK1;clear hK1 K1;refine Wops.absA fun b8 n6 r => ?_;obtain ⟨q6,r,s6,am,f6,r6⟩ := r;try simp only [q6] at am f6 r6 ⊢
        replace hTS := hTS.ext r;replace hFS := hFS.ext r;replace hCS := hCS.ext r;replace hXS := hXS.ext r;replace xw := xw.trans r;replace xl5 := xl5.trans r;replace g := r.cell g;replace h := r.cell h;replace d := r.cell d;replace f := r.cell f;replace x1 := r.cell x1;replace x2 := r.cell x2;replace x3 := r.cell x3;replace z1 := r.cell z1;replace z2 := r.cell z2;replace d1 := r.cell d1;have l := am 0 _ rfl;have o := am 1 _ rfl;clear am r;clear r6;refine cu2 fun K1 hK1 => ?_;go_simp;apply hK1;clear hK1 K1;refine Wops.absS (b := n6) (i := 0) [_,_] (somes [cellVal l,cellVal o] (by simp) (by intro j v hj;match j,hj with | 0,hj => (simp at hj;subst hj;exact l) | 1,hj => (simp at hj;subst hj;exact o))) fun P9 hP9 => ?_;have zP9 := hP9.same;replace hTS := hTS.put hP9 (by omega);replace hFS := hFS.put hP9 (by omega);replace hCS := hCS.put hP9 (by omega);replace hXS := hXS.put hP9 (by omega);replace xw := Put.to xw hP9 (by omega);replace xl5 := Put.to xl5 hP9 (by omega);replace g := hP9.cell g (by omega);replace h := hP9.cell h (by omega);replace d := hP9.cell d (by omega);replace f := hP9.cell f (by omega);replace x1 := hP9.cell x1 (by omega)
        replace x2 := hP9.cell x2 (by omega);replace x3 := hP9.cell x3 (by omega);replace z1 := hP9.cell z1 (by omega);replace z2 := hP9.cell z2 (by omega);replace d1 := hP9.cell d1 (by omega);clear l;clear o;have l := hP9.new 0 _ rfl;try simp only [Nat.reduceAdd,Nat.zero_add,Nat.add_zero] at l
        have o := hP9.new 1 _ rfl;try simp only [Nat.reduceAdd,Nat.zero_add,Nat.add_zero] at o
        clear hP9;try simp only [Wops_nil,updO_some,updO_none]
        apply hK;clear hK K' gd;refine Wp.keep [2,3,5,6,40,41,42] ?_;rintro r20 ⟨av,aP,bA,bC,a4,be,bo,-⟩;simp [go_sem,W,Y,aa,ac,ad,ae] at av aP bA bC a4 be bo;clear W Y aa ac ad ae;refine Wp.seq ?_;refine sRg fun K' gd hK => ?_;go_simp;apply hK;clear hK K' gd;refine Wp.keep [2,3,5,6,40,41,42,52] ?_;rintro r21 ⟨C,D,J,K,E,F,H,I,-⟩;simp [go_sem,av,aP,bA,bC,a4,be,bo] at C D J K E F H I;clear av aP bA bC a4 be bo;refine cFf ?_;have hfa : ∃ _u : Unit,FullOk t m.on (gZ m.full k) k ↔ (0 ≤ p ∧ p ≤ q ∧ q < t.n) ∧ (p ≤ G.lo ∧ G.hi ≤ q) ∧ fullB t m.on p q G.m = true := ⟨(),by rw [FullOk.at hkf h5,hpq.choose_spec,hG.choose_spec]⟩
        by_cases s1 : 0 ≤ p ∧ p ≤ q ∧ q < t.n
        ·skip;obtain ⟨a,ha⟩ : ∃ a : Nat,p = (a : Int) := ⟨p.toNat,by omega⟩;subst ha
         by_cases s2 : (a : Int) ≤ G.lo ∧ G.hi ≤ q
         ·skip
          by_cases s3 : fullB t m.on (a : Int) q G.m = true
          ·skip;refine skN ?_;refine Wp.seqDraw (.inl rfl) mixed [([0,1],some (2,false)),([3,4],none),([5,6,7,8,9],none),([10,11],some (12,false)),([13,14,15],none),([16,17,18,19,20],none),([21,22,23,24,25],some (26,false)),([27,28],none)] (by kernel_rfl) fun K' gd hK hg => ?_;have g4 : gd 4 = some 60 := hg 4;have g15 : gd 15 = some 71 := hg 15;clear hg;simp only [pick,nth,List.map_cons,List.map_nil,Option.map_none,Option.map_some];refine Mops.absD fun D10 hD10 zD10 => ?_;replace hTS := hTS.ext hD10;replace hFS := hFS.ext hD10;replace hCS := hCS.ext hD10;replace hXS := hXS.ext hD10;replace xw := xw.trans hD10;replace xl5 := xl5.trans hD10;replace g := hD10.cell g;replace h := hD10.cell h;replace d := hD10.cell d;replace f := hD10.cell f;replace x1 := hD10.cell x1;replace x2 := hD10.cell x2;replace x3 := hD10.cell x3;replace z1 := hD10.cell z1;replace z2 := hD10.cell z2;replace d1 := hD10.cell d1;replace l := hD10.cell l;replace o := hD10.cell o;clear hD10;refine mAc ?_
           intro K1 hK1;go_simp;refine Wcall (.inl rfl) (span_T s1 _) ?_;rintro v w5 ⟨rfl,hE⟩;go_simp;refine hK1 _ _ (by assumption) ?_;clear hK1 K1;replace hTS := hTS.ext hE;replace hFS := hFS.ext hE;replace hCS := hCS.ext hE;replace hXS := hXS.ext hE;replace xw := xw.trans hE;replace xl5 := xl5.trans hE;replace g := hE.cell g;replace h := hE.cell h;replace d := hE.cell d;replace f := hE.cell f;replace x1 := hE.cell x1;replace x2 := hE.cell x2;replace x3 := hE.cell x3;replace z1 := hE.cell z1;replace z2 := hE.cell z2;replace d1 := hE.cell d1;replace l := hE.cell l;replace o := hE.cell o;clear hE;apply Mops.none
           ·intro w' hE';go_simp;with_reducible rfl
           refine mNo ?_
           refine mAc ?_
           intro K1 hK1;go_simp;refine Wcall (.inl rfl) (in_T (decide_eq_true s2) _) ?_;rintro v w6 ⟨rfl,hE⟩;go_simp;refine hK1 _ _ (by assumption) ?_;clear hK1 K1;replace hTS := hTS.ext hE;replace hFS := hFS.ext hE;replace hCS := hCS.ext hE;replace hXS := hXS.ext hE;replace xw := xw.trans hE;replace xl5 := xl5.trans hE;replace g := hE.cell g;replace h := hE.cell h;replace d := hE.cell d;replace f := hE.cell f;replace x1 := hE.cell x1;replace x2 := hE.cell x2;replace x3 := hE.cell x3;replace z1 := hE.cell z1;replace z2 := hE.cell z2;replace d1 := hE.cell d1;replace l := hE.cell l;replace o := hE.cell o;clear hE;apply Mops.none
           ·intro w' hE';go_simp;with_reducible rfl
           refine mNo ?_
           refine mAc ?_
           intro K1 hK1;go_simp;refine Wcall (.inl rfl) (full_T s3 (hTS.v.more (Below.size (XE))) (hCS.v.more (Below.size (XE))) (hFS.v.more (Below.size (XE))) (hXS.v.more (Below.size (XE))) h1.choose_spec hl12 hcl9 (by omega)) ?_;rintro v w7 ⟨rfl,hE⟩;go_simp;refine hK1 _ _ (by assumption) ?_;clear hK1 K1;replace xw := xw.trans hE;replace xl5 := xl5.trans hE;replace x1 := hE.cell x1;replace x2 := hE.cell x2;replace x3 := hE.cell x3;replace z1 := hE.cell z1;replace z2 := hE.cell z2;replace d1 := hE.cell d1;clear hE;apply Mops.none
           ·intro w' hE';go_simp;with_reducible rfl
           refine Mops.done ?_;apply hK;clear hK K' gd g4 g15;refine Wp.keep [2,3,40,41,42,84] ?_;rintro r25 ⟨aw,aQ,a5,bf,bp,bD,-⟩;simp [go_sem,C,D,J,K,E,F,H,I] at aw aQ a5 bf bp bD;clear C D J K E F H I;refine cFf ?_;refine Wp.skip ?_;refine bNo ?_;refine tNo ?_;refine lRg fun K' gd hK => ?_;go_simp;apply hK;clear hK K' gd;refine Ends.keep [2,3,40,41,42] ?_;rintro r26 ⟨bI,bK,bM,bO,bQ,-⟩;simp [go_sem,aw,aQ,a5,bf,bp,bD] at bI bK bM bO bQ;clear aw aQ a5 bf bp bD;refine Ends.mk ?_;refine thenK_normal ⟨by omega,⟨by rw [bI,ah],by rw [bK,ai],by rw [bM,aj],by rw [bO,ak],trivial⟩,rfl,xl5,?_⟩;exact ⟨by rw [bQ,IntWalk.i64_in _ (by omega)];rfl,(),fun j hj => by by_cases e : j = k;(subst e;exact hfa.choose_spec.2 ⟨s1,s2,s3⟩);exact hq.choose_spec j (by omega)⟩
          ·skip;refine skN ?_;refine Wp.seqDraw (.inl rfl) mixed [([0,1],some (2,false)),([3,4],none),([5,6,7,8,9],none),([10,11],some (12,false)),([13,14,15],none),([16,17,18,19,20],none),([21,22,23,24,25],some (26,false)),([27,28],none)] (by kernel_rfl) fun K' gd hK hg => ?_;have g4 : gd 4 = some 60 := hg 4;have g15 : gd 15 = some 71 := hg 15;clear hg;simp only [pick,nth,List.map_cons,List.map_nil,Option.map_none,Option.map_some];refine Mops.absD fun D11 hD11 zD11 => ?_;replace hTS := hTS.ext hD11;replace hFS := hFS.ext hD11;replace hCS := hCS.ext hD11;replace hXS := hXS.ext hD11;replace xw := xw.trans hD11;replace xl5 := xl5.trans hD11;replace g := hD11.cell g;replace h := hD11.cell h;replace d := hD11.cell d;replace f := hD11.cell f;replace x1 := hD11.cell x1;replace x2 := hD11.cell x2;replace x3 := hD11.cell x3;replace l := hD11.cell l;replace o := hD11.cell o;clear hD11;refine mAc ?_
           intro K1 hK1;go_simp;refine Wcall (.inl rfl) (span_T s1 _) ?_;rintro v w5 ⟨rfl,hE⟩;go_simp;refine hK1 _ _ (by assumption) ?_;clear hK1 K1;replace hTS := hTS.ext hE;replace hFS := hFS.ext hE;replace hCS := hCS.ext hE;replace hXS := hXS.ext hE;replace xw := xw.trans hE;replace xl5 := xl5.trans hE;replace g := hE.cell g;replace h := hE.cell h;replace d := hE.cell d;replace f := hE.cell f;replace x1 := hE.cell x1;replace x2 := hE.cell x2;replace x3 := hE.cell x3;replace l := hE.cell l;replace o := hE.cell o;clear hE;apply Mops.none
           ·intro w' hE';go_simp;with_reducible rfl
           refine mNo ?_
           refine mAc ?_
           intro K1 hK1;go_simp;refine Wcall (.inl rfl) (in_T (decide_eq_true s2) _) ?_;rintro v w6 ⟨rfl,hE⟩;go_simp;refine hK1 _ _ (by assumption) ?_;clear hK1 K1;replace hTS := hTS.ext hE;replace hFS := hFS.ext hE;replace hCS := hCS.ext hE;replace hXS := hXS.ext hE;replace xw := xw.trans hE;replace xl5 := xl5.trans hE;replace g := hE.cell g;replace h := hE.cell h;replace d := hE.cell d;replace f := hE.cell f;replace x3 := hE.cell x3;replace l := hE.cell l;replace o := hE.cell o;clear hE;apply Mops.none
           ·intro w' hE';go_simp;with_reducible rfl
           refine mNo ?_
           refine mAc ?_
           intro K1 hK1;go_simp;refine Wcall (.inl rfl) (full_T (show fullB t m.on (a : Int) q G.m = false by simpa using s3) (hTS.v.more (Below.size (XE))) (hCS.v.more (Below.size (XE))) (hFS.v.more (Below.size (XE))) (hXS.v.more (Below.size (XE))) h1.choose_spec hl12 hcl9 (by omega)) ?_;rintro v w7 ⟨rfl,hE⟩;go_simp;refine hK1 _ _ (by assumption) ?_;clear hK1 K1;replace xw := xw.trans hE;replace xl5 := xl5.trans hE;clear hE;apply Mops.none
           ·intro w' hE';go_simp;with_reducible rfl
           refine Mops.done ?_;apply hK;clear hK K' gd g4 g15;refine Wp.keep [2,3,40,41,42,84] ?_;rintro r30 ⟨ax,aR,a6,bg,bq,bE,-⟩;simp [go_sem,C,D,J,K,E,F,H,I] at ax aR a6 bg bq bE;clear C D J K E F H I;refine cTt ?_;refine sRg fun K' gd hK => ?_;go_simp;apply hK;clear hK K' gd;refine Wp.keep [4] ?_;rintro r31 ⟨bU,-⟩;simp [go_sem,ax,aR,a6,bg,bq,bE] at bU;clear ax aR a6 bg bq bE;refine Wp.ret ?_;refine bRe ?_;refine tRe ?_;refine tRe ?_;refine bRe ?_;refine tRe ?_;refine endK_tmp Tryz.results82 (by decide) ?_;rw [bU];exact ⟨by rw [prov_no5 hkf fun e => s3 (hfa.choose_spec.1 e).2.2],xw⟩
         ·skip;refine skN ?_;refine Wp.seqDraw (.inl rfl) mixed [([0,1],some (2,false)),([3,4],none),([5,6,7,8,9],none),([10,11],some (12,false)),([13,14,15],none),([16,17,18,19,20],none),([21,22,23,24,25],some (26,false)),([27,28],none)] (by kernel_rfl) fun K' gd hK hg => ?_;have g4 : gd 4 = some 60 := hg 4;have g15 : gd 15 = some 71 := hg 15;clear hg;simp only [pick,nth,List.map_cons,List.map_nil,Option.map_none,Option.map_some];refine Mops.absD fun D12 hD12 zD12 => ?_;replace xw := xw.trans hD12;replace xl5 := xl5.trans hD12;replace g := hD12.cell g;replace h := hD12.cell h;replace d := hD12.cell d;replace x1 := hD12.cell x1;replace x2 := hD12.cell x2;replace l := hD12.cell l;replace o := hD12.cell o;clear hD12;refine mAc ?_
          intro K1 hK1;go_simp;refine Wcall (.inl rfl) (span_T s1 _) ?_;rintro v w5 ⟨rfl,hE⟩;go_simp;refine hK1 _ _ (by assumption) ?_;clear hK1 K1;replace xw := xw.trans hE;replace xl5 := xl5.trans hE;replace d := hE.cell d;replace x1 := hE.cell x1;replace x2 := hE.cell x2;replace l := hE.cell l;replace o := hE.cell o;clear hE;apply Mops.none
          ·intro w' hE';go_simp;with_reducible rfl
          refine mNo ?_
          refine mAc ?_
          intro K1 hK1;go_simp;refine Wcall (.inl rfl) (in_T (decide_eq_false s2) _) ?_;rintro v w6 ⟨rfl,hE⟩;go_simp;refine hK1 _ _ (by assumption) ?_;clear hK1 K1;replace xw := xw.trans hE;replace xl5 := xl5.trans hE;clear hE;apply Mops.none
          ·intro w' hE';go_simp;with_reducible rfl
          apply Mops.none
          ·intro w' hE';go_simp;with_reducible rfl
          apply Mops.act
          ·intro w' hE';go_simp;with_reducible rfl
          intro K1 hK1;go_simp;refine hK1 _ _ (Ext.refl _) ?_;clear hK1 K1;apply Mops.none
          ·intro w' hE';go_simp;with_reducible rfl
          refine Mops.done ?_;apply hK;clear hK K' gd g4 g15;refine Wp.keep [2,3,40,41,42,84] ?_;rintro r34 ⟨ay,aS,a7,bh,br,bF,-⟩;simp [go_sem,C,D,J,K,E,F,H,I] at ay aS a7 bh br bF;clear C D J K E F H I;refine cTt ?_;refine sRg fun K' gd hK => ?_;go_simp;apply hK;clear hK K' gd;refine Wp.keep [4] ?_;rintro r35 ⟨bV,-⟩;simp [go_sem,ay,aS,a7,bh,br,bF] at bV;clear ay aS a7 bh br bF;refine Wp.ret ?_;refine bRe ?_;refine tRe ?_;refine tRe ?_;refine bRe ?_;refine tRe ?_;refine endK_tmp Tryz.results82 (by decide) ?_;rw [bV];exact ⟨by rw [prov_no5 hkf fun e => s2 (hfa.choose_spec.1 e).2.1],xw⟩
        ·skip;refine skN ?_;refine Wp.seqDraw (.inl rfl) mixed [([0,1],some (2,false)),([3,4],none),([5,6,7,8,9],none),([10,11],some (12,false)),([13,14,15],none),([16,17,18,19,20],none),([21,22,23,24,25],some (26,false)),([27,28],none)] (by kernel_rfl) fun K' gd hK hg => ?_;have g4 : gd 4 = some 60 := hg 4;have g15 : gd 15 = some 71 := hg 15;clear hg;simp only [pick,nth,List.map_cons,List.map_nil,Option.map_none,Option.map_some];refine Mops.absD fun D13 hD13 zD13 => ?_;replace xw := xw.trans hD13;replace xl5 := xl5.trans hD13;replace g := hD13.cell g;replace h := hD13.cell h;replace d := hD13.cell d;replace l := hD13.cell l;replace o := hD13.cell o;clear hD13;refine mAc ?_
         intro K1 hK1;go_simp;refine Wcall (.inl rfl) (span_F s1 _) ?_;rintro v w5 ⟨rfl,hE⟩;go_simp;refine hK1 _ _ (by assumption) ?_;clear hK1 K1;replace xw := xw.trans hE;replace xl5 := xl5.trans hE;clear hE;apply Mops.none
         ·intro w' hE';go_simp;with_reducible rfl
         apply Mops.none
         ·intro w' hE';go_simp;with_reducible rfl
         apply Mops.act
         ·intro w' hE';go_simp;with_reducible rfl
         intro K1 hK1;go_simp;refine hK1 _ _ (Ext.refl _) ?_;clear hK1 K1;apply Mops.none
         ·intro w' hE';go_simp;with_reducible rfl
         apply Mops.none
         ·intro w' hE';go_simp;with_reducible rfl
         apply Mops.act
         ·intro w' hE';go_simp;with_reducible rfl
         intro K1 hK1;go_simp;refine hK1 _ _ (Ext.refl _) ?_;clear hK1 K1;apply Mops.none
         ·intro w' hE';go_simp;with_reducible rfl
         refine Mops.done ?_;apply hK;clear hK K' gd g4 g15;refine Wp.keep [2,3,40,41,42,84] ?_;rintro r37 ⟨az,aT,a8,bi,bs,bG,-⟩;simp [go_sem,C,D,J,K,E,F,H,I] at az aT a8 bi bs bG;clear C D J K E F H I;refine cTt ?_;refine sRg fun K' gd hK => ?_;go_simp;apply hK;clear hK K' gd;refine Wp.keep [4] ?_;rintro r38 ⟨bW,-⟩;simp [go_sem,az,aT,a8,bi,bs,bG] at bW;clear az aT a8 bi bs bG;refine Wp.ret ?_;refine bRe ?_;refine tRe ?_;refine tRe ?_;refine bRe ?_;refine tRe ?_;refine endK_tmp Tryz.results82 (by decide) ?_;rw [bW];exact ⟨by rw [prov_no5 hkf fun e => s1 (hfa.choose_spec.1 e).1],xw⟩
      ·skip;have hkq : ∃ _u : Unit,k = t.fl.length := ⟨(),by omega⟩;have hkl : ¬ (k : Int) < (m.full.length : Int) := by have := h2.choose_spec;omega
       refine sRg fun K' gd hK => ?_;go_simp;apply hK;clear hK K' gd;refine Wp.keep [2,3,40,41,42,43] ?_;rintro r39 ⟨aA,aU,a9,bj,bt,bu,-⟩;simp [go_sem,V,X,Z,ab,e42] at aA aU a9 bj bt bu;clear V X Z ab e42;refine Wp.seq ?_;refine cFf ?_;refine Wp.exit ?_;refine tEx ?_;refine tEx ?_;refine blockK_here ?_;refine tNo ?_;refine sRg fun K' gd hK => ?_;go_simp;apply hK;clear hK K' gd;refine Wp.keep [4] ?_;rintro r40 ⟨bX,-⟩;simp [go_sem,aA,aU,a9,bj,bt,bu] at bX;clear aA aU a9 bj bt bu;refine Wp.ret ?_;refine endK_tmp Tryz.results82 (by decide) ?_;rw [bX];exact ⟨by rw [decide_eq_true (show ProvP t m from ⟨⟨h1.choose_spec,h2.choose_spec,by rw [hwi.choose_spec];omega,hwt.choose_spec⟩,fun j hj => hq.choose_spec j (by rw [hkq.choose_spec];exact hj)⟩)],xw⟩
    ·skip;refine Wp.seqDraw (.inl rfl) mixed [([0,1,2,3,4],none),([5,6,7],none),([8,9,10,11,12],none),([13,14,15,16],none),([17,18,19],some (20,false)),([21,22,23],none),([24,25,26,28,29],some (27,false)),([30,31],none)] (by kernel_rfl) fun K' gd hK hg => ?_;have g7 : gd 7 = some 14 := hg 7;have g16 : gd 16 = some 23 := hg 16;have g23 : gd 23 = some 30 := hg 23;clear hg;simp only [pick,nth,List.map_cons,List.map_nil,Option.map_none,Option.map_some];refine Mops.absD fun D14 hD14 zD14 => ?_;replace hTS := hTS.ext hD14;replace hXS := hXS.ext hD14;replace xw := xw.trans hD14;replace g := hD14.cell g;replace h := hD14.cell h;replace d := hD14.cell d;replace f := hD14.cell f;replace M := hD14.cell M;replace s := hD14.cell s;clear hD14;refine mNo ?_
     apply Mops.none
     ·intro w' hE';go_simp;with_reducible rfl
     refine mNo ?_
     apply Mops.none
     ·intro w' hE';go_simp;with_reducible rfl
     refine mAc ?_
     intro K1 hK1;go_simp;refine Wcall (.inl rfl) (wrong_c t t.n.toNat m.on _ _ _ hP (hTS.v.more (Below.size (XE))) (hXS.v.more (Below.size (XE))) h1.choose_spec) ?_;rintro v w3 ⟨hv,hE⟩;rw [hwi.choose_spec] at hv;subst hv;go_simp;refine hK1 _ _ (by assumption) ?_;clear hK1 K1;replace hTS := hTS.ext hE;replace hXS := hXS.ext hE;replace xw := xw.trans hE;replace g := hE.cell g;replace h := hE.cell h;replace d := hE.cell d;replace f := hE.cell f;replace M := hE.cell M;clear hE;apply Mops.none
     ·intro w' hE';go_simp;with_reducible rfl
     refine mAc ?_
     intro K1 hK1;go_simp;refine Wcall (.inl rfl) (worthM_c t t.n.toNat m.on _ _ _ hP (hTS.v.more (Below.size (XE))) (hXS.v.more (Below.size (XE))) h1.choose_spec) ?_;rintro v w4 ⟨hv,hE⟩;rw [hwt.choose_spec] at hv;subst hv;go_simp;refine hK1 _ _ (by assumption) ?_;clear hK1 K1;replace xw := xw.trans hE;clear hE;apply Mops.none
     ·intro w' hE';go_simp;with_reducible rfl
     refine Mops.done ?_;apply hK;clear hK K' gd g7 g16 g23;refine Wp.keep [2,3,38] ?_;rintro r43 ⟨aC,aW,aH,-⟩;simp [go_sem,y,B] at aC aW aH;clear y B;refine cTt ?_;refine sRg fun K' gd hK => ?_;go_simp;apply hK;clear hK K' gd;refine Wp.keep [4] ?_;rintro r44 ⟨bY,-⟩;simp [go_sem,aC,aW,aH] at bY;clear aC aW aH;refine Wp.ret ?_;refine tRe ?_;refine endK_tmp Tryz.results82 (by decide) ?_;rw [bY];exact ⟨by rw [prov_no4 (by rw [hwt.choose_spec];exact h4)],xw⟩
  ·skip;have h2i : ((m.full.length : Int) = (t.fl.length : Int)) = False := by simp;omega
   refine Wp.seqDraw (.inl rfl) mixed [([0,1,2,3,4],none),([5,6,7],none),([8,9,10,11,12],none),([13,14,15,16],none),([17,18,19],some (20,false)),([21,22,23],none),([24,25,26,28,29],some (27,false)),([30,31],none)] (by kernel_rfl) fun K' gd hK hg => ?_;have g7 : gd 7 = some 14 := hg 7;have g16 : gd 16 = some 23 := hg 16;have g23 : gd 23 = some 30 := hg 23;clear hg;simp only [pick,nth,List.map_cons,List.map_nil,Option.map_none,Option.map_some];refine Mops.absD fun D15 hD15 zD15 => ?_;replace xw := xw.trans hD15;replace d := hD15.cell d;replace f := hD15.cell f;replace s := hD15.cell s;clear hD15;refine mNo ?_
   apply Mops.none
   ·intro w' hE';go_simp;with_reducible rfl
   refine mNo ?_
   apply Mops.none
   ·intro w' hE';go_simp;with_reducible rfl
   apply Mops.act
   ·intro w' hE';go_simp;with_reducible rfl
   intro K1 hK1;go_simp;refine hK1 _ _ (Ext.refl _) ?_;clear hK1 K1;apply Mops.none
   ·intro w' hE';go_simp;with_reducible rfl
   apply Mops.act
   ·intro w' hE';go_simp;with_reducible rfl
   intro K1 hK1;go_simp;refine hK1 _ _ (Ext.refl _) ?_;clear hK1 K1;apply Mops.none
   ·intro w' hE';go_simp;with_reducible rfl
   refine Mops.done ?_;apply hK;clear hK K' gd g7 g16 g23;refine Wp.keep [2,3,38] ?_;rintro r45 ⟨aD,aX,aI,-⟩;simp [go_sem,y,B] at aD aX aI;clear y B;refine cTt ?_;refine sRg fun K' gd hK => ?_;go_simp;apply hK;clear hK K' gd;refine Wp.keep [4] ?_;rintro r46 ⟨bZ,-⟩;simp [go_sem,aD,aX,aI] at bZ;clear aD aX aI;refine Wp.ret ?_;refine tRe ?_;refine endK_tmp Tryz.results82 (by decide) ?_;rw [bZ];exact ⟨by rw [prov_no2 h2],xw⟩
 ·skip;have h1i : ((m.on.length : Int) = (t.fl.length : Int)) = False := by simp;omega
  refine Wp.seqDraw (.inl rfl) mixed [([0,1,2,3,4],none),([5,6,7],none),([8,9,10,11,12],none),([13,14,15,16],none),([17,18,19],some (20,false)),([21,22,23],none),([24,25,26,28,29],some (27,false)),([30,31],none)] (by kernel_rfl) fun K' gd hK hg => ?_;have g7 : gd 7 = some 14 := hg 7;have g16 : gd 16 = some 23 := hg 16;have g23 : gd 23 = some 30 := hg 23;clear hg;simp only [pick,nth,List.map_cons,List.map_nil,Option.map_none,Option.map_some];refine Mops.absD fun D16 hD16 zD16 => ?_;replace xw := xw.trans hD16;replace d := hD16.cell d;replace f := hD16.cell f;clear hD16;refine mNo ?_
  apply Mops.none
  ·intro w' hE';go_simp;with_reducible rfl
  apply Mops.none
  ·intro w' hE';go_simp;with_reducible rfl
  apply Mops.none
  ·intro w' hE';go_simp;with_reducible rfl
  apply Mops.act
  ·intro w' hE';go_simp;with_reducible rfl
  intro K1 hK1;go_simp;refine hK1 _ _ (Ext.refl _) ?_;clear hK1 K1;apply Mops.none
  ·intro w' hE';go_simp;with_reducible rfl
  apply Mops.act
  ·intro w' hE';go_simp;with_reducible rfl
  intro K1 hK1;go_simp;refine hK1 _ _ (Ext.refl _) ?_;clear hK1 K1;apply Mops.none
  ·intro w' hE';go_simp;with_reducible rfl
  refine Mops.done ?_;apply hK;clear hK K' gd g7 g16 g23;refine Wp.keep [2,3,38] ?_;rintro r47 ⟨aE,aY,aJ,-⟩;simp [go_sem,y,B] at aE aY aJ;clear y B;refine cTt ?_;refine sRg fun K' gd hK => ?_;go_simp;apply hK;clear hK K' gd;refine Wp.keep [4] ?_;rintro r48 ⟨b0,-⟩;simp [go_sem,aE,aY,aJ] at b0;clear aE aY aJ;refine Wp.ret ?_;refine tRe ?_;refine endK_tmp Tryz.results82 (by decide) ?_;rw [b0];exact ⟨by rw [prov_no1 h1],xw⟩
def bestE (t : Tr) (m : Md) : Int := if checkT t ≠ 0 then checkT t else if ProvP t m then 0 else 8
def smallM (m : Md) : Prop := m.on.length ≤ 60 ∧ m.full.length ≤ 60
instance (m : Md) : Decidable (smallM m) := by unfold smallM;infer_instance
theorem small_c (m : Md) (v : Value) (w : World) (hM : MendV w w.heap.size v m) :
  CallsV Tryz.prog 43 #[v] w fun v' w' => v' = .bool (decide (smallM m)) ∧ Ext w w' := by
 obtain ⟨xv,zv,rfl,hX,hZ⟩ := hM;obtain ⟨A3,c3,rfl,-,-⟩ := id hX;obtain ⟨A4,c4,rfl,-,-⟩ := id hZ;clear hX hZ;refine Wp.fn Tryz.func43 rfl Tryz.ntmps43 (by simp) ?_;have xw := Ext.refl w;refine Wp.keep [0] ?_;rintro r1 ⟨d,-⟩;simp [go_sem] at d;refine sRg fun K' gd hK => ?_;refine cu1 fun K1 hK1 => ?_;go_simp;apply hK1;clear hK1 K1;refine Wops.absA fun i n1 b => ?_;obtain ⟨q1,b,s1,c,f1,r1⟩ := b;try simp only [q1] at c f1 r1 ⊢
 replace xw := xw.trans b;have j := c 0 _ rfl;have k := c 2 _ rfl;clear c b;clear r1;go_simp;apply hK;clear hK K' gd;refine Wp.keep [1] ?_;rintro r2 ⟨a,-⟩;simp [go_sem,d] at a;clear d
 by_cases h1 : (m.on.length : Int) ≤ 60
 ·skip
  by_cases h2 : (m.full.length : Int) ≤ 60
  ·skip;refine sRh fun K' gd hK hg => ?_;have g4 : gd 4 = some 7 := hg 4;clear hg;go_simp;apply hK;clear hK K' gd g4;refine Wp.keep [2] ?_;rintro r3 ⟨e,-⟩;simp [go_sem,a] at e;clear a;refine Wp.ret ?_;refine endK_tmp Tryz.results43 (by decide) ?_;rw [e];exact ⟨by rw [decide_eq_true (show smallM m from ⟨by omega,by omega⟩)],xw⟩
  ·skip;refine sRh fun K' gd hK hg => ?_;have g4 : gd 4 = some 7 := hg 4;clear hg;go_simp;apply hK;clear hK K' gd g4;refine Wp.keep [2] ?_;rintro r4 ⟨f,-⟩;simp [go_sem,a] at f;clear a;refine Wp.ret ?_;refine endK_tmp Tryz.results43 (by decide) ?_;rw [f];exact ⟨by rw [decide_eq_false (fun h : smallM m => by unfold smallM at h;omega)],xw⟩
 ·skip;refine sRh fun K' gd hK hg => ?_;have g4 : gd 4 = some 7 := hg 4;clear hg;go_simp;apply hK;clear hK K' gd g4;refine Wp.keep [2] ?_;rintro r5 ⟨g,-⟩;simp [go_sem,a] at g;clear a;refine Wp.ret ?_;refine endK_tmp Tryz.results43 (by decide) ?_;rw [g];exact ⟨by rw [decide_eq_false (fun h : smallM m => by unfold smallM at h;omega)],xw⟩
theorem later1_c (f g : Fl) (hf : 0 ≤ f.m ∧ f.m ≤ 1000) (hg : 0 ≤ g.m ∧ g.m ≤ 1000) (w : World) : CallsV Tryz.prog 146 #[flV f,flV g] w fun v w' => (∃ r : Int,v = .int .i64 r ∧ decide (r < 0) = decide (f.m < g.m)) ∧ Ext w w' := by
 unfold flV;have hw : IntKind.i64.wrap (f.m - g.m) = f.m - g.m := IntWalk.i64_in _ (by omega);refine Wp.fn Tryz.func146 rfl Tryz.ntmps146 (by simp) ?_;have xw := Ext.refl w;refine Wp.keep [0,1] ?_;rintro r1 ⟨c,d,-⟩;simp [go_sem] at c d;refine sRg fun K' gd hK => ?_;refine cu1 fun K1 hK1 => ?_;go_simp;apply hK1;clear hK1 K1;refine Wops.absA fun n n2 b => ?_;obtain ⟨q2,b,s2,i,f2,r2⟩ := b;try simp only [q2] at i f2 r2 ⊢
 replace xw := xw.trans b;have k := i 3 _ rfl;clear i b;clear r2;refine cu1 fun K1 hK1 => ?_;go_simp;apply hK1;clear hK1 K1;refine Wops.absA fun o n3 a => ?_;obtain ⟨q3,a,s3,j,f3,r3⟩ := a;try simp only [q3] at j f3 r3 ⊢
 replace xw := xw.trans a;replace k := a.cell k;have p := j 3 _ rfl;clear j a;clear r3;go_simp;apply hK;clear hK K' gd;refine Wp.keep [2,3] ?_;rintro r2 ⟨e,h,-⟩;simp [go_sem,c,d] at e h;clear c d;refine sRg fun K' gd hK => ?_;go_simp;apply hK;clear hK K' gd;refine Wp.keep [4] ?_;rintro r3 ⟨l,-⟩;simp [go_sem,e,h] at l;clear e h;refine Wp.ret ?_;refine endK_tmp Tryz.results146 (by decide) ?_;rw [l];exact ⟨⟨_,rfl,decide_eq_decide.2 (by omega)⟩,xw⟩
theorem later1_enters : ∀ args w,(callFunc 146 args).run Tryz.prog w = .ok (.enter 146 args) w := enters_of Tryz.func146 (by kernel_rfl) rfl
theorem lat1_c (t : Tr) (S pb n i : Nat) (A : Option Addr) (c : Nat) (A2 : Option Addr) (c2 : Nat) (h : Nat → Int) (w : World) (hT : PlanT t n) (hi : i < t.fl.length) (hhl : ∀ d,h d < t.fl.length) (hP : PlanF w S pb n A c A2 c2 t h) :
  CallsV Tryz.prog 148 #[.int .i64 (i : Int),.pointer (some ⟨pb,0,none⟩)] w fun v w' =>
   v = .bool (!addB t.N n h i) ∧ PlanF w' S pb n A c A2 c2 t (addF t.N n h i) ∧ Chg [pb] w w' := by
 replace hhl : ∃ _u : Unit,_ := ⟨(),hhl⟩;refine Wp.fn Tryz.func148 rfl Tryz.ntmps148 (by simp) ?_;have xw := Ext.refl w;refine Wp.keep [0,1] ?_;rintro r1 ⟨a,f,-⟩;simp [go_sem] at a f;have xq := Chg.refl [pb] w;refine sRg fun K' gd hK => ?_;go_simp;apply hK;clear hK K' gd;refine Wp.keep [0,1] ?_;rintro r2 ⟨e,g,-⟩;simp [go_sem,a,f] at e g;clear a f;refine sRg fun K' gd hK => ?_;refine cu2 fun K1 hK1 => ?_;go_simp;refine Wcall (.inl rfl) (add_c t S pb n i A c A2 c2 h _ hT.n2 hT.cl (by have := hT.fl;omega) hT.sp hi hhl.choose_spec (hP.ext xw)) ?_;rintro v w5 ⟨rfl,hP2,hE⟩;go_simp;apply hK1;clear hK1 K1;clear xw;replace xq := Chg.more xq hE (by intro b hm;simp only [List.mem_cons,List.not_mem_nil,or_false] at hm;first | (left;omega) | (right;simp [hm];done) | (rcases hm with hm | hm <;> first | (left;omega) | (right;simp [hm])));go_simp;apply hK;clear hK K' gd;refine Wp.keep [3] ?_;rintro r4 ⟨j,-⟩;simp [go_sem,e,g] at j;clear e g;refine Wp.ret ?_;refine endK_tmp Tryz.results148 (by decide) ?_;rw [j];exact ⟨rfl,hP2,xq⟩
theorem latI_c (t : Tr) (S pb n : Nat) (A : Option Addr) (c : Nat) (A2 : Option Addr) (c2 : Nat) (xs : List Int) (v : Value) (w : World) (hT : PlanT t n) (hx : IntsV w S v xs) (hm : ∀ x ∈ xs,∃ k : Nat,x = (k : Int) ∧ k < t.fl.length) (hl : xs.length ≤ 1000)
  (hP : PlanF w S pb n A c A2 c2 t noPlan) :
  CallsV Tryz.prog 159 #[v,.func (.func 148) #[] #[.pointer (some ⟨pb,0,none⟩)]] w fun v' w' =>
   (∃ r : Int,v' = .int .i64 r ∧ canF t.N n xs noPlan = decide (r < 0)) ∧ (∃ h,PlanF w' S pb n A c A2 c2 t h) ∧ Chg [pb] w w' := by
 obtain ⟨A1,c1,rfl,-,-⟩ := id hx;have heg : ∀ args w,(callFunc 148 args).run Tryz.prog w = .ok (.enter 148 args) w := enters_of Tryz.func148 (by kernel_rfl) rfl;have hs := hP.s;have hXS : IntsS w S (.slice A1 xs.length c1) xs := ⟨hx⟩;replace hm : ∃ _u : Unit,_ := ⟨(),hm⟩;clear hx;refine Wp.fn Tryz.func159 rfl Tryz.ntmps159 (by simp) ?_;have xw := Ext.refl w;refine Wp.keep [0,1] ?_;rintro r1 ⟨l,G,-⟩;simp [go_sem] at l G;have xq := Chg.refl [pb] w;refine sRg fun K' gd hK => ?_;go_simp;apply hK;clear hK K' gd;refine Wp.keep [0,1] ?_;rintro r2 ⟨u,J,-⟩;simp [go_sem,l,G] at u J;clear l G;refine Wp.seq ?_;refine sRg fun K' gd hK => ?_;go_simp;apply hK;clear hK K' gd;refine Wp.keep [0,1,7,8] ?_;rintro r3 ⟨z,K,X,ak,-⟩;simp [go_sem,u,J] at z K X ak;clear u J;refine Wp.block ?_;refine Wp.loop (fun k ρ ds wk => AllEq [0,1,7] ρ r3 ∧ ds = [] ∧ (Chg [pb] w wk) ∧ (ρ 8 = .int .i64 (k : Int) ∧ IntsS wk S (.slice A1 xs.length c1) xs ∧ PlanF wk S pb n A c A2 c2 t ((xs.take k).foldl (addF t.N n) noPlan) ∧ (∃ _u : Unit,canF t.N n xs noPlan = canF t.N n (xs.drop k) ((xs.take k).foldl (addF t.N n) noPlan)))) (xs.length) ?_ ?_
 ·refine ⟨AllEq.refl _ _,rfl,Chg.refl _ _,?_⟩;exact ⟨by rw [ak];rfl,hXS,hP,(),rfl⟩
 ·rintro k r4 _ wk hk ⟨hA,rfl,xl2,⟨e8,hXS,hP,hq⟩⟩;obtain ⟨B,L,Y,-⟩ := hA;rw [z] at B;rw [K] at L;rw [X] at Y;clear xw;replace xq := Chg.more xq xl2 (by intro b hm;simp only [List.mem_cons,List.not_mem_nil,or_false] at hm;first | (left;omega) | (right;simp [hm];done) | (rcases hm with hm | hm <;> first | (left;omega) | (right;simp [hm])));refine sRg fun K' gd hK => ?_;go_simp;apply hK;clear hK K' gd;refine Wp.keep [0,1,7,8,9] ?_;rintro r5 ⟨a,e,f,g,j,-⟩;simp [go_sem,B,L,Y,e8] at a e f g j;clear B L Y e8;refine Wp.seq ?_
  by_cases hk : k < xs.length
  ·refine cTt ?_;obtain ⟨b,o,cc,ev,hb,hcc⟩ := hXS.v.get hk
   injection ev with ev1 _ ev2
   subst ev1;subst ev2;have d1 := hcc k hk;obtain ⟨i,hi1,hi2⟩ := hm.choose_spec _ (gI_mem hk);rw [hi1] at d1;have hkl : (k : Int) < (xs.length : Int) := by omega
   replace hi1 : ∃ _u : Unit,xs[k] = (i : Int) := ⟨(),by rw [← gI_lt hk];exact hi1⟩;clear hcc;have hstep : ∃ _u : Unit,canF t.N n xs noPlan = (addB t.N n ((xs.take k).foldl (addF t.N n) noPlan) (i : Int) && canF t.N n (xs.drop (k + 1)) ((xs.take (k + 1)).foldl (addF t.N n) noPlan)) := ⟨(),by rw [hq.choose_spec,drop_cons hk,canF,take_snoc hk,List.foldl_append,hi1.choose_spec];rfl⟩;have hvl := foldl_vals (N := t.N) (n := n) (P := fun y => y < (t.fl.length : Int)) (xs.take k) noPlan (fun x hx => by obtain ⟨q,rfl,hq⟩ := hm.choose_spec x (List.mem_of_mem_take hx);omega) (fun d => by show (-1 : Int) < _;omega)
   by_cases hb1 : addB t.N n ((xs.take k).foldl (addF t.N n) noPlan) (i : Int) = true
   ·skip;refine skN ?_;refine sBk ?_;refine sRg fun K' gd hK => ?_;go_simp;apply hK;clear hK K' gd;refine Wp.keep [0,1,5,7,8] ?_;rintro r6 ⟨C,M,T,Z,ad,-⟩;simp [go_sem,a,e,f,g,j] at C M T Z ad;clear a e f g j;refine sRg fun K' gd hK => ?_;refine cu6 fun K1 hK1 => ?_;go_simp;refine Wcall (.inl rfl) (lat1_c t S pb n i A c A2 c2 _ _ hT hi2 hvl hP) ?_;rintro v w5 ⟨rfl,hP2,hE⟩;rw [hb1];go_simp;apply hK1;clear hK1 K1;replace hXS := hXS.chg hE XB;replace xq := Chg.more xq hE (by intro b hm;simp only [List.mem_cons,List.not_mem_nil,or_false] at hm;first | (left;omega) | (right;simp [hm];done) | (rcases hm with hm | hm <;> first | (left;omega) | (right;simp [hm])));replace xl2 := Chg.more xl2 hE (by intro b hm;simp only [List.mem_cons,List.not_mem_nil,or_false] at hm;first | (left;omega) | (right;simp [hm];done) | (rcases hm with hm | hm <;> first | (left;omega) | (right;simp [hm])));try simp only [Wops_nil,updO_some,updO_none]
    apply hK;clear hK K' gd;refine Wp.keep [0,1,5,7,8,16] ?_;rintro r8 ⟨D,O,U,aa,ae,F,-⟩;simp [go_sem,C,M,T,Z,ad] at D O U aa ae F;clear C M T Z ad;refine cFf ?_;refine Wp.skip ?_;refine bNo ?_;refine tNo ?_;refine lRg fun K' gd hK => ?_;go_simp;apply hK;clear hK K' gd;refine Ends.keep [0,1,7,8] ?_;rintro r9 ⟨af,ag,aj,al,-⟩;simp [go_sem,D,O,U,aa,ae,F] at af ag aj al;clear D O U aa ae F;refine Ends.mk ?_;refine thenK_normal ⟨by omega,⟨by rw [af,z],by rw [ag,K],by rw [aj,X],trivial⟩,rfl,xl2,?_⟩;exact ⟨by rw [al,IntWalk.i64_in _ (by omega)];rfl,hXS,by rw [take_snoc hk,List.foldl_append,hi1.choose_spec];exact hP2,(),by rw [hstep.choose_spec,hb1];rfl⟩
   ·skip;refine skN ?_;refine sBk ?_;refine sRg fun K' gd hK => ?_;go_simp;apply hK;clear hK K' gd;refine Wp.keep [0,1,5,7,8] ?_;rintro r10 ⟨m,H,Q,V,ab,-⟩;simp [go_sem,a,e,f,g,j] at m H Q V ab;clear a e f g j;refine sRg fun K' gd hK => ?_;refine cu6 fun K1 hK1 => ?_;go_simp;refine Wcall (.inl rfl) (lat1_c t S pb n i A c A2 c2 _ _ hT hi2 hvl hP) ?_;rintro v w5 ⟨rfl,hP2,hE⟩;rw [show addB t.N n ((xs.take k).foldl (addF t.N n) noPlan) (i : Int) = false by simpa using hb1];go_simp;apply hK1;clear hK1 K1;replace xq := Chg.more xq hE (by intro b hm;simp only [List.mem_cons,List.not_mem_nil,or_false] at hm;first | (left;omega) | (right;simp [hm];done) | (rcases hm with hm | hm <;> first | (left;omega) | (right;simp [hm])));replace xl2 := Chg.more xl2 hE (by intro b hm;simp only [List.mem_cons,List.not_mem_nil,or_false] at hm;first | (left;omega) | (right;simp [hm];done) | (rcases hm with hm | hm <;> first | (left;omega) | (right;simp [hm])));try simp only [Wops_nil,updO_some,updO_none]
    apply hK;clear hK K' gd;refine Wp.keep [0,1,5,7,8,16] ?_;rintro r12 ⟨p,I,R,W,ac,E,-⟩;simp [go_sem,m,H,Q,V,ab] at p I R W ac E;clear m H Q V ab;refine cTt ?_;refine sRg fun K' gd hK => ?_;go_simp;apply hK;clear hK K' gd;refine Wp.keep [4] ?_;rintro r13 ⟨ah,-⟩;simp [go_sem,p,I,R,W,ac,E] at ah;clear p I R W ac E;refine Wp.ret ?_;refine bRe ?_;refine tRe ?_;refine tRe ?_;refine bRe ?_;refine tRe ?_;refine endK_tmp Tryz.results159 (by decide) ?_;rw [ah];exact ⟨⟨_,rfl,by rw [hstep.choose_spec,show addB t.N n ((xs.take k).foldl (addF t.N n) noPlan) (i : Int) = false by simpa using hb1,Bool.false_and,decide_eq_false (by omega)]⟩,⟨_,hP2⟩,xq⟩
  ·refine cFf ?_;have hkk : k = xs.length := by omega
   refine Wp.exit ?_;refine tEx ?_;refine tEx ?_;refine blockK_here ?_;refine tNo ?_;refine sRg fun K' gd hK => ?_;go_simp;apply hK;clear hK K' gd;refine Wp.keep [4] ?_;rintro r14 ⟨ai,-⟩;simp [go_sem,a,e,f,g,j] at ai;clear a e f g j;refine Wp.ret ?_;refine endK_tmp Tryz.results159 (by decide) ?_;rw [ai];exact ⟨⟨_,rfl,by rw [hq.choose_spec,hkk,List.drop_length,canF];rfl⟩,⟨_,hP⟩,xq⟩
theorem latC_c (t : Tr) (S pb n : Nat) (A : Option Addr) (c : Nat) (A2 : Option Addr) (c2 : Nat) (xs : List Int) (v : Value) (w : World) (hT : PlanT t n) (hx : IntsV w S v xs) (hm : ∀ x ∈ xs,∃ k : Nat,x = (k : Int) ∧ k < t.fl.length) (hl : xs.length ≤ 1000)
  (hP : PlanF w S pb n A c A2 c2 t noPlan) :
  CallsV Tryz.prog 84 #[v,.func (.func 148) #[] #[.pointer (some ⟨pb,0,none⟩)]] w fun v' w' =>
   v' = .bool (!canF t.N n xs noPlan) ∧ (∃ h,PlanF w' S pb n A c A2 c2 t h) ∧ Chg [pb] w w' := by
 refine Wp.fn Tryz.func84 rfl Tryz.ntmps84 (by simp) ?_;have xw := Ext.refl w;refine Wp.keep [0,1] ?_;rintro r1 ⟨a,f,-⟩;simp [go_sem] at a f;have xq := Chg.refl [pb] w;refine sRg fun K' gd hK => ?_;go_simp;apply hK;clear hK K' gd;refine Wp.keep [0,1] ?_;rintro r2 ⟨d,g,-⟩;simp [go_sem,a,f] at d g;clear a f;refine sRg fun K' gd hK => ?_;refine cu3 fun K1 hK1 => ?_;go_simp;refine Wcall (.inl rfl) (latI_c t S pb n A c A2 c2 xs v _ hT (hx.cells fun _ _ _ _ hc => xw.cell hc) hm hl (hP.ext xw)) ?_;rintro v w5 ⟨⟨r,rfl,hr⟩,⟨h5,hP5⟩,hE⟩;go_simp;apply hK1;clear hK1 K1;clear xw;replace xq := Chg.more xq hE (by intro b hm;simp only [List.mem_cons,List.not_mem_nil,or_false] at hm;first | (left;omega) | (right;simp [hm];done) | (rcases hm with hm | hm <;> first | (left;omega) | (right;simp [hm])));go_simp;apply hK;clear hK K' gd;refine Wp.keep [4] ?_;rintro r4 ⟨i,-⟩;simp [go_sem,d,g] at i;clear d g;refine Wp.ret ?_;refine endK_tmp Tryz.results84 (by decide) ?_;rw [i];exact ⟨by rw [hr];by_cases e : r < 0 <;> simp [e] <;> omega,⟨_,hP5⟩,xq⟩
def andL (L : List Int) (o : Int) : List Int := if 0 ≤ o then L ++ [o] else L
theorem chg4 {V : World} {q : Nat} {a b c d : Value} : Chg [q] V ((((V.setCell ⟨q,0,none⟩ a).setCell ⟨q,1,none⟩ b).setCell ⟨q,2,none⟩ c).setCell ⟨q,3,none⟩ d) := ((((Chg.refl [q] V).setC (by simp)).setC (by simp)).setC (by simp)).setC (by simp)
theorem planOf_c (t : Tr) (n : Nat) (L : List Int) (o : Int) (A : Option Addr) (c : Nat) (A2 : Option Addr) (c2 : Nat) (A3 : Option Addr) (l3 c3 : Nat) (lv : Value) (w : World) (hT : PlanT t n) (hV : TourV w w.heap.size (.agg #[.int .i64 t.n,.slice A t.cl.length c,.slice A2 t.fl.length c2]) t)
  (hL : IntsV w w.heap.size lv L) (hm : ∀ x ∈ L,∃ k : Nat,x = (k : Int) ∧ k < t.fl.length) (ho : o = -1 ∨ ∃ k : Nat,o = (k : Int) ∧ k < t.fl.length) (hl : L.length ≤ 1000) :
  CallsV Tryz.prog 149 #[.agg #[.int .i64 (n : Int),.slice A t.cl.length c,.slice A2 t.fl.length c2,.slice A3 l3 c3],lv,.int .i64 o] w fun v' w' => (∃ g,v' = .agg #[.int .i64 (n : Int),.slice A t.cl.length c,.slice A2 t.fl.length c2,.slice (some ⟨g,0,none⟩) n n] ∧ HasF w' g n ((andL L o).foldl (addF t.N n) noPlan) ∧ w.heap.size ≤ g) ∧ Ext w w' := by
 obtain ⟨A1,c1,rfl,-,-⟩ := id hL;have hn1 := hT.n1;have hn2 := hT.n2;replace hm : ∃ _u : Unit,_ := ⟨(),hm⟩;refine Wp.fn Tryz.func149 rfl Tryz.ntmps149 (by simp) ?_;have xw := Ext.refl w;refine Wp.keep [0,1,2] ?_;rintro r1 ⟨K,Z,ae,-⟩;simp [go_sem] at K Z ae;refine sRg fun K' gd hK => ?_;refine cu1 fun K1 hK1 => ?_;go_simp;apply hK1;clear hK1 K1;refine Wops.absA fun aZ n3 J => ?_;obtain ⟨q3,J,s3,H,f3,r3⟩ := J;try simp only [q3] at H f3 r3 ⊢
 replace xw := xw.trans J;have aJ := H 0 _ rfl;have aK := H 1 _ rfl;have aL := H 2 _ rfl;clear H J;clear r3;refine cu1 fun K1 hK1 => ?_;go_simp;apply hK1;clear hK1 K1;refine Wops.absA fun I n6 E => ?_;obtain ⟨q6,E,s6,F,f6,r6⟩ := E;try simp only [q6] at F f6 r6 ⊢
 replace xw := xw.trans E;replace aJ := E.cell aJ;replace aK := E.cell aK;replace aL := E.cell aL;have a := F 0 _ rfl;have e := F 1 _ rfl;have f := F 2 _ rfl;have l := F 3 _ rfl;clear F E;clear r6;try simp only [Wops_nil,updO_some,updO_none]
 apply hK;clear hK K' gd;refine Wp.keep [1,2,3,6] ?_;rintro r2 ⟨aa,ai,an,au,-⟩;simp [go_sem,K,Z,ae] at aa ai an au;clear K Z ae;obtain ⟨S,hS1,hS2⟩ : ∃ S,S ≤ I.heap.size ∧ I.heap.size ≤ S := ⟨_,Nat.le_refl _,Nat.le_refl _⟩;have hTS : TourS I S (.agg #[.int .i64 t.n,.slice A t.cl.length c,.slice A2 t.fl.length c2]) t := ⟨(hV.ext xw).more hS2⟩;have l6 : n6 < S := by have := cell_lt a;omega
 have hLS : IntsS I S (.slice A1 L.length c1) L := ⟨(hL.ext xw).more hS2⟩;refine sRg fun K' gd hK => ?_;refine cu3 fun K1 hK1 => ?_;go_simp;refine Wcall (.inl rfl) (newPlan_c n ⟨hn1,hn2⟩ A A2 t.cl.length c t.fl.length c2 _) ?_;rintro v w2 ⟨⟨g,rfl,hH,hg⟩,hE⟩;have hgl := hH.r.lt;go_simp;apply hK1;clear hK1 K1;have z3 := Below.size hE;replace f6 := hE.fz a f6;replace hTS := hTS.ext hE;replace hLS := hLS.ext hE;replace xw := xw.trans hE;replace a := hE.cell a;replace e := hE.cell e;replace f := hE.cell f;replace l := hE.cell l;clear hE;refine cu2 fun K1 hK1 => ?_;go_simp;apply hK1;clear hK1 K1;refine Wops.absA fun aI n7 m => ?_;obtain ⟨q7,m,s7,G,f7,r7⟩ := m;try simp only [q7] at G f7 r7 ⊢
 replace f6 := m.fz a f6;replace hTS := hTS.ext m;replace hLS := hLS.ext m;replace hH := hH.ext m;replace xw := xw.trans m;replace a := m.cell a;replace e := m.cell e;replace f := m.cell f;replace l := m.cell l;have aV := G 0 _ rfl;have aW := G 1 _ rfl;have aX := G 2 _ rfl;have aY := G 3 _ rfl;clear G m;clear r7;try simp only [Wops_nil,updO_some,updO_none]
 apply hK;clear hK K' gd;refine Wp.keep [1,2,6,7] ?_;rintro r4 ⟨ab,aj,av,aD,-⟩;simp [go_sem,aa,ai,an,au] at ab aj av aD;clear aa ai an au;have hP : PlanF aI S n7 n A c A2 c2 t noPlan := ⟨by rw [hT.tn];exact aV,aW,aX,⟨g,aY,hH,by omega,by omega⟩,f7,hTS,⟨by omega,by omega⟩⟩;refine Wp.seq ?_;refine sRg fun K' gd hK => ?_;go_simp;apply hK;clear hK K' gd;refine Wp.keep [2,6,7,13,14,15] ?_;rintro r5 ⟨ak,aw,aE,O,U,aP,-⟩;simp [go_sem,ab,aj,av,aD] at ak aw aE O U aP;clear ab aj av aD;refine Wp.block ?_;refine Wp.loop (fun k ρ ds wk => AllEq [2,6,7,13,14] ρ r5 ∧ ds = [] ∧ (Chg [n7] aI wk) ∧ (ρ 15 = .int .i64 (k : Int) ∧ PlanF wk S n7 n A c A2 c2 t ((L.take k).foldl (addF t.N n) noPlan))) (L.length) ?_ ?_
 ·refine ⟨AllEq.refl _ _,rfl,Chg.refl _ _,?_⟩;exact ⟨by rw [aP];rfl,hP⟩
 ·rintro k r6 _ wk hk ⟨hA,rfl,xl4,⟨e15,hP⟩⟩;obtain ⟨al,ax,aF,Q,V,-⟩ := hA;rw [ak] at al;rw [aw] at ax;rw [aE] at aF;rw [O] at Q;rw [U] at V;replace f6 := Chg.fz xl4 a f6 XN;replace hLS := hLS.chg xl4 XB;replace xw := Chg.to xw xl4 XL;replace a := Chg.cell xl4 a XN;replace e := Chg.cell xl4 e XN;replace f := Chg.cell xl4 f XN;replace l := Chg.cell xl4 l XN;refine sRg fun K' gd hK => ?_;go_simp;apply hK;clear hK K' gd;refine Wp.keep [2,6,7,13,14,15,16] ?_;rintro r7 ⟨B,C,D,p,s,u,z,-⟩;simp [go_sem,al,ax,aF,Q,V,e15] at B C D p s u z;clear al ax aF Q V e15;refine Wp.seq ?_
  by_cases h : k < L.length
  ·refine cTt ?_;obtain ⟨b,o9,cc,ev,hb,hcc⟩ := hLS.v.get h
   injection ev with ev1 _ ev2
   subst ev1;subst ev2;have d1 := hcc k h;obtain ⟨i,hi1,hi2⟩ := hm.choose_spec _ (gI_mem h);rw [hi1] at d1;have hkl : (k : Int) < (L.length : Int) := by omega
   replace hi1 : ∃ _u : Unit,L[k] = (i : Int) := ⟨(),by rw [← gI_lt h];exact hi1⟩;clear hcc;refine skN ?_;refine sBk ?_;refine sRg fun K' gd hK => ?_;go_simp;apply hK;clear hK K' gd;refine Wp.keep [2,6,7,9,13,14,15] ?_;rintro r8 ⟨am,ay,aG,aH,R,W,Y,-⟩;simp [go_sem,B,C,D,p,s,u,z] at am ay aG aH R W Y;clear B C D p s u z;refine lRg fun K' gd hK => ?_;refine cu2 fun K1 hK1 => ?_;go_simp;refine Wcall (.inl rfl) (add_c t S n7 n i A c A2 c2 _ _ hT.n2 hT.cl (by have := hT.fl;omega) hT.sp hi2 (foldl_vals (P := fun y => y < (t.fl.length : Int)) _ _ (fun x hx => by obtain ⟨q,rfl,hq⟩ := hm.choose_spec x (List.mem_of_mem_take hx);omega) (fun d => by show (-1 : Int) < _;omega)) hP) ?_;rintro v w5 ⟨rfl,hP2,hE⟩;go_simp;apply hK1;clear hK1 K1;replace xw := Chg.to xw hE XL;replace xl4 := Chg.more xl4 hE (by intro b hm;simp only [List.mem_cons,List.not_mem_nil,or_false] at hm;first | (left;omega) | (right;simp [hm];done) | (rcases hm with hm | hm <;> first | (left;omega) | (right;simp [hm])));try simp only [Wops_nil,updO_some,updO_none]
   apply hK;clear hK K' gd;refine Ends.keep [2,6,7,13,14,15] ?_;rintro r10 ⟨af,ao,az,M,T,X,-⟩;simp [go_sem,am,ay,aG,aH,R,W,Y] at af ao az M T X;clear am ay aG aH R W Y;refine Ends.mk ?_;refine bNo ?_;refine tNo ?_;refine lRg fun K' gd hK => ?_;go_simp;apply hK;clear hK K' gd;refine Ends.keep [2,6,7,13,14,15] ?_;rintro r11 ⟨aQ,aR,aU,aM,aN,aO,-⟩;simp [go_sem,af,ao,az,M,T,X] at aQ aR aU aM aN aO;clear af ao az M T X;refine Ends.mk ?_;refine thenK_normal ⟨by omega,⟨by rw [aQ,ak],by rw [aR,aw],by rw [aU,aE],by rw [aM,O],by rw [aN,U],trivial⟩,rfl,xl4,?_⟩;exact ⟨by rw [aO,IntWalk.i64_in _ (by omega)];rfl,by rw [take_snoc h,List.foldl_append,hi1.choose_spec];exact hP2⟩
  ·refine cFf ?_;obtain rfl : k = L.length := by omega
   rw [List.take_length] at hP
   by_cases ho0 : 0 ≤ o
   ·skip;obtain ⟨i,hi1,hi2⟩ := ho.resolve_left (by omega);subst hi1;have han : ∃ _u : Unit,(andL L (i : Int)).foldl (addF t.N n) noPlan = addF t.N n (L.foldl (addF t.N n) noPlan) (i : Int) := ⟨(),by unfold andL;rw [if_pos ho0,List.foldl_append];rfl⟩;refine Wp.exit ?_;refine tEx ?_;refine tEx ?_;refine blockK_here ?_;refine tNo ?_;refine Wp.seq ?_;refine sRg fun K' gd hK => ?_;go_simp;apply hK;clear hK K' gd;refine Wp.keep [2,6,7,23] ?_;rintro r12 ⟨ag,ap,aA,ac,-⟩;simp [go_sem,B,C,D,p,s,u,z] at ag ap aA ac;clear B C D p s u z;refine cTt ?_;refine lRg fun K' gd hK => ?_;refine cu2 fun K1 hK1 => ?_;go_simp;refine Wcall (.inl rfl) (add_c t S n7 n i A c A2 c2 _ _ hT.n2 hT.cl (by have := hT.fl;omega) hT.sp hi2 (foldl_vals (P := fun y => y < (t.fl.length : Int)) _ _ (fun x hx => by obtain ⟨q,rfl,hq⟩ := hm.choose_spec x hx;omega) (fun d => by show (-1 : Int) < _;omega)) hP) ?_;rintro v w5 ⟨rfl,hP2,hE⟩;go_simp;apply hK1;clear hK1 K1;replace f6 := Chg.fz hE a f6 XN;replace xw := Chg.to xw hE XL;replace xl4 := Chg.more xl4 hE (by intro b hm;simp only [List.mem_cons,List.not_mem_nil,or_false] at hm;first | (left;omega) | (right;simp [hm];done) | (rcases hm with hm | hm <;> first | (left;omega) | (right;simp [hm])))
    replace a := Chg.cell hE a XN;replace e := Chg.cell hE e XN;replace f := Chg.cell hE f XN;replace l := Chg.cell hE l XN;try simp only [Wops_nil,updO_some,updO_none]
    apply hK;clear hK K' gd;refine Ends.keep [6,7] ?_;rintro r14 ⟨aq,aB,-⟩;simp [go_sem,ag,ap,aA,ac] at aq aB;clear ag ap aA ac;refine Ends.mk ?_;refine tNo ?_;obtain ⟨hb3,y3,hH3,hs3,hne3⟩ := hP2.ex;have y0 := hP2.k0;have y1 := hP2.k1;have y2 := hP2.k2;rw [hT.tn] at y0;refine sRg fun K' gd hK => ?_;refine cu2 fun K1 hK1 => ?_;go_simp;apply hK1;clear hK1 K1;refine Wops.absS (b := n6) (i := 0) [_,_,_,_] (somes [cellVal a,cellVal e,cellVal f,cellVal l] (by simp) (by intro j v hj;match j,hj with | 0,hj => (simp at hj;subst hj;exact a) | 1,hj => (simp at hj;subst hj;exact e) | 2,hj => (simp at hj;subst hj;exact f) | 3,hj => (simp at hj;subst hj;exact l))) fun P5 hP5 => ?_;replace hH3 := hH3.put hP5 (by omega);replace xw := Put.to xw hP5 (by omega);clear xl4;clear a;clear e;clear f;clear l;have a := hP5.new 0 _ rfl;try simp only [Nat.reduceAdd,Nat.zero_add,Nat.add_zero] at a
    have e := hP5.new 1 _ rfl;try simp only [Nat.reduceAdd,Nat.zero_add,Nat.add_zero] at e
    have f := hP5.new 2 _ rfl;try simp only [Nat.reduceAdd,Nat.zero_add,Nat.add_zero] at f
    have l := hP5.new 3 _ rfl;try simp only [Nat.reduceAdd,Nat.zero_add,Nat.add_zero] at l
    clear hP5;try simp only [Wops_nil,updO_some,updO_none]
    apply hK;clear hK K' gd;refine Wp.keep [6] ?_;rintro r15 ⟨aS,-⟩;simp [go_sem,aq,aB] at aS;clear aq aB;refine Wp.ret ?_;refine endK_cell (v := .agg #[cellVal a,cellVal e,cellVal f,cellVal l]) Tryz.results149 (by decide) aS (by dsimp only [cellVal];go_simp) ?_
    dsimp only [cellVal]
    exact ⟨⟨hb3,rfl,by rw [han.choose_spec];exact hH3,(by omega : w.heap.size ≤ hb3)⟩,xw⟩
   ·skip;refine Wp.exit ?_;refine tEx ?_;refine tEx ?_;refine blockK_here ?_;refine tNo ?_;refine Wp.seq ?_;refine sRg fun K' gd hK => ?_;go_simp;apply hK;clear hK K' gd;refine Wp.keep [2,6,7,23] ?_;rintro r16 ⟨ah,ar,aC,ad,-⟩;simp [go_sem,B,C,D,p,s,u,z] at ah ar aC ad;clear B C D p s u z;refine cFf ?_;obtain ⟨hb3,y3,hH3,hs3,hne3⟩ := hP.ex;have y0 := hP.k0;have y1 := hP.k1;have y2 := hP.k2;rw [hT.tn] at y0;refine skN ?_;refine sRg fun K' gd hK => ?_;refine cu2 fun K1 hK1 => ?_;go_simp;apply hK1;clear hK1 K1;refine Wops.absS (b := n6) (i := 0) [_,_,_,_] (somes [cellVal a,cellVal e,cellVal f,cellVal l] (by simp) (by intro j v hj;match j,hj with | 0,hj => (simp at hj;subst hj;exact a) | 1,hj => (simp at hj;subst hj;exact e) | 2,hj => (simp at hj;subst hj;exact f) | 3,hj => (simp at hj;subst hj;exact l))) fun P6 hP6 => ?_;replace hH3 := hH3.put hP6 (by omega);replace xw := Put.to xw hP6 (by omega);clear xl4;clear a;clear e;clear f;clear l;have a := hP6.new 0 _ rfl;try simp only [Nat.reduceAdd,Nat.zero_add,Nat.add_zero] at a
    have e := hP6.new 1 _ rfl;try simp only [Nat.reduceAdd,Nat.zero_add,Nat.add_zero] at e
    have f := hP6.new 2 _ rfl;try simp only [Nat.reduceAdd,Nat.zero_add,Nat.add_zero] at f
    have l := hP6.new 3 _ rfl;try simp only [Nat.reduceAdd,Nat.zero_add,Nat.add_zero] at l
    clear hP6;try simp only [Wops_nil,updO_some,updO_none]
    apply hK;clear hK K' gd;refine Wp.keep [6] ?_;rintro r17 ⟨aT,-⟩;simp [go_sem,ah,ar,aC,ad] at aT;clear ah ar aC ad;refine Wp.ret ?_;refine endK_cell (v := .agg #[cellVal a,cellVal e,cellVal f,cellVal l]) Tryz.results149 (by decide) aT (by dsimp only [cellVal];go_simp) ?_
    dsimp only [cellVal]
    exact ⟨⟨hb3,rfl,by unfold andL;rw [if_neg ho0];exact hH3,(by omega : w.heap.size ≤ hb3)⟩,xw⟩
theorem made_c (t : Tr) (n pq : Nat) (L : List Int) (A : Option Addr) (c : Nat) (A2 : Option Addr) (c2 : Nat) (lv : Value) (w : World) (hT : PlanT t n) (hV : TourV w w.heap.size (.agg #[.int .i64 t.n,.slice A t.cl.length c,.slice A2 t.fl.length c2]) t)
  (h0 : w.cell? ⟨pq,0,none⟩ = some (.int .i64 t.n)) (h1 : w.cell? ⟨pq,1,none⟩ = some (.slice A t.cl.length c)) (h2 : w.cell? ⟨pq,2,none⟩ = some (.slice A2 t.fl.length c2))
  (hL : IntsV w w.heap.size lv L) (hm : ∀ x ∈ L,∃ k : Nat,x = (k : Int) ∧ k < t.fl.length) (hl : L.length ≤ 1000) :
  CallsV Tryz.prog 147 #[lv,.pointer (some ⟨pq,0,none⟩)] w fun v' w' => (∃ A3 l3 c3,v' = .tuple #[.agg #[.int .i64 (n : Int),.slice A t.cl.length c,.slice A2 t.fl.length c2,.slice A3 l3 c3],.bool (canF t.N n L noPlan)]) ∧ Ext w w' := by
 obtain ⟨A1,c1,rfl,-,-⟩ := id hL;have hn1 := hT.n1;have hn2 := hT.n2;rw [hT.tn] at h0;replace hm : ∃ _u : Unit,_ := ⟨(),hm⟩;refine Wp.fn Tryz.func147 rfl Tryz.ntmps147 (by simp) ?_;have xw := Ext.refl w;refine Wp.keep [0,1] ?_;rintro r1 ⟨p,s,-⟩;simp [go_sem] at p s;refine sRg fun K' gd hK => ?_;refine cu1 fun K1 hK1 => ?_;go_simp;apply hK1;clear hK1 K1;refine Wops.absA fun o n3 i => ?_;obtain ⟨q3,i,s3,l,f3,r3⟩ := i;try simp only [q3] at l f3 r3 ⊢
 replace xw := xw.trans i;replace h0 := i.cell h0;replace h1 := i.cell h1;replace h2 := i.cell h2;have a := l 0 _ rfl;have d := l 1 _ rfl;have e := l 2 _ rfl;have f := l 3 _ rfl;clear l i;clear r3;go_simp;apply hK;clear hK K' gd;refine Wp.keep [0,1,3] ?_;rintro r2 ⟨q,u,y,-⟩;simp [go_sem,p,s] at q u y;clear p s;obtain ⟨S,hS1,hS2⟩ : ∃ S,S ≤ o.heap.size ∧ o.heap.size ≤ S := ⟨_,Nat.le_refl _,Nat.le_refl _⟩;have hTS : TourS o S (.agg #[.int .i64 t.n,.slice A t.cl.length c,.slice A2 t.fl.length c2]) t := ⟨(hV.ext xw).more hS2⟩;have hLS : IntsS o S (.slice A1 L.length c1) L := ⟨(hL.ext xw).more hS2⟩;refine sRg fun K' gd hK => ?_;refine cu2 fun K1 hK1 => ?_;go_simp;refine Wcall (.inl rfl) (newPlan_c n ⟨hn1,hn2⟩ A A2 t.cl.length c t.fl.length c2 _) ?_;rintro v w2 ⟨⟨g,rfl,hH,hg⟩,hE⟩;have hgl := hH.r.lt;go_simp;apply hK1;clear hK1 K1;have z3 := Below.size hE;replace f3 := hE.fz a f3;replace hTS := hTS.ext hE;replace hLS := hLS.ext hE;replace xw := xw.trans hE;replace a := hE.cell a;replace d := hE.cell d;replace e := hE.cell e;replace f := hE.cell f;clear hE;refine cu2 fun K1 hK1 => ?_;go_simp;apply hK1;clear hK1 K1;refine Wops.absA fun j n5 b => ?_;obtain ⟨q5,b,s5,m,f5,r5⟩ := b;try simp only [q5] at m f5 r5 ⊢
 replace f3 := b.fz a f3;replace hTS := hTS.ext b;replace hLS := hLS.ext b;replace hH := hH.ext b;replace xw := xw.trans b;replace a := b.cell a;replace d := b.cell d;replace e := b.cell e;replace f := b.cell f;have B := m 0 _ rfl;have C := m 1 _ rfl;have D := m 2 _ rfl;have E := m 3 _ rfl;clear m b;clear r5;try simp only [Wops_nil,updO_some,updO_none]
 apply hK;clear hK K' gd;refine Wp.keep [0,3,5] ?_;rintro r4 ⟨F,z,H,-⟩;simp [go_sem,q,u,y] at F z H;clear q u y;have hP : PlanF j S n5 n A c A2 c2 t noPlan := ⟨by rw [hT.tn];exact B,C,D,⟨g,E,hH,by omega,by omega⟩,f5,hTS,⟨by omega,by omega⟩⟩;have hPD := hP.ext ((Ext.refl j).drew);have hLD : IntsV j.drew S (.slice A1 L.length c1) L := hLS.v.cells fun _ _ _ _ hc => cell_drew hc;refine Wp.seqDrawT (.inl rfl) mixed (.rd [1,2] (.both (.act 0 false (.act 3 true (.both (.act 4 true (.act 5 true (.act 6 true .done))) (.act 5 true (.act 4 true (.act 6 true .done)))))) (.act 3 true (.both (.act 0 false (.both (.act 4 true (.act 5 true (.act 6 true .done))) (.act 5 true (.act 4 true (.act 6 true .done))))) (.act 4 true (.act 0 false (.act 5 true (.act 6 true .done)))))))) (by kernel_rfl) (fun ρ W => AllEq [3] ρ r4 ∧ (Chg [n3,n5] j W ∧ ∃ A3 l3 c3,W.cell? ⟨n3,0,none⟩ = some (.int .i64 (n : Int)) ∧ W.cell? ⟨n3,1,none⟩ = some (.slice A t.cl.length c) ∧ W.cell? ⟨n3,2,none⟩ = some (.slice A2 t.fl.length c2) ∧ W.cell? ⟨n3,3,none⟩ = some (.slice A3 l3 c3) ∧ ρ 4 = .bool (canF t.N n L noPlan))) (fun K' gd hK hg => ?_) ?_
 ·skip;clear hg;simp only [pickT,nth,List.map_cons,List.map_nil];apply Mtree.reads
  ·intro w' hE';go_simp;with_reducible rfl
  refine Mtree.two ?_ ?_
  ·skip;refine Mtree.stepH fun K1 hK1 => ?_;go_simp;refine hK1.h _ _ XA ?_;clear hK1 K1;refine Mtree.stepTH fun K1 hK1 => ?_;go_simp;refine Wcall (.inl rfl) (latC_c t S n5 n A c A2 c2 L _ _ hT hLD hm.choose_spec hl hPD) ?_;rintro v w5 ⟨rfl,⟨h5,hP5⟩,hC5⟩;obtain ⟨hb5,x3,-,-,-⟩ := hP5.ex;have x0 := hP5.k0;rw [hT.tn] at x0;have l35 : n3 < w5.heap.size := by have := Chg.size hC5;have := drew_size j;omega
   have y90 := Chg.cell hC5 (cell_drew a) (by simp;omega);have y91 := Chg.cell hC5 (cell_drew d) (by simp;omega);have y92 := Chg.cell hC5 (cell_drew e) (by simp;omega);have y93 := Chg.cell hC5 (cell_drew f) (by simp;omega);have y9f := Chg.fz hC5 (cell_drew a) f3 (by simp;omega);go_simp;refine hK1.h _ _ ?_;clear hK1 K1;refine Mtree.two ?_ ?_
   ·skip;refine Mtree.stepTH fun K1 hK1 => ?_;go_simp;refine hK1.h _ _ ?_;clear hK1 K1;refine Mtree.stepTH fun K1 hK1 => ?_;go_simp;refine hK1.h _ _ ?_;clear hK1 K1;refine Mtree.stepTH fun K1 hK1 => ?_;go_simp;refine hK1.h _ _ ?_;clear hK1 K1;refine Mtree.fin ?_;refine hK _ _ ⟨by simp [AllEq,go_sem],?_⟩;refine ⟨Chg.more (Chg.more ((Chg.refl [n3,n5] _).drew) hC5 (by simp)) chg4 (by simp),?_⟩
    first | exact ⟨some ⟨g,0,none⟩,n,n,by first | (go_simp;done) | (go_simp;rfl),by first | (go_simp;done) | (go_simp;rfl),by first | (go_simp;done) | (go_simp;rfl),by first | (go_simp;done) | (go_simp;rfl),by first | rfl | go_simp⟩ | exact ⟨some ⟨hb5,0,none⟩,n,n,by first | (go_simp;done) | (go_simp;rfl),by first | (go_simp;done) | (go_simp;rfl),by first | (go_simp;done) | (go_simp;rfl),by first | (go_simp;done) | (go_simp;rfl),by first | rfl | go_simp⟩
   ·skip;refine Mtree.stepTH fun K1 hK1 => ?_;go_simp;refine hK1.h _ _ ?_;clear hK1 K1;refine Mtree.stepTH fun K1 hK1 => ?_;go_simp;refine hK1.h _ _ ?_;clear hK1 K1;refine Mtree.stepTH fun K1 hK1 => ?_;go_simp;refine hK1.h _ _ ?_;clear hK1 K1;refine Mtree.fin ?_;refine hK _ _ ⟨by simp [AllEq,go_sem],?_⟩;refine ⟨Chg.more (Chg.more ((Chg.refl [n3,n5] _).drew) hC5 (by simp)) chg4 (by simp),?_⟩
    first | exact ⟨some ⟨g,0,none⟩,n,n,by first | (go_simp;done) | (go_simp;rfl),by first | (go_simp;done) | (go_simp;rfl),by first | (go_simp;done) | (go_simp;rfl),by first | (go_simp;done) | (go_simp;rfl),by first | rfl | go_simp⟩ | exact ⟨some ⟨hb5,0,none⟩,n,n,by first | (go_simp;done) | (go_simp;rfl),by first | (go_simp;done) | (go_simp;rfl),by first | (go_simp;done) | (go_simp;rfl),by first | (go_simp;done) | (go_simp;rfl),by first | rfl | go_simp⟩
  ·skip;refine Mtree.stepTH fun K1 hK1 => ?_;go_simp;refine Wcall (.inl rfl) (latC_c t S n5 n A c A2 c2 L _ _ hT hLD hm.choose_spec hl hPD) ?_;rintro v w5 ⟨rfl,⟨h5,hP5⟩,hC5⟩;obtain ⟨hb5,x3,-,-,-⟩ := hP5.ex;have x0 := hP5.k0;have x1 := hP5.k1;have x2 := hP5.k2;rw [hT.tn] at x0;have l35 : n3 < w5.heap.size := by have := Chg.size hC5;have := drew_size j;omega
   have y90 := Chg.cell hC5 (cell_drew a) (by simp;omega);have y91 := Chg.cell hC5 (cell_drew d) (by simp;omega);have y92 := Chg.cell hC5 (cell_drew e) (by simp;omega);have y93 := Chg.cell hC5 (cell_drew f) (by simp;omega);have y9f := Chg.fz hC5 (cell_drew a) f3 (by simp;omega);go_simp;refine hK1.h _ _ ?_;clear hK1 K1;refine Mtree.two ?_ ?_
   ·skip;refine Mtree.stepH fun K1 hK1 => ?_;go_simp;refine hK1.h _ _ XA ?_;clear hK1 K1;refine Mtree.two ?_ ?_
    ·skip;refine Mtree.stepTH fun K1 hK1 => ?_;go_simp;refine hK1.h _ _ ?_;clear hK1 K1;refine Mtree.stepTH fun K1 hK1 => ?_;go_simp;refine hK1.h _ _ ?_;clear hK1 K1;refine Mtree.stepTH fun K1 hK1 => ?_;go_simp;refine hK1.h _ _ ?_;clear hK1 K1;refine Mtree.fin ?_;refine hK _ _ ⟨by simp [AllEq,go_sem],?_⟩;refine ⟨Chg.more (Chg.more ((Chg.refl [n3,n5] _).drew) hC5 (by simp)) chg4 (by simp),?_⟩
     first | exact ⟨some ⟨g,0,none⟩,n,n,by first | (go_simp;done) | (go_simp;rfl),by first | (go_simp;done) | (go_simp;rfl),by first | (go_simp;done) | (go_simp;rfl),by first | (go_simp;done) | (go_simp;rfl),by first | rfl | go_simp⟩ | exact ⟨some ⟨hb5,0,none⟩,n,n,by first | (go_simp;done) | (go_simp;rfl),by first | (go_simp;done) | (go_simp;rfl),by first | (go_simp;done) | (go_simp;rfl),by first | (go_simp;done) | (go_simp;rfl),by first | rfl | go_simp⟩
    ·skip;refine Mtree.stepTH fun K1 hK1 => ?_;go_simp;refine hK1.h _ _ ?_;clear hK1 K1;refine Mtree.stepTH fun K1 hK1 => ?_;go_simp;refine hK1.h _ _ ?_;clear hK1 K1;refine Mtree.stepTH fun K1 hK1 => ?_;go_simp;refine hK1.h _ _ ?_;clear hK1 K1;refine Mtree.fin ?_;refine hK _ _ ⟨by simp [AllEq,go_sem],?_⟩;refine ⟨Chg.more (Chg.more ((Chg.refl [n3,n5] _).drew) hC5 (by simp)) chg4 (by simp),?_⟩
     first | exact ⟨some ⟨g,0,none⟩,n,n,by first | (go_simp;done) | (go_simp;rfl),by first | (go_simp;done) | (go_simp;rfl),by first | (go_simp;done) | (go_simp;rfl),by first | (go_simp;done) | (go_simp;rfl),by first | rfl | go_simp⟩ | exact ⟨some ⟨hb5,0,none⟩,n,n,by first | (go_simp;done) | (go_simp;rfl),by first | (go_simp;done) | (go_simp;rfl),by first | (go_simp;done) | (go_simp;rfl),by first | (go_simp;done) | (go_simp;rfl),by first | rfl | go_simp⟩
   ·skip;refine Mtree.stepTH fun K1 hK1 => ?_;go_simp;refine hK1.h _ _ ?_;clear hK1 K1;refine Mtree.stepH fun K1 hK1 => ?_;go_simp;refine hK1.h _ _ XA ?_;clear hK1 K1;refine Mtree.stepTH fun K1 hK1 => ?_;go_simp;refine hK1.h _ _ ?_;clear hK1 K1;refine Mtree.stepTH fun K1 hK1 => ?_;go_simp;refine hK1.h _ _ ?_;clear hK1 K1;refine Mtree.fin ?_;refine hK _ _ ⟨by simp [AllEq,go_sem],?_⟩;refine ⟨Chg.more (Chg.more ((Chg.refl [n3,n5] _).drew) hC5 (by simp)) chg4 (by simp),?_⟩
    first | exact ⟨some ⟨g,0,none⟩,n,n,by first | (go_simp;done) | (go_simp;rfl),by first | (go_simp;done) | (go_simp;rfl),by first | (go_simp;done) | (go_simp;rfl),by first | (go_simp;done) | (go_simp;rfl),by first | rfl | go_simp⟩ | exact ⟨some ⟨hb5,0,none⟩,n,n,by first | (go_simp;done) | (go_simp;rfl),by first | (go_simp;done) | (go_simp;rfl),by first | (go_simp;done) | (go_simp;rfl),by first | (go_simp;done) | (go_simp;rfl),by first | rfl | go_simp⟩
 ·rintro r5 W ⟨hA,hT3,A3,l3,c3,y0,y1,y2,y3,e4⟩;obtain ⟨G,-⟩ := hA;rw [z] at G;clear F z H;clear f3;clear f5;replace xw := Chg.to xw hT3 XL;clear a;clear d;clear e;clear f;clear B;clear C;clear D;clear E;have a := y0;have d := y1;have e := y2;have f := y3;refine Wp.ret ?_;refine endK_cell_tmp (v := .agg #[cellVal a,cellVal d,cellVal e,cellVal f]) Tryz.results147 (by decide) (by decide) G (by dsimp only [cellVal];go_simp) ?_;rw [e4]
  dsimp only [cellVal]
  exact ⟨⟨_,_,_,rfl⟩,xw⟩
theorem ownsRow_beyond {w V : World} {base e size n c b i : Nat} {xs vs : List Value} (h : w.ownsRow base e size (.slice (some ⟨b,0,none⟩) n c) n xs) (p : Put w V b i vs) (hi : n * size ≤ i) :
  V.ownsRow base e size (.slice (some ⟨b,0,none⟩) n c) n xs := by
 obtain ⟨h1,h2⟩ := h;refine ⟨h1,?_⟩
 rcases h2 with ⟨h2,-⟩ | ⟨g,cap,cur,hv,hb,hg,hnc,hcm,hcs,htake⟩
 ·cases h2
 ·injection hv with e1 e2 e3
  injection e1 with e1;injection e1 with e1
  subst e1;subst e3;obtain ⟨cs',hV,hsz⟩ := p.row cur e hg;refine .inr ⟨b,c,cs',rfl,hb,hV,hnc,hcm,by rw [hsz,hcs],?_⟩;have cw : ∀ j,w.cell? ⟨b,j,none⟩ = cur[j]? := fun j => by simp [World.cell?,hg]
  have cV : ∀ j,V.cell? ⟨b,j,none⟩ = cs'[j]? := fun j => by simp [World.cell?,hV]
  rw [← htake];apply List.ext_getElem?;intro j;rw [List.getElem?_take,List.getElem?_take]
  by_cases hj : j < n * size
  ·rw [if_pos hj,if_pos hj,Array.getElem?_toList,Array.getElem?_toList,← cV,← cw,p.old j (.inl (by omega))]
  ·rw [if_neg hj,if_neg hj]
theorem ownsRow_part {w : World} {base e size n c b k : Nat} {xs : List Value} (h : w.ownsRow base e size (.slice (some ⟨b,0,none⟩) n c) n xs) (hk : k ≤ n) : w.ownsRow base e size (.slice (some ⟨b,0,none⟩) k c) k (xs.take (k * size)) := by
 obtain ⟨h1,h2⟩ := h;have hks := Nat.mul_le_mul_right size hk;refine ⟨by rw [List.length_take];omega,?_⟩
 rcases h2 with ⟨h2,-⟩ | ⟨g,cap,cur,hv,hb,hg,hnc,hcm,hcs,htake⟩
 ·cases h2
 ·injection hv with e1 e2 e3
  subst e3;rw [e1];exact .inr ⟨g,c,cur,rfl,hb,hg,by omega,hcm,hcs,by rw [← htake,List.take_take,Nat.min_eq_left hks]⟩
theorem ownsRow_cap {w : World} {base e size n c b : Nat} {xs : List Value} (h : w.ownsRow base e size (.slice (some ⟨b,0,none⟩) n c) n xs) : n ≤ c ∧ b < w.heap.size ∧ ∀ j,j < c * size → (w.cell? ⟨b,j,none⟩).isSome = true := by
 rcases h.2 with ⟨h2,-⟩ | ⟨g,cap,cur,hv,hb,hg,hnc,hcm,hcs,htake⟩
 ·cases h2
 ·injection hv with e1 e2 e3
  injection e1 with e1;injection e1 with e1
  subst e1;subst e3;exact ⟨hnc,(Array.getElem?_eq_some_iff.1 hg).1,fun j hj => by simp [World.cell?,hg,hcs,hj]⟩
theorem app_fits {P : Program} {t e : TypeId} {size : Nat} (T : ElemT P t e size) {w : World} {base g n cap : Nat} {xs : List Value} (hown : w.ownsRow base e size (.slice (some ⟨g,0,none⟩) n cap) n xs)
  (a : Addr) (m c : Nat) (news : List Value) (ty : TypeId) (hl : news.length = m * size) (hnews : ∀ j u,news[j]? = some u → w.cell? (a.add j) = some u) (h1 : ∀ u ∈ news,u.oneCell' = true) (hroom : n + m ≤ cap) :
  ∃ w',(Builtin.append_ #[t,t] ty #[.slice (some ⟨g,0,none⟩) n cap,.slice (some a) m c]).run P w = .ok (.slice (some ⟨g,0,none⟩) (n + m) cap) w' ∧
   w'.ownsRow base e size (.slice (some ⟨g,0,none⟩) (n + m) cap) (n + m) (xs ++ news) ∧ w.grownBy w' (some g) := by
 obtain ⟨i,z,h1',h2,h3,h4,h5,h6,h7⟩ := T.ex;exact run_append_fits w base t ty e i size h1' h2 h4 g n cap xs hown a m c news hl hnews h1 hroom
theorem delI_c (b n c i base : Nat) (xs : List Int) (w : World) (hO : w.ownsRow base 3 1 (.slice (some ⟨b,0,none⟩) n c) n (xs.map (Value.int .i64))) (hn : n = xs.length) (hi : i < n) (hn9 : n ≤ 1000) :
  CallsV Tryz.prog 150 #[.slice (some ⟨b,0,none⟩) n c,.int .i64 (i : Int),.int .i64 ((i : Int) + 1)] w fun v w' =>
   (v = .slice (some ⟨b,0,none⟩) (n - 1) c ∧ w'.ownsRow base 3 1 (.slice (some ⟨b,0,none⟩) (n - 1) c) (n - 1) ((xs.eraseIdx i).map (Value.int .i64))) ∧ Chg [b] w w' := by
 obtain ⟨hnc,hbl,hcs⟩ := ownsRow_cap hO;obtain ⟨m,rfl⟩ : ∃ m,n = m + 1 := ⟨n - 1,by omega⟩;simp only [Nat.add_sub_cancel];replace hn : ∃ _u : Unit,_ := ⟨(),hn⟩;have a1 : (0 : Int) ≤ (i : Int) := by omega
 have a2 : (i : Int) ≤ (i : Int) + 1 := by omega
 have a3 : (i : Int) + 1 ≤ (m : Int) + 1 := by omega
 have a4 : ¬ (i : Int) = (i : Int) + 1 := by omega
 have a5 : (i : Int) ≤ (m : Int) + 1 := by omega
 have a6 : ((i : Int) + 1).toNat = i + 1 := by omega
 have a7 : 0 ≤ (i : Int) + 1 := by omega
 have a8 : (i : Int) ≤ (m : Int) := by omega
 have a9 : ((m : Int) + 1).toNat = m + 1 := by omega
 have a10 : (m : Int) ≤ (m : Int) + 1 := by omega
 have a11 : (m : Int) + 1 ≤ (c : Int) := by omega
 have a12 : (i : Int) ≤ (c : Int) := by omega
 have a13 : (m : Int) ≤ (c : Int) := by omega
 have a14 : (i : Int) + 1 ≤ (c : Int) := by omega
 have a15 : ¬ c = m := by omega
 have e9 : ∃ _u : Unit,(xs.eraseIdx i).map (Value.int .i64) = (xs.map (Value.int .i64)).take i ++ (xs.map (Value.int .i64)).drop (i + 1) := ⟨(),by rw [List.eraseIdx_eq_take_drop_succ,List.map_append,List.map_take,List.map_drop]⟩;obtain ⟨cs,hcs9⟩ : ∃ cs,∃ _u : Unit,xs.map (Value.int .i64) = cs ∧ cs.length = m + 1 ∧ ∀ u ∈ cs,u.oneCell' = true := ⟨_,(),rfl,by rw [List.length_map];exact hn.choose_spec.symm,one_ints⟩;rw [hcs9.choose_spec.1] at hO e9;rw [e9.choose_spec];refine Wp.fn Tryz.func150 rfl Tryz.ntmps150 (by simp) ?_;have xw := Ext.refl w;refine Wp.keep [0,1,2] ?_;rintro r1 ⟨h,B,H,-⟩;simp [go_sem] at h B H;have xb := Chg.refl [b] w;refine sRg fun K' gd hK => ?_;go_simp;apply hK;clear hK K' gd;refine Wp.keep [0,1,2] ?_;rintro r2 ⟨t,E,K,-⟩;simp [go_sem,h,B,H] at t E K;clear h B H;refine sRg fun K' gd hK => ?_;go_simp;apply hK;clear hK K' gd;refine Wp.keep [0,1,2] ?_;rintro r3 ⟨x,F,L,-⟩;simp [go_sem,t,E,K] at x F L;clear t E K;refine Wp.seq ?_;refine sRg fun K' gd hK => ?_;go_simp;apply hK;clear hK K' gd;refine Wp.keep [0,1,2,16] ?_;rintro r4 ⟨a,e,f,d,-⟩
 simp [go_sem,x,F,L] at a e f d;clear x F L;refine cFf ?_;have hown := ownsRow_part (k := i) hO (by omega);rw [Nat.mul_one] at hown
 by_cases hin : i = m
 ·skip;subst hin;have hd9 : ∃ _u : Unit,cs.take i ++ cs.drop (i + 1) = cs.take i ++ [] := ⟨(),by rw [List.drop_of_length_le (by have := hcs9.choose_spec.2.1;omega)]⟩;rw [hd9.choose_spec]
  by_cases hce : c = i + 1
  ·skip;subst hce;refine skN ?_;refine sRg fun K' gd hK => ?_;go_simp;apply hK;clear hK K' gd;refine Wp.keep [0,1,2,7] ?_;rintro r5 ⟨y,G,M,R,-⟩;simp [go_sem,a,e,f,d] at y G M R;clear a e f d;refine Wp.seqDraw (.inl rfl) mixed [([0,1,2,3,4],none),([5],some (6,true)),([],some (7,true))] (by kernel_rfl) fun K' gd hK hg => ?_;clear hg;simp only [pick,nth,List.map_cons,List.map_nil,Option.map_none,Option.map_some];refine Mops.absD fun D2 hD2 zD2 => ?_;replace hown := hown.ext hD2;replace xw := xw.trans hD2;replace xb := Chg.ext xb hD2;clear hD2;apply Mops.none
   ·intro w' hE';go_simp;with_reducible rfl
   apply Mops.last
   ·intro w' hE';go_simp;with_reducible rfl
   intro K1 hK1;obtain ⟨w1,hrun,hown2,hgr⟩ := app_fits ints_T hown ⟨b,0,none⟩ 0 0 [] 22 rfl (by intro j u hu;simp at hu) (by simp) (by omega);refine if_pos_of rfl (Wstep.law (exec_append2 rfl hrun (by go_simp) (by go_simp)) ?_);apply hK1;clear hK1 K1;replace xb := Chg.more xb (grown_chg hgr) (by first | exact lt_gm (fun k hk => show b ≤ k ∧ k < b + 1 from by injection hk with hk;omega) (by omega) | simp);rw [Nat.add_zero] at hown2;obtain ⟨-,-,hsm⟩ := ownsRow_cap hown2;apply Mops.last
   ·exact fun _ _ => Rops_done
   intro K1 hK1;go_simp;apply hK1;clear hK1 K1;refine Mops.done ?_;apply hK;clear hK K' gd;refine Wp.keep [0,7] ?_;rintro r7 ⟨z,S,-⟩;simp [go_sem,y,G,M,R] at z S;clear y G M R;refine sRg fun K' gd hK => ?_;refine cu6 fun K1 hK1 => ?_;refine Wops.cut 5 fun K2 hK2 => ?_;simp only [tSC,tZ];go_simp;refine hK2 _ _ ?_;clear hK2 K2;simp only [dSC,dZ];obtain hrun := run_clearI w1 22 b i 1 1 (by omega) (fun j hj => hsm _ (by omega)) (fun j _ => own_fz hown2 _);refine Wops.law rfl (exec_clear rfl hrun (by go_simp)) ?_;simp only [updO_some,Wops_nil];apply hK1;clear hK1 K1;refine Wops.absS (b := b) (i := i) (zerosI 1) (fun j hj => hsm _ (by unfold zerosI at hj;simp at hj;omega)) fun Pc hPc => ?_;replace xb := Put.more xb hPc (.inr (by simp));try simp only [Wops_nil,updO_some,updO_none]
   apply hK;clear hK K' gd;refine Wp.keep [0] ?_;rintro r8 ⟨A,-⟩;simp [go_sem,z,S] at A;clear z S;refine sRg fun K' gd hK => ?_;go_simp;apply hK;clear hK K' gd;refine Wp.keep [6] ?_;rintro r9 ⟨V,-⟩;simp [go_sem,A] at V;clear A;refine Wp.ret ?_;refine endK_tmp Tryz.results150 (by decide) ?_;rw [V];exact ⟨⟨rfl,ownsRow_beyond hown2 hPc (by omega)⟩,xb⟩
  ·skip;refine skN ?_;refine sRg fun K' gd hK => ?_;go_simp;apply hK;clear hK K' gd;refine Wp.keep [0,1,2,7] ?_;rintro r10 ⟨l,C,I,N,-⟩;simp [go_sem,a,e,f,d] at l C I N;clear a e f d;refine Wp.seqDraw (.inl rfl) mixed [([0,1,2,3,4],none),([5],some (6,true)),([],some (7,true))] (by kernel_rfl) fun K' gd hK hg => ?_;clear hg;simp only [pick,nth,List.map_cons,List.map_nil,Option.map_none,Option.map_some];refine Mops.absD fun D4 hD4 zD4 => ?_;replace hown := hown.ext hD4;replace xw := xw.trans hD4;replace xb := Chg.ext xb hD4;clear hD4;apply Mops.none
   ·intro w' hE';go_simp;with_reducible rfl
   apply Mops.last
   ·intro w' hE';go_simp;with_reducible rfl
   intro K1 hK1;obtain ⟨w1,hrun,hown2,hgr⟩ := app_fits ints_T hown ⟨b,i + 1,none⟩ 0 (c - (i + 1)) [] 22 rfl (by intro j u hu;simp at hu) (by simp) (by omega);refine if_pos_of rfl (Wstep.law (exec_append2 rfl hrun (by go_simp) (by go_simp)) ?_);apply hK1;clear hK1 K1;replace xb := Chg.more xb (grown_chg hgr) (by first | exact lt_gm (fun k hk => show b ≤ k ∧ k < b + 1 from by injection hk with hk;omega) (by omega) | simp);rw [Nat.add_zero] at hown2;obtain ⟨-,-,hsm⟩ := ownsRow_cap hown2;apply Mops.last
   ·exact fun _ _ => Rops_done
   intro K1 hK1;go_simp;apply hK1;clear hK1 K1;refine Mops.done ?_;apply hK;clear hK K' gd;refine Wp.keep [0,7] ?_;rintro r12 ⟨o,O,-⟩;simp [go_sem,l,C,I,N] at o O;clear l C I N;refine sRg fun K' gd hK => ?_;refine cu6 fun K1 hK1 => ?_;refine Wops.cut 5 fun K2 hK2 => ?_;simp only [tSC,tZ];go_simp;refine hK2 _ _ ?_;clear hK2 K2;simp only [dSC,dZ];obtain hrun := run_clearI w1 22 b i 1 (c - i) (by omega) (fun j hj => hsm _ (by omega)) (fun j _ => own_fz hown2 _);refine Wops.law rfl (exec_clear rfl hrun (by go_simp)) ?_;simp only [updO_some,Wops_nil];apply hK1;clear hK1 K1;refine Wops.absS (b := b) (i := i) (zerosI 1) (fun j hj => hsm _ (by unfold zerosI at hj;simp at hj;omega)) fun Pc hPc => ?_;replace xb := Put.more xb hPc (.inr (by simp));try simp only [Wops_nil,updO_some,updO_none]
   apply hK;clear hK K' gd;refine Wp.keep [0] ?_;rintro r13 ⟨p,-⟩;simp [go_sem,o,O] at p;clear o O;refine sRg fun K' gd hK => ?_;go_simp;apply hK;clear hK K' gd;refine Wp.keep [6] ?_;rintro r14 ⟨T,-⟩;simp [go_sem,p] at T;clear p;refine Wp.ret ?_;refine endK_tmp Tryz.results150 (by decide) ?_;rw [T];exact ⟨⟨rfl,ownsRow_beyond hown2 hPc (by omega)⟩,xb⟩
 ·skip;have hi9 : i + (m - i) = m := by omega
  have hmi : ¬ m = i := by omega
  have hci : ¬ c = i + 1 := by omega
  refine skN ?_;refine sRg fun K' gd hK => ?_;go_simp;apply hK;clear hK K' gd;refine Wp.keep [0,1,2,7] ?_;rintro r15 ⟨q,D,J,P,-⟩;simp [go_sem,a,e,f,d] at q D J P;clear a e f d;refine Wp.seqDraw (.inl rfl) mixed [([0,1,2,3,4],none),([5],some (6,true)),([],some (7,true))] (by kernel_rfl) fun K' gd hK hg => ?_;clear hg;simp only [pick,nth,List.map_cons,List.map_nil,Option.map_none,Option.map_some];refine Mops.absD fun D6 hD6 zD6 => ?_;replace hO := hO.ext hD6;replace hown := hown.ext hD6;replace xw := xw.trans hD6;replace xb := Chg.ext xb hD6;clear hD6;apply Mops.none
  ·intro w' hE';go_simp;with_reducible rfl
  apply Mops.last
  ·intro w' hE';go_simp;with_reducible rfl
  intro K1 hK1;obtain ⟨w1,hrun,hown2,hgr⟩ := app_fits ints_T hown ⟨b,i + 1,none⟩ (m - i) (c - (i + 1)) (cs.drop (i + 1)) 22 (by rw [List.length_drop,hcs9.choose_spec.2.1];omega) (by intro j u hu;rw [Addr.add_lit];rw [List.getElem?_drop] at hu;have := World.ownsRow.cells hO (g := b) rfl (i + 1 + j) u hu;rw [Addr.add_lit,Nat.zero_add] at this;exact this) (fun u hu => hcs9.choose_spec.2.2 u (List.mem_of_mem_drop hu)) (by omega);refine if_pos_of rfl (Wstep.law (exec_append2 rfl hrun (by go_simp) (by go_simp)) ?_);apply hK1;clear hK1 K1;replace xb := Chg.more xb (grown_chg hgr) (by first | exact lt_gm (fun k hk => show b ≤ k ∧ k < b + 1 from by injection hk with hk;omega) (by omega) | simp);rw [hi9] at hown2;obtain ⟨-,-,hsm⟩ := ownsRow_cap hown2;apply Mops.last
  ·exact fun _ _ => Rops_done
  intro K1 hK1;go_simp;apply hK1;clear hK1 K1;refine Mops.done ?_;apply hK;clear hK K' gd;refine Wp.keep [0,7] ?_;rintro r17 ⟨r,Q,-⟩;simp [go_sem,q,D,J,P] at r Q;clear q D J P;refine sRg fun K' gd hK => ?_;refine cu6 fun K1 hK1 => ?_;refine Wops.cut 5 fun K2 hK2 => ?_;simp only [tSC,tZ];go_simp;refine hK2 _ _ ?_;clear hK2 K2;simp only [dSC,dZ];obtain hrun := run_clearI w1 22 b m 1 (c - m) (by omega) (fun j hj => hsm _ (by omega)) (fun j _ => own_fz hown2 _);refine Wops.law rfl (exec_clear rfl hrun (by go_simp)) ?_;simp only [updO_some,Wops_nil];apply hK1;clear hK1 K1;refine Wops.absS (b := b) (i := m) (zerosI 1) (fun j hj => hsm _ (by unfold zerosI at hj;simp at hj;omega)) fun Pc hPc => ?_;replace xb := Put.more xb hPc (.inr (by simp));try simp only [Wops_nil,updO_some,updO_none]
  apply hK;clear hK K' gd;refine Wp.keep [0] ?_;rintro r18 ⟨s,-⟩;simp [go_sem,r,Q] at s;clear r Q;refine sRg fun K' gd hK => ?_;go_simp;apply hK;clear hK K' gd;refine Wp.keep [6] ?_;rintro r19 ⟨U,-⟩;simp [go_sem,s] at U;clear s;refine Wp.ret ?_;refine endK_tmp Tryz.results150 (by decide) ?_;rw [U];exact ⟨⟨rfl,ownsRow_beyond hown2 hPc (by omega)⟩,xb⟩
end Go.Proofs.YtnklbepeoicgpaaGreat
