/- valid, CheckCopy, line. Faces compared; what a line reads. A face behind a change; what it reads; faces. The faces of a line, yielded. Rows of our own that grow between the rounds of a range. Contains; rows of our own beside a block that turns; Reads. A store into a row of our own; spans of our own. The days on which a word can be copied: when, When. Days in a row of our own; a table of spans; a copy with its days in memory. Lists that are made. When; madeOf. Lists of spans: Clone, Reverse, the nearest one. The next day, the day before; what a day can be by those of other lines. What a day can -/
import Derived.Test.YtnklbepeoicgpaaGreatA3
import Derived.Laws.StructEq
import Derived.Test.YtnklbepeoicgpaaGreatAw1
import Derived.Test.YtnklbepeoicgpaaGreatA1
import Derived.Test.YtnklbepeoicgpaaGreatA2
import Derived.Laws.MakeOwn
import Derived.Laws.OwnMore
set_option linter.all false
namespace Go.Proofs.YtnklbepeoicgpaaGreat.St
open Go.RowKit Go.Wk Go.Proofs
attribute [local irreducible] Go.Wk.Wops Go.Wk.Wp Go.Wk.Mtree Go.Wk.Mops
set_option maxHeartbeats 8000000
set_option maxRecDepth 20000
def lineS (s : Sh) (i : Int) : Int := if checkS s = 0 then (if 0 ≤ i ∧ i < (s.n : Int) then 0 else 1) else checkS s
theorem valid_c (v u : Value) (s : Sh) (c : Cp) (w : World) (hV : SheetV w w.heap.size v s) (hU : CopyV w w.heap.size u c) (hf : FitS s) (hg : FitC c) :
  CallsV Tryz.prog 163 #[v,u] w fun v w' => v = .bool (decide (ValidC s c)) ∧ Ext w w' := by
 obtain ⟨wv,av,rfl,⟨A,c1,rfl,-,-⟩,-⟩ := id hV;obtain ⟨wu,rfl,hW⟩ := id hU;obtain ⟨A2,c2,rfl,-,-⟩ := id hW;have hn : ∃ _u : Unit,s.n = s.words.length := ⟨(),rfl⟩;have hL : ∃ _u : Unit,((c.words.length : Nat) : Int) = (s.words.length : Int) ↔ c.words.length = s.n := ⟨(),by obtain ⟨-,e⟩ := hn;omega⟩;refine Wp.fn Tryz.func163 rfl Tryz.ntmps163 (by simp) ?_;have xw := Ext.refl w;refine Wp.keep [0,1] ?_;rintro r1 ⟨f,g,-⟩;simp [go_sem] at f g
 by_cases h1 : (c.words.length : Int) = (s.words.length : Int)
 ·skip
  by_cases h2 : c.words.any badC = true
  ·skip;refine sRg fun K' gd hK => ?_;refine cu1 fun K1 hK1 => ?_;go_simp;apply hK1;clear hK1 K1;refine Wops.absA fun aF n2 D => ?_;obtain ⟨q2,D,s2,ao,f2,r2⟩ := D;try simp only [q2] at ao f2 r2 ⊢
   replace xw := xw.trans D;have a := ao 0 _ rfl;clear ao D;clear r2;refine cu1 fun K1 hK1 => ?_;go_simp;apply hK1;clear hK1 K1;refine Wops.absA fun aN n3 r => ?_;obtain ⟨q3,r,s3,ay,f3,r3⟩ := r;try simp only [q3] at ay f3 r3 ⊢
   replace xw := xw.trans r;replace a := r.cell a;have m := ay 0 _ rfl;clear ay r;clear r3;go_simp;apply hK;clear hK K' gd;refine Wp.keep [2,3] ?_;rintro r2 ⟨N,aa,-⟩;simp [go_sem,f,g] at N aa;clear f g;refine sRg fun K' gd hK => ?_;go_simp;apply hK;clear hK K' gd;refine Wp.keep [2,3,5] ?_;rintro r3 ⟨S,af,am,-⟩;simp [go_sem,N,aa] at S af am;clear N aa;refine sRh fun K' gd hK hg => ?_;have g7 : gd 7 = some 13 := hg 7;have g14 : gd 14 = some 20 := hg 14;have g21 : gd 21 = some 27 := hg 21;have g26 : gd 26 = some 32 := hg 26;clear hg;refine cu12 fun K1 hK1 => ?_;go_simp;refine Wcall (.inl rfl) (containsI_c _ c.words badC 190 _ (hW.ext xw) hg (enters_of Tryz.func190 (by kernel_rfl) rfl) (fun x W _ => valid1_c x W)) ?_;rintro v w3 ⟨rfl,hE⟩;go_simp;apply hK1;clear hK1 K1;replace xw := xw.trans hE;clear hE;refine cu8 fun K1 hK1 => ?_;go_simp;apply hK1;clear hK1 K1;refine cu10 fun K1 hK1 => ?_;go_simp;apply hK1;clear hK1 K1;go_simp;apply hK;clear hK K' gd g7 g14 g21 g26;refine Wp.keep [4] ?_;rintro r5 ⟨aE,-⟩;simp [go_sem,S,af,am] at aE;clear S af am;refine Wp.ret ?_;refine endK_tmp Tryz.results163 (by decide) ?_;rw [aE];exact ⟨by rw [decide_eq_false fun h => by have := h.2.1;rw [h2] at this;cases this],xw⟩
  ·skip
   by_cases h3 : 0 ≤ c.b ∧ c.b ≤ c.e
   ·skip
    by_cases h4 : c.e ≤ 730
    ·skip
     by_cases h5 : 1 ≤ c.p ∧ c.p ≤ 40
     ·skip;refine sRg fun K' gd hK => ?_;refine cu1 fun K1 hK1 => ?_;go_simp;apply hK1;clear hK1 K1;refine Wops.absA fun aH n2 F => ?_;obtain ⟨q2,F,s2,aq,f2,r2⟩ := F;try simp only [q2] at aq f2 r2 ⊢
      replace xw := xw.trans F;have a := aq 0 _ rfl;clear aq F;clear r2;refine cu1 fun K1 hK1 => ?_;go_simp;apply hK1;clear hK1 K1;refine Wops.absA fun aO n3 t => ?_;obtain ⟨q3,t,s3,k,f3,r3⟩ := t;try simp only [q3] at k f3 r3 ⊢
      replace xw := xw.trans t;replace a := t.cell a;have m := k 0 _ rfl;have i := k 1 _ rfl;have d := k 2 _ rfl;have j := k 3 _ rfl;clear k t;clear r3;go_simp;apply hK;clear hK K' gd;refine Wp.keep [2,3] ?_;rintro r6 ⟨T,ag,-⟩;simp [go_sem,f,g] at T ag;clear f g;refine sRg fun K' gd hK => ?_;go_simp;apply hK;clear hK K' gd;refine Wp.keep [2,3,5] ?_;rintro r7 ⟨U,ah,an,-⟩;simp [go_sem,T,ag] at U ah an;clear T ag;refine sRh fun K' gd hK hg => ?_;have g7 : gd 7 = some 13 := hg 7;have g14 : gd 14 = some 20 := hg 14;have g21 : gd 21 = some 27 := hg 21;have g26 : gd 26 = some 32 := hg 26;clear hg;refine cu12 fun K1 hK1 => ?_;go_simp;refine Wcall (.inl rfl) (containsI_c _ c.words badC 190 _ (hW.ext xw) hg (enters_of Tryz.func190 (by kernel_rfl) rfl) (fun x W _ => valid1_c x W)) ?_;rintro v w3 ⟨rfl,hE⟩;go_simp;apply hK1;clear hK1 K1;replace xw := xw.trans hE;replace i := hE.cell i;replace d := hE.cell d;replace j := hE.cell j;clear hE;refine cu8 fun K1 hK1 => ?_;go_simp;refine Wcall (.inl rfl) (within_T h3 _) ?_
      rintro v w4 ⟨rfl,hE⟩;go_simp;apply hK1;clear hK1 K1;replace xw := xw.trans hE;replace d := hE.cell d;replace j := hE.cell j;clear hE;refine cu10 fun K1 hK1 => ?_;go_simp;refine Wcall (.inl rfl) (within_T h5 _) ?_;rintro v w5 ⟨rfl,hE⟩;go_simp;apply hK1;clear hK1 K1;replace xw := xw.trans hE;clear hE;go_simp;apply hK;clear hK K' gd g7 g14 g21 g26;refine Wp.keep [4] ?_;rintro r11 ⟨az,-⟩;simp [go_sem,U,ah,an] at az;clear U ah an;refine Wp.ret ?_;refine endK_tmp Tryz.results163 (by decide) ?_;rw [az];exact ⟨by rw [decide_eq_true (show ValidC s c from ⟨hL.choose_spec.1 h1,by simpa using h2,h3,h4,h5⟩)],xw⟩
     ·skip;refine sRg fun K' gd hK => ?_;refine cu1 fun K1 hK1 => ?_;go_simp;apply hK1;clear hK1 K1;refine Wops.absA fun aI n2 G => ?_;obtain ⟨q2,G,s2,ar,f2,r2⟩ := G;try simp only [q2] at ar f2 r2 ⊢
      replace xw := xw.trans G;have a := ar 0 _ rfl;clear ar G;clear r2;refine cu1 fun K1 hK1 => ?_;go_simp;apply hK1;clear hK1 K1;refine Wops.absA fun aP n3 y => ?_;obtain ⟨q3,y,s3,l,f3,r3⟩ := y;try simp only [q3] at l f3 r3 ⊢
      replace xw := xw.trans y;replace a := y.cell a;have m := l 0 _ rfl;have i := l 1 _ rfl;have d := l 2 _ rfl;have j := l 3 _ rfl;clear l y;clear r3;go_simp;apply hK;clear hK K' gd;refine Wp.keep [2,3] ?_;rintro r12 ⟨J,V,-⟩;simp [go_sem,f,g] at J V;clear f g;refine sRg fun K' gd hK => ?_;go_simp;apply hK;clear hK K' gd;refine Wp.keep [2,3,5] ?_;rintro r13 ⟨K,X,ai,-⟩;simp [go_sem,J,V] at K X ai;clear J V;refine sRh fun K' gd hK hg => ?_;have g7 : gd 7 = some 13 := hg 7;have g14 : gd 14 = some 20 := hg 14;have g21 : gd 21 = some 27 := hg 21;have g26 : gd 26 = some 32 := hg 26;clear hg;refine cu12 fun K1 hK1 => ?_;go_simp;refine Wcall (.inl rfl) (containsI_c _ c.words badC 190 _ (hW.ext xw) hg (enters_of Tryz.func190 (by kernel_rfl) rfl) (fun x W _ => valid1_c x W)) ?_;rintro v w3 ⟨rfl,hE⟩;go_simp;apply hK1;clear hK1 K1;replace xw := xw.trans hE;replace i := hE.cell i;replace d := hE.cell d;replace j := hE.cell j;clear hE;refine cu8 fun K1 hK1 => ?_;go_simp
      refine Wcall (.inl rfl) (within_T h3 _) ?_;rintro v w4 ⟨rfl,hE⟩;go_simp;apply hK1;clear hK1 K1;replace xw := xw.trans hE;replace d := hE.cell d;replace j := hE.cell j;clear hE;refine cu10 fun K1 hK1 => ?_;go_simp;refine Wcall (.inl rfl) (within_F h5 _) ?_;rintro v w5 ⟨rfl,hE⟩;go_simp;apply hK1;clear hK1 K1;replace xw := xw.trans hE;clear hE;go_simp;apply hK;clear hK K' gd g7 g14 g21 g26;refine Wp.keep [4] ?_;rintro r17 ⟨aA,-⟩;simp [go_sem,K,X,ai] at aA;clear K X ai;refine Wp.ret ?_;refine endK_tmp Tryz.results163 (by decide) ?_;rw [aA];exact ⟨by rw [decide_eq_false fun h => h5 h.2.2.2.2],xw⟩
    ·skip;refine sRg fun K' gd hK => ?_;refine cu1 fun K1 hK1 => ?_;go_simp;apply hK1;clear hK1 K1;refine Wops.absA fun aJ n2 H => ?_;obtain ⟨q2,H,s2,au,f2,r2⟩ := H;try simp only [q2] at au f2 r2 ⊢
     replace xw := xw.trans H;have a := au 0 _ rfl;clear au H;clear r2;refine cu1 fun K1 hK1 => ?_;go_simp;apply hK1;clear hK1 K1;refine Wops.absA fun aQ n3 z => ?_;obtain ⟨q3,z,s3,C,f3,r3⟩ := z;try simp only [q3] at C f3 r3 ⊢
     replace xw := xw.trans z;replace a := z.cell a;have m := C 0 _ rfl;have i := C 1 _ rfl;have d := C 2 _ rfl;clear C z;clear r3;go_simp;apply hK;clear hK K' gd;refine Wp.keep [2,3] ?_;rintro r18 ⟨L,Y,-⟩;simp [go_sem,f,g] at L Y;clear f g;refine sRg fun K' gd hK => ?_;go_simp;apply hK;clear hK K' gd;refine Wp.keep [2,3,5] ?_;rintro r19 ⟨M,Z,aj,-⟩;simp [go_sem,L,Y] at M Z aj;clear L Y;refine sRh fun K' gd hK hg => ?_;have g7 : gd 7 = some 13 := hg 7;have g14 : gd 14 = some 20 := hg 14;have g21 : gd 21 = some 27 := hg 21;have g26 : gd 26 = some 32 := hg 26;clear hg;refine cu12 fun K1 hK1 => ?_;go_simp;refine Wcall (.inl rfl) (containsI_c _ c.words badC 190 _ (hW.ext xw) hg (enters_of Tryz.func190 (by kernel_rfl) rfl) (fun x W _ => valid1_c x W)) ?_;rintro v w3 ⟨rfl,hE⟩;go_simp;apply hK1;clear hK1 K1;replace xw := xw.trans hE;replace i := hE.cell i;replace d := hE.cell d;clear hE;refine cu8 fun K1 hK1 => ?_;go_simp;refine Wcall (.inl rfl) (within_T h3 _) ?_;rintro v w4 ⟨rfl,hE⟩
     go_simp;apply hK1;clear hK1 K1;replace xw := xw.trans hE;replace d := hE.cell d;clear hE;refine cu10 fun K1 hK1 => ?_;go_simp;apply hK1;clear hK1 K1;go_simp;apply hK;clear hK K' gd g7 g14 g21 g26;refine Wp.keep [4] ?_;rintro r22 ⟨aB,-⟩;simp [go_sem,M,Z,aj] at aB;clear M Z aj;refine Wp.ret ?_;refine endK_tmp Tryz.results163 (by decide) ?_;rw [aB];exact ⟨by rw [decide_eq_false fun h => h4 h.2.2.2.1],xw⟩
   ·skip;refine sRg fun K' gd hK => ?_;refine cu1 fun K1 hK1 => ?_;go_simp;apply hK1;clear hK1 K1;refine Wops.absA fun aK n2 I => ?_;obtain ⟨q2,I,s2,aw,f2,r2⟩ := I;try simp only [q2] at aw f2 r2 ⊢
    replace xw := xw.trans I;have a := aw 0 _ rfl;clear aw I;clear r2;refine cu1 fun K1 hK1 => ?_;go_simp;apply hK1;clear hK1 K1;refine Wops.absA fun aL n3 o => ?_;obtain ⟨q3,o,s3,B,f3,r3⟩ := o;try simp only [q3] at B f3 r3 ⊢
    replace xw := xw.trans o;replace a := o.cell a;have m := B 0 _ rfl;have i := B 1 _ rfl;have d := B 2 _ rfl;clear B o;clear r3;go_simp;apply hK;clear hK K' gd;refine Wp.keep [2,3] ?_;rintro r23 ⟨O,ab,-⟩;simp [go_sem,f,g] at O ab;clear f g;refine sRg fun K' gd hK => ?_;go_simp;apply hK;clear hK K' gd;refine Wp.keep [2,3,5] ?_;rintro r24 ⟨P,ac,ak,-⟩;simp [go_sem,O,ab] at P ac ak;clear O ab;refine sRh fun K' gd hK hg => ?_;have g7 : gd 7 = some 13 := hg 7;have g14 : gd 14 = some 20 := hg 14;have g21 : gd 21 = some 27 := hg 21;have g26 : gd 26 = some 32 := hg 26;clear hg;refine cu12 fun K1 hK1 => ?_;go_simp;refine Wcall (.inl rfl) (containsI_c _ c.words badC 190 _ (hW.ext xw) hg (enters_of Tryz.func190 (by kernel_rfl) rfl) (fun x W _ => valid1_c x W)) ?_;rintro v w3 ⟨rfl,hE⟩;go_simp;apply hK1;clear hK1 K1;replace xw := xw.trans hE;replace i := hE.cell i;replace d := hE.cell d;clear hE;refine cu8 fun K1 hK1 => ?_;go_simp;refine Wcall (.inl rfl) (within_F h3 _) ?_;rintro v w4 ⟨rfl,hE⟩
    go_simp;apply hK1;clear hK1 K1;replace xw := xw.trans hE;clear hE;refine cu10 fun K1 hK1 => ?_;go_simp;apply hK1;clear hK1 K1;go_simp;apply hK;clear hK K' gd g7 g14 g21 g26;refine Wp.keep [4] ?_;rintro r27 ⟨aC,-⟩;simp [go_sem,P,ac,ak] at aC;clear P ac ak;refine Wp.ret ?_;refine endK_tmp Tryz.results163 (by decide) ?_;rw [aC];exact ⟨by rw [decide_eq_false fun h => h3 h.2.2.1],xw⟩
 ·skip;refine sRg fun K' gd hK => ?_;refine cu1 fun K1 hK1 => ?_;go_simp;apply hK1;clear hK1 K1;refine Wops.absA fun aG n2 E => ?_;obtain ⟨q2,E,s2,ap,f2,r2⟩ := E;try simp only [q2] at ap f2 r2 ⊢
  replace xw := xw.trans E;have a := ap 0 _ rfl;clear ap E;clear r2;refine cu1 fun K1 hK1 => ?_;go_simp;apply hK1;clear hK1 K1;refine Wops.absA fun aM n3 q => ?_;obtain ⟨q3,q,s3,ax,f3,r3⟩ := q;try simp only [q3] at ax f3 r3 ⊢
  replace xw := xw.trans q;replace a := q.cell a;have m := ax 0 _ rfl;clear ax q;clear r3;go_simp;apply hK;clear hK K' gd;refine Wp.keep [2,3] ?_;rintro r28 ⟨Q,ad,-⟩;simp [go_sem,f,g] at Q ad;clear f g;refine sRg fun K' gd hK => ?_;go_simp;apply hK;clear hK K' gd;refine Wp.keep [2,3,5] ?_;rintro r29 ⟨R,ae,al,-⟩;simp [go_sem,Q,ad] at R ae al;clear Q ad;refine sRh fun K' gd hK hg => ?_;have g7 : gd 7 = some 13 := hg 7;have g14 : gd 14 = some 20 := hg 14;have g21 : gd 21 = some 27 := hg 21;have g26 : gd 26 = some 32 := hg 26;clear hg;refine cu12 fun K1 hK1 => ?_;go_simp;apply hK1;clear hK1 K1;refine cu8 fun K1 hK1 => ?_;go_simp;apply hK1;clear hK1 K1;refine cu10 fun K1 hK1 => ?_;go_simp;apply hK1;clear hK1 K1;go_simp;apply hK;clear hK K' gd g7 g14 g21 g26;refine Wp.keep [4] ?_;rintro r30 ⟨aD,-⟩;simp [go_sem,R,ae,al] at aD
  clear R ae al;refine Wp.ret ?_;refine endK_tmp Tryz.results163 (by decide) ?_;rw [aD];exact ⟨by rw [decide_eq_false fun h => h1 (hL.choose_spec.2 h.1)],xw⟩
theorem copy_c (v u : Value) (s : Sh) (c : Cp) (w : World) (hV : SheetV w w.heap.size v s) (hU : CopyV w w.heap.size u c) (hf : FitS s) (hg : FitC c) :
  CallsV Tryz.prog 93 #[v,u] w fun v w' => v = .int .i64 (copyS s c) ∧ Ext w w' := by
 obtain ⟨wv,av,rfl,⟨A,c1,rfl,-,-⟩,⟨A3,c3,rfl,-,-⟩⟩ := id hV;obtain ⟨wu,rfl,⟨A2,c2,rfl,-,-⟩⟩ := id hU;refine Wp.fn Tryz.func93 rfl Tryz.ntmps93 (by simp) ?_;have xw := Ext.refl w;refine Wp.keep [0,1] ?_;rintro r1 ⟨l,m,-⟩;simp [go_sem] at l m;refine sRg fun K' gd hK => ?_;refine cu1 fun K1 hK1 => ?_;go_simp;apply hK1;clear hK1 K1;refine Wops.absA fun J n2 j => ?_;obtain ⟨q2,j,s2,k,f2,r2⟩ := j;try simp only [q2] at k f2 r2 ⊢
 replace xw := xw.trans j;have h := k 0 _ rfl;have i := k 1 _ rfl;clear k j;clear r2;refine cu1 fun K1 hK1 => ?_;go_simp;apply hK1;clear hK1 K1;refine Wops.absA fun K n3 a => ?_;obtain ⟨q3,a,s3,b,f3,r3⟩ := a;try simp only [q3] at b f3 r3 ⊢
 replace xw := xw.trans a;replace h := a.cell h;replace i := a.cell i;have C := b 0 _ rfl;have D := b 1 _ rfl;have E := b 2 _ rfl;have F := b 3 _ rfl;clear b a;clear r3;go_simp;apply hK;clear hK K' gd;refine Wp.keep [2,3] ?_;rintro r2 ⟨o,r,-⟩;simp [go_sem,l,m] at o r;clear l m;refine Wp.seq ?_;refine sRg fun K' gd hK => ?_;refine cu2 fun K1 hK1 => ?_;go_simp;refine Wcall (.inl rfl) (check_c _ s _ (hV.ext xw) hf) ?_;rintro v w2 ⟨rfl,hE⟩;go_simp;apply hK1;clear hK1 K1;replace xw := xw.trans hE;replace h := hE.cell h;replace i := hE.cell i;replace C := hE.cell C;replace D := hE.cell D;replace E := hE.cell E;replace F := hE.cell F;clear hE;go_simp;apply hK;clear hK K' gd;refine Wp.keep [2,3,5] ?_;rintro r4 ⟨e,f,g,-⟩;simp [go_sem,o,r] at e f g;clear o r
 by_cases h0 : checkS s = 0
 ·skip;refine sRg fun K' gd hK => ?_;go_simp;apply hK;clear hK K' gd;refine Wp.keep [2,3,5,9] ?_;rintro r5 ⟨p,t,y,B,-⟩;simp [go_sem,e,f,g] at p t y B;clear e f g;refine cFf ?_;refine skN ?_;refine Wp.seq ?_;refine sRg fun K' gd hK => ?_;refine cu3 fun K1 hK1 => ?_;go_simp;refine Wcall (.inl rfl) (valid_c _ _ s c _ (hV.ext xw) (hU.ext xw) hf hg) ?_;rintro v w3 ⟨rfl,hE⟩;go_simp;apply hK1;clear hK1 K1;replace xw := xw.trans hE;clear hE;go_simp;apply hK;clear hK K' gd;refine Wp.keep [14] ?_;rintro r7 ⟨d,-⟩;simp [go_sem,p,t,y,B] at d;clear p t y B
  by_cases h1 : ValidC s c
  ·skip;refine cFf ?_;refine skN ?_;refine sRg fun K' gd hK => ?_;go_simp;apply hK;clear hK K' gd;refine Wp.keep [4] ?_;rintro r8 ⟨H,-⟩;simp [go_sem,d] at H;clear d;refine Wp.ret ?_;refine endK_tmp Tryz.results93 (by decide) ?_;rw [H];exact ⟨by rw [copyS,if_pos h0,if_pos h1],xw⟩
  ·skip;refine cTt ?_;refine sRg fun K' gd hK => ?_;go_simp;apply hK;clear hK K' gd;refine Wp.keep [4] ?_;rintro r9 ⟨I,-⟩;simp [go_sem,d] at I;clear d;refine Wp.ret ?_;refine tRe ?_;refine endK_tmp Tryz.results93 (by decide) ?_;rw [I];exact ⟨by rw [copyS,if_pos h0,if_neg h1],xw⟩
 ·skip;refine sRg fun K' gd hK => ?_;go_simp;apply hK;clear hK K' gd;refine Wp.keep [2,3,5,9] ?_;rintro r10 ⟨n,q,x,z,-⟩;simp [go_sem,e,f,g] at n q x z;clear e f g;refine cTt ?_;refine sRg fun K' gd hK => ?_;go_simp;apply hK;clear hK K' gd;refine Wp.keep [4] ?_;rintro r11 ⟨G,-⟩;simp [go_sem,n,q,x,z] at G;clear n q x z;refine Wp.ret ?_;refine tRe ?_;refine endK_tmp Tryz.results93 (by decide) ?_;rw [G];exact ⟨by rw [copyS,if_neg h0],xw⟩
theorem line_c (v : Value) (s : Sh) (i : Int) (w : World) (hV : SheetV w w.heap.size v s) (hf : FitS s) :
  CallsV Tryz.prog 151 #[v,.int .i64 i] w fun v w' => v = .int .i64 (lineS s i) ∧ Ext w w' := by
 obtain ⟨wv,av,rfl,⟨A,c1,rfl,-,-⟩,⟨A3,c3,rfl,-,-⟩⟩ := id hV;have hw1 : IntKind.i64.wrap ((s.words.length : Int) - 1) = (s.words.length : Int) - 1 := IntWalk.i64_in _ (by have := hf.1;omega);refine Wp.fn Tryz.func151 rfl Tryz.ntmps151 (by simp) ?_;have xw := Ext.refl w;refine Wp.keep [0,1] ?_;rintro r1 ⟨k,o,-⟩;simp [go_sem] at k o;refine sRg fun K' gd hK => ?_;refine cu1 fun K1 hK1 => ?_;go_simp;apply hK1;clear hK1 K1;refine Wops.absA fun D n2 h => ?_;obtain ⟨q2,h,s2,j,f2,r2⟩ := h;try simp only [q2] at j f2 r2 ⊢
 replace xw := xw.trans h;have y := j 0 _ rfl;have E := j 1 _ rfl;clear j h;clear r2;go_simp;apply hK;clear hK K' gd;refine Wp.keep [1,2] ?_;rintro r2 ⟨q,t,-⟩;simp [go_sem,k,o] at q t;clear k o;refine Wp.seq ?_;refine sRg fun K' gd hK => ?_;refine cu2 fun K1 hK1 => ?_;go_simp;refine Wcall (.inl rfl) (check_c _ s _ (hV.ext xw) hf) ?_;rintro v w2 ⟨rfl,hE⟩;go_simp;apply hK1;clear hK1 K1;replace xw := xw.trans hE;replace y := hE.cell y;clear hE;go_simp;apply hK;clear hK K' gd;refine Wp.keep [1,2,5] ?_;rintro r4 ⟨a,c,e,-⟩;simp [go_sem,q,t] at a c e;clear q t
 by_cases h0 : checkS s = 0
 ·skip;refine sRg fun K' gd hK => ?_;go_simp;apply hK;clear hK K' gd;refine Wp.keep [1,2,5,9] ?_;rintro r5 ⟨b,d,f,g,-⟩;simp [go_sem,a,c,e] at b d f g;clear a c e;refine cFf ?_
  by_cases h1 : 0 ≤ i ∧ i ≤ (s.words.length : Int) - 1
  ·skip;refine skN ?_;refine Wp.seq ?_;refine sRg fun K' gd hK => ?_;refine cu6 fun K1 hK1 => ?_;go_simp;refine Wcall (.inl rfl) (within_T h1 _) ?_;rintro v w3 ⟨rfl,hE⟩;go_simp;apply hK1;clear hK1 K1;replace xw := xw.trans hE;clear hE;go_simp;apply hK;clear hK K' gd;refine Wp.keep [17] ?_;rintro r7 ⟨m,-⟩;simp [go_sem,b,d,f,g] at m;clear b d f g;refine cFf ?_;refine skN ?_;refine sRg fun K' gd hK => ?_;go_simp;apply hK;clear hK K' gd;refine Wp.keep [4] ?_;rintro r8 ⟨C,-⟩;simp [go_sem,m] at C;clear m;refine Wp.ret ?_;refine endK_tmp Tryz.results151 (by decide) ?_;rw [C];exact ⟨by unfold lineS Sh.n;rw [if_pos h0,if_pos (by omega)],xw⟩
  ·skip;refine skN ?_;refine Wp.seq ?_;refine sRg fun K' gd hK => ?_;refine cu6 fun K1 hK1 => ?_;go_simp;refine Wcall (.inl rfl) (within_F h1 _) ?_;rintro v w3 ⟨rfl,hE⟩;go_simp;apply hK1;clear hK1 K1;replace xw := xw.trans hE;clear hE;go_simp;apply hK;clear hK K' gd;refine Wp.keep [17] ?_;rintro r10 ⟨l,-⟩;simp [go_sem,b,d,f,g] at l;clear b d f g;refine cTt ?_;refine sRg fun K' gd hK => ?_;go_simp;apply hK;clear hK K' gd;refine Wp.keep [4] ?_;rintro r11 ⟨z,-⟩;simp [go_sem,l] at z;clear l;refine Wp.ret ?_;refine tRe ?_;refine endK_tmp Tryz.results151 (by decide) ?_;rw [z];exact ⟨by unfold lineS Sh.n;rw [if_pos h0,if_neg (by omega)],xw⟩
 ·skip;refine sRg fun K' gd hK => ?_;go_simp;apply hK;clear hK K' gd;refine Wp.keep [1,2,5,9] ?_;rintro r12 ⟨p,r,u,x,-⟩;simp [go_sem,a,c,e] at p r u x;clear a c e;refine cTt ?_;refine sRg fun K' gd hK => ?_;go_simp;apply hK;clear hK K' gd;refine Wp.keep [4] ?_;rintro r13 ⟨B,-⟩;simp [go_sem,p,r,u,x] at B;clear p r u x;refine Wp.ret ?_;refine tRe ?_;refine endK_tmp Tryz.results151 (by decide) ?_;rw [B];exact ⟨by unfold lineS;rw [if_neg h0],xw⟩
end Go.Proofs.YtnklbepeoicgpaaGreat.St
namespace Go.Proofs.YtnklbepeoicgpaaGreat.St
open Go.RowKit Go.Wk Go.Proofs
attribute [local irreducible] Go.Wk.Wops Go.Wk.Wp Go.Wk.Mtree Go.Wk.Mops
set_option maxHeartbeats 8000000
set_option maxRecDepth 20000
theorem eqW (d : Nat) (a b a' b' : Int) (w : World) : (Op.equalIn (d + 2) 196 (.agg #[.int .i64 a,.int .i64 b]) (.agg #[.int .i64 a',.int .i64 b'])).run Tryz.prog w = .ok (decide (a = a') && decide (b = b')) w := by
 have e0 : ∀ (x y : Int) w,(Op.equalIn (d + 1) 3 (.int .i64 x) (.int .i64 y)).run Tryz.prog w = .ok (x == y) w := fun x y w => run_equalIn_int w d _ .i64 .i64 x y Tryz.underlying3;unfold Op.equalIn;simp [run_underlying Tryz.underlying196,List.range']
 by_cases h1 : a = a' <;> by_cases h2 : b = b' <;> simp [go_sem,e0,h1,h2]
@[go_sem] theorem eqW_run (a b a' b' : Int) (w : World) : (binOp .eql 196 (.agg #[.int .i64 a,.int .i64 b]) (.agg #[.int .i64 a',.int .i64 b'])).run Tryz.prog w = .ok (.bool (decide (a = a') && decide (b = b'))) w := by
 rw [run_eql_struct,eqW 9998];rfl
@[go_sem] theorem eqW10 (a b a' b' : Int) (w : World) : (Op.equalIn 10000 196 (.agg #[.int .i64 a,.int .i64 b]) (.agg #[.int .i64 a',.int .i64 b'])).run Tryz.prog w = .ok (decide (a = a') && decide (b = b')) w := eqW 9998 a b a' b' w
@[go_sem] theorem eqW99 (a b a' b' : Int) (w : World) : (Op.equalIn 9999 196 (.agg #[.int .i64 a,.int .i64 b]) (.agg #[.int .i64 a',.int .i64 b'])).run Tryz.prog w = .ok (decide (a = a') && decide (b = b')) w := eqW 9997 a b a' b' w
@[go_sem] theorem eqF10 (a b a' b' : Int) (l l' : Bool) (w : World) : (Op.equalIn 10000 198 (.agg #[.int .i64 a,.int .i64 b,.bool l]) (.agg #[.int .i64 a',.int .i64 b',.bool l'])).run Tryz.prog w = .ok (decide (((a,b,l) : Face) = (a',b',l'))) w := by
 have e0 : ∀ (x y : Bool) w,(Op.equalIn 9999 4 (.bool x) (.bool y)).run Tryz.prog w = .ok (x == y) w := fun x y w => run_equalIn_bool' w 9998 _ x y Tryz.underlying4;rw [run_equalIn_agg w 9999 _ _ _ (by kernel_rfl) (by kernel_rfl)];simp only [Program.fieldsOf,Tryz.underlying198]
 by_cases h1 : a = a' <;> by_cases h2 : b = b' <;> by_cases h3 : l = l' <;> simp [go_sem,Op.eqFields,eqW 9997,e0,h1,h2,h3]
@[go_sem] theorem eqF_run (a b a' b' : Int) (l l' : Bool) (w : World) : (binOp .eql 198 (.agg #[.int .i64 a,.int .i64 b,.bool l]) (.agg #[.int .i64 a',.int .i64 b',.bool l'])).run Tryz.prog w = .ok (.bool (decide (((a,b,l) : Face) = (a',b',l')))) w := by
 rw [run_eql_struct,eqF10];rfl
end Go.Proofs.YtnklbepeoicgpaaGreat.St
namespace Go.Proofs.YtnklbepeoicgpaaGreat.St
open Go.RowKit Go.Wk Go.Proofs
attribute [local irreducible] Go.Wk.Wops Go.Wk.Wp Go.Wk.Mtree Go.Wk.Mops
set_option maxHeartbeats 8000000
set_option maxRecDepth 20000
theorem after_c (x y : Int) (z : Bool) (a : Alt) (w : World) :
  CallsV Tryz.prog 188 #[.agg #[.int .i64 x,.int .i64 y,.bool z],.agg #[.int .i64 a.id,.int .i64 a.kind,.int .i64 a.day,.int .i64 a.frm,.int .i64 a.tu,.int .i64 a.word]] w fun v w' =>
   v = .agg #[.int .i64 (aft (x,y,z) a).1,.int .i64 (aft (x,y,z) a).2.1,.bool (aft (x,y,z) a).2.2] ∧ Ext w w' := by
 refine Wp.fn Tryz.func188 rfl Tryz.ntmps188 (by simp) ?_;have xw := Ext.refl w;refine Wp.keep [0,1] ?_;rintro r1 ⟨o,s,-⟩;simp [go_sem] at o s
 by_cases h0 : z = true
 ·skip;subst h0;refine sRg fun K' gd hK => ?_;refine cu1 fun K1 hK1 => ?_;go_simp;apply hK1;clear hK1 K1;refine Wops.absA fun aG n2 S => ?_;obtain ⟨q2,S,s2,O,f2,r2⟩ := S;try simp only [q2] at O f2 r2 ⊢
  replace xw := xw.trans S;have f := O 0 _ rfl;have g := O 1 _ rfl;have h := O 2 _ rfl;clear O S;clear r2;refine cu1 fun K1 hK1 => ?_;go_simp;apply hK1;clear hK1 K1;refine Wops.absA fun aI n3 m => ?_;obtain ⟨q3,m,s3,aF,f3,r3⟩ := m;try simp only [q3] at aF f3 r3 ⊢
  replace xw := xw.trans m;replace f := m.cell f;replace g := m.cell g;replace h := m.cell h;clear aF m;clear r3;refine cu1 fun K1 hK1 => ?_;go_simp;apply hK1;clear hK1 K1;refine Wops.absA fun aK n4 n => ?_;obtain ⟨q4,n,s4,Q,f4,r4⟩ := n;try simp only [q4] at Q f4 r4 ⊢
  replace xw := xw.trans n;replace f := n.cell f;replace g := n.cell g;replace h := n.cell h;have c := Q 0 _ rfl;have d := Q 1 _ rfl;have e := Q 2 _ rfl;clear Q n;clear r4;try simp only [Wops_nil,updO_some,updO_none]
  apply hK;clear hK K' gd;refine Wp.keep [2,3,4] ?_;rintro r2 ⟨Y,ae,am,-⟩;simp [go_sem,o,s] at Y ae am;clear o s;refine Wp.seq ?_;refine sRg fun K' gd hK => ?_;go_simp;apply hK;clear hK K' gd;refine Wp.keep [2,3,4,6] ?_;rintro r3 ⟨Z,af,an,au,-⟩;simp [go_sem,Y,ae,am] at Z af an au;clear Y ae am;refine cTt ?_;refine sRg fun K' gd hK => ?_;refine cu2 fun K1 hK1 => ?_;go_simp;apply hK1;clear hK1 K1;refine Wops.absS (b := n4) (i := 0) [_,_,_] (somes [cellVal c,cellVal d,cellVal e] (by simp) (by intro j v hj;match j,hj with | 0,hj => (simp at hj;subst hj;exact c) | 1,hj => (simp at hj;subst hj;exact d) | 2,hj => (simp at hj;subst hj;exact e))) fun P4 hP4 => ?_;replace xw := Put.to xw hP4 (by omega);clear c;clear d;clear e;have c := hP4.new 0 _ rfl;try simp only [Nat.reduceAdd,Nat.zero_add,Nat.add_zero] at c
  have d := hP4.new 1 _ rfl;try simp only [Nat.reduceAdd,Nat.zero_add,Nat.add_zero] at d
  have e := hP4.new 2 _ rfl;try simp only [Nat.reduceAdd,Nat.zero_add,Nat.add_zero] at e
  clear hP4;try simp only [Wops_nil,updO_some,updO_none]
  apply hK;clear hK K' gd;refine Wp.keep [4] ?_;rintro r4 ⟨aE,-⟩;simp [go_sem,Z,af,an,au] at aE;clear Z af an au;refine Wp.ret ?_;refine tRe ?_;refine endK_cell (v := .agg #[cellVal c,cellVal d,cellVal e]) Tryz.results188 (by decide) aE (by dsimp only [cellVal];go_simp) ?_
  dsimp only [cellVal]
  exact ⟨by simp [aft],xw⟩
 ·skip;obtain rfl : z = false := by simpa using h0
  refine sRg fun K' gd hK => ?_;refine cu1 fun K1 hK1 => ?_;go_simp;apply hK1;clear hK1 K1;refine Wops.absA fun aH n2 T => ?_;obtain ⟨q2,T,s2,P,f2,r2⟩ := T;try simp only [q2] at P f2 r2 ⊢
  replace xw := xw.trans T;have f := P 0 _ rfl;have g := P 1 _ rfl;have h := P 2 _ rfl;clear P T;clear r2;refine cu1 fun K1 hK1 => ?_;go_simp;apply hK1;clear hK1 K1;refine Wops.absA fun aJ n3 l => ?_;obtain ⟨q3,l,s3,U,f3,r3⟩ := l;try simp only [q3] at U f3 r3 ⊢
  replace f2 := l.fz f f2;replace xw := xw.trans l;replace f := l.cell f;replace g := l.cell g;replace h := l.cell h;have ax := U 1 _ rfl;have ay := U 5 _ rfl;clear U l;clear r3;refine cu1 fun K1 hK1 => ?_;go_simp;apply hK1;clear hK1 K1;refine Wops.absA fun aL n4 k => ?_;obtain ⟨q4,k,s4,R,f4,r4⟩ := k;try simp only [q4] at R f4 r4 ⊢
  replace f2 := k.fz f f2;replace xw := xw.trans k;replace f := k.cell f;replace g := k.cell g;replace h := k.cell h;replace ax := k.cell ax;replace ay := k.cell ay;have c := R 0 _ rfl;have d := R 1 _ rfl;have e := R 2 _ rfl;clear R k;clear r4;try simp only [Wops_nil,updO_some,updO_none]
  apply hK;clear hK K' gd;refine Wp.keep [2,3,4] ?_;rintro r5 ⟨aa,ag,ao,-⟩;simp [go_sem,o,s] at aa ag ao;clear o s;refine Wp.seq ?_;refine sRg fun K' gd hK => ?_;go_simp;apply hK;clear hK K' gd;refine Wp.keep [2,3,4,6] ?_;rintro r6 ⟨ab,ah,ap,av,-⟩;simp [go_sem,aa,ag,ao] at ab ah ap av;clear aa ag ao;refine cFf ?_;refine skN ?_;refine Wp.seq ?_;refine sRg fun K' gd hK => ?_;go_simp;apply hK;clear hK K' gd;refine Wp.keep [2,3,4,9] ?_;rintro r7 ⟨ac,ai,aq,aw,-⟩;simp [go_sem,ab,ah,ap,av] at ac ai aq aw;clear ab ah ap av;refine Wp.block ?_;refine sRg fun K' gd hK => ?_;go_simp;apply hK;clear hK K' gd;refine Wp.keep [2,3,4,9,10] ?_;rintro r8 ⟨C,G,K,N,p,-⟩;simp [go_sem,ac,ai,aq,aw] at C G K N p;clear ac ai aq aw
  by_cases k1 : a.kind = 1
  ·refine cTt ?_;refine lRg fun K' gd hK => ?_;refine cu3 fun K1 hK1 => ?_;go_simp;apply hK1;clear hK1 K1;refine Wops.absS (b := n2) (i := 0) [_] (somes [cellVal f] (by simp) (by intro j v hj;match j,hj with | 0,hj => (simp at hj;subst hj;exact f))) fun P8 hP8 => ?_;replace f4 := hP8.frz f4;replace xw := Put.to xw hP8 (by omega);clear f;replace g := Put.cellOff hP8 g (by simp);replace h := Put.cellOff hP8 h (by simp);replace c := hP8.cell c (by omega);replace d := hP8.cell d (by omega);replace e := hP8.cell e (by omega);have f := hP8.new 0 _ rfl;try simp only [Nat.reduceAdd,Nat.zero_add,Nat.add_zero] at f
   clear hP8;try simp only [Wops_nil,updO_some,updO_none]
   apply hK;clear hK K' gd;refine Ends.keep [2,4] ?_;rintro r9 ⟨ad,ar,-⟩;simp [go_sem,C,G,K,N,p] at ad ar;clear C G K N p;refine Ends.mk ?_;refine bNo ?_;refine tNo ?_;refine sRg fun K' gd hK => ?_;refine cu2 fun K1 hK1 => ?_;go_simp;apply hK1;clear hK1 K1;refine Wops.absS (b := n4) (i := 0) [_,_,_] (somes [cellVal c,cellVal d,cellVal e] (by simp) (by intro j v hj;match j,hj with | 0,hj => (simp at hj;subst hj;exact c) | 1,hj => (simp at hj;subst hj;exact d) | 2,hj => (simp at hj;subst hj;exact e))) fun P9 hP9 => ?_;replace xw := Put.to xw hP9 (by omega);clear c;clear d;clear e;have c := hP9.new 0 _ rfl;try simp only [Nat.reduceAdd,Nat.zero_add,Nat.add_zero] at c
   have d := hP9.new 1 _ rfl;try simp only [Nat.reduceAdd,Nat.zero_add,Nat.add_zero] at d
   have e := hP9.new 2 _ rfl;try simp only [Nat.reduceAdd,Nat.zero_add,Nat.add_zero] at e
   clear hP9;try simp only [Wops_nil,updO_some,updO_none]
   apply hK;clear hK K' gd;refine Wp.keep [4] ?_;rintro r10 ⟨az,-⟩;simp [go_sem,ad,ar] at az;clear ad ar;refine Wp.ret ?_;refine endK_cell (v := .agg #[cellVal c,cellVal d,cellVal e]) Tryz.results188 (by decide) az (by dsimp only [cellVal];go_simp) ?_
   dsimp only [cellVal]
   exact ⟨by simp [aft,k1],xw⟩
  ·refine cFf ?_;refine sRg fun K' gd hK => ?_;go_simp;apply hK;clear hK K' gd;refine Wp.keep [2,3,4,9,14] ?_;rintro r11 ⟨u,D,H,L,q,-⟩;simp [go_sem,C,G,K,N,p] at u D H L q;clear C G K N p
   by_cases k2 : a.kind = 2
   ·refine cTt ?_;refine lRg fun K' gd hK => ?_;refine cu2 fun K1 hK1 => ?_;go_simp;apply hK1;clear hK1 K1;refine Wops.absS (b := n2) (i := 0) [_,_,_] (somes [cellVal f,cellVal g,cellVal h] (by simp) (by intro j v hj;match j,hj with | 0,hj => (simp at hj;subst hj;exact f) | 1,hj => (simp at hj;subst hj;exact g) | 2,hj => (simp at hj;subst hj;exact h))) fun P10 hP10 => ?_;replace f4 := hP10.frz f4;replace xw := Put.to xw hP10 (by omega);clear f;clear g;clear h;replace c := hP10.cell c (by omega);replace d := hP10.cell d (by omega);replace e := hP10.cell e (by omega);have f := hP10.new 0 _ rfl;try simp only [Nat.reduceAdd,Nat.zero_add,Nat.add_zero] at f
    have g := hP10.new 1 _ rfl;try simp only [Nat.reduceAdd,Nat.zero_add,Nat.add_zero] at g
    have h := hP10.new 2 _ rfl;try simp only [Nat.reduceAdd,Nat.zero_add,Nat.add_zero] at h
    clear hP10;try simp only [Wops_nil,updO_some,updO_none]
    apply hK;clear hK K' gd;refine Ends.keep [2,4] ?_;rintro r12 ⟨V,aj,-⟩;simp [go_sem,u,D,H,L,q] at V aj;clear u D H L q;refine Ends.mk ?_;refine bNo ?_;refine tNo ?_;refine sRg fun K' gd hK => ?_;refine cu2 fun K1 hK1 => ?_;go_simp;apply hK1;clear hK1 K1;refine Wops.absS (b := n4) (i := 0) [_,_,_] (somes [cellVal c,cellVal d,cellVal e] (by simp) (by intro j v hj;match j,hj with | 0,hj => (simp at hj;subst hj;exact c) | 1,hj => (simp at hj;subst hj;exact d) | 2,hj => (simp at hj;subst hj;exact e))) fun P11 hP11 => ?_;replace xw := Put.to xw hP11 (by omega);clear c;clear d;clear e;have c := hP11.new 0 _ rfl;try simp only [Nat.reduceAdd,Nat.zero_add,Nat.add_zero] at c
    have d := hP11.new 1 _ rfl;try simp only [Nat.reduceAdd,Nat.zero_add,Nat.add_zero] at d
    have e := hP11.new 2 _ rfl;try simp only [Nat.reduceAdd,Nat.zero_add,Nat.add_zero] at e
    clear hP11;try simp only [Wops_nil,updO_some,updO_none]
    apply hK;clear hK K' gd;refine Wp.keep [4] ?_;rintro r13 ⟨aA,-⟩;simp [go_sem,V,aj] at aA;clear V aj;refine Wp.ret ?_;refine endK_cell (v := .agg #[cellVal c,cellVal d,cellVal e]) Tryz.results188 (by decide) aA (by dsimp only [cellVal];go_simp) ?_
    dsimp only [cellVal]
    exact ⟨by simp [aft,k2],xw⟩
   ·refine cFf ?_;refine sRg fun K' gd hK => ?_;go_simp;apply hK;clear hK K' gd;refine Wp.keep [2,3,4,9,17] ?_;rintro r14 ⟨A,E,I,M,r,-⟩;simp [go_sem,u,D,H,L,q] at A E I M r;clear u D H L q
    by_cases k3 : a.kind = 3
    ·refine cTt ?_;refine lRg fun K' gd hK => ?_;refine cu5 fun K1 hK1 => ?_;go_simp;apply hK1;clear hK1 K1;refine Wops.absS (b := n2) (i := 1) [_] (somes [cellVal g] (by simp) (by intro j v hj;match j,hj with | 0,hj => (simp at hj;subst hj;exact g))) fun P12 hP12 => ?_;replace f4 := hP12.frz f4;replace xw := Put.to xw hP12 (by omega);replace f := Put.cellOff hP12 f (by simp);clear g;replace h := Put.cellOff hP12 h (by simp);replace c := hP12.cell c (by omega);replace d := hP12.cell d (by omega);replace e := hP12.cell e (by omega);have g := hP12.new 0 _ rfl;try simp only [Nat.reduceAdd,Nat.zero_add,Nat.add_zero] at g
     clear hP12;try simp only [Wops_nil,updO_some,updO_none]
     apply hK;clear hK K' gd;refine Ends.keep [2,4] ?_;rintro r15 ⟨W,ak,-⟩;simp [go_sem,A,E,I,M,r] at W ak;clear A E I M r;refine Ends.mk ?_;refine bNo ?_;refine tNo ?_;refine sRg fun K' gd hK => ?_;refine cu2 fun K1 hK1 => ?_;go_simp;apply hK1;clear hK1 K1;refine Wops.absS (b := n4) (i := 0) [_,_,_] (somes [cellVal c,cellVal d,cellVal e] (by simp) (by intro j v hj;match j,hj with | 0,hj => (simp at hj;subst hj;exact c) | 1,hj => (simp at hj;subst hj;exact d) | 2,hj => (simp at hj;subst hj;exact e))) fun P13 hP13 => ?_;replace xw := Put.to xw hP13 (by omega);clear c;clear d;clear e;have c := hP13.new 0 _ rfl;try simp only [Nat.reduceAdd,Nat.zero_add,Nat.add_zero] at c
     have d := hP13.new 1 _ rfl;try simp only [Nat.reduceAdd,Nat.zero_add,Nat.add_zero] at d
     have e := hP13.new 2 _ rfl;try simp only [Nat.reduceAdd,Nat.zero_add,Nat.add_zero] at e
     clear hP13;try simp only [Wops_nil,updO_some,updO_none]
     apply hK;clear hK K' gd;refine Wp.keep [4] ?_;rintro r16 ⟨aB,-⟩;simp [go_sem,W,ak] at aB;clear W ak;refine Wp.ret ?_;refine endK_cell (v := .agg #[cellVal c,cellVal d,cellVal e]) Tryz.results188 (by decide) aB (by dsimp only [cellVal];go_simp) ?_
     dsimp only [cellVal]
     exact ⟨by simp [aft,k3],xw⟩
    ·refine cFf ?_;refine sRg fun K' gd hK => ?_;go_simp;apply hK;clear hK K' gd;refine Wp.keep [2,3,4,23] ?_;rintro r17 ⟨B,F,J,t,-⟩;simp [go_sem,A,E,I,M,r] at B F J t;clear A E I M r
     by_cases k4 : a.kind = 4
     ·refine cTt ?_;refine lRg fun K' gd hK => ?_;refine cu5 fun K1 hK1 => ?_;go_simp;apply hK1;clear hK1 K1;refine Wops.absS (b := n2) (i := 0) [_,_] (somes [cellVal f,cellVal g] (by simp) (by intro j v hj;match j,hj with | 0,hj => (simp at hj;subst hj;exact f) | 1,hj => (simp at hj;subst hj;exact g))) fun P14 hP14 => ?_;replace f4 := hP14.frz f4;replace xw := Put.to xw hP14 (by omega);clear f;clear g;replace h := Put.cellOff hP14 h (by simp);replace c := hP14.cell c (by omega);replace d := hP14.cell d (by omega);replace e := hP14.cell e (by omega);have f := hP14.new 0 _ rfl;try simp only [Nat.reduceAdd,Nat.zero_add,Nat.add_zero] at f
      have g := hP14.new 1 _ rfl;try simp only [Nat.reduceAdd,Nat.zero_add,Nat.add_zero] at g
      clear hP14;try simp only [Wops_nil,updO_some,updO_none]
      apply hK;clear hK K' gd;refine Ends.keep [2,4] ?_;rintro r18 ⟨X,al,-⟩;simp [go_sem,B,F,J,t] at X al;clear B F J t;refine Ends.mk ?_;refine bNo ?_;refine tNo ?_;refine sRg fun K' gd hK => ?_;refine cu2 fun K1 hK1 => ?_;go_simp;apply hK1;clear hK1 K1;refine Wops.absS (b := n4) (i := 0) [_,_,_] (somes [cellVal c,cellVal d,cellVal e] (by simp) (by intro j v hj;match j,hj with | 0,hj => (simp at hj;subst hj;exact c) | 1,hj => (simp at hj;subst hj;exact d) | 2,hj => (simp at hj;subst hj;exact e))) fun P15 hP15 => ?_;replace xw := Put.to xw hP15 (by omega);clear c;clear d;clear e;have c := hP15.new 0 _ rfl;try simp only [Nat.reduceAdd,Nat.zero_add,Nat.add_zero] at c
      have d := hP15.new 1 _ rfl;try simp only [Nat.reduceAdd,Nat.zero_add,Nat.add_zero] at d
      have e := hP15.new 2 _ rfl;try simp only [Nat.reduceAdd,Nat.zero_add,Nat.add_zero] at e
      clear hP15;try simp only [Wops_nil,updO_some,updO_none]
      apply hK;clear hK K' gd;refine Wp.keep [4] ?_;rintro r19 ⟨aC,-⟩;simp [go_sem,X,al] at aC;clear X al;refine Wp.ret ?_;refine endK_cell (v := .agg #[cellVal c,cellVal d,cellVal e]) Tryz.results188 (by decide) aC (by dsimp only [cellVal];go_simp) ?_
      dsimp only [cellVal]
      exact ⟨by simp [aft,k4],xw⟩
     ·refine cFf ?_;refine Wp.skip ?_;refine bNo ?_;refine tNo ?_;refine sRg fun K' gd hK => ?_;refine cu2 fun K1 hK1 => ?_;go_simp;apply hK1;clear hK1 K1;refine Wops.absS (b := n4) (i := 0) [_,_,_] (somes [cellVal c,cellVal d,cellVal e] (by simp) (by intro j v hj;match j,hj with | 0,hj => (simp at hj;subst hj;exact c) | 1,hj => (simp at hj;subst hj;exact d) | 2,hj => (simp at hj;subst hj;exact e))) fun P16 hP16 => ?_;replace xw := Put.to xw hP16 (by omega);clear c;clear d;clear e;have c := hP16.new 0 _ rfl;try simp only [Nat.reduceAdd,Nat.zero_add,Nat.add_zero] at c
      have d := hP16.new 1 _ rfl;try simp only [Nat.reduceAdd,Nat.zero_add,Nat.add_zero] at d
      have e := hP16.new 2 _ rfl;try simp only [Nat.reduceAdd,Nat.zero_add,Nat.add_zero] at e
      clear hP16;try simp only [Wops_nil,updO_some,updO_none]
      apply hK;clear hK K' gd;refine Wp.keep [4] ?_;rintro r20 ⟨aD,-⟩;simp [go_sem,B,F,J,t] at aD;clear B F J t;refine Wp.ret ?_;refine endK_cell (v := .agg #[cellVal c,cellVal d,cellVal e]) Tryz.results188 (by decide) aD (by dsimp only [cellVal];go_simp) ?_
      dsimp only [cellVal]
      exact ⟨by simp [aft,k1,k2,k3,k4],xw⟩
theorem reads_c (x y : Int) (z : Bool) (d : Int) (w : World) :
  CallsV Tryz.prog 215 #[.agg #[.int .i64 x,.int .i64 y,.bool z],.int .i64 d] w fun v w' => v = .bool (rds (x,y,z) d) ∧ Ext w w' := by
 refine Wp.fn Tryz.func215 rfl Tryz.ntmps215 (by simp) ?_;have xw := Ext.refl w;refine Wp.keep [0,1] ?_;rintro r1 ⟨i,j,-⟩;simp [go_sem] at i j;refine sRg fun K' gd hK => ?_;refine cu1 fun K1 hK1 => ?_;go_simp;apply hK1;clear hK1 K1;refine Wops.absA fun p n2 f => ?_;obtain ⟨q2,f,s2,g,f2,r2⟩ := f;try simp only [q2] at g f2 r2 ⊢
 replace xw := xw.trans f;have q := g 0 _ rfl;have r := g 1 _ rfl;clear g f;clear r2;go_simp;apply hK;clear hK K' gd;refine Wp.keep [1,2] ?_;rintro r2 ⟨k,l,-⟩;simp [go_sem,i,j] at k l;clear i j;refine Wp.seq ?_;refine sRg fun K' gd hK => ?_;go_simp;apply hK;clear hK K' gd;refine Wp.keep [1,2,6] ?_;rintro r3 ⟨a,b,c,-⟩;simp [go_sem,k,l] at a b c;clear k l
 by_cases h : d = 0
 ·refine cTt ?_;refine sRg fun K' gd hK => ?_;go_simp;apply hK;clear hK K' gd;refine Wp.keep [4] ?_;rintro r4 ⟨m,-⟩;simp [go_sem,a,b,c] at m;clear a b c;refine Wp.ret ?_;refine tRe ?_;refine endK_tmp Tryz.results215 (by decide) ?_;rw [m];exact ⟨by simp [rds,h],xw⟩
 ·refine cFf ?_
  by_cases h1 : x = d
  ·skip;refine skN ?_;refine sRh fun K' gd hK hg => ?_;have g5 : gd 5 = some 16 := hg 5;clear hg;go_simp;apply hK;clear hK K' gd g5;refine Wp.keep [4] ?_;rintro r5 ⟨n,-⟩;simp [go_sem,a,b,c] at n;clear a b c;refine Wp.ret ?_;refine endK_tmp Tryz.results215 (by decide) ?_;rw [n];exact ⟨by simp [rds,h,h1],xw⟩
  ·skip;refine skN ?_;refine sRh fun K' gd hK hg => ?_;have g5 : gd 5 = some 16 := hg 5;clear hg;go_simp;apply hK;clear hK K' gd g5;refine Wp.keep [4] ?_;rintro r6 ⟨o,-⟩;simp [go_sem,a,b,c] at o;clear a b c;refine Wp.ret ?_;refine endK_tmp Tryz.results215 (by decide) ?_;rw [o];exact ⟨by by_cases e : y = d <;> simp [rds,h,h1,e],xw⟩
theorem faces_c (v : Value) (i : Int) (w : World) (A B : Value) (hv : v = .agg #[A,B]) (h1 : A.oneCell' = true) (h2 : B.oneCell' = true) : CallsV Tryz.prog 152 #[v,.int .i64 i] w fun v w' => ∃ bs bi,v = .func (.func 187) #[] #[.pointer (some ⟨bs,0,none⟩),.pointer (some ⟨bi,0,none⟩)] ∧
  Ext w w' ∧ w'.cell? ⟨bs,0,none⟩ = some A ∧ w'.cell? ⟨bs,1,none⟩ = some B ∧ w'.cell? ⟨bi,0,none⟩ = some (.int .i64 i) ∧ w.heap.size ≤ bs ∧ w.heap.size ≤ bi := by
 subst hv;refine Wp.fn Tryz.func152 rfl Tryz.ntmps152 (by simp) ?_;have xw := Ext.refl w;refine Wp.keep [0,1] ?_;rintro r1 ⟨f,g,-⟩;simp [go_sem] at f g;refine sRg fun K' gd hK => ?_;refine cu1 fun K1 hK1 => ?_;go_simp;apply hK1;clear hK1 K1;refine Wops.absA fun n n2 b => ?_;obtain ⟨q2,b,s2,c,f2,r2⟩ := b;try simp only [q2] at c f2 r2 ⊢
 replace xw := xw.trans b;have d := c 0 _ rfl;have e := c 1 _ rfl;clear c b;clear r2;refine cu1 fun K1 hK1 => ?_;go_simp;apply hK1;clear hK1 K1;refine Wops.absA fun o n3 a => ?_;obtain ⟨q3,a,s3,k,f3,r3⟩ := a;try simp only [q3] at k f3 r3 ⊢
 replace xw := xw.trans a;replace d := a.cell d;replace e := a.cell e;have m := k 0 _ rfl;clear k a;clear r3;go_simp;apply hK;clear hK K' gd;refine Wp.keep [2,3] ?_;rintro r2 ⟨h,j,-⟩;simp [go_sem,f,g] at h j;clear f g;refine sRg fun K' gd hK => ?_;go_simp;apply hK;clear hK K' gd;refine Wp.keep [4] ?_;rintro r3 ⟨l,-⟩;simp [go_sem,h,j] at l;clear h j;refine Wp.ret ?_;refine endK_tmp Tryz.results152 (by decide) ?_;rw [l];exact ⟨_,_,rfl,xw,d,e,m,by omega,by omega⟩
end Go.Proofs.YtnklbepeoicgpaaGreat.St
namespace Go.Proofs.YtnklbepeoicgpaaGreat.St
open Go.RowKit Go.Wk Go.Proofs
attribute [local irreducible] Go.Wk.Wops Go.Wk.Wp Go.Wk.Mtree Go.Wk.Mops
set_option maxHeartbeats 8000000
set_option maxRecDepth 20000
def encF (_ : Nat) (x : Int × Int × Face) : Array Value := #[.agg #[.int .i64 x.1,.int .i64 x.2.1],.agg #[.int .i64 x.2.2.1,.int .i64 x.2.2.2.1,.bool x.2.2.2.2]]
def TyB (W : World) (b : Nat) (t : TypeId) : Prop := ∃ cs,W.heap[b]? = some (.cells cs t (0,0))
section
variable {W V : World} {b : Nat} {t : TypeId}
theorem TyB.of {cs : List Value} (h : RowC W b t cs) : TyB W b t := ⟨_,h⟩
theorem TyB.ext (h : TyB W b t) (hE : Ext W V) : TyB V b t := by obtain ⟨cs,h⟩ := h;exact ⟨cs,(Below.block hE b (Array.getElem?_eq_some_iff.1 h).1).trans h⟩
theorem TyB.adm {m : Nat} (h : TyB W b t) (hE : Adm m W V) : TyB V b t := by obtain ⟨cs,h⟩ := h;exact ⟨cs,hE.heap h⟩
theorem TyB.chg {L : List Nat} (h : TyB W b t) (hE : Chg L W V) (hL : b ∉ L) : TyB V b t := by obtain ⟨cs,h⟩ := h;exact ⟨cs,(hE.block b (Array.getElem?_eq_some_iff.1 h).1 hL).trans h⟩
theorem TyB.put {k i : Nat} {vs : List Value} (h : TyB W b t) (p : Put W V k i vs) (_ : 0 = 0) : TyB V b t := by
 by_cases e : b = k
 ·subst e;obtain ⟨cs,h⟩ := h;obtain ⟨cs',h1,-⟩ := p.row cs t h;exact ⟨cs',h1⟩
 ·exact h.chg p.chg (by simpa using e)
theorem TyB.own {base e size n : Nat} {v : Value} {xs : List Value} (h : TyB W b t) (ho : W.ownsRow base e size v n xs) (he : e ≠ t) : v.ownBlock ≠ some b := by
 rcases ho.2 with ⟨rfl,-⟩ | ⟨g,cap,cur,rfl,-,hg,-⟩
 ·simp [Value.ownBlock]
 ·intro e';simp only [Value.ownBlock,Option.some.injEq] at e';subst e';obtain ⟨cs,h⟩ := h;rw [hg] at h
  injection h with h;injection h with _ h
  exact he h
end
def FaceC (W : World) (g : Nat) (f : Face) : Prop := (W.cell? ⟨g,0,none⟩ = some (.int .i64 f.1) ∧ W.cell? ⟨g,1,none⟩ = some (.int .i64 f.2.1) ∧ W.cell? ⟨g,2,none⟩ = some (.bool f.2.2)) ∧ (∀ k,W.frozen? ⟨g,k,none⟩ = false) ∧ TyB W g 198
def facC (W : World) (g : Nat) (x : Int × Int × Face) : Prop := FaceC W g x.2.2
theorem FaceC.ext {W V : World} {g : Nat} {f : Face} (h : FaceC W g f) (hE : Ext W V) : FaceC V g f := ⟨⟨hE.cell h.1.1,hE.cell h.1.2.1,hE.cell h.1.2.2⟩,hE.fz h.1.1 h.2.1,h.2.2.ext hE⟩
theorem FaceC.adm {m : Nat} {W V : World} {g : Nat} {f : Face} (h : FaceC W g f) (hE : Adm m W V) : FaceC V g f := ⟨⟨hE.cell h.1.1,hE.cell h.1.2.1,hE.cell h.1.2.2⟩,Adm.fz hE h.1.1 h.2.1,h.2.2.adm hE⟩
theorem FaceC.chg {L : List Nat} {W V : World} {g : Nat} {f : Face} (h : FaceC W g f) (hE : Chg L W V) (hL : g ∉ L) : FaceC V g f := ⟨⟨Chg.cell hE h.1.1 hL,Chg.cell hE h.1.2.1 hL,Chg.cell hE h.1.2.2 hL⟩,Chg.fz hE h.1.1 h.2.1 hL,h.2.2.chg hE hL⟩
theorem FaceC.put {W V : World} {g b i : Nat} {vs : List Value} {f : Face} (h : FaceC W g f) (p : Put W V b i vs) (hb : g ≠ b) : FaceC V g f := h.chg p.chg (by simpa using hb)
theorem facC.ext {W V : World} {g : Nat} {f : Int × Int × Face} (h : facC W g f) (hE : Ext W V) : facC V g f := FaceC.ext h hE
theorem facC.adm {m : Nat} {W V : World} {g : Nat} {f : Int × Int × Face} (h : facC W g f) (hE : Adm m W V) : facC V g f := FaceC.adm h hE
theorem facC.chg {L : List Nat} {W V : World} {g : Nat} {f : Int × Int × Face} (h : facC W g f) (hE : Chg L W V) (hL : g ∉ L) : facC V g f := FaceC.chg h hE hL
theorem facC.put {W V : World} {g b i : Nat} {vs : List Value} {f : Int × Int × Face} (h : facC W g f) (p : Put W V b i vs) (hb : g ≠ b) : facC V g f := FaceC.put h p hb
theorem FaceC.lt {W : World} {g : Nat} {f : Face} (h : FaceC W g f) : g < W.heap.size := cell_lt h.1.1
structure FacesD (W : World) (bs bi : Nat) (s : Sh) (i : Nat) (b o n c : Nat) (A : Option Addr) (c2 : Nat) : Prop where
 c0 : W.cell? ⟨bs,0,none⟩ = some (.slice (some ⟨b,o,none⟩) n c)
 c1 : W.cell? ⟨bs,1,none⟩ = some (.slice A s.alts.length c2)
 ci : W.cell? ⟨bi,0,none⟩ = some (.int .i64 (i : Int))
 cw : W.cell? ⟨b,o + i,none⟩ = some (.int .i64 (s.W i))
 ca : AltsV W W.heap.size (.slice A s.alts.length c2) s.alts
theorem after_c2 {x y : Int} {z : Bool} {a : Alt} {x2 y2 : Int} {z2 : Bool} (h : aft (x,y,z) a = (x2,y2,z2)) (w : World) :
  CallsV Tryz.prog 188 #[.agg #[.int .i64 x,.int .i64 y,.bool z],.agg #[.int .i64 a.id,.int .i64 a.kind,.int .i64 a.day,.int .i64 a.frm,.int .i64 a.tu,.int .i64 a.word]] w fun v w' =>
   v = .agg #[.int .i64 x2,.int .i64 y2,.bool z2] ∧ Ext w w' := by
 have := after_c x y z a w;rw [h] at this;exact this
theorem faces_step {i : Int} {a : Alt} {l : List Alt} {f : Face} {d : Int} : facesL i (a :: l) f d = if nxt i f a = f then facesL i l f d else if d < a.day then (d,a.day - 1,f) :: facesL i l (nxt i f a) a.day else facesL i l (nxt i f a) a.day := rfl
theorem drop_next {α : Type} {l m : List α} {j : Nat} {x : α} (h : l.drop j = x :: m) : l[j]? = some x ∧ l.drop (j + 1) = m := by
 constructor
 ·have := List.getElem?_drop (xs := l) (i := j) (j := 0);rw [h] at this;simpa using this.symm
 ·rw [← List.drop_drop (i := 1),h];rfl
theorem face_set {w : World} {g : Nat} {f : Face} {x2 y2 : Int} {z2 : Bool} (h : FaceC w g f) {b o : Nat} {v : Value} (hb : w.cell? ⟨b,o,none⟩ = some v) (hne : b ≠ g) :
  FaceC (((w.drew.setCell ⟨g,0,none⟩ (.int .i64 x2)).setCell ⟨g,1,none⟩ (.int .i64 y2)).setCell ⟨g,2,none⟩ (.bool z2)) g (x2,y2,z2) ∧
  Chg [g] w (((w.drew.setCell ⟨g,0,none⟩ (.int .i64 x2)).setCell ⟨g,1,none⟩ (.int .i64 y2)).setCell ⟨g,2,none⟩ (.bool z2)) ∧
  ∀ v0 v1 v2,(((w.drew.setCell ⟨g,0,none⟩ v0).setCell ⟨g,1,none⟩ v1).setCell ⟨g,2,none⟩ v2).cell? ⟨b,o,none⟩ = some v := by
 have p := setL_put (w := w.drew) (b := g) (i := 0) (vs := [.int .i64 x2,.int .i64 y2,.bool z2]) (by
  intro j hj
  match j,hj with
  | 0,_ => simp [cell_drew h.1.1]
  | 1,_ => simp [cell_drew h.1.2.1]
  | 2,_ => simp [cell_drew h.1.2.2])
 refine ⟨⟨⟨p.new 0 _ rfl,p.new 1 _ rfl,p.new 2 _ rfl⟩,fun k => (p.fz _).trans (h.2.1 k),TyB.put (V := ((w.drew.setCell _ _).setCell _ _).setCell _ _) (h.2.2.ext (Ext.refl _).drew) p rfl⟩,(((Chg.refl [g] w).drew.setC (by simp)).setC (by simp)).setC (by simp),fun v0 v1 v2 => ?_⟩;rw [World.cell?_setCell_other _ _ _ _ (by intro e;injection e with e _;exact hne e.symm),World.cell?_setCell_other _ _ _ _ (by intro e;injection e with e _;exact hne e.symm),World.cell?_setCell_other _ _ _ _ (by intro e;injection e with e _;exact hne e.symm)];exact hb
theorem faces_it (s : Sh) (i : Nat) (bs bi b o n c : Nat) (A : Option Addr) (c2 : Nat) (hi : i < n) (hl : s.alts.length ≤ 1000000000000000) (hd : ∀ a ∈ s.alts,0 ≤ a.day ∧ a.day ≤ 730) :
  IterH Tryz.prog 187 #[.pointer (some ⟨bs,0,none⟩),.pointer (some ⟨bi,0,none⟩)] encF facC (fun W => FacesD W bs bi s i b o n c A c2) (s.faces i) := by
 intro l J Jx w hD hJE hJxE hJg h0 hY
 show CallsV _ _ #[.func (.yield l) #[] #[],.pointer (some ⟨bs,0,none⟩),.pointer (some ⟨bi,0,none⟩)] _ _
 have hin : (i : Int) < (n : Int) := by omega
 have d00 := hD _ _ _ (h0 w.heap.size w (Nat.le_refl _) (Ext.refl _));have y0 := d00.c0;have y1 := d00.c1;have yi := d00.ci;have yw := d00.cw;clear d00;refine Wp.fn Tryz.func187 rfl Tryz.ntmps187 (by simp) ?_;have xw := Ext.refl w;refine Wp.keep [0,1,2] ?_;rintro r1 ⟨az,bu,bA,-⟩;simp [go_sem] at az bu bA;refine sRg fun K' gd hK => ?_;refine cu9 fun K1 hK1 => ?_;go_simp;apply hK1;clear hK1 K1;refine Wops.absT fun dl n4 au R4 => ?_;obtain ⟨q4,au,s4,av,f4,r4⟩ := au;try simp only [q4] at av f4 r4 ⊢
 replace R4 := (show RowC _ _ _ _ from R4);replace xw := xw.trans au;replace y1 := au.cell y1;have f := av 0 _ rfl;have g := av 1 _ rfl;have m := av 2 _ rfl;clear av au;clear r4;try simp only [Wops_nil,updO_some,updO_none]
 apply hK;clear hK K' gd;refine Wp.keep [0,1,2,4] ?_;rintro r2 ⟨aE,bv,bF,bW,-⟩;simp [go_sem,az,bu,bA] at aE bv bF bW;clear az bu bA;have t4 := TyB.of R4;refine sRg fun K' gd hK => ?_;go_simp;apply hK;clear hK K' gd;refine Wp.keep [0,1,2,4,5] ?_;rintro r3 ⟨aL,bw,bM,b4,cf,-⟩;simp [go_sem,aE,bv,bF,bW] at aL bw bM b4 cf;clear aE bv bF bW;refine Wp.seq ?_;refine sRg fun K' gd hK => ?_;go_simp;apply hK;clear hK K' gd;refine Wp.keep [0,2,4,5,17,18,19] ?_;rintro r4 ⟨ab,ae,af,c6,ac,ad,cO,-⟩;simp [go_sem,aL,bw,bM,b4,cf] at ab ae af c6 ac ad cO;clear aL bw bM b4 cf;refine Wp.block ?_;refine Wp.loop (fun k ρ ds wk => AllEq [0,2,4,17,18] ρ r4 ∧ ds = [] ∧ True ∧ (∃ x y z d j,ρ 19 = .int .i64 (k : Int) ∧ ρ 5 = .int .i64 d ∧ J n4 j wk ∧ FaceC wk n4 (x,y,z) ∧ (s.faces i).drop j = facesL i (s.alts.drop k) (x,y,z) d)) (s.alts.length) ?_ ?_
 ·refine ⟨AllEq.refl _ _,rfl,trivial,?_⟩;exact ⟨_,_,_,_,0,by rw [cO];rfl,c6,h0 _ _ (by omega) xw,⟨⟨f,g,m⟩,f4,t4⟩,rfl⟩
 ·skip;try clear t4
  try clear f4
  try clear m
  try clear g
  try clear f
  try clear yw
  try clear yi
  try clear y1
  try clear y0
  try clear xw
  rintro k r5 _ wk hk ⟨hA,rfl,-,⟨x,y,z,d,j,e19,e5,hJ,hC,hdr⟩⟩;obtain ⟨aM,bN,b5,aZ,bc,-⟩ := hA;rw [ab] at aM;rw [ae] at bN;rw [af] at b5;rw [ac] at aZ;rw [ad] at bc;have xo := Ext.refl wk;refine sRg fun K' gd hK => ?_;go_simp;apply hK;clear hK K' gd;refine Wp.keep [0,2,4,5,17,18,19,20] ?_;rintro r6 ⟨I,S,V,Y,L,N,P,Q,-⟩;simp [go_sem,aM,bN,b5,e5,aZ,bc,e19] at I S V Y L N P Q;clear aM bN b5 e5 aZ bc e19;refine Wp.seq ?_
  by_cases h : k < s.alts.length
  ·refine cTt ?_;have dk := hD _ _ _ hJ;obtain ⟨b2,o2,rfl,hb2,u0,u1,u2,u3,u4,u5⟩ := AltsV.six dk.ca h;have ui := dk.ci;clear dk;rw [drop_cons h,faces_step] at hdr;obtain ⟨⟨f,g,m⟩,f4,t4⟩ := hC
   dsimp only at f g m
   have l4 : n4 < wk.heap.size := cell_lt f;have hda := hd _ (List.getElem_mem h);have hw1 : IntKind.i64.wrap (s.alts[k].day - 1) = s.alts[k].day - 1 := IntWalk.i64_in _ (by omega)
   by_cases hh : s.alts[k].frm ≤ (i : Int) ∧ (i : Int) ≤ s.alts[k].tu
   ·skip;obtain ⟨x2,y2,z2,hx2⟩ : ∃ x2 y2 z2,aft (x,y,z) s.alts[k] = (x2,y2,z2) := ⟨_,_,_,rfl⟩;have hnx : ∃ _u : Unit,nxt i (x,y,z) s.alts[k] = (x2,y2,z2) := ⟨(),by unfold nxt;rw [if_pos hh,hx2]⟩;refine skN ?_;refine sBk ?_;refine sRg fun K' gd hK => ?_;refine cu4 fun K1 hK1 => ?_;go_simp;apply hK1;clear hK1 K1;refine Wops.absT fun dm n7 C R7 => ?_;obtain ⟨q7,C,s7,G,f7,r7⟩ := C;try simp only [q7] at G f7 r7 ⊢
    replace f4 := C.fz f f4;replace t4 := t4.ext C;replace xo := xo.trans C;replace f := C.cell f;replace g := C.cell g;replace m := C.cell m;replace ui := C.cell ui;have ag := G 0 _ rfl;have ah := G 1 _ rfl;have u := G 2 _ rfl;have E := G 3 _ rfl;have F := G 4 _ rfl;have ai := G 5 _ rfl;clear G C;clear r7;try simp only [Wops_nil,updO_some,updO_none]
    apply hK;clear hK K' gd;refine Wp.keep [0,2,4,5,7,17,18,19] ?_;rintro r7 ⟨aN,bO,b6,cg,cp,a0,bd,br,-⟩;simp [go_sem,I,S,V,Y,L,N,P,Q] at aN bO b6 cg cp a0 bd br;clear I S V Y L N P Q;refine sRg fun K' gd hK => ?_;refine cu3 fun K1 hK1 => ?_;go_simp;apply hK1;clear hK1 K1;refine Wops.absT fun dp n8 q R8 => ?_;obtain ⟨q8,q,s8,aw,f8,r8⟩ := q;try simp only [q8] at aw f8 r8 ⊢
    replace R8 := (show RowC _ _ _ _ from R8);replace f4 := q.fz f f4;replace t4 := t4.ext q;replace xo := xo.trans q;replace f := q.cell f;replace g := q.cell g;replace m := q.cell m;replace ui := q.cell ui;replace ag := q.cell ag;replace ah := q.cell ah;replace u := q.cell u;replace E := q.cell E;replace F := q.cell F;replace ai := q.cell ai;have p := aw 0 _ rfl;have r := aw 1 _ rfl;have t := aw 2 _ rfl;clear aw q;clear r8;try simp only [Wops_nil,updO_some,updO_none]
    apply hK;clear hK K' gd;refine Wp.keep [0,2,4,5,7,8,17,18,19] ?_;rintro r8 ⟨aO,bP,b7,ch,cq,cx,a1,be,bt,-⟩;simp [go_sem,aN,bO,b6,cg,cp,a0,bd,br] at aO bP b7 ch cq cx a1 be bt;clear aN bO b6 cg cp a0 bd br;refine Wp.seq ?_;refine sRg fun K' gd hK => ?_;refine cu6 fun K1 hK1 => ?_;go_simp;refine Wcall (.inl rfl) (within_T hh _) ?_;rintro v w4 ⟨rfl,hE⟩;go_simp;apply hK1;clear hK1 K1;replace f4 := hE.fz f f4;replace f8 := hE.fz p f8;replace t4 := t4.ext hE;replace xo := xo.trans hE;replace f := hE.cell f;replace g := hE.cell g;replace m := hE.cell m;replace ag := hE.cell ag;replace ah := hE.cell ah;replace u := hE.cell u;replace E := hE.cell E;replace F := hE.cell F;replace ai := hE.cell ai;replace p := hE.cell p;replace r := hE.cell r;replace t := hE.cell t;clear hE;try simp only [Wops_nil,updO_some,updO_none]
    apply hK;clear hK K' gd;refine Wp.keep [0,2,4,5,7,8,17,18,19,29] ?_;rintro r10 ⟨aA,bB,bS,b8,cj,cr,aP,a2,bf,bx,-⟩;simp [go_sem,aO,bP,b7,ch,cq,cx,a1,be,bt] at aA bB bS b8 cj cr aP a2 bf bx;clear aO bP b7 ch cq cx a1 be bt;refine cTt ?_;refine lRg fun K' gd hK => ?_;refine cu3 fun K1 hK1 => ?_;go_simp;refine Wcall (.inl rfl) (after_c2 hx2 _) ?_;rintro v w5 ⟨rfl,hE⟩;go_simp;apply hK1;clear hK1 K1;replace f4 := hE.fz f f4;replace f8 := hE.fz p f8;replace t4 := t4.ext hE;replace xo := xo.trans hE;replace f := hE.cell f;replace g := hE.cell g;replace m := hE.cell m;replace u := hE.cell u;replace p := hE.cell p;replace r := hE.cell r;replace t := hE.cell t;clear hE;refine cu1 fun K1 hK1 => ?_;go_simp;apply hK1;clear hK1 K1;refine Wops.absS (b := n8) (i := 0) [_,_,_] (somes [cellVal p,cellVal r,cellVal t] (by simp) (by intro j v hj;match j,hj with | 0,hj => (simp at hj;subst hj;exact p) | 1,hj => (simp at hj;subst hj;exact r) | 2,hj => (simp at hj;subst hj;exact t))) fun P5 hP5 => ?_
    replace f4 := hP5.frz f4;replace t4 := t4.put hP5 (by omega);replace xo := Put.to xo hP5 (by omega);replace f := hP5.cell f (by omega);replace g := hP5.cell g (by omega);replace m := hP5.cell m (by omega);replace u := hP5.cell u (by omega);clear p;clear r;clear t;have p := hP5.new 0 _ rfl;try simp only [Nat.reduceAdd,Nat.zero_add,Nat.add_zero] at p
    have r := hP5.new 1 _ rfl;try simp only [Nat.reduceAdd,Nat.zero_add,Nat.add_zero] at r
    have t := hP5.new 2 _ rfl;try simp only [Nat.reduceAdd,Nat.zero_add,Nat.add_zero] at t
    clear hP5;try simp only [Wops_nil,updO_some,updO_none]
    apply hK;clear hK K' gd;refine Ends.keep [0,2,4,5,7,8,17,18,19] ?_;rintro r12 ⟨aj,an,ao,ap,aq,ar,ak,al,am,-⟩;simp [go_sem,aA,bB,bS,b8,cj,cr,aP,a2,bf,bx] at aj an ao ap aq ar ak al am;clear aA bB bS b8 cj cr aP a2 bf bx;refine Ends.mk ?_;refine tNo ?_
    by_cases hn : x2 = x ∧ y2 = y ∧ z2 = z
    ·skip;obtain ⟨rfl,rfl,rfl⟩ := hn;rw [if_pos hnx.choose_spec] at hdr;refine Wp.seq ?_;refine sRg fun K' gd hK => ?_;go_simp;apply hK;clear hK K' gd;refine Wp.keep [0,2,4,5,7,8,17,18,19,35] ?_;rintro r13 ⟨aB,bC,bT,b9,ck,cs,aQ,a3,bg,bQ,-⟩;simp [go_sem,aj,an,ao,ap,aq,ar,ak,al,am] at aB bC bT b9 ck cs aQ a3 bg bQ;clear aj an ao ap aq ar ak al am;refine cTt ?_;refine Wp.exit ?_;refine tEx ?_;refine blockK_here ?_;refine tNo ?_;refine lRg fun K' gd hK => ?_;go_simp;apply hK;clear hK K' gd;refine Ends.keep [0,2,4,5,17,18,19] ?_;rintro r14 ⟨cy,cP,cT,cZ,cC,cG,cK,-⟩;simp [go_sem,aB,bC,bT,b9,ck,cs,aQ,a3,bg,bQ] at cy cP cT cZ cC cG cK;clear aB bC bT b9 ck cs aQ a3 bg bQ;refine Ends.mk ?_;refine thenK_normal ⟨by omega,⟨by rw [cy,ab],by rw [cP,ae],by rw [cT,af],by rw [cC,ac],by rw [cG,ad],trivial⟩,rfl,trivial,?_⟩;exact ⟨_,_,_,d,j,by rw [cK,IntWalk.i64_in _ (by omega)];rfl,cZ,hJE _ _ _ _ xo hJ,⟨⟨f,g,m⟩,f4,t4⟩,hdr⟩
    ·skip;rw [if_neg (by rw [hnx.choose_spec];intro e;injection e with e1 e;injection e with e2 e3;exact hn ⟨e1,e2,e3⟩),hnx.choose_spec] at hdr;have hif : ∀ (R1 R2 : Result Next) [Decidable (x2 = x → ¬ y2 = y)] [Decidable (z2 = z)],(if x2 = x → ¬ y2 = y then R1 else if z2 = z then R2 else R1) = R1 := fun R1 R2 _ _ => by split;rfl;split;(exact absurd ⟨Classical.byContradiction fun h1 => absurd (fun h2 => absurd h2 h1) ‹_›,Classical.byContradiction fun h1 => absurd (fun _ => h1) ‹_›,‹_›⟩ hn);rfl
     refine Wp.seq ?_;refine sRg fun K' gd hK => ?_;go_simp;apply hK;clear hK K' gd;refine Wp.keep [0,2,4,5,7,8,17,18,19,35] ?_;rintro r15 ⟨H,R,U,X,Z,aa,K,M,O,T,-⟩;simp [go_sem,aj,an,ao,ap,aq,ar,ak,al,am] at H R U X Z aa K M O T;clear aj an ao ap aq ar ak al am;refine cFf ?_
     by_cases hlt : d < s.alts[k].day
     ·skip;rw [if_pos hlt] at hdr;obtain ⟨hj1,hj2⟩ := drop_next hdr;obtain ⟨fn,tmps,as_,bo,hy,hR1⟩ := hY n4 j _ wk P5 hj1 hJ xo ⟨⟨f,g,m⟩,f4,t4⟩;simp only [encF] at hy;refine skN ?_;refine Wp.seq ?_;refine sRh fun K' gd hK hg => ?_;have g4 : gd 4 = some 40 := hg 4;clear hg;refine cu13 fun K1 hK1 => ?_;go_simp;refine Wyield (hR1) ?_;rintro e w1 (⟨rfl,⟨hJ2,hC2,hKp⟩⟩ | ⟨rfl,hJx⟩)
      ·refine ⟨_,rfl,?_⟩;clear f4;clear t4;clear xo;clear f;clear g;clear m;clear ui;clear u0;clear u1;clear u2;clear u3;clear u4;clear u5;replace u := Held.cell hKp (by omega) u;replace p := Held.cell hKp (by omega) p;replace r := Held.cell hKp (by omega) r;replace t := Held.cell hKp (by omega) t;obtain ⟨⟨f,g,m⟩,f4,t4⟩ := hC2
       dsimp only at f g m
       go_simp;apply hK1;clear hK1 K1;go_simp;apply hK;clear hK K' gd g4;refine Wp.keep [0,2,4,7,8,17,18,19,50] ?_;rintro r16 ⟨aC,bD,bU,c7,c9,aR,a4,bh,cX,-⟩;simp [go_sem,H,R,U,X,Z,aa,K,M,O,T] at aC bD bU c7 c9 aR a4 bh cX;clear H R U X Z aa K M O T;refine cFf ?_;obtain ⟨hS1,hS2,k6⟩ := face_set (x2 := x2) (y2 := y2) (z2 := z2) (show FaceC w1 n4 (x,y,z) from ⟨⟨f,g,m⟩,f4,t4⟩) u (show n7 ≠ n4 by omega);refine skN ?_;refine Wp.loneDrawT (.inl rfl) mixed (.rd [0] (.both (.act 1 false (.both (.act 2 false (.act 3 true (.act 4 true .done))) (.act 3 true (.act 2 false (.act 4 true .done))))) (.act 3 true (.act 1 false (.act 2 false (.act 4 true .done)))))) (by kernel_rfl) (fun ρ W => AllEq [0,2,4,17,18,19] ρ r16 ∧ (ρ 5 = .int .i64 s.alts[k].day ∧ FaceC W n4 (x2,y2,z2) ∧ Chg [n4] w1 W)) (fun K' gd hK hg => ?_) ?_
       ·skip;clear hg;simp only [pickT,nth,List.map_cons,List.map_nil];apply Mtree.reads
        ·intro w' hE';have hC' := hE'.cellsS;go_simp;with_reducible rfl
        repeat' first
         | refine Mtree.two ?_ ?_
         | (refine Mtree.fin ?_;refine hK _ _ ⟨by simp [AllEq,go_sem],?_⟩;exact ⟨by go_simp,hS1,hS2⟩)
         | (refine Mtree.stepT fun K1 hK1 => ?_;go_simp;apply hK1;clear hK1 K1)
         | (refine Mtree.step fun K1 hK1 => ?_;go_simp;refine hK1 _ _ XA ?_;clear hK1 K1)
       ·rintro r17 W ⟨hA,e5,hC3,xg⟩;obtain ⟨aD,bE,bV,aS,a5,bj,-⟩ := hA;rw [aC] at aD;rw [bD] at bE;rw [bU] at bV;rw [aR] at aS;rw [a4] at a5;rw [bh] at bj;clear aC bD bU c7 c9 aR a4 bh cX;refine Ends.mk ?_;refine bNo ?_;refine tNo ?_;refine lRg fun K' gd hK => ?_;go_simp;apply hK;clear hK K' gd;refine Ends.keep [0,2,4,5,17,18,19] ?_;rintro r18 ⟨cz,cQ,cU,c3,cD,cH,cL,-⟩;simp [go_sem,aD,bE,bV,e5,aS,a5,bj] at cz cQ cU c3 cD cH cL;clear aD bE bV e5 aS a5 bj;refine Ends.mk ?_;refine thenK_normal ⟨by omega,⟨by rw [cz,ab],by rw [cQ,ae],by rw [cU,af],by rw [cD,ac],by rw [cH,ad],trivial⟩,rfl,trivial,?_⟩;exact ⟨_,_,_,_,j + 1,by rw [cL,IntWalk.i64_in _ (by omega)];rfl,c3,hJg _ _ _ _ xg hJ2,hC3,hj2⟩
      ·refine ⟨_,rfl,?_⟩;clear f4;clear f7;clear f8;clear t4;clear xo;clear f;clear g;clear m;clear ui;clear u0;clear u1;clear u2;clear u3;clear u4;clear u5;clear ag;clear ah;clear u;clear E;clear F;clear ai;clear p;clear r;clear t;go_simp;apply hK1;clear hK1 K1;go_simp;apply hK;clear hK K' gd g4;refine Wp.keep [0,2,4,7,8,17,18,19,50] ?_;rintro r19 ⟨db,df,dg,di,dj,dc,dd,de,dh,-⟩;simp [go_sem,H,R,U,X,Z,aa,K,M,O,T] at db df dg di dj dc dd de dh;clear H R U X Z aa K M O T;refine cTt ?_;refine Wp.ret ?_;refine tRe ?_;refine bRe ?_;refine tRe ?_;refine tRe ?_;refine bRe ?_;refine tRe ?_;refine endK_none Tryz.results187 ?_;exact .inr hJx
     ·skip;rw [if_neg hlt] at hdr;refine skN ?_;refine Wp.seq ?_;refine sRh fun K' gd hK hg => ?_;have g4 : gd 4 = some 40 := hg 4;clear hg;refine cu13 fun K1 hK1 => ?_;go_simp;apply hK1;clear hK1 K1;go_simp;apply hK;clear hK K' gd g4;refine Wp.keep [0,2,4,7,8,17,18,19,50] ?_;rintro r20 ⟨aF,bG,bX,c8,da,aT,a6,bk,cY,-⟩;simp [go_sem,H,R,U,X,Z,aa,K,M,O,T] at aF bG bX c8 da aT a6 bk cY;clear H R U X Z aa K M O T;refine cFf ?_;obtain ⟨hS1,hS2,k6⟩ := face_set (x2 := x2) (y2 := y2) (z2 := z2) (show FaceC P5 n4 (x,y,z) from ⟨⟨f,g,m⟩,f4,t4⟩) u (show n7 ≠ n4 by omega);refine skN ?_;refine Wp.loneDrawT (.inl rfl) mixed (.rd [0] (.both (.act 1 false (.both (.act 2 false (.act 3 true (.act 4 true .done))) (.act 3 true (.act 2 false (.act 4 true .done))))) (.act 3 true (.act 1 false (.act 2 false (.act 4 true .done)))))) (by kernel_rfl) (fun ρ W => AllEq [0,2,4,17,18,19] ρ r20 ∧ (ρ 5 = .int .i64 s.alts[k].day ∧ FaceC W n4 (x2,y2,z2) ∧ Chg [n4] P5 W)) (fun K' gd hK hg => ?_) ?_
      ·skip;clear hg;simp only [pickT,nth,List.map_cons,List.map_nil];apply Mtree.reads
       ·intro w' hE';have hC' := hE'.cellsS;go_simp;with_reducible rfl
       repeat' first
        | refine Mtree.two ?_ ?_
        | (refine Mtree.fin ?_;refine hK _ _ ⟨by simp [AllEq,go_sem],?_⟩;exact ⟨by go_simp,hS1,hS2⟩)
        | (refine Mtree.stepT fun K1 hK1 => ?_;go_simp;apply hK1;clear hK1 K1)
        | (refine Mtree.step fun K1 hK1 => ?_;go_simp;refine hK1 _ _ XA ?_;clear hK1 K1)
      ·rintro r21 W ⟨hA,e5,hC3,xg⟩;obtain ⟨aG,bH,bY,aU,a7,bl,-⟩ := hA;rw [aF] at aG;rw [bG] at bH;rw [bX] at bY;rw [aT] at aU;rw [a6] at a7;rw [bk] at bl;clear aF bG bX c8 da aT a6 bk cY;refine Ends.mk ?_;refine bNo ?_;refine tNo ?_;refine lRg fun K' gd hK => ?_;go_simp;apply hK;clear hK K' gd;refine Ends.keep [0,2,4,5,17,18,19] ?_;rintro r22 ⟨cA,cR,cV,c4,cE,cI,cM,-⟩;simp [go_sem,aG,bH,bY,e5,aU,a7,bl] at cA cR cV c4 cE cI cM;clear aG bH bY e5 aU a7 bl;refine Ends.mk ?_;refine thenK_normal ⟨by omega,⟨by rw [cA,ab],by rw [cR,ae],by rw [cV,af],by rw [cE,ac],by rw [cI,ad],trivial⟩,rfl,trivial,?_⟩;exact ⟨_,_,_,_,j,by rw [cM,IntWalk.i64_in _ (by omega)];rfl,c4,hJg _ _ _ _ xg (hJE _ _ _ _ xo hJ),hC3,hdr⟩
   ·skip;refine skN ?_;refine sBk ?_;refine sRg fun K' gd hK => ?_;refine cu4 fun K1 hK1 => ?_;go_simp;apply hK1;clear hK1 K1;refine Wops.absT fun dn n7 D R7 => ?_;obtain ⟨q7,D,s7,ay,f7,r7⟩ := D;try simp only [q7] at ay f7 r7 ⊢
    replace f4 := D.fz f f4;replace t4 := t4.ext D;replace xo := xo.trans D;replace f := D.cell f;replace g := D.cell g;replace m := D.cell m;replace ui := D.cell ui;have E := ay 3 _ rfl;have F := ay 4 _ rfl;clear ay D;clear r7;try simp only [Wops_nil,updO_some,updO_none]
    apply hK;clear hK K' gd;refine Wp.keep [0,2,4,5,7,17,18,19] ?_;rintro r23 ⟨aH,bI,bZ,cb,cl,aV,a8,bm,-⟩;simp [go_sem,I,S,V,Y,L,N,P,Q] at aH bI bZ cb cl aV a8 bm;clear I S V Y L N P Q;refine sRg fun K' gd hK => ?_;refine cu3 fun K1 hK1 => ?_;go_simp;apply hK1;clear hK1 K1;refine Wops.absT fun dq n8 B R8 => ?_;obtain ⟨q8,B,s8,ax,f8,r8⟩ := B;try simp only [q8] at ax f8 r8 ⊢
    replace f4 := B.fz f f4;replace t4 := t4.ext B;replace xo := xo.trans B;replace f := B.cell f;replace g := B.cell g;replace m := B.cell m;replace ui := B.cell ui;replace E := B.cell E;replace F := B.cell F;have p := ax 0 _ rfl;have r := ax 1 _ rfl;have t := ax 2 _ rfl;clear ax B;clear r8;try simp only [Wops_nil,updO_some,updO_none]
    apply hK;clear hK K' gd;refine Wp.keep [0,2,4,5,7,8,17,18,19] ?_;rintro r24 ⟨aI,bJ,b0,cc,cm,ct,aW,a9,bn,-⟩;simp [go_sem,aH,bI,bZ,cb,cl,aV,a8,bm] at aI bJ b0 cc cm ct aW a9 bn;clear aH bI bZ cb cl aV a8 bm;refine Wp.seq ?_;refine sRg fun K' gd hK => ?_;refine cu6 fun K1 hK1 => ?_;go_simp;refine Wcall (.inl rfl) (within_F hh _) ?_;rintro v w4 ⟨rfl,hE⟩;go_simp;apply hK1;clear hK1 K1;replace f4 := hE.fz f f4;replace t4 := t4.ext hE;replace xo := xo.trans hE;replace f := hE.cell f;replace g := hE.cell g;replace m := hE.cell m;replace p := hE.cell p;replace r := hE.cell r;replace t := hE.cell t;clear hE;try simp only [Wops_nil,updO_some,updO_none]
    apply hK;clear hK K' gd;refine Wp.keep [0,2,4,5,7,8,17,18,19,29] ?_;rintro r26 ⟨aJ,bK,b1,cd,cn,cu,aX,ba,bp,bz,-⟩;simp [go_sem,aI,bJ,b0,cc,cm,ct,aW,a9,bn] at aJ bK b1 cd cn cu aX ba bp bz;clear aI bJ b0 cc cm ct aW a9 bn;refine cFf ?_;refine skN ?_;refine Wp.seq ?_;refine sRg fun K' gd hK => ?_;go_simp;apply hK;clear hK K' gd;refine Wp.keep [0,2,4,5,7,8,17,18,19,35] ?_;rintro r27 ⟨aK,bL,b3,ce,co,cv,aY,bb,bq,bR,-⟩;simp [go_sem,aJ,bK,b1,cd,cn,cu,aX,ba,bp,bz] at aK bL b3 ce co cv aY bb bq bR;clear aJ bK b1 cd cn cu aX ba bp bz;refine cTt ?_;refine Wp.exit ?_;refine tEx ?_;refine blockK_here ?_;refine tNo ?_;refine lRg fun K' gd hK => ?_;go_simp;apply hK;clear hK K' gd;refine Ends.keep [0,2,4,5,17,18,19] ?_;rintro r28 ⟨cB,cS,cW,c5,cF,cJ,cN,-⟩;simp [go_sem,aK,bL,b3,ce,co,cv,aY,bb,bq,bR] at cB cS cW c5 cF cJ cN
    clear aK bL b3 ce co cv aY bb bq bR;refine Ends.mk ?_;refine thenK_normal ⟨by omega,⟨by rw [cB,ab],by rw [cS,ae],by rw [cW,af],by rw [cF,ac],by rw [cJ,ad],trivial⟩,rfl,trivial,?_⟩;exact ⟨_,_,_,d,j,by rw [cN,IntWalk.i64_in _ (by omega)];rfl,c5,hJE _ _ _ _ xo hJ,⟨⟨f,g,m⟩,f4,t4⟩,by rw [hdr,if_pos (by unfold nxt;rw [if_neg hh])]⟩
  ·refine cFf ?_;obtain rfl : k = s.alts.length := by omega
   rw [List.drop_length,facesL] at hdr;obtain ⟨⟨f,g,m⟩,f4,t4⟩ := hC
   dsimp only at f g m
   obtain ⟨hj1,hj2⟩ := drop_next hdr;obtain ⟨fn,tmps,as_,bo,hy,hR1⟩ := hY n4 j _ wk wk hj1 hJ xo ⟨⟨f,g,m⟩,f4,t4⟩;simp only [encF] at hy;refine Wp.exit ?_;refine tEx ?_;refine tEx ?_;refine blockK_here ?_;refine tNo ?_;refine lRg fun K' gd hK => ?_;refine cu5 fun K1 hK1 => ?_;go_simp;refine Wyield (hR1) ?_;rintro e w1 (⟨rfl,⟨hJ2,hC2,hKp⟩⟩ | ⟨rfl,hJx⟩)
   ·refine ⟨_,rfl,?_⟩;clear f4;clear xo;clear f;clear g;clear m;clear t4;have hz1 := (List.getElem?_eq_some_iff.1 hj1).1;have hz2 : (s.faces i).length = j + 1 := by have := congrArg List.length hj2;rw [List.length_drop] at this;simp at this;omega
    go_simp;apply hK1;clear hK1 K1;try simp only [Wops_nil,updO_some,updO_none]
    apply hK;clear hK K' gd;refine Ends.keep [] fun r29 hkeep => ?_;clear hkeep;clear I S V Y L N P Q;refine Ends.mk ?_;refine endN_none Tryz.results187 ?_;exact .inl ⟨n4,by rw [hz2];exact hJ2⟩
   ·refine ⟨_,rfl,?_⟩;clear f4;clear xo;clear f;clear g;clear m;clear t4;go_simp;apply hK1;clear hK1 K1;try simp only [Wops_nil,updO_some,updO_none]
    apply hK;clear hK K' gd;refine Ends.keep [] fun r30 hkeep => ?_;clear hkeep;clear I S V Y L N P Q;refine Ends.mk ?_;refine endN_none Tryz.results187 ?_;exact .inr hJx
end Go.Proofs.YtnklbepeoicgpaaGreat.St
namespace Go.Proofs.YtnklbepeoicgpaaGreat.St
open Go.RowKit Go.Wk Go.Proofs
section
variable {w w' : World} {base g lo hi : Nat} {e : TypeId} {size n : Nat} {v : Value} {xs : List Value}
end
section
variable {A B C : World}
end
theorem FacesD.chg {W V : World} {L : List Nat} {bs bi : Nat} {s : Sh} {i : Nat} {b o n c : Nat} {A : Option Addr} {c2 : Nat} (h : FacesD W bs bi s i b o n c A c2) (hC : Chg L W V) (h1 : bs ∉ L) (h2 : bi ∉ L) (h3 : b ∉ L)
  (h4 : AltsV V V.heap.size (.slice A s.alts.length c2) s.alts) : FacesD V bs bi s i b o n c A c2 :=
 ⟨Chg.cell hC h.c0 h1,Chg.cell hC h.c1 h1,Chg.cell hC h.ci h2,Chg.cell hC h.cw h3,h4⟩
end Go.Proofs.YtnklbepeoicgpaaGreat.St
namespace Go.Proofs.YtnklbepeoicgpaaGreat.St
open Go.RowKit Go.Wk Go.Proofs
attribute [local irreducible] Go.Wk.Wops Go.Wk.Wp Go.Wk.Mtree Go.Wk.Mops
set_option maxHeartbeats 8000000
set_option maxRecDepth 20000
theorem indexE_c (v : Value) (xs : List Int) (y : Int) (w : World) (hx : IntsV w w.heap.size v xs) (hl : xs.length ≤ 1000000000000000) :
  CallsV Tryz.prog 189 #[v,.int .i64 y] w fun v w' => ∃ r : Int,v = .int .i64 r ∧ decide (0 ≤ r) = decide (y ∈ xs) ∧ Ext w w' := by
 obtain ⟨A,c,rfl,hx,-⟩ := hx;refine Wp.fn Tryz.func189 rfl Tryz.ntmps189 (by simp) ?_;refine Wp.keep [0,1] ?_;rintro r1 ⟨s,B,-⟩;simp [go_sem] at s B;refine sRg fun K' gd hK => ?_;go_simp;apply hK;clear hK K' gd;refine Wp.keep [0,1] ?_;rintro r2 ⟨t,C,-⟩;simp [go_sem,s,B] at t C;clear s B;refine Wp.seq ?_;refine sRg fun K' gd hK => ?_;go_simp;apply hK;clear hK K' gd;refine Wp.keep [0,1,7,8] ?_;rintro r3 ⟨u,D,H,Q,-⟩;simp [go_sem,t,C] at u D H Q;clear t C;refine Wp.block ?_;refine Wp.loop (fun k ρ ds wk => AllEq [0,1,7] ρ r3 ∧ ds = [] ∧ (ρ 8 = .int .i64 (k : Int) ∧ (y ∉ xs.take k) ∧ Ext w wk)) (xs.length) ?_ ?_
 ·refine ⟨AllEq.refl _ _,rfl,?_⟩;exact ⟨by rw [Q];rfl,by simp,Ext.refl w⟩
 ·rintro k r4 _ wk hk ⟨hA,rfl,⟨e8,hn,hE⟩⟩;obtain ⟨x,E,I,-⟩ := hA;rw [u] at x;rw [D] at E;rw [H] at I;refine sRg fun K' gd hK => ?_;go_simp;apply hK;clear hK K' gd;refine Wp.keep [0,1,7,8,9] ?_;rintro r5 ⟨a,g,l,n,q,-⟩;simp [go_sem,x,E,I,e8] at a g l n q;clear x E I e8;refine Wp.seq ?_
  by_cases h : k < xs.length
  ·refine cTt ?_;obtain ⟨b,o,rfl,hb,hc⟩ := hx (by intro e;rw [e] at h;exact absurd h (Nat.not_lt_zero _));have c1 := hE.cell (hc k h);refine skN ?_;refine sBk ?_;refine sRg fun K' gd hK => ?_;go_simp;apply hK;clear hK K' gd;refine Wp.keep [0,1,5,7,8] ?_;rintro r6 ⟨z,F,G,J,K,-⟩;simp [go_sem,a,g,l,n,q] at z F G J K;clear a g l n q;refine sRg fun K' gd hK => ?_;go_simp;apply hK;clear hK K' gd;refine Wp.keep [0,1,5,7,8,16] ?_;rintro r7 ⟨d,i,j,m,p,f,-⟩;simp [go_sem,z,F,G,J,K] at d i j m p f;clear z F G J K
   by_cases hq : y = xs[k]
   ·refine cTt ?_;refine sRg fun K' gd hK => ?_;go_simp;apply hK;clear hK K' gd;refine Wp.keep [4] ?_;rintro r8 ⟨O,-⟩;simp [go_sem,d,i,j,m,p,f] at O;clear d i j m p f;refine Wp.ret ?_;refine bRe ?_;refine tRe ?_;refine tRe ?_;refine bRe ?_;refine tRe ?_;refine endK_tmp Tryz.results189 (by decide) ?_;rw [O];refine ⟨_,rfl,?_,hE⟩;rw [decide_eq_true (show y ∈ xs by rw [hq];exact List.getElem_mem h)];simp
   ·refine cFf ?_;refine Wp.skip ?_;refine bNo ?_;refine tNo ?_;refine lRg fun K' gd hK => ?_;go_simp;apply hK;clear hK K' gd;refine Ends.keep [0,1,7,8] ?_;rintro r9 ⟨L,M,P,R,-⟩;simp [go_sem,d,i,j,m,p,f] at L M P R;clear d i j m p f;refine Ends.mk ?_;refine thenK_normal ⟨by omega,⟨by rw [L,u],by rw [M,D],by rw [P,H],trivial⟩,rfl,?_⟩;refine ⟨by rw [R,IntWalk.i64_in _ (by omega)];rfl,?_,hE⟩;rw [List.take_add_one,List.getElem?_eq_getElem h];simp only [Option.toList_some,List.mem_append,List.mem_singleton];rintro (h' | h');exact hn h';exact hq h'
  ·refine cFf ?_;refine Wp.exit ?_;refine tEx ?_;refine tEx ?_;refine blockK_here ?_;refine tNo ?_;refine sRg fun K' gd hK => ?_;go_simp;apply hK;clear hK K' gd;refine Wp.keep [4] ?_;rintro r10 ⟨N,-⟩;simp [go_sem,a,g,l,n,q] at N;clear a g l n q;refine Wp.ret ?_;refine endK_tmp Tryz.results189 (by decide) ?_;rw [N];obtain rfl : k = xs.length := by omega
   rw [List.take_length] at hn;exact ⟨_,rfl,by rw [decide_eq_false hn];rfl,hE⟩
theorem containsE_c (v : Value) (xs : List Int) (y : Int) (w : World) (hx : IntsV w w.heap.size v xs) (hl : xs.length ≤ 1000000000000000) :
  CallsV Tryz.prog 153 #[v,.int .i64 y] w fun v w' => v = .bool (decide (y ∈ xs)) ∧ Ext w w' := by
 refine Wp.fn Tryz.func153 rfl Tryz.ntmps153 (by simp) ?_;refine Wp.keep [0,1] ?_;rintro r1 ⟨a,c,-⟩;simp [go_sem] at a c;refine sRg fun K' gd hK => ?_;go_simp;apply hK;clear hK K' gd;refine Wp.keep [0,1] ?_;rintro r2 ⟨b,d,-⟩;simp [go_sem,a,c] at b d;clear a c;refine sRg fun K' gd hK => ?_;go_simp;refine Wcall (.inl rfl) (indexE_c v xs y w hx hl) ?_;rintro v w2 ⟨r,rfl,hr,hE⟩;go_simp;apply hK;clear hK K' gd;refine Wp.keep [4] ?_;rintro r3 ⟨e,-⟩;simp [go_sem,b,d] at e;clear b d;refine Wp.ret ?_;refine endK_tmp Tryz.results153 (by decide) ?_;rw [e];exact ⟨by rw [← hr],hE⟩
def nth2 (a b : Int) (j : Nat) : Int := if j = 0 then a else b
@[go_sem] theorem idx2 (a b : Int) (j : Nat) (hj : (j : Int) < 2) (w : World) : (Instr.index 196 (.agg #[.int .i64 a,.int .i64 b]) (.int .i64 (j : Int))).run Tryz.prog w = .ok (.int .i64 (nth2 a b j)) w := by
 rcases (show j = 0 ∨ j = 1 by omega) with rfl | rfl
 ·simp [Instr.index,run_underlying Tryz.underlying196,asIntOf,go_sem,nth2]
 ·simp [Instr.index,run_underlying Tryz.underlying196,asIntOf,go_sem,nth2]
theorem addW_len (out : List Int) (x : Int) : (addW out x).length ≤ out.length + 1 := by unfold addW;split <;> simp
theorem readsF_len (d : Int) : ∀ (l : List (Int × Int × Face)) (out : List Int),(readsF d l out).length ≤ out.length + 2 * l.length
 | [],out => by simp [readsF]
 | x :: l,out => by
   rw [readsF_cons];have := readsF_len d l (if x.1 ≤ d ∧ d ≤ x.2.1 then addW (addW out x.2.2.1) x.2.2.2.1 else out);have h1 := addW_len (addW out x.2.2.1) x.2.2.2.1;have h2 := addW_len out x.2.2.1;simp only [List.length_cons]
   split at this <;> rename_i hc <;> simp only [hc,and_self,if_true,if_false] <;> first | omega | (simp only [hc,if_false] at *;omega)
theorem readsF_snoc (d : Int) (l : List (Int × Int × Face)) (x : Int × Int × Face) (out : List Int) : readsF d (l ++ [x]) out = if x.1 ≤ d ∧ d ≤ x.2.1 then addW (addW (readsF d l out) x.2.2.1) x.2.2.2.1 else readsF d l out := by
 unfold readsF;rw [List.foldl_append];rfl
theorem readsF_take {d : Int} {l : List (Int × Int × Face)} {k : Nat} {x : Int × Int × Face} (h : l[k]? = some x) : readsF d (l.take (k + 1)) [] = if x.1 ≤ d ∧ d ≤ x.2.1 then addW (addW (readsF d (l.take k) []) x.2.2.1) x.2.2.2.1 else readsF d (l.take k) [] := by
 rw [take_one h,readsF_snoc]
theorem lineS_zero {s : Sh} {i : Int} : lineS s i = 0 ↔ checkS s = 0 ∧ 0 ≤ i ∧ i < (s.n : Int) := by
 unfold lineS
 by_cases h : checkS s = 0
 ·by_cases h2 : 0 ≤ i ∧ i < (s.n : Int)
  ·simp [h,h2]
  ·simp only [h,if_true,if_neg h2,true_and,iff_false_intro h2,iff_false];decide
 ·simp [h]
def readE (s : Sh) (i d : Int) : Int := if lineS s i = 0 then (if 0 ≤ d ∧ d ≤ 730 then 0 else 1) else lineS s i
theorem Sh.W_get {s : Sh} {i : Nat} (h : i < s.words.length) : s.words[i] = s.W i := by unfold Sh.W;rw [List.getElem?_eq_getElem h];rfl
theorem Reads_c (v : Value) (s : Sh) (i d : Int) (w : World) (hV : SheetV w w.heap.size v s) (hf : FitS s) :
  CallsV Tryz.prog 79 #[v,.int .i64 i,.int .i64 d] w fun v w' => ∃ t,v = .tuple #[t,.int .i64 (readE s i d)] ∧ OwnI w' w.heap.size t (if readE s i d = 0 then readsL (s.on i.toNat d) else []) ∧ Ext w w' := by
 obtain ⟨wv,av,rfl,⟨A,c1,rfl,hx,-⟩,⟨A3,c3,rfl,-,-⟩⟩ := id hV;have hA : AltsV w w.heap.size (.slice A3 s.alts.length c3) s.alts := by obtain ⟨wv,av,e,-,h⟩ := hV;injection e with e;simp at e;obtain ⟨-,rfl⟩ := e;exact h
 refine Wp.fnM Tryz.func79 rfl Tryz.ntmps79 (by simp) ?_;have xw := Ext.refl w;refine Wp.keep [0,1,2] ?_;rintro r1 ⟨ak,ax,aI,-⟩;simp [go_sem] at ak ax aI;refine sRg fun K' gd hK => ?_;refine cu1 fun K1 hK1 => ?_;go_simp;apply hK1;clear hK1 K1;refine Wops.absA fun bT n3 ag => ?_;obtain ⟨q3,ag,s3,aj,f3,r3⟩ := ag;try simp only [q3] at aj f3 r3 ⊢
 replace xw := xw.trans ag;have B := aj 0 _ rfl;have C := aj 1 _ rfl;clear aj ag;clear r3;refine cu1 fun K1 hK1 => ?_;go_simp;apply hK1;clear hK1 K1;refine Wops.absA fun bV n5 I => ?_;obtain ⟨q5,I,s5,bu,f5,r5⟩ := I;try simp only [q5] at bu f5 r5 ⊢
 replace xw := xw.trans I;replace B := I.cell B;replace C := I.cell C;have m := bu 0 _ rfl;clear bu I;clear r5;go_simp;apply hK;clear hK K' gd;refine Wp.keep [1,3,5] ?_;rintro r2 ⟨ay,aZ,a9,-⟩;simp [go_sem,ak,ax,aI] at ay aZ a9;clear ak ax aI;refine Wp.seq ?_;refine sRg fun K' gd hK => ?_;refine cu3 fun K1 hK1 => ?_;go_simp;refine Wcall (.inl rfl) (line_c _ s i _ (hV.ext xw) hf) ?_;rintro v w2 ⟨rfl,hE⟩;go_simp;apply hK1;clear hK1 K1;have z3 := Below.size hE;replace xw := xw.trans hE;replace B := hE.cell B;replace C := hE.cell C;replace m := hE.cell m;clear hE;go_simp;apply hK;clear hK K' gd;refine Wp.keep [1,3,5,8] ?_;rintro r4 ⟨Q,T,X,Z,-⟩;simp [go_sem,ay,aZ,a9] at Q T X Z;clear ay aZ a9
 by_cases h0 : lineS s i = 0
 ·skip;refine sRg fun K' gd hK => ?_;go_simp;apply hK;clear hK K' gd;refine Wp.keep [1,3,5,8,18] ?_;rintro r5 ⟨R,U,Y,aa,P,-⟩;simp [go_sem,Q,T,X,Z] at R U Y aa P;clear Q T X Z;refine cFf ?_
  by_cases hd : 0 ≤ d ∧ d ≤ 730
  ·skip;refine skN ?_;refine Wp.seq ?_;refine sRg fun K' gd hK => ?_;refine cu2 fun K1 hK1 => ?_;go_simp;refine Wcall (.inl rfl) (within_T hd _) ?_;rintro v w3 ⟨rfl,hE⟩;go_simp;apply hK1;clear hK1 K1;have z6 := Below.size hE;replace xw := xw.trans hE;replace B := hE.cell B;replace C := hE.cell C;replace m := hE.cell m;clear hE;go_simp;apply hK;clear hK K' gd;refine Wp.keep [1,3,5,22] ?_;rintro r7 ⟨aB,a2,bc,aE,-⟩;simp [go_sem,R,U,Y,aa,P] at aB a2 bc aE;clear R U Y aa P;refine cFf ?_;have hi : 0 ≤ i ∧ i < (s.n : Int) := (lineS_zero.1 h0).2;obtain ⟨n,rfl⟩ : ∃ n : Nat,i = (n : Int) := ⟨i.toNat,by omega⟩;have hg : Good s := checkS_zero.1 (lineS_zero.1 h0).1;have hnl : n < s.words.length := by have := hi.2;unfold Sh.n at this;omega
   obtain ⟨b,o,rfl,hb,hc⟩ := hx (by rintro e;rw [e] at hnl;exact absurd hnl (Nat.not_lt_zero _));have yw := xw.cell (hc n hnl);rw [Sh.W_get hnl] at yw;refine skN ?_;refine sRg fun K' gd hK => ?_;refine cu1 fun K1 hK1 => ?_;go_simp;apply hK1;clear hK1 K1;refine Wops.absA fun bW n9 D => ?_;obtain ⟨q9,D,s9,bv,f9,r9⟩ := D;try simp only [q9] at bv f9 r9 ⊢
   replace xw := xw.trans D;replace B := D.cell B;replace C := D.cell C;replace m := D.cell m;replace yw := D.cell yw;have f := bv 0 _ rfl;clear bv D;clear r9;try simp only [Wops_nil,updO_some,updO_none]
   apply hK;clear hK K' gd;refine Wp.keep [1,3,5,9] ?_;rintro r8 ⟨aC,a3,bd,br,-⟩;simp [go_sem,aB,a2,bc,aE] at aC a3 bd br;clear aB a2 bc aE;refine Wp.seq ?_;refine sRg fun K' gd hK => ?_;refine cu3 fun K1 hK1 => ?_;go_simp;refine Wcall (.inl rfl) (faces_c _ (n : Int) _ _ _ rfl rfl rfl) ?_;rintro v w4 ⟨bs,bi,rfl,hE,y0,y1,yi,lbs,lbi⟩;go_simp;apply hK1;clear hK1 K1;have z9 := Below.size hE;replace f9 := hE.fz f f9;replace xw := xw.trans hE;replace m := hE.cell m;replace yw := hE.cell yw;replace f := hE.cell f;clear hE;try simp only [Wops_nil,updO_some,updO_none]
   apply hK;clear hK K' gd;refine Wp.keep [5,9,25] ?_;rintro r10 ⟨ae,af,ad,-⟩;simp [go_sem,aC,a3,bd,br] at ae af ad;clear aC a3 bd br;obtain ⟨B0,hB0⟩ : ∃ B0 : Nat,B0 = w4.heap.size := ⟨_,rfl⟩;have l0 := hA.ext xw;refine Wp.block ?_;refine Wp.rangeH (faces_it s n bs bi b o _ c1 A3 c3 hnl hf.2 (fun a ha => ⟨by have := (hg.rt a ha).2.1;omega,(hg.rt a ha).2.1.2⟩)) (by go_simp) (enters_of Tryz.func187 (by kernel_rfl) rfl) (fun _ _ => rfl) (fun g k W => (Chg [n9] w4 W ∧ (∀ i,W.frozen? ⟨n9,i,none⟩ = false)) ∧ (∃ v,W.cell? ⟨n9,0,none⟩ = some v ∧ OutG W B0 g 0 0 3 1 v (readsF d ((s.faces n).take k) []).length ((readsF d ((s.faces n).take k) []).map (Value.int .i64)) ∧ (∀ q,v.ownBlock = some q → q < W.heap.size))) (fun _ _ => False) ?_ ?_ ?_ ?_ ?_ ?_ ?_
   ·rintro g k W ⟨⟨xr,gf9⟩,⟨v9,r,hO,hlt⟩⟩;exact FacesD.chg ⟨y0,y1,yi,yw,l0⟩ xr (by simp;omega) (by simp;omega) (by simp;omega) (hA.ext (Chg.to xw xr XL))
   ·refine ⟨?_,?_,?_⟩
    ·rintro g k W W' hA ⟨⟨xr,gf9⟩,⟨v9,r,hO,hlt⟩⟩;refine ⟨⟨Adm.chg hA xr (Nat.le_refl _),Adm.fz hA r gf9⟩,?_⟩;exact ⟨v9,hA.cell r,hO.adm hA,fun q hq => Nat.lt_of_lt_of_le (hlt q hq) hA.size⟩
    ·rintro g k W W' hgn hA ⟨⟨xr,gf9⟩,⟨v9,r,hO,hlt⟩⟩;refine ⟨⟨Chg.more xr hA (mem1 (.inl hgn)),Chg.fz hA r gf9 (by simp;omega)⟩,?_⟩;exact ⟨v9,Chg.cell hA r (by simp;omega),hO.chg hA (by simp),fun q hq => Nat.lt_of_lt_of_le (hlt q hq) (Chg.size hA)⟩
    ·skip;exact fun g x W W' hA h => facC.adm h hA
   ·skip;exact fun _ _ _ _ h => h
   ·intro g W hgn hA;refine ⟨⟨Adm.chg hA (Chg.refl _ _) (Nat.le_refl _),Adm.fz hA f f9⟩,?_⟩;exact ⟨_,hA.cell f,OutG.nil _ _ _ _ _ _ _,fun q hq => by cases hq⟩
   ·rintro l g k x W Wy hx ⟨⟨xr,gf9⟩,⟨v9,r,hO,hlt⟩⟩ hVW hCg hl hgn;have zxr := Chg.size xr;clear f9;replace xw := Chg.to xw xr XL;replace m := Chg.cell xr m XN;clear f;have f9 := gf9;clear gf9;have f := r;clear r;have z11 := Below.size hVW;replace f9 := hVW.fz f f9;replace hO := hO.ext hVW;replace xw := xw.trans hVW;replace xr := Chg.ext xr hVW;replace m := hVW.cell m;replace f := hVW.cell f;have hKp := Held.refl W Wy;have xb := Ext.refl Wy;simp only [encF,List.zip_toArray,List.zip_cons_cons,List.zip_nil_left,putL_cons,putL_nil];refine Wp.keep [5,9,26,27] ?_;rintro r12 ⟨a7,bf,aF,aG,-⟩;simp [go_sem,ae,af,ad] at a7 bf aF aG;refine Wp.seqRegion (.inr ⟨_,rfl⟩) (by kernel_rfl) fun K' gd hK hg => ?_;clear hg;refine cu2 fun K1 hK1 => ?_;go_simp;apply hK1;clear hK1 K1;refine Wops.absA fun bR n10 u => ?_;obtain ⟨q10,u,s10,ah,f10,r10⟩ := u;try simp only [q10] at ah f10 r10 ⊢
    replace f9 := u.fz f f9;replace hO := hO.ext u;replace hKp := hKp.ext u;replace hCg := hCg.ext u;replace xw := xw.trans u;replace xr := Chg.ext xr u;replace xb := xb.trans u;replace m := u.cell m;replace f := u.cell f;have J := ah 0 _ rfl;have K := ah 1 _ rfl;clear ah u;clear r10;try simp only [Wops_nil,updO_some,updO_none]
    apply hK;clear hK K' gd;refine Wp.keep [5,9,10,27] ?_;rintro r13 ⟨a8,bg,al,aH,-⟩;simp [go_sem,a7,bf,aF,aG] at a8 bg al aH;clear a7 bf aF aG;refine Wp.loneRegion (.inr ⟨_,rfl⟩) (by kernel_rfl) fun K' gd hK hg => ?_;clear hg;refine cu2 fun K1 hK1 => ?_;go_simp;apply hK1;clear hK1 K1;refine Wops.absA fun bS n11 p => ?_;obtain ⟨q11,p,s11,ai,f11,r11⟩ := p;try simp only [q11] at ai f11 r11 ⊢
    replace f9 := p.fz f f9;replace hO := hO.ext p;replace hKp := hKp.ext p;replace hCg := hCg.ext p;replace xw := xw.trans p;replace xr := Chg.ext xr p;replace xb := xb.trans p;replace m := p.cell m;replace f := p.cell f;replace J := p.cell J;replace K := p.cell K;have L := ai 0 _ rfl;have M := ai 1 _ rfl;clear ai p;clear r11;try simp only [Wops_nil,updO_some,updO_none]
    apply hK;clear hK K' gd;refine Ends.keep [5,9,10,11] ?_;rintro r14 ⟨V,ab,N,O,-⟩;simp [go_sem,a8,bg,al,aH] at V ab N O;clear a8 bg al aH;refine Ends.mk ?_;refine tNo ?_;refine ⟨KeepsOthers.of_ext xb,fun W2 hA2 hl2 => ?_⟩;replace f9 := Adm.fz hA2 f f9;replace xw := Adm.toE hA2 xw (by omega);replace xr := Adm.chg hA2 xr (by omega);clear xb;replace hO := hO.adm hA2;replace hKp := hKp.adm hA2;replace hCg := hCg.adm hA2;replace m := Adm.cell hA2 m;replace f := Adm.cell hA2 f;replace J := Adm.cell hA2 J;replace K := Adm.cell hA2 K;replace L := Adm.cell hA2 L;replace M := Adm.cell hA2 M;obtain ⟨lr,hl2⟩ := hl2;have xk := Chg.refl [n9] W2;have hKO : KeepR W2 W2 := ⟨KeepsOthers.refl _⟩;have zA2 := hA2.size;obtain ⟨L0,hL0⟩ : ∃ L0,∃ _u : Unit,L0 = readsF d ((s.faces n).take k) [] := ⟨_,(),rfl⟩;have hL1 := readsF_take (d := d) hx;rw [← hL0.choose_spec] at hO hL1;have hLl : L0.length ≤ 1000 := by rw [hL0.choose_spec];have q1 := readsF_len d ((s.faces n).take k) [];have q2 := faces_len n s.alts (s.W n,0,false) 0;have q3 := hg.m2;rw [List.length_take] at q1;unfold Sh.faces at *;simp at q1;omega
    by_cases hdd : x.1 ≤ d ∧ d ≤ x.2.1
    ·skip;refine Wp.block ?_;refine Wp.seq ?_;refine Wp.seqRegion (.inr ⟨_,rfl⟩) (by kernel_rfl) fun K' gd hK hg => ?_;clear hg;refine cu6 fun K1 hK1 => ?_;go_simp;refine Wcall (.inr ⟨_,rfl⟩) (within_T hdd _) ?_;rintro v w5 ⟨rfl,hE⟩;go_simp;apply hK1;clear hK1 K1;have z15 := Below.size hE;replace f9 := hE.fz f f9;replace hO := hO.ext hE;replace hKp := hKp.ext hE;replace hCg := hCg.ext hE;replace hKO := hKO.ext hE;replace xw := xw.trans hE;replace xr := Chg.ext xr hE;replace xk := Chg.ext xk hE;replace f := hE.cell f;replace L := hE.cell L;replace M := hE.cell M;clear hE;go_simp;apply hK;clear hK K' gd;refine Wp.keep [9,11,34] ?_;rintro r16 ⟨bh,am,aJ,-⟩;simp [go_sem,V,ab,N,O] at bh am aJ;clear V ab N O;refine cFf ?_;obtain ⟨H0,hH0⟩ : ∃ H0 : Nat,H0 = w5.heap.size := ⟨_,rfl⟩;obtain ⟨x1,hx1⟩ : ∃ x1,∃ _u : Unit,x1 = x.2.2.1 := ⟨_,(),rfl⟩;obtain ⟨x2,hx2⟩ : ∃ x2,∃ _u : Unit,x2 = x.2.2.2.1 := ⟨_,(),rfl⟩;refine skN ?_;refine Wp.seqRegion (.inr ⟨_,rfl⟩) (by kernel_rfl) fun K' gd hK hg => ?_;clear hg;go_simp;apply hK;clear hK K' gd;refine Wp.keep [9,36,37] ?_;rintro r17 ⟨ac,S,bA,-⟩;simp [go_sem,bh,am,aJ] at ac S bA
     clear bh am aJ;refine Wp.block ?_;refine Wp.loop (fun j ρ ds wj => AllEq [9,36] ρ r17 ∧ ds = [] ∧ True ∧ (∃ v l,ρ 37 = .int .i64 (j : Int) ∧ Chg [n9] w4 wj ∧ Ext w wj ∧ facC wj g x ∧ Held W Wy wj ∧ KeepR W2 wj ∧ wj.cell? ⟨n9,0,none⟩ = some v ∧ (∀ i,wj.frozen? ⟨n9,i,none⟩ = false) ∧ OutG wj B0 g W.heap.size H0 3 1 v l.length (l.map (Value.int .i64)) ∧ H0 ≤ wj.heap.size ∧ (∃ _u : Unit,l = if j = 0 then L0 else if j = 1 then addW L0 x1 else addW (addW L0 x1) x2))) (2) ?_ ?_
     ·refine ⟨AllEq.refl _ _,rfl,trivial,?_⟩;exact ⟨_,_,by rw [bA];rfl,xr,xw,hCg,hKp,hKO,f,f9,hO.lohi hlt,Nat.le_of_eq hH0,(),rfl⟩
     ·skip;try clear bX
      try clear M
      try clear L
      try clear K
      try clear J
      try clear f
      try clear yi
      try clear y1
      try clear y0
      try clear yw
      try clear m
      try clear C
      try clear B
      try clear xk
      try clear xr
      try clear xw
      try clear hKO
      try clear hCg
      try clear hKp
      try clear hO
      try clear f11
      try clear f10
      try clear f9
      try clear f5
      try clear f3
      rintro j r18 _ wj hj ⟨hA,rfl,-,⟨v9,l,e37,xr,xw,hCg,hKp,hKO,f,f9,hO,hH1,hl⟩⟩;obtain ⟨bj,aK,-⟩ := hA;rw [ac] at bj;rw [S] at aK;have xo := Ext.refl wj;refine Wp.seqRegion (.inr ⟨_,rfl⟩) (by kernel_rfl) fun K' gd hK hg => ?_;clear hg;go_simp;apply hK;clear hK K' gd;refine Wp.keep [9,36,37,38] ?_;rintro r19 ⟨H,E,F,G,-⟩;simp [go_sem,bj,aK,e37] at H E F G;clear bj aK e37;refine Wp.seq ?_
      by_cases hj : (j : Int) < 2
      ·refine cTt ?_;obtain ⟨y,hy⟩ : ∃ y,nth2 x.2.2.1 x.2.2.2.1 j = y := ⟨_,rfl⟩;have hy2 : (if j + 1 = 1 then addW L0 x1 else addW (addW L0 x1) x2) = addW l y := by rcases (show j = 0 ∨ j = 1 by omega) with rfl | rfl;(rw [hl.choose_spec,hx1.choose_spec,← hy];rfl);(rw [hl.choose_spec,hx2.choose_spec,← hy];rfl)
       have zg := FaceC.lt hCg;have hll : l.length ≤ 1002 := by have q1 := addW_len L0 x1;have q2 := addW_len (addW L0 x1) x2;rw [hl.choose_spec];split;omega;split <;> omega
       by_cases hy0 : y = 0
       ·skip;subst hy0;refine skN ?_;refine sBk ?_;refine Wp.seqRegion (.inr ⟨_,rfl⟩) (by kernel_rfl) fun K' gd hK hg => ?_;clear hg;go_simp;apply hK;clear hK K' gd;refine Wp.keep [9,13,36,37] ?_;rintro r20 ⟨bk,an,aL,aS,-⟩;simp [go_sem,H,E,F,G] at bk an aL aS;clear H E F G;refine Wp.seqRegion (.inr ⟨_,rfl⟩) (by kernel_rfl) fun K' gd hK hg => ?_;have g2 : gd 2 = some 42 := hg 2;clear hg;refine cu6 fun K1 hK1 => ?_;go_simp;apply hK1;clear hK1 K1;go_simp;apply hK;clear hK K' gd g2;refine Wp.keep [9,13,36,37,47] ?_;rintro r21 ⟨bl,ao,aM,aT,a4,-⟩;simp [go_sem,bk,an,aL,aS] at bl ao aM aT a4;clear bk an aL aS;refine cFf ?_;refine Wp.skip ?_;refine bNo ?_;refine tNo ?_;refine Wp.loneRegion (.inr ⟨_,rfl⟩) (by kernel_rfl) fun K' gd hK hg => ?_;clear hg;go_simp;apply hK;clear hK K' gd;refine Ends.keep [9,36,37] ?_;rintro r22 ⟨bK,bw,bB,-⟩;simp [go_sem,bl,ao,aM,aT,a4] at bK bw bB;clear bl ao aM aT a4;refine Ends.mk ?_;refine thenK_normal ⟨by omega,⟨by rw [bK,ac],by rw [bw,S],trivial⟩,rfl,trivial,?_⟩
        exact ⟨_,l,by rw [bB,IntWalk.i64_in _ (by omega)];rfl,xr,xw,hCg,hKp,hKO,f,f9,hO,hH1,(),by rw [if_neg (by omega),hy2,addW,if_neg (by simp)]⟩
       ·skip
        by_cases hm : y ∈ l
        ·skip;refine skN ?_;refine sBk ?_;refine Wp.seqRegion (.inr ⟨_,rfl⟩) (by kernel_rfl) fun K' gd hK hg => ?_;clear hg;go_simp;apply hK;clear hK K' gd;refine Wp.keep [9,13,36,37] ?_;rintro r23 ⟨bm,ap,aN,aU,-⟩;simp [go_sem,H,E,F,G] at bm ap aN aU;clear H E F G;refine Wp.seqRegion (.inr ⟨_,rfl⟩) (by kernel_rfl) fun K' gd hK hg => ?_;have g2 : gd 2 = some 42 := hg 2;clear hg;refine cu6 fun K1 hK1 => ?_;go_simp;refine Wcall (.inr ⟨_,rfl⟩) (containsE_c _ l y _ (hO.ints).intsV (by omega)) ?_;rintro v w6 ⟨rfl,hE⟩;go_simp;apply hK1;clear hK1 K1;have z24 := Below.size hE;replace f9 := hE.fz f f9;replace hCg := hCg.ext hE;replace hKp := hKp.ext hE;replace hKO := hKO.ext hE;replace hO := hO.ext hE;replace xo := xo.trans hE;replace xr := Chg.ext xr hE;replace xw := xw.trans hE;replace f := hE.cell f;clear hE;go_simp;apply hK;clear hK K' gd g2;refine Wp.keep [9,13,36,37,47] ?_;rintro r25 ⟨bn,aq,aO,aV,a5,-⟩;simp [go_sem,bm,ap,aN,aU] at bn aq aO aV a5;clear bm ap aN aU;refine cFf ?_;refine Wp.skip ?_;refine bNo ?_
         refine tNo ?_;refine Wp.loneRegion (.inr ⟨_,rfl⟩) (by kernel_rfl) fun K' gd hK hg => ?_;clear hg;go_simp;apply hK;clear hK K' gd;refine Ends.keep [9,36,37] ?_;rintro r26 ⟨bL,bx,bC,-⟩;simp [go_sem,bn,aq,aO,aV,a5] at bL bx bC;clear bn aq aO aV a5;refine Ends.mk ?_;refine thenK_normal ⟨by omega,⟨by rw [bL,ac],by rw [bx,S],trivial⟩,rfl,trivial,?_⟩;exact ⟨_,l,by rw [bC,IntWalk.i64_in _ (by omega)];rfl,xr,xw,hCg,hKp,hKO,f,f9,hO,by omega,(),by rw [if_neg (by omega),hy2,addW,if_neg (by simp [hm])]⟩
        ·skip;refine skN ?_;refine sBk ?_;refine Wp.seqRegion (.inr ⟨_,rfl⟩) (by kernel_rfl) fun K' gd hK hg => ?_;clear hg;go_simp;apply hK;clear hK K' gd;refine Wp.keep [9,13,36,37] ?_;rintro r27 ⟨bo,ar,aP,aW,-⟩;simp [go_sem,H,E,F,G] at bo ar aP aW;clear H E F G;refine Wp.seqRegion (.inr ⟨_,rfl⟩) (by kernel_rfl) fun K' gd hK hg => ?_;have g2 : gd 2 = some 42 := hg 2;clear hg;refine cu6 fun K1 hK1 => ?_;go_simp;refine Wcall (.inr ⟨_,rfl⟩) (containsE_c _ l y _ (hO.ints).intsV (by omega)) ?_;rintro v w6 ⟨rfl,hE⟩;go_simp;apply hK1;clear hK1 K1;have z28 := Below.size hE;replace f9 := hE.fz f f9;replace hCg := hCg.ext hE;replace hKp := hKp.ext hE;replace hKO := hKO.ext hE;replace hO := hO.ext hE;replace xo := xo.trans hE;replace xr := Chg.ext xr hE;replace xw := xw.trans hE;replace f := hE.cell f;clear hE;go_simp;apply hK;clear hK K' gd g2;refine Wp.keep [9,13,36,37,47] ?_;rintro r29 ⟨bp,au,aQ,aX,a6,-⟩;simp [go_sem,bo,ar,aP,aW] at bp au aQ aX a6;clear bo ar aP aW;refine cTt ?_;refine Wp.loneRegion (.inr ⟨_,rfl⟩) (by kernel_rfl) fun K' gd hK hg => ?_
         clear hg;refine cu3 fun K1 hK1 => ?_;go_simp;apply hK1;clear hK1 K1;refine Wops.absA fun bU n50 z => ?_;obtain ⟨q50,z,s50,bt,f50,r50⟩ := z;try simp only [q50] at bt f50 r50 ⊢
         replace f9 := z.fz f f9;replace hCg := hCg.ext z;replace hKp := hKp.ext z;replace hKO := hKO.ext z;replace hO := hO.ext z;replace xo := xo.trans z;replace xr := Chg.ext xr z;replace xw := xw.trans z;replace f := z.cell f;clear z f50;have bN := bt 0 _ rfl;clear bt;refine cu1 fun K1 hK1 => ?_;obtain ⟨v',w7,hrun,hO2,hgr⟩ := OutG.app ints_T hO ⟨n50,0,none⟩ 1 1 [.int .i64 y] 22 rfl (news_one bN) (one_one rfl) (by omega) (by omega) (by omega) (by omega);refine Wops.law rfl (exec_append2 rfl hrun (by go_simp) (by go_simp)) ?_;simp only [updO_some,Wops_nil];apply hK1;clear hK1 K1;have z30 := World.grownBy.size hgr;replace f9 := Chg.fz (grown_chg hgr) f f9 (q_off hO.lt (by omega));replace hCg := hCg.chg (grown_chg hgr) (by first | (intro b hb;exact (q_off hO.lt (by omega))) | exact (q_off hO.lt (by omega)));replace hKp := hKp.chg (grown_chg hgr) (by first | (intro b hb;exact (q_off hO.lt (by omega))) | exact (q_off hO.lt (by omega)));replace xr := Chg.more xr (grown_chg hgr) (q_gm hO.lt (by omega));replace xw := Chg.to xw (grown_chg hgr) (q_ge hO.lt (by omega));replace f := Chg.cell (grown_chg hgr) f (q_off hO.lt (by omega));have hKO := hKO.grown hO.own hgr;obtain ⟨A9,c9,rfl⟩ := ownsRow_slice hO2.own;refine cu1 fun K1 hK1 => ?_;go_simp;apply hK1;clear hK1 K1;refine Wops.absS (b := n9) (i := 0) [_] (somes [cellVal f] (by simp) (by intro j v hj;match j,hj with | 0,hj => (simp at hj;subst hj;exact f))) fun P11 hP11 => ?_;have zP11 := hP11.same;replace f9 := hP11.frz f9;replace hCg := hCg.put hP11 (by omega);replace hKp := hKp.put hP11 (by omega);replace hO2 := hO2.put hP11 (by omega);replace hKO := hKO.put hP11 (by omega);replace xr := Put.more xr hP11 (.inr (by simp));replace xw := Put.to xw hP11 (by omega);clear f;have f := hP11.new 0 _ rfl;try simp only [Nat.reduceAdd,Nat.zero_add,Nat.add_zero] at f
         clear hP11;try simp only [Wops_nil,updO_some,updO_none]
         apply hK;clear hK K' gd;refine Ends.keep [9,36,37] ?_;rintro r31 ⟨bq,aR,aY,-⟩;simp [go_sem,bp,au,aQ,aX,a6] at bq aR aY;clear bp au aQ aX a6;refine Ends.mk ?_;refine bNo ?_;refine tNo ?_;refine Wp.loneRegion (.inr ⟨_,rfl⟩) (by kernel_rfl) fun K' gd hK hg => ?_;clear hg;go_simp;apply hK;clear hK K' gd;refine Ends.keep [9,36,37] ?_;rintro r32 ⟨bM,bz,bD,-⟩;simp [go_sem,bq,aR,aY] at bM bz bD;clear bq aR aY;refine Ends.mk ?_;refine thenK_normal ⟨by omega,⟨by rw [bM,ac],by rw [bz,S],trivial⟩,rfl,trivial,?_⟩;exact ⟨_,l ++ [y],by rw [bD,IntWalk.i64_in _ (by omega)];rfl,xr,xw,hCg,hKp,hKO,f,f9,by simpa using hO2,by omega,(),by rw [if_neg (by omega),hy2,addW,if_pos ⟨hy0,hm⟩]⟩
      ·refine cFf ?_;obtain rfl : j = 2 := by omega
       refine Wp.exit ?_;refine tEx ?_;refine tEx ?_;refine blockK_here ?_;refine bNo ?_;refine ⟨hKO.k,⟨⟨xr,f9⟩,?_⟩,hCg,hKp⟩;exact ⟨_,f,by rw [hL1,if_pos hdd,← hx1.choose_spec,← hx2.choose_spec,← show l = addW (addW L0 x1) x2 from hl.choose_spec];exact hO.free,fun q hq => (hO.lt q hq).2.1⟩
    ·skip;refine Wp.block ?_;refine Wp.seq ?_;refine Wp.seqRegion (.inr ⟨_,rfl⟩) (by kernel_rfl) fun K' gd hK hg => ?_;clear hg;refine cu6 fun K1 hK1 => ?_;go_simp;refine Wcall (.inr ⟨_,rfl⟩) (within_F hdd _) ?_;rintro v w5 ⟨rfl,hE⟩;go_simp;apply hK1;clear hK1 K1;replace f9 := hE.fz f f9;replace hO := hO.ext hE;replace hKp := hKp.ext hE;replace hCg := hCg.ext hE;replace hKO := hKO.ext hE;replace xw := xw.trans hE;replace xr := Chg.ext xr hE;replace xk := Chg.ext xk hE;replace f := hE.cell f;clear hE;go_simp;apply hK;clear hK K' gd;refine Wp.keep [9,11,34] ?_;rintro r34 ⟨bQ,bO,bP,-⟩;simp [go_sem,V,ab,N,O] at bQ bO bP;clear V ab N O;refine cTt ?_;refine Wp.exit ?_;refine tEx ?_;refine blockK_here ?_;refine ⟨hKO.k,⟨⟨xr,f9⟩,?_⟩,hCg,hKp⟩;exact ⟨_,f,by rw [hL1,if_neg hdd];exact hO,fun q hq => (hO.lt q hq).2.1⟩
   ·rintro rm g W hrm ⟨⟨xr,gf9⟩,⟨v9,r,hO,hlt⟩⟩ hmk;clear f9;replace xw := Chg.to xw xr XL;clear f;clear gf9;have f := r;clear r;refine bNo ?_;refine tNo ?_;refine sRg fun K' gd hK => ?_;go_simp;apply hK;clear hK K' gd;refine Wp.keep [6,7] ?_;rintro r35 ⟨bE,bH,-⟩;simp [go_sem,ae,af,ad] at bE bH;clear ae af ad;refine Wp.ret ?_;refine endM_tmp2 Tryz.results79 (by decide) (by decide) ((Marks.one (by first | omega | (simp at hrm;omega)) hmk)) fun wz hS => ?_;rw [bE,bH];refine ⟨_,by unfold readE;rw [if_pos h0,if_pos hd],?_,Shut.ext xw hS⟩;rw [if_pos (by unfold readE;rw [if_pos h0,if_pos hd])];rw [show ((n : Int)).toNat = n from rfl,← reads_on hg.sorted n hd.1 hd.2];rw [List.take_length] at hO;exact ((hO.ints).less (by omega)).shut hS
   ·rintro rm c W hrm hf hmk;exact hf.elim
  ·skip;refine skN ?_;refine Wp.seq ?_;refine sRg fun K' gd hK => ?_;refine cu2 fun K1 hK1 => ?_;go_simp;refine Wcall (.inl rfl) (within_F hd _) ?_;rintro v w3 ⟨rfl,hE⟩;go_simp;apply hK1;clear hK1 K1;replace xw := xw.trans hE;clear hE;go_simp;apply hK;clear hK K' gd;refine Wp.keep [1,3,5,22] ?_;rintro r37 ⟨az,a0,ba,aD,-⟩;simp [go_sem,R,U,Y,aa,P] at az a0 ba aD;clear R U Y aa P;refine cTt ?_;refine sRg fun K' gd hK => ?_;go_simp;apply hK;clear hK K' gd;refine Wp.keep [6,7] ?_;rintro r38 ⟨bF,bI,-⟩;simp [go_sem,az,a0,ba,aD] at bF bI;clear az a0 ba aD;refine Wp.ret ?_;refine tRe ?_;refine endM_tmp2 Tryz.results79 (by decide) (by decide) (trivial) fun wz hS => ?_;rw [bF,bI];refine ⟨_,by unfold readE;rw [if_pos h0,if_neg hd],?_,Shut.ext xw hS⟩;rw [if_neg (by unfold readE;rw [if_pos h0,if_neg hd];decide)];exact World.ownsRow_nil _ _ _ _
 ·skip;refine sRg fun K' gd hK => ?_;go_simp;apply hK;clear hK K' gd;refine Wp.keep [1,3,5,8,18] ?_;rintro r39 ⟨aA,a1,bb,be,aw,-⟩;simp [go_sem,Q,T,X,Z] at aA a1 bb be aw;clear Q T X Z;refine cTt ?_;refine sRg fun K' gd hK => ?_;go_simp;apply hK;clear hK K' gd;refine Wp.keep [6,7] ?_;rintro r40 ⟨bG,bJ,-⟩;simp [go_sem,aA,a1,bb,be,aw] at bG bJ;clear aA a1 bb be aw;refine Wp.ret ?_;refine tRe ?_;refine endM_tmp2 Tryz.results79 (by decide) (by decide) (trivial) fun wz hS => ?_;rw [bG,bJ];refine ⟨_,by unfold readE;rw [if_neg h0],?_,Shut.ext xw hS⟩;rw [if_neg (by unfold readE;rw [if_neg h0];exact h0)];exact World.ownsRow_nil _ _ _ _
end Go.Proofs.YtnklbepeoicgpaaGreat.St
namespace Go.Proofs.YtnklbepeoicgpaaGreat.St
open Go.RowKit Go.Wk Go.Proofs
theorem encL_len (l : List (Int × Int)) : (encL l).length = l.length * 2 := by
 induction l with
 | nil => rfl
 | cons s l ih =>
   have e : encL (s :: l) = .int .i64 s.1 :: .int .i64 s.2 :: encL l := rfl;rw [e,List.length_cons,List.length_cons,List.length_cons,ih];omega
theorem encL_set (l : List (Int × Int)) (s : Int × Int) (hi : Int) : (encL (l ++ [s])).take (l.length * 2 + 1) ++ [.int .i64 hi] ++ (encL (l ++ [s])).drop (l.length * 2 + 1 + [Value.int .i64 hi].length) = encL (l ++ [(s.1,hi)]) := by
 have h := encL_len l;rw [encL_add,encL_add,List.take_append,List.drop_append,h,List.take_of_length_le (by omega),List.drop_of_length_le (by simp;omega),show l.length * 2 + 1 - l.length * 2 = 1 by omega,show l.length * 2 + 1 + [Value.int .i64 hi].length - l.length * 2 = 2 by simp;omega];simp
theorem encL_get {l : List (Int × Int)} {k : Nat} {s : Int × Int} (h : l[k]? = some s) : (encL l)[k * 2]? = some (.int .i64 s.1) ∧ (encL l)[k * 2 + 1]? = some (.int .i64 s.2) := by
 induction l generalizing k with
 | nil => simp at h
 | cons a l ih =>
   cases k with
   | zero => simp at h;subst h;exact ⟨rfl,rfl⟩
   | succ k =>
     rw [List.getElem?_cons_succ] at h;have := ih h;have e : encL (a :: l) = .int .i64 a.1 :: .int .i64 a.2 :: encL l := rfl;rw [e,show (k + 1) * 2 = k * 2 + 1 + 1 by omega,List.getElem?_cons_succ,List.getElem?_cons_succ,show k * 2 + 1 + 1 + 1 = k * 2 + 1 + 1 + 1 from rfl,List.getElem?_cons_succ,List.getElem?_cons_succ];exact this
def OwnZ (w : World) (base : Nat) (v : Value) (xs : List (Int × Int)) : Prop := w.ownsRow base 45 2 v xs.length (encL xs)
theorem OwnZ.ext {w w' : World} {base : Nat} {v : Value} {xs : List (Int × Int)} (h : OwnZ w base v xs) (hE : Ext w w') : OwnZ w' base v xs := ownsRow_ext h hE
theorem OwnZ.less {w : World} {base b2 : Nat} {v : Value} {xs : List (Int × Int)} (h : OwnZ w base v xs) (hb : b2 ≤ base) : OwnZ w b2 v xs := ownsRow_less h hb
theorem OwnZ.shut {w w' : World} {m base : Nat} {v : Value} {xs : List (Int × Int)} (h : OwnZ w base v xs) (hS : Shut m w w') : OwnZ w' base v xs := ownsRow_shut h hS
theorem OwnZ.spans {w : World} {base : Nat} {v : Value} {xs : List (Int × Int)} (h : OwnZ w base v xs) : SpansV w w.heap.size v xs := by
 rcases h.2 with ⟨rfl,hn⟩ | ⟨g,cap,cur,rfl,hb,hg,hnc,hcm,hcs,htake⟩
 ·obtain rfl : xs = [] := List.eq_nil_of_length_eq_zero hn;exact ⟨none,0,rfl,fun h => absurd rfl h,Nat.le_refl _⟩
 ·refine ⟨_,cap,rfl,fun _ => ⟨g,0,rfl,(Array.getElem?_eq_some_iff.1 hg).1,fun k hk r u hu => ?_⟩,hnc⟩;obtain ⟨h1,h2⟩ := encL_get (List.getElem?_eq_getElem hk);have cells := World.ownsRow.cells h (g := g) rfl
  match r,hu with
  | 0,hu =>
    have := cells _ _ h1;rw [Addr.add_lit] at this;simp [encZ] at hu;subst hu;simpa using this
  | 1,hu =>
    have := cells _ _ h2;rw [Addr.add_lit] at this;simp [encZ] at hu;subst hu;simpa [Nat.add_assoc] using this
  | r + 2,hu => simp [encZ] at hu
end Go.Proofs.YtnklbepeoicgpaaGreat.St
namespace Go.Proofs.YtnklbepeoicgpaaGreat.St
open Go.RowKit Go.Wk Go.Proofs
attribute [local irreducible] Go.Wk.Wops Go.Wk.Wp Go.Wk.Mtree Go.Wk.Mops
set_option maxHeartbeats 8000000
set_option maxRecDepth 20000
theorem addS_in {P : Int × Int → Prop} {out : List (Int × Int)} {lo hi : Int} (h : ∀ y ∈ out,P y) (h1 : P (lo,hi)) (h2 : ∀ y,P y → P (y.1,hi)) : ∀ y ∈ addS out lo hi,P y := by
 intro y hy
 rcases List.eq_nil_or_concat out with rfl | ⟨l,s,rfl⟩
 ·simp [addS] at hy;subst hy;exact h1
 ·simp only [List.concat_eq_append] at h hy;rw [addS_snoc] at hy
  split at hy
  ·rcases List.mem_append.1 hy with hy | hy
   ·exact h y (by simp [hy])
   ·simp at hy;subst hy;exact h2 s (h s (by simp))
  ·rcases List.mem_append.1 hy with hy | hy
   ·exact h y hy
   ·simp at hy;subst hy;exact h1
theorem whenF_in {w : Int} : ∀ {l : List (Int × Int × Face)} {out : List (Int × Int)},(∀ x ∈ l,0 ≤ x.1 ∧ 0 ≤ x.2.1 ∧ x.2.1 ≤ 730) → (∀ y ∈ out,0 ≤ y.1 ∧ 0 ≤ y.2 ∧ y.2 ≤ 730) → ∀ y ∈ whenF w l out,0 ≤ y.1 ∧ 0 ≤ y.2 ∧ y.2 ≤ 730
 | [],_,_,h,y,hy => h y hy
 | x :: l,out,hl,h,y,hy => by
   have hx := hl x List.mem_cons_self;have e : whenF w (x :: l) out = whenF w l (if rds x.2.2 w = true then addS out x.1 x.2.1 else out) := rfl;rw [e] at hy;refine whenF_in (fun z hz => hl z (List.mem_cons_of_mem _ hz)) (fun z hz => ?_) y hy
   split at hz
   ·exact addS_in (P := fun y => 0 ≤ y.1 ∧ 0 ≤ y.2 ∧ y.2 ≤ 730) h ⟨hx.1,hx.2⟩ (fun y hy => ⟨hy.1,hx.2⟩) z hz
   ·exact h z hz
theorem whenF_snoc (w : Int) (l : List (Int × Int × Face)) (x : Int × Int × Face) (out : List (Int × Int)) : whenF w (l ++ [x]) out = if rds x.2.2 w = true then addS (whenF w l out) x.1 x.2.1 else whenF w l out := by
 unfold whenF;rw [List.foldl_append];rfl
theorem whenF_take {w : Int} {l : List (Int × Int × Face)} {k : Nat} {x : Int × Int × Face} (h : l[k]? = some x) : whenF w (l.take (k + 1)) [] = if rds x.2.2 w = true then addS (whenF w (l.take k) []) x.1 x.2.1 else whenF w (l.take k) [] := by
 rw [take_one h,whenF_snoc]
theorem own_some {w : World} {base g lo hi e size n : Nat} {A : Option Addr} {c : Nat} {xs : List Value} (h : OutG w base g lo hi e size (.slice A n c) n xs) (hn : n ≠ 0) : ∃ b,A = some ⟨b,0,none⟩ := by
 rcases h.own.2 with ⟨-,h⟩ | ⟨g,cap,cur,hv,-⟩
 ·exact absurd h hn
 ·injection hv with e1;exact ⟨g,e1⟩
theorem one_two {u v : Value} (h : u.oneCell' = true) (h2 : v.oneCell' = true) : ∀ x ∈ [u,v],x.oneCell' = true := by
 intro x hx;simp at hx;rcases hx with rfl | rfl <;> assumption
theorem when_c (v : Value) (s : Sh) (n : Nat) (word : Int) (w : World) (hV : SheetV w w.heap.size v s) (hg : Good s) (hnl : n < s.words.length) :
  CallsV Tryz.prog 191 #[v,.int .i64 (n : Int),.int .i64 word] w fun v w' => OwnZ w' w.heap.size v (s.whenL n word) ∧ Ext w w' := by
 obtain ⟨wv,av,rfl,⟨A,c1,rfl,hx,-⟩,⟨A3,c3,rfl,-,-⟩⟩ := id hV;have hA : AltsV w w.heap.size (.slice A3 s.alts.length c3) s.alts := by obtain ⟨wv,av,e,-,h⟩ := hV;injection e with e;simp at e;obtain ⟨-,rfl⟩ := e;exact h
 obtain ⟨b,o,rfl,hb,hc⟩ := hx (by rintro e;rw [e] at hnl;exact absurd hnl (Nat.not_lt_zero _));have yw := hc n hnl;rw [Sh.W_get hnl] at yw;clear hc hx;refine Wp.fnM Tryz.func191 rfl Tryz.ntmps191 (by simp) ?_;have xw := Ext.refl w;refine Wp.keep [0,1,2] ?_;rintro r1 ⟨Z,ag,aj,-⟩;simp [go_sem] at Z ag aj;refine sRg fun K' gd hK => ?_;refine cu1 fun K1 hK1 => ?_;go_simp;apply hK1;clear hK1 K1;refine Wops.absA fun aY n3 L => ?_;obtain ⟨q3,L,s3,S,f3,r3⟩ := L;try simp only [q3] at S f3 r3 ⊢
 replace xw := xw.trans L;replace yw := L.cell yw;have N := S 0 _ rfl;have O := S 1 _ rfl;clear S L;clear r3;refine cu1 fun K1 hK1 => ?_;go_simp;apply hK1;clear hK1 K1;refine Wops.absA fun a1 n5 G => ?_;obtain ⟨q5,G,s5,aD,f5,r5⟩ := G;try simp only [q5] at aD f5 r5 ⊢
 replace xw := xw.trans G;replace yw := G.cell yw;replace N := G.cell N;replace O := G.cell O;have m := aD 0 _ rfl;clear aD G;clear r5;go_simp;apply hK;clear hK K' gd;refine Wp.keep [1,3,5] ?_;rintro r2 ⟨ah,ak,am,-⟩;simp [go_sem,Z,ag,aj] at ah ak am;clear Z ag aj;refine sRg fun K' gd hK => ?_;refine cu1 fun K1 hK1 => ?_;go_simp;apply hK1;clear hK1 K1;refine Wops.absA fun a2 n7 C => ?_;obtain ⟨q7,C,s7,aE,f7,r7⟩ := C;try simp only [q7] at aE f7 r7 ⊢
 replace xw := xw.trans C;replace yw := C.cell yw;replace N := C.cell N;replace O := C.cell O;replace m := C.cell m;have d := aE 0 _ rfl;clear aE C;clear r7;try simp only [Wops_nil,updO_some,updO_none]
 apply hK;clear hK K' gd;refine Wp.keep [1,3,5,7] ?_;rintro r3 ⟨ai,al,an,aw,-⟩;simp [go_sem,ah,ak,am] at ai al an aw;clear ah ak am;refine Wp.seq ?_;refine sRg fun K' gd hK => ?_;refine cu3 fun K1 hK1 => ?_;go_simp;refine Wcall (.inl rfl) (faces_c _ (n : Int) _ _ _ rfl rfl rfl) ?_;rintro v w4 ⟨bs,bi,rfl,hE,y0,y1,yi,lbs,lbi⟩;go_simp;apply hK1;clear hK1 K1;have z4 := Below.size hE;replace f7 := hE.fz d f7;replace xw := xw.trans hE;replace yw := hE.cell yw;replace m := hE.cell m;replace d := hE.cell d;clear hE;try simp only [Wops_nil,updO_some,updO_none]
 apply hK;clear hK K' gd;refine Wp.keep [5,7,13] ?_;rintro r5 ⟨Q,R,P,-⟩;simp [go_sem,ai,al,an,aw] at Q R P;clear ai al an aw;obtain ⟨B0,hB0⟩ : ∃ B0 : Nat,B0 = w4.heap.size := ⟨_,rfl⟩;have l0 := hA.ext xw;have qb : bs < w4.heap.size := cell_lt y0;refine Wp.block ?_;refine Wp.rangeH (faces_it s n bs bi b o _ c1 A3 c3 hnl (by have := hg.m2;omega) (fun a ha => ⟨by have := (hg.rt a ha).2.1;omega,(hg.rt a ha).2.1.2⟩)) (by go_simp) (enters_of Tryz.func187 (by kernel_rfl) rfl) (fun _ _ => rfl) (fun g k W => (Chg [n7] w4 W ∧ (∀ i,W.frozen? ⟨n7,i,none⟩ = false)) ∧ (∃ v,W.cell? ⟨n7,0,none⟩ = some v ∧ OutG W B0 g 0 0 45 2 v (whenF word ((s.faces n).take k) []).length (encL (whenF word ((s.faces n).take k) [])) ∧ (∀ q,v.ownBlock = some q → q < W.heap.size))) (fun _ _ => False) ?_ ?_ ?_ ?_ ?_ ?_ ?_
 ·rintro g k W ⟨⟨xr,gf7⟩,⟨v7,u,hO,hlt⟩⟩;exact FacesD.chg ⟨y0,y1,yi,yw,l0⟩ xr (by simp;omega) (by simp;omega) (by simp;omega) (hA.ext (Chg.to xw xr XL))
 ·refine ⟨?_,?_,?_⟩
  ·rintro g k W W' hA ⟨⟨xr,gf7⟩,⟨v7,u,hO,hlt⟩⟩;refine ⟨⟨Adm.chg hA xr (Nat.le_refl _),Adm.fz hA u gf7⟩,?_⟩;exact ⟨v7,hA.cell u,hO.adm hA,fun q hq => Nat.lt_of_lt_of_le (hlt q hq) hA.size⟩
  ·rintro g k W W' hgn hA ⟨⟨xr,gf7⟩,⟨v7,u,hO,hlt⟩⟩;refine ⟨⟨Chg.more xr hA (mem1 (.inl hgn)),Chg.fz hA u gf7 (by simp;omega)⟩,?_⟩;exact ⟨v7,Chg.cell hA u (by simp;omega),hO.chg hA (by simp),fun q hq => Nat.lt_of_lt_of_le (hlt q hq) (Chg.size hA)⟩
  ·skip;exact fun g x W W' hA h => facC.adm h hA
 ·skip;exact fun _ _ _ _ h => h
 ·intro g W hgn hA;refine ⟨⟨Adm.chg hA (Chg.refl _ _) (Nat.le_refl _),Adm.fz hA d f7⟩,?_⟩;exact ⟨_,hA.cell d,OutG.nil _ _ _ _ _ _ _,fun q hq => by cases hq⟩
 ·rintro l g k x W Wy hx ⟨⟨xr,gf7⟩,⟨v7,u,hO,hlt⟩⟩ hVW hCg hl hgn;have zxr := Chg.size xr;clear f7;replace xw := Chg.to xw xr XL;replace m := Chg.cell xr m XN;clear d;have f7 := gf7;clear gf7;have d := u;clear u;have z6 := Below.size hVW;replace f7 := hVW.fz d f7;replace hO := hO.ext hVW;replace xw := xw.trans hVW;replace xr := Chg.ext xr hVW;replace m := hVW.cell m;replace d := hVW.cell d;have hKp := Held.refl W Wy;have xb := Ext.refl Wy;simp only [encF,List.zip_toArray,List.zip_cons_cons,List.zip_nil_left,putL_cons,putL_nil];refine Wp.keep [5,7,14,15] ?_;rintro r7 ⟨ao,ax,ad,ae,-⟩;simp [go_sem,Q,R,P] at ao ax ad ae;refine Wp.seqRegion (.inr ⟨_,rfl⟩) (by kernel_rfl) fun K' gd hK hg => ?_;clear hg;refine cu2 fun K1 hK1 => ?_;go_simp;apply hK1;clear hK1 K1;refine Wops.absA fun a3 n8 B => ?_;obtain ⟨q8,B,s8,V,f8,r8⟩ := B;try simp only [q8] at V f8 r8 ⊢
  replace f7 := B.fz d f7;replace hO := hO.ext B;replace hKp := hKp.ext B;replace hCg := hCg.ext B;replace xw := xw.trans B;replace xr := Chg.ext xr B;replace xb := xb.trans B;replace m := B.cell m;replace d := B.cell d;have r := V 0 _ rfl;have t := V 1 _ rfl;clear V B;clear r8;try simp only [Wops_nil,updO_some,updO_none]
  apply hK;clear hK K' gd;refine Wp.keep [5,7,8,15] ?_;rintro r8 ⟨ap,ay,aC,af,-⟩;simp [go_sem,ao,ax,ad,ae] at ap ay aC af;clear ao ax ad ae;refine Wp.loneRegion (.inr ⟨_,rfl⟩) (by kernel_rfl) fun K' gd hK hg => ?_;clear hg;refine cu2 fun K1 hK1 => ?_;go_simp;apply hK1;clear hK1 K1;refine Wops.absA fun a4 n9 p => ?_;obtain ⟨q9,p,s9,M,f9,r9⟩ := p;try simp only [q9] at M f9 r9 ⊢
  replace f7 := p.fz d f7;replace hO := hO.ext p;replace hKp := hKp.ext p;replace hCg := hCg.ext p;replace xw := xw.trans p;replace xr := Chg.ext xr p;replace xb := xb.trans p;replace m := p.cell m;replace d := p.cell d;replace r := p.cell r;replace t := p.cell t;have aF := M 0 _ rfl;have aG := M 1 _ rfl;have aH := M 2 _ rfl;clear M p;clear r9;try simp only [Wops_nil,updO_some,updO_none]
  apply hK;clear hK K' gd;refine Ends.keep [5,7,8,9] ?_;rintro r9 ⟨H,I,J,K,-⟩;simp [go_sem,ap,ay,aC,af] at H I J K;clear ap ay aC af;refine Ends.mk ?_;refine tNo ?_;refine ⟨KeepsOthers.of_ext xb,fun W2 hA2 hl2 => ?_⟩;replace f7 := Adm.fz hA2 d f7;replace xw := Adm.toE hA2 xw (by omega);replace xr := Adm.chg hA2 xr (by omega);clear xb;replace hO := hO.adm hA2;replace hKp := hKp.adm hA2;replace hCg := hCg.adm hA2;replace m := Adm.cell hA2 m;replace d := Adm.cell hA2 d;replace r := Adm.cell hA2 r;replace t := Adm.cell hA2 t;replace aF := Adm.cell hA2 aF;replace aG := Adm.cell hA2 aG;replace aH := Adm.cell hA2 aH;obtain ⟨lr,hl2⟩ := hl2;have xk := Chg.refl [n7] W2;have hKO : KeepR W2 W2 := ⟨KeepsOthers.refl _⟩;have zA2 := hA2.size;have hin := whenF_in (w := word) (l := (s.faces n).take k) (out := []) (fun x hx => by have := faces_le (i := n) (f := (s.W n,0,false)) hg.sorted (by decide) x (List.mem_of_mem_take hx);omega) (by simp);obtain ⟨L0,hL0⟩ : ∃ L0,∃ _u : Unit,L0 = whenF word ((s.faces n).take k) [] := ⟨_,(),rfl⟩;have hL1 := whenF_take (w := word) hx;rw [← hL0.choose_spec] at hO hL1 hin;have hLl : L0.length ≤ 1000 := by rw [hL0.choose_spec];have q1 := whenF_len word ((s.faces n).take k) [];have q2 := faces_len n s.alts (s.W n,0,false) 0;have q3 := hg.m2;rw [List.length_take] at q1;unfold Sh.faces at *;simp at q1;omega
  obtain ⟨L2,hL2⟩ : ∃ L2,∃ _u : Unit,L2 = whenF word ((s.faces n).take (k + 1)) [] := ⟨_,(),rfl⟩;rw [← hL2.choose_spec] at hL1 ⊢;replace hO := hO.lohi (l := W.heap.size) (h' := W2.heap.size) hlt;obtain ⟨A7,c7,rfl⟩ := ownsRow_slice hO.own
  by_cases hr : rds x.2.2 word = true
  ·skip;obtain rfl : L2 = addS L0 x.1 x.2.1 := by rw [hL1,if_pos hr]
   refine Wp.block ?_;refine Wp.seq ?_;refine Wp.seqRegion (.inr ⟨_,rfl⟩) (by kernel_rfl) fun K' gd hK hg => ?_;clear hg;refine cu3 fun K1 hK1 => ?_;go_simp;refine Wcall (.inr ⟨_,rfl⟩) (reads_c _ _ _ _ _) ?_;rintro v w5 ⟨rfl,hE⟩;go_simp;apply hK1;clear hK1 K1;have z10 := Below.size hE;replace f7 := hE.fz d f7;replace hO := hO.ext hE;replace hKp := hKp.ext hE;replace hCg := hCg.ext hE;replace hKO := hKO.ext hE;replace xw := xw.trans hE;replace xr := Chg.ext xr hE;replace xk := Chg.ext xk hE;replace d := hE.cell d;replace r := hE.cell r;replace t := hE.cell t;clear hE;go_simp;apply hK;clear hK K' gd;refine Wp.keep [7,8,19] ?_;rintro r11 ⟨E,F,D,-⟩;simp [go_sem,H,I,J,K] at E F D;clear H I J K;refine cFf ?_
   by_cases hne : L0 = []
   ·skip;subst hne;refine skN ?_;refine Wp.seqRegion (.inr ⟨_,rfl⟩) (by kernel_rfl) fun K' gd hK hg => ?_;clear hg;go_simp;apply hK;clear hK K' gd;refine Wp.keep [7,8,10] ?_;rintro r12 ⟨aq,az,aa,-⟩;simp [go_sem,E,F,D] at aq az aa;clear E F D;refine Wp.seqDraw (.inr ⟨_,rfl⟩) mixed [([0,1,2],none),([3,4,5,6,7],none),([8,9,10,11,12],none),([13],none)] (by kernel_rfl) fun K' gd hK hg => ?_;have g2 : gd 2 = some 24 := hg 2;clear hg;simp only [pick,nth,List.map_cons,List.map_nil,Option.map_none,Option.map_some];refine Mops.absD fun D9 hD9 zD9 => ?_;replace f7 := hD9.fz d f7;replace hO := hO.ext hD9;replace hKp := hKp.ext hD9;replace hCg := hCg.ext hD9;replace hKO := hKO.ext hD9;replace xw := xw.trans hD9;replace xr := Chg.ext xr hD9;replace xk := Chg.ext xk hD9;replace d := hD9.cell d;replace r := hD9.cell r;replace t := hD9.cell t;clear hD9;apply Mops.none
    ·intro w' hE';go_simp;with_reducible rfl
    apply Mops.none
    ·intro w' hE';go_simp;with_reducible rfl
    apply Mops.none
    ·intro w' hE';go_simp;with_reducible rfl
    apply Mops.none
    ·intro w' hE';go_simp;with_reducible rfl
    refine Mops.done ?_;apply hK;clear hK K' gd g2;refine Wp.keep [7,8,10,35] ?_;rintro r13 ⟨aP,aS,aI,aL,-⟩;simp [go_sem,aq,az,aa] at aP aS aI aL;clear aq az aa;refine cFf ?_;refine Wp.loneRegion (.inr ⟨_,rfl⟩) (by kernel_rfl) fun K' gd hK hg => ?_;clear hg;refine cu3 fun K1 hK1 => ?_;go_simp;apply hK1;clear hK1 K1;refine Wops.absA fun aZ n45 y => ?_;obtain ⟨q45,y,s45,T,f45,r45⟩ := y;try simp only [q45] at T f45 r45 ⊢
    replace f7 := y.fz d f7;replace hO := hO.ext y;replace hKp := hKp.ext y;replace hCg := hCg.ext y;replace hKO := hKO.ext y;replace xw := xw.trans y;replace xr := Chg.ext xr y;replace xk := Chg.ext xk y;replace d := y.cell d;clear y f45;have X := T 0 _ rfl;have Y := T 1 _ rfl;clear T;refine cu1 fun K1 hK1 => ?_;obtain ⟨v',w7,hrun,hO2,hgr⟩ := OutG.app spans_T hO ⟨n45,0,none⟩ 1 1 [.int .i64 x.1,.int .i64 x.2.1] 29 rfl (news_two X Y) (one_two rfl rfl) (by simp) (by omega) (by have := FaceC.lt hCg;omega) (by omega);refine Wops.law rfl (exec_append2 rfl hrun (by go_simp) (by go_simp)) ?_;simp only [updO_some,Wops_nil];apply hK1;clear hK1 K1;replace f7 := Chg.fz (grown_chg hgr) d f7 (q_off hO.lt (by omega));replace hKp := hKp.chg (grown_chg hgr) (by first | (intro b hb;exact (q_off hO.lt (by omega))) | exact (q_off hO.lt (by omega)));replace hCg := hCg.chg (grown_chg hgr) (by first | (intro b hb;exact (q_off hO.lt (by omega))) | exact (q_off hO.lt (by omega)));replace xw := Chg.to xw (grown_chg hgr) (q_ge hO.lt (by omega));replace xr := Chg.more xr (grown_chg hgr) (q_gm hO.lt (by omega));replace d := Chg.cell (grown_chg hgr) d (q_off hO.lt (by omega));have hKO := hKO.grown hO.own hgr;obtain ⟨A9,c9,rfl⟩ := ownsRow_slice hO2.own
    refine cu1 fun K1 hK1 => ?_;go_simp;apply hK1;clear hK1 K1;refine Wops.absS (b := n7) (i := 0) [_] (somes [cellVal d] (by simp) (by intro j v hj;match j,hj with | 0,hj => (simp at hj;subst hj;exact d))) fun P11 hP11 => ?_;replace f7 := hP11.frz f7;replace hKp := hKp.put hP11 (by omega);replace hCg := hCg.put hP11 (by omega);replace hO2 := hO2.put hP11 (by omega);replace hKO := hKO.put hP11 (by omega);replace xw := Put.to xw hP11 (by omega);replace xr := Put.more xr hP11 (.inr (by simp));clear d;have d := hP11.new 0 _ rfl;try simp only [Nat.reduceAdd,Nat.zero_add,Nat.add_zero] at d
    clear hP11;try simp only [Wops_nil,updO_some,updO_none]
    apply hK;clear hK K' gd;refine Ends.keep [] fun r15 hkeep => ?_;clear hkeep;clear aP aS aI aL;refine Ends.mk ?_;refine bNo ?_;refine ⟨hKO.k,⟨⟨xr,f7⟩,?_⟩,hCg,hKp⟩;exact ⟨_,d,hO2.free,fun q hq => (hO2.lt q hq).2.1⟩
   ·skip;obtain ⟨l,s0,rfl⟩ : ∃ l s0,L0 = l ++ [s0] := by rcases List.eq_nil_or_concat L0 with h | ⟨l,s0,h⟩;(exact absurd h hne);(exact ⟨l,s0,by rw [h,List.concat_eq_append]⟩)
    obtain ⟨b7,rfl⟩ := own_some hO (by simp);simp only [List.length_append,List.length_cons,List.length_nil,Nat.zero_add] at d hO hLl;have d1 : w5.cell? ⟨b7,l.length * 2 + 1,none⟩ = some (.int .i64 s0.2) := by have := World.ownsRow.cells hO.own (g := b7) rfl _ _ (encL_get (l := l ++ [s0]) (k := l.length) (s := s0) (by simp)).2;rw [Addr.add_lit] at this;simpa using this
    have hs0 := hin s0 (by simp);have hw1 : IntKind.i64.wrap (l.length : Int) = (l.length : Int) := IntWalk.i64_in _ (by omega);have hw2 : IntKind.i64.wrap (s0.2 + 1) = s0.2 + 1 := IntWalk.i64_in _ (by omega);have hxb := faces_le (i := n) (f := (s.W n,0,false)) hg.sorted (by decide) x (List.mem_of_getElem? hx);have hw3 : IntKind.i64.wrap x.1 = x.1 := IntWalk.i64_in _ (by omega);have hgt : (0 : Int) < (l.length : Int) + 1 := by omega
    have hgl : (l.length : Int) < (l.length : Int) + 1 := by omega
    have fb := own_fz hO.own;have hb7 := hO.lt b7 rfl
    by_cases he : s0.2 + 1 = x.1
    ·skip;refine skN ?_;refine Wp.seqRegion (.inr ⟨_,rfl⟩) (by kernel_rfl) fun K' gd hK hg => ?_;clear hg;go_simp;apply hK;clear hK K' gd;refine Wp.keep [7,8,10] ?_;rintro r16 ⟨ar,aA,ab,-⟩;simp [go_sem,E,F,D] at ar aA ab;clear E F D;refine Wp.seqDraw (.inr ⟨_,rfl⟩) mixed [([0,1,2],none),([3,4,5,6,7],none),([8,9,10,11,12],none),([13],none)] (by kernel_rfl) fun K' gd hK hg => ?_;have g2 : gd 2 = some 24 := hg 2;clear hg;simp only [pick,nth,List.map_cons,List.map_nil,Option.map_none,Option.map_some];refine Mops.absD fun D12 hD12 zD12 => ?_;replace f7 := hD12.fz d f7;replace fb := hD12.fz d1 fb;replace hO := hO.ext hD12;replace hKp := hKp.ext hD12;replace hCg := hCg.ext hD12;replace hKO := hKO.ext hD12;replace xw := xw.trans hD12;replace xr := Chg.ext xr hD12;replace xk := Chg.ext xk hD12;replace d := hD12.cell d;replace r := hD12.cell r;replace t := hD12.cell t;replace d1 := hD12.cell d1;clear hD12;apply Mops.none
     ·intro w' hE';go_simp;with_reducible rfl
     refine mNo ?_
     refine mNo ?_
     apply Mops.none
     ·intro w' hE';go_simp;with_reducible rfl
     refine Mops.done ?_;apply hK;clear hK K' gd g2;refine Wp.keep [7,8,10,35] ?_;rintro r17 ⟨aQ,aT,aJ,aM,-⟩;simp [go_sem,ar,aA,ab] at aQ aT aJ aM;clear ar aA ab;refine cTt ?_;refine Wp.loneRegion (.inr ⟨_,rfl⟩) (by kernel_rfl) fun K' gd hK hg => ?_;clear hg;refine cu8 fun K1 hK1 => ?_;go_simp;apply hK1;clear hK1 K1;refine Wops.absS (b := b7) (i := l.length * 2 + 1) [_] (some1 d1) fun P9 hP9 => ?_;replace f7 := hP9.frz f7;replace hKp := hKp.put hP9 (by omega);replace hCg := hCg.put hP9 (by omega);replace xw := Put.to xw hP9 (by omega);replace xr := Put.more xr hP9 (.inl (by omega));replace d := hP9.cell d (by omega);try simp only [Wops_nil,updO_some,updO_none]
     apply hK;clear hK K' gd;refine Ends.keep [] fun r18 hkeep => ?_;clear hkeep;clear aQ aT aJ aM;refine Ends.mk ?_;refine bNo ?_;replace hO := hO.store hP9 (by simp;omega);have hKO := hKO.put hP9 rfl;have e := encL_set l s0 x.2.1;refine ⟨hKO.k,⟨⟨xr,f7⟩,?_⟩,hCg,hKp⟩;rw [addS_snoc,if_pos he];exact ⟨_,d,by rw [← e];simpa using hO.free,fun q hq => (hO.lt q hq).2.1⟩
    ·skip;refine skN ?_;refine Wp.seqRegion (.inr ⟨_,rfl⟩) (by kernel_rfl) fun K' gd hK hg => ?_;clear hg;go_simp;apply hK;clear hK K' gd;refine Wp.keep [7,8,10] ?_;rintro r19 ⟨au,aB,ac,-⟩;simp [go_sem,E,F,D] at au aB ac;clear E F D;refine Wp.seqDraw (.inr ⟨_,rfl⟩) mixed [([0,1,2],none),([3,4,5,6,7],none),([8,9,10,11,12],none),([13],none)] (by kernel_rfl) fun K' gd hK hg => ?_;have g2 : gd 2 = some 24 := hg 2;clear hg;simp only [pick,nth,List.map_cons,List.map_nil,Option.map_none,Option.map_some];refine Mops.absD fun D14 hD14 zD14 => ?_;replace f7 := hD14.fz d f7;replace hO := hO.ext hD14;replace hKp := hKp.ext hD14;replace hCg := hCg.ext hD14;replace hKO := hKO.ext hD14;replace xw := xw.trans hD14;replace xr := Chg.ext xr hD14;replace xk := Chg.ext xk hD14;replace d := hD14.cell d;replace r := hD14.cell r;replace t := hD14.cell t;replace d1 := hD14.cell d1;clear hD14;apply Mops.none
     ·intro w' hE';go_simp;with_reducible rfl
     refine mNo ?_
     refine mNo ?_
     apply Mops.none
     ·intro w' hE';go_simp;with_reducible rfl
     refine Mops.done ?_;apply hK;clear hK K' gd g2;refine Wp.keep [7,8,10,35] ?_;rintro r20 ⟨aR,aU,aK,aN,-⟩;simp [go_sem,au,aB,ac] at aR aU aK aN;clear au aB ac;refine cFf ?_;refine Wp.loneRegion (.inr ⟨_,rfl⟩) (by kernel_rfl) fun K' gd hK hg => ?_;clear hg;refine cu3 fun K1 hK1 => ?_;go_simp;apply hK1;clear hK1 K1;refine Wops.absA fun a0 n45 z => ?_;obtain ⟨q45,z,s45,U,f45,r45⟩ := z;try simp only [q45] at U f45 r45 ⊢
     replace f7 := z.fz d f7;replace hO := hO.ext z;replace hKp := hKp.ext z;replace hCg := hCg.ext z;replace hKO := hKO.ext z;replace xw := xw.trans z;replace xr := Chg.ext xr z;replace xk := Chg.ext xk z;replace d := z.cell d;clear z f45;have X := U 0 _ rfl;have Y := U 1 _ rfl;clear U;refine cu1 fun K1 hK1 => ?_;obtain ⟨v',w7,hrun,hO2,hgr⟩ := OutG.app spans_T hO ⟨n45,0,none⟩ 1 1 [.int .i64 x.1,.int .i64 x.2.1] 29 rfl (news_two X Y) (one_two rfl rfl) (by omega) (by omega) (by have := FaceC.lt hCg;omega) (by omega);refine Wops.law rfl (exec_append2 rfl hrun (by go_simp) (by go_simp)) ?_;simp only [updO_some,Wops_nil];apply hK1;clear hK1 K1;replace f7 := Chg.fz (grown_chg hgr) d f7 (q_off hO.lt (by omega));replace hKp := hKp.chg (grown_chg hgr) (by first | (intro b hb;exact (q_off hO.lt (by omega))) | exact (q_off hO.lt (by omega)));replace hCg := hCg.chg (grown_chg hgr) (by first | (intro b hb;exact (q_off hO.lt (by omega))) | exact (q_off hO.lt (by omega)));replace xw := Chg.to xw (grown_chg hgr) (q_ge hO.lt (by omega));replace xr := Chg.more xr (grown_chg hgr) (q_gm hO.lt (by omega));replace d := Chg.cell (grown_chg hgr) d (q_off hO.lt (by omega));have hKO := hKO.grown hO.own hgr;obtain ⟨A9,c9,rfl⟩ := ownsRow_slice hO2.own
     refine cu1 fun K1 hK1 => ?_;go_simp;apply hK1;clear hK1 K1;refine Wops.absS (b := n7) (i := 0) [_] (somes [cellVal d] (by simp) (by intro j v hj;match j,hj with | 0,hj => (simp at hj;subst hj;exact d))) fun P16 hP16 => ?_;replace f7 := hP16.frz f7;replace hKp := hKp.put hP16 (by omega);replace hCg := hCg.put hP16 (by omega);replace hO2 := hO2.put hP16 (by omega);replace hKO := hKO.put hP16 (by omega);replace xw := Put.to xw hP16 (by omega);replace xr := Put.more xr hP16 (.inr (by simp));clear d;have d := hP16.new 0 _ rfl;try simp only [Nat.reduceAdd,Nat.zero_add,Nat.add_zero] at d
     clear hP16;try simp only [Wops_nil,updO_some,updO_none]
     apply hK;clear hK K' gd;refine Ends.keep [] fun r22 hkeep => ?_;clear hkeep;clear aR aU aK aN;refine Ends.mk ?_;refine bNo ?_;refine ⟨hKO.k,⟨⟨xr,f7⟩,?_⟩,hCg,hKp⟩;rw [addS_snoc,if_neg he];exact ⟨_,d,by rw [encL_add (l ++ [s0]) (x.1,x.2.1),List.length_append,List.length_append];exact hO2.free,fun q hq => (hO2.lt q hq).2.1⟩
  ·skip;obtain rfl : L2 = L0 := by rw [hL1,if_neg hr]
   refine Wp.block ?_;refine Wp.seq ?_;refine Wp.seqRegion (.inr ⟨_,rfl⟩) (by kernel_rfl) fun K' gd hK hg => ?_;clear hg;refine cu3 fun K1 hK1 => ?_;go_simp;refine Wcall (.inr ⟨_,rfl⟩) (reads_c _ _ _ _ _) ?_;rintro v w5 ⟨rfl,hE⟩;go_simp;apply hK1;clear hK1 K1;replace f7 := hE.fz d f7;replace hO := hO.ext hE;replace hKp := hKp.ext hE;replace hCg := hCg.ext hE;replace hKO := hKO.ext hE;replace xw := xw.trans hE;replace xr := Chg.ext xr hE;replace xk := Chg.ext xk hE;replace d := hE.cell d;clear hE;go_simp;apply hK;clear hK K' gd;refine Wp.keep [7,8,19] ?_;rintro r24 ⟨aW,aX,aV,-⟩;simp [go_sem,H,I,J,K] at aW aX aV;clear H I J K;refine cTt ?_;refine Wp.exit ?_;refine tEx ?_;refine blockK_here ?_;refine ⟨hKO.k,⟨⟨xr,f7⟩,?_⟩,hCg,hKp⟩;exact ⟨_,d,hO.free,fun q hq => (hO.lt q hq).2.1⟩
 ·rintro rm g W hrm ⟨⟨xr,gf7⟩,⟨v7,u,hO,hlt⟩⟩ hmk;clear f7;replace xw := Chg.to xw xr XL;clear d;clear gf7;have d := u;clear u;refine bNo ?_;refine tNo ?_;refine sRg fun K' gd hK => ?_;go_simp;apply hK;clear hK K' gd;refine Wp.keep [6] ?_;rintro r25 ⟨aO,-⟩;simp [go_sem,Q,R,P] at aO;clear Q R P;refine Wp.ret ?_;refine endM_tmp Tryz.results191 (by decide) ((Marks.one (by first | omega | (simp at hrm;omega)) hmk)) fun wz hS => ?_;rw [aO];exact ⟨by rw [List.take_length] at hO;exact (show OwnZ _ _ _ (s.whenL n word) from (ownsRow_less hO.own (by omega))).shut hS,Shut.ext xw hS⟩
 ·rintro rm c W hrm hf hmk;exact hf.elim
end Go.Proofs.YtnklbepeoicgpaaGreat.St
namespace Go.Proofs.YtnklbepeoicgpaaGreat.St
open Go.RowKit Go.Wk Go.Proofs
section
variable {W V : World} {b : Nat} {xs : List Int}
end
def TabZ (w : World) (base : Nat) (v : Value) (t : List (List (Int × Int))) : Prop :=
 ∃ vs,w.ownsRow base 29 1 v t.length vs ∧ ∀ i (h : i < t.length),∃ u,vs[i]? = some u ∧ OwnZ w base u t[i]
def TabV (w : World) (B : Nat) (v : Value) (t : List (List (Int × Int))) : Prop :=
 ∃ (A : Option Addr) (c : Nat),v = .slice A t.length c ∧ (t ≠ [] → ∃ b o,A = some ⟨b,o,none⟩ ∧ b < B ∧ ∀ i (h : i < t.length),∃ u,w.cell? ⟨b,o + i,none⟩ = some u ∧ SpansV w B u t[i]) ∧ t.length ≤ c
section
variable {w w' : World} {base B B' : Nat} {v : Value} {t : List (List (Int × Int))}
theorem TabZ.ext (h : TabZ w base v t) (hE : Ext w w') : TabZ w' base v t := by
 obtain ⟨vs,h1,h2⟩ := h;exact ⟨vs,ownsRow_ext h1 hE,fun i hi => by obtain ⟨u,h3,h4⟩ := h2 i hi;exact ⟨u,h3,h4.ext hE⟩⟩
theorem TabZ.chg {L : List Nat} (h : TabZ w base v t) (hC : Chg L w w') (hL : ∀ b ∈ L,b < base) : TabZ w' base v t := by
 obtain ⟨vs,h1,h2⟩ := h;have off : ∀ {e size n u xs},w.ownsRow base e size u n xs → ∀ b,u.ownBlock = some b → b ∉ L := fun ho b hb hm => by have := (ho.lt b hb).1;have := hL b hm;omega
 exact ⟨vs,ownsRow_chg h1 hC (off h1),fun i hi => by obtain ⟨u,h3,h4⟩ := h2 i hi;exact ⟨u,h3,ownsRow_chg h4 hC (off h4)⟩⟩
theorem TabZ.put {k i : Nat} {vs : List Value} (h : TabZ w base v t) (p : Put w w' k i vs) (hb : k < base) : TabZ w' base v t := h.chg p.chg (by simpa using hb)
theorem TabZ.nil (w : World) (base : Nat) : TabZ w base (.slice none 0 0) [] := ⟨[],World.ownsRow_nil _ _ _ _,fun i hi => by cases hi⟩
theorem TabZ.slice (h : TabZ w base v t) : ∃ A c,v = .slice A t.length c := by obtain ⟨vs,h,-⟩ := h;exact ownsRow_slice h
theorem TabZ.lt (h : TabZ w base v t) : ∀ k,v.ownBlock = some k → base ≤ k ∧ k < w.heap.size := by obtain ⟨vs,h,-⟩ := h;exact h.lt
theorem tabZ_T : ElemT Tryz.prog 136 29 1 := elemT_of (by kernel_rfl)
theorem TabZ.app (h : TabZ w base v t) {u : Value} {z : List (Int × Int)} (hu : OwnZ w base u z) {k : Nat} (hk : w.cell? ⟨k,0,none⟩ = some u) (hn : t.length ≤ 1000000) (hb : base ≤ w.heap.size) (ty : TypeId) :
  ∃ v' w',(Builtin.append_ #[136,136] ty #[v,.slice (some ⟨k,0,none⟩) 1 1]).run Tryz.prog w = .ok v' w' ∧ TabZ w' base v' (t ++ [z]) ∧ w.grownBy w' v.ownBlock := by
 obtain ⟨vs,h1,h2⟩ := h;obtain ⟨v',w',hr,ho,hg,-⟩ := app_run tabZ_T h1 ⟨k,0,none⟩ 1 1 [u] ty rfl (news_one hk) (one_one (own_one hu)) (by omega) hb;have keep : ∀ {x : Value} {y : List (Int × Int)},OwnZ w base x y → OwnZ w' base x y := fun hx => World.ownsRow.kept hx hg (own_ne hx h1 (by decide));refine ⟨v',w',hr,⟨vs ++ [u],by simpa using ho,fun i hi => ?_⟩,hg⟩;have hl : vs.length = t.length := by have := h1.1;omega
 rcases Nat.lt_or_ge i t.length with hi2 | hi2
 ·obtain ⟨x,h3,h4⟩ := h2 i hi2;exact ⟨x,by rw [List.getElem?_append_left (by omega)];exact h3,by rw [List.getElem_append_left hi2];exact keep h4⟩
 ·obtain rfl : i = t.length := by simp at hi;omega
  exact ⟨u,by rw [List.getElem?_append_right (by omega),hl];simp,by simpa using keep hu⟩
theorem TabZ.tabV (h : TabZ w base v t) : TabV w w.heap.size v t := by
 obtain ⟨vs,h1,h2⟩ := h
 rcases h1.2 with ⟨rfl,hn⟩ | ⟨g,cap,cur,rfl,hb,hg,hnc,hcm,hcs,htake⟩
 ·obtain rfl : t = [] := List.eq_nil_of_length_eq_zero hn;exact ⟨none,0,rfl,fun h => absurd rfl h,Nat.le_refl _⟩
 ·refine ⟨_,cap,rfl,fun _ => ⟨g,0,rfl,(Array.getElem?_eq_some_iff.1 hg).1,fun i hi => ?_⟩,hnc⟩;obtain ⟨u,h3,h4⟩ := h2 i hi;have := World.ownsRow.cells h1 (g := g) rfl _ _ h3;rw [Addr.add_lit] at this;exact ⟨u,this,h4.spans⟩
theorem TabV.below (h : TabV w B v t) (hb : Below B w w') : TabV w' B v t := by
 obtain ⟨A,c,hv,hx,hcap⟩ := h
 exact ⟨A,c,hv,fun hne => by
  obtain ⟨b,o,hA,hlt,hc⟩ := hx hne
  exact ⟨b,o,hA,hlt,fun i hi => by obtain ⟨u,h1,h2⟩ := hc i hi;exact ⟨u,(hb.cell (p := ⟨b,o + i,none⟩) hlt).trans h1,h2.below hb⟩⟩,hcap⟩
theorem TabV.more (h : TabV w B v t) (hB : B ≤ B') : TabV w B' v t := by
 obtain ⟨A,c,hv,hx,hcap⟩ := h
 exact ⟨A,c,hv,fun hne => by
  obtain ⟨b,o,hA,hlt,hc⟩ := hx hne
  exact ⟨b,o,hA,by omega,fun i hi => by obtain ⟨u,h1,h2⟩ := hc i hi;exact ⟨u,h1,h2.more hB⟩⟩,hcap⟩
theorem TabV.ext (h : TabV w w.heap.size v t) (hE : Ext w w') : TabV w' w'.heap.size v t := (h.below hE).more hE.size
theorem TabV.row {A : Option Addr} {n c : Nat} (h : TabV w B (.slice A n c) t) {i : Nat} (hi : i < t.length) : ∃ b o u,A = some ⟨b,o,none⟩ ∧ b < B ∧ n = t.length ∧ w.cell? ⟨b,o + i,none⟩ = some u ∧ SpansV w B u t[i] := by
 obtain ⟨A',c',hv,hx,-⟩ := h
 injection hv with h1 h2 h3;subst h1
 obtain ⟨b,o,hA,hb,hc⟩ := hx (by rintro rfl;exact absurd hi (Nat.not_lt_zero _));obtain ⟨u,h4,h5⟩ := hc i hi;exact ⟨b,o,u,hA,hb,h2,h4,h5⟩
end
def MadeV (w : World) (B : Nat) (v : Value) (m : Md) : Prop := ∃ wv tv,v = .agg #[wv,.int .i64 m.c.b,.int .i64 m.c.e,.int .i64 m.c.p,tv] ∧ IntsV w B wv m.c.words ∧ TabV w B tv m.tab
theorem MadeV.ext {w w' : World} {v : Value} {m : Md} (h : MadeV w w.heap.size v m) (hE : Ext w w') : MadeV w' w'.heap.size v m := by
 obtain ⟨wv,tv,h1,h2,h3⟩ := h;exact ⟨wv,tv,h1,h2.ext hE,h3.ext hE⟩
theorem MadeV.five {w : World} {B : Nat} {v : Value} {m : Md} (h : MadeV w B v m) : ∃ A c A2 c2,v = .agg #[.slice A m.n c,.int .i64 m.c.b,.int .i64 m.c.e,.int .i64 m.c.p,.slice A2 m.tab.length c2] := by
 obtain ⟨wv,tv,rfl,⟨A,c,rfl,-⟩,⟨A2,c2,rfl,-⟩⟩ := h;exact ⟨A,c,A2,c2,rfl⟩
end Go.Proofs.YtnklbepeoicgpaaGreat.St
namespace Go.Proofs.YtnklbepeoicgpaaGreat.St
open Go.RowKit Go.Wk Go.Proofs
section
variable {w w' : World} {base b2 : Nat} {v : Value} {xs : List Int}
end
theorem TabZ.less {w : World} {base b2 : Nat} {v : Value} {t : List (List (Int × Int))} (h : TabZ w base v t) (hb : b2 ≤ base) : TabZ w b2 v t := by
 obtain ⟨vs,h1,h2⟩ := h;exact ⟨vs,ownsRow_less h1 hb,fun i hi => by obtain ⟨u,h3,h4⟩ := h2 i hi;exact ⟨u,h3,h4.less hb⟩⟩
def MadeB (w : World) (base : Nat) (v : Value) (m : Md) (wv : Value) : Prop := ∃ tv,v = .agg #[wv,.int .i64 m.c.b,.int .i64 m.c.e,.int .i64 m.c.p,tv] ∧ TabZ w base tv m.tab
section
variable {w w' : World} {base b2 : Nat} {v wv : Value} {m : Md}
theorem MadeB.ext (h : MadeB w base v m wv) (hE : Ext w w') : MadeB w' base v m wv := by obtain ⟨tv,h1,h2⟩ := h;exact ⟨tv,h1,h2.ext hE⟩
theorem MadeB.put {k i : Nat} {vs : List Value} (h : MadeB w base v m wv) (p : Put w w' k i vs) (hb : k < base) : MadeB w' base v m wv := by obtain ⟨tv,h1,h2⟩ := h;exact ⟨tv,h1,h2.put p hb⟩
theorem MadeB.chg {L : List Nat} (h : MadeB w base v m wv) (hC : Chg L w w') (hL : ∀ b ∈ L,b < base) : MadeB w' base v m wv := by obtain ⟨tv,h1,h2⟩ := h;exact ⟨tv,h1,h2.chg hC hL⟩
theorem MadeB.less (h : MadeB w base v m wv) (hb : b2 ≤ base) : MadeB w b2 v m wv := by obtain ⟨tv,h1,h2⟩ := h;exact ⟨tv,h1,h2.less hb⟩
theorem MadeB.made (h : MadeB w base v m wv) (hW : IntsV w w.heap.size wv m.c.words) : MadeV w w.heap.size v m := by obtain ⟨tv,h1,h2⟩ := h;exact ⟨wv,tv,h1,hW,h2.tabV⟩
theorem MadeB.two (h : MadeB w base v m wv) : ∃ A n c,v = .agg #[wv,.int .i64 m.c.b,.int .i64 m.c.e,.int .i64 m.c.p,.slice A n c] := by
 obtain ⟨tv,h1,h2⟩ := h;obtain ⟨A,c,rfl⟩ := h2.slice;exact ⟨A,_,c,h1⟩
end
end Go.Proofs.YtnklbepeoicgpaaGreat.St
namespace Go.Proofs.YtnklbepeoicgpaaGreat.St
open Go.RowKit Go.Wk Go.Proofs
attribute [local irreducible] Go.Wk.Wops Go.Wk.Wp Go.Wk.Mtree Go.Wk.Mops
set_option maxHeartbeats 8000000
set_option maxRecDepth 20000
theorem OwnZ.nil (w : World) (base : Nat) : OwnZ w base (.slice none 0 0) [] := World.ownsRow_nil _ _ _ _
theorem TabZ.slice2 {w : World} {base : Nat} {v : Value} {t : List (List (Int × Int))} (h : TabZ w base v t) : ∃ A n c,v = .slice A n c := by obtain ⟨A,c,h⟩ := h.slice;exact ⟨A,_,c,h⟩
theorem Cp.W_get {c : Cp} {i : Nat} (h : i < c.words.length) : c.words[i] = c.W i := by unfold Cp.W;rw [List.getElem?_eq_getElem h];rfl
theorem Sh.tab_take {s : Sh} {c : Cp} {k : Nat} (h : k < c.words.length) : (s.tab c).take (k + 1) = (s.tab c).take k ++ [s.whenL k (c.W k)] := by
 refine take_one ?_;unfold Sh.tab;simp [h]
theorem Sh.tab_len (s : Sh) (c : Cp) : (s.tab c).length = c.words.length := by simp [Sh.tab]
theorem madeB_c (v u : Value) (s : Sh) (c : Cp) (w : World) (hV : SheetV w w.heap.size v s) (hU : CopyV w w.heap.size u c) (hg : Good s) (hv : ValidC s c) :
  CallsV Tryz.prog 164 #[v,u] w fun v w' => (∃ wu,u = .agg #[wu,.int .i64 c.b,.int .i64 c.e,.int .i64 c.p] ∧ MadeB w' w.heap.size v (s.md c) wu) ∧ Ext w w' := by
 obtain ⟨wv,av,rfl,⟨A,c1,rfl,-,-⟩,⟨A3,c3,rfl,-,-⟩⟩ := id hV;obtain ⟨wu,rfl,hW⟩ := id hU;obtain ⟨A2,c2,rfl,hx,-⟩ := id hW;have hcl : ∃ _u : Unit,c.words.length = s.words.length := ⟨(),hv.1⟩;have hc40 : c.words.length ≤ 40 := by have := hg.n2;have := hv.1;omega
 have htl := Sh.tab_len s c;refine Wp.fn Tryz.func164 rfl Tryz.ntmps164 (by simp) ?_;have xw := Ext.refl w;refine Wp.keep [0,1] ?_;rintro r1 ⟨S,ae,-⟩;simp [go_sem] at S ae;refine sRg fun K' gd hK => ?_;refine cu1 fun K1 hK1 => ?_;go_simp;apply hK1;clear hK1 K1;refine Wops.absA fun aW n2 P => ?_;obtain ⟨q2,P,s2,Q,f2,r2⟩ := P;try simp only [q2] at Q f2 r2 ⊢
 replace xw := xw.trans P;have r := Q 0 _ rfl;have t := Q 1 _ rfl;clear Q P;clear r2;refine cu1 fun K1 hK1 => ?_;go_simp;apply hK1;clear hK1 K1;refine Wops.absA fun aX n3 G => ?_;obtain ⟨q3,G,s3,H,f3,r3⟩ := G;try simp only [q3] at H f3 r3 ⊢
 replace xw := xw.trans G;replace r := G.cell r;replace t := G.cell t;have D := H 0 _ rfl;have aE := H 1 _ rfl;have aF := H 2 _ rfl;have aG := H 3 _ rfl;clear H G;clear r3;refine cu1 fun K1 hK1 => ?_;go_simp;apply hK1;clear hK1 K1;refine Wops.absA fun aY n4 C => ?_;obtain ⟨q4,C,s4,E,f4,r4⟩ := C;try simp only [q4] at E f4 r4 ⊢
 replace xw := xw.trans C;replace r := C.cell r;replace t := C.cell t;replace D := C.cell D;replace aE := C.cell aE;replace aF := C.cell aF;replace aG := C.cell aG;have f := E 0 _ rfl;have x := E 1 _ rfl;have y := E 2 _ rfl;have z := E 3 _ rfl;have B := E 4 _ rfl;clear E C;clear r4;try simp only [Wops_nil,updO_some,updO_none]
 apply hK;clear hK K' gd;refine Wp.keep [2,3,4] ?_;rintro r2 ⟨ag,al,ao,-⟩;simp [go_sem,S,ae] at ag al ao;clear S ae;refine sRg fun K' gd hK => ?_;refine cu4 fun K1 hK1 => ?_;go_simp;apply hK1;clear hK1 K1;refine Wops.absA fun R n5 q => ?_;obtain ⟨q5,q,s5,F,f5,r5⟩ := q;try simp only [q5] at F f5 r5 ⊢
 replace f4 := q.fz f f4;replace xw := xw.trans q;replace r := q.cell r;replace t := q.cell t;replace D := q.cell D;replace f := q.cell f;replace x := q.cell x;replace y := q.cell y;replace z := q.cell z;replace B := q.cell B;have a := F 0 _ rfl;have g := F 1 _ rfl;have l := F 2 _ rfl;have m := F 3 _ rfl;have d := F 4 _ rfl;clear F q;clear r5;try simp only [Wops_nil,updO_some,updO_none]
 apply hK;clear hK K' gd;refine Wp.keep [2,3,4,5] ?_;rintro r3 ⟨ah,am,ap,ax,-⟩;simp [go_sem,ag,al,ao] at ah am ap ax;clear ag al ao;refine Wp.seq ?_;have f4_xa := f4;have xw_xa := xw;have c2_0_xa := r;have c2_1_xa := t;have c3_0_xa := D;have c4_0_xa := f;have c4_1_xa := x;have c4_2_xa := y;have c4_3_xa := z;have c4_4_xa := B;have c5_0_xa := a;have xa := Ext.refl R;obtain ⟨B0,hB0⟩ : ∃ B0 : Nat,B0 = R.heap.size := ⟨_,rfl⟩;refine sRg fun K' gd hK => ?_;go_simp;apply hK;clear hK K' gd;refine Wp.keep [2,4,5,11,12,13] ?_;rintro r4 ⟨ai,aq,ay,U,Z,aK,-⟩;simp [go_sem,ah,am,ap,ax] at ai aq ay U Z aK;clear ah am ap ax;refine Wp.block ?_;refine Wp.loop (fun k ρ ds wk => AllEq [2,4,5,11,12] ρ r4 ∧ ds = [] ∧ (Chg [n5] R wk ∧ (∀ i,wk.frozen? ⟨n5,i,none⟩ = false)) ∧ (∃ tv,ρ 13 = .int .i64 (k : Int) ∧ wk.cell? ⟨n5,0,none⟩ = some (.slice A2 c.words.length c2) ∧ wk.cell? ⟨n5,1,none⟩ = some (.int .i64 c.b) ∧ wk.cell? ⟨n5,2,none⟩ = some (.int .i64 c.e) ∧ wk.cell? ⟨n5,3,none⟩ = some (.int .i64 c.p) ∧ wk.cell? ⟨n5,4,none⟩ = some tv ∧ TabZ wk B0 tv ((s.tab c).take k))) (c.words.length) ?_ ?_
 ·refine ⟨AllEq.refl _ _,rfl,⟨Chg.refl _ _,f5⟩,?_⟩;exact ⟨_,by rw [aK];rfl,a,g,l,m,d,TabZ.nil _ _⟩
 ·rintro k r5 _ wk hk ⟨hA,rfl,⟨xo,gf5⟩,⟨tv,e13,aP,aQ,aR,aS,aT,hT⟩⟩;obtain ⟨aj,ar,az,V,aa,-⟩ := hA;rw [ai] at aj;rw [aq] at ar;rw [ay] at az;rw [U] at V;rw [Z] at aa;have zxo := Chg.size xo;have f4 := f4_xa;have xw := xw_xa;have r := c2_0_xa;have t := c2_1_xa;have D := c3_0_xa;have f := c4_0_xa;have x := c4_1_xa;have y := c4_2_xa;have z := c4_3_xa;have B := c4_4_xa;replace f4 := Chg.fz xo f f4 XN;clear f5;replace xw := Chg.to xw xo XL;replace r := Chg.cell xo r XN;replace t := Chg.cell xo t XN;replace D := Chg.cell xo D XN;replace f := Chg.cell xo f XN;replace x := Chg.cell xo x XN;replace y := Chg.cell xo y XN;replace z := Chg.cell xo z XN;replace B := Chg.cell xo B XN;clear a;clear g;clear l;clear m;clear d;have f5 := gf5;clear gf5;have a := aP;clear aP;have g := aQ;clear aQ;have l := aR;clear aR;have m := aS;clear aS;have d := aT;clear aT;obtain ⟨A8,n8,c8,rfl⟩ := hT.slice2;refine sRg fun K' gd hK => ?_;go_simp;apply hK;clear hK K' gd;refine Wp.keep [2,4,5,11,12,13,14] ?_;rintro r6 ⟨M,N,O,I,J,K,L,-⟩;simp [go_sem,aj,ar,az,V,aa,e13] at M N O I J K L;clear aj ar az V aa e13
  refine Wp.seq ?_
  by_cases h : k < c.words.length
  ·refine cTt ?_;obtain ⟨b,o,rfl,hb,hc⟩ := hx (by intro e;rw [e] at h;exact absurd h (Nat.not_lt_zero _));have d1 := xw.cell (hc k h);rw [Cp.W_get h] at d1;refine skN ?_;refine sBk ?_;refine sRg fun K' gd hK => ?_;go_simp;apply hK;clear hK K' gd;refine Wp.keep [2,4,5,6,7,11,12,13] ?_;rintro r7 ⟨ak,au,aA,aB,aC,X,ab,ad,-⟩;simp [go_sem,M,N,O,I,J,K,L] at ak au aA aB aC X ab ad;clear M N O I J K L;refine Wp.loneDraw (.inl rfl) mixed [([0,1,2,3,4],some (5,false)),([],some (6,false)),([],some (7,true)),([],some (8,true)),([],some (9,true))] (by kernel_rfl) fun K' gd hK hg => ?_;clear hg;simp only [pick,nth,List.map_cons,List.map_nil,Option.map_none,Option.map_some];refine Mops.absD fun D7 hD7 zD7 => ?_;replace f5 := hD7.fz a f5;replace hT := hT.ext hD7;replace xw := xw.trans hD7;replace xo := Chg.ext xo hD7;replace r := hD7.cell r;replace t := hD7.cell t;replace a := hD7.cell a;replace g := hD7.cell g;replace l := hD7.cell l;replace m := hD7.cell m;replace d := hD7.cell d;clear hD7;refine mAc ?_
   intro K1 hK1;go_simp;refine Wcall (.inl rfl) (when_c _ s k (c.W k) _ (hV.ext xw) hg (by have := hcl.choose_spec;omega)) ?_;rintro v w4 ⟨hZ,hE⟩;obtain ⟨A9,c9,rfl⟩ := ownsRow_slice hZ;go_simp;refine hK1 _ _ (by assumption) ?_;clear hK1 K1;have z8 := Below.size hE;replace f5 := hE.fz a f5;replace hT := hT.ext hE;replace xw := xw.trans hE;replace xo := Chg.ext xo hE;replace a := hE.cell a;replace g := hE.cell g;replace l := hE.cell l;replace m := hE.cell m;replace d := hE.cell d;clear hE;apply Mops.act
   ·exact fun _ _ => Rops_done
   intro K1 hK1;go_simp;refine hK1 _ _ (XA) ?_;clear hK1 K1;refine Mops.absA fun aV n24 n => ?_;obtain ⟨q24,n,s24,aD,f24,r24⟩ := n;try simp only [q24] at aD f24 r24 ⊢
   replace f5 := n.fz a f5;replace hT := hT.ext n;replace hZ := hZ.ext n;replace xw := xw.trans n;replace xo := Chg.ext xo n;replace a := n.cell a;replace g := n.cell g;replace l := n.cell l;replace m := n.cell m;replace d := n.cell d;clear n f24;have aU := aD 0 _ rfl;clear aD;apply Mops.last
   ·exact fun _ _ => Rops_done
   intro K1 hK1;obtain ⟨v',w7,hrun,hT2,hgr⟩ := hT.app (hZ.less (by omega)) aU (by rw [List.length_take];omega) (by omega) _;refine if_pos_of rfl (Wstep.law (exec_append2 rfl hrun (by go_simp) (by go_simp)) ?_);apply hK1;clear hK1 K1;replace f5 := Chg.fz (grown_chg hgr) a f5 (lt_off hT.lt (by omega));replace xw := Chg.to xw (grown_chg hgr) (lt_ge hT.lt (by omega));replace xo := Chg.more xo (grown_chg hgr) (by first | exact lt_gm hT.lt (by omega) | simp);replace a := Chg.cell (grown_chg hgr) a (lt_off hT.lt (by omega));replace g := Chg.cell (grown_chg hgr) g (lt_off hT.lt (by omega));replace l := Chg.cell (grown_chg hgr) l (lt_off hT.lt (by omega));replace m := Chg.cell (grown_chg hgr) m (lt_off hT.lt (by omega));replace d := Chg.cell (grown_chg hgr) d (lt_off hT.lt (by omega));obtain ⟨A10,n10,c10,rfl⟩ := hT2.slice2;apply Mops.last
   ·exact fun _ _ => Rops_done
   intro K1 hK1;go_simp;apply hK1;clear hK1 K1;apply Mops.last
   ·exact fun _ _ => Rops_done
   intro K1 hK1;go_simp;apply hK1;clear hK1 K1;refine Mops.absS (b := n5) (i := 4) [_] (somes [cellVal d] (by simp) (by intro j v hj;match j,hj with | 0,hj => (simp at hj;subst hj;exact d))) fun P9 hP9 => ?_;replace f5 := hP9.frz f5;replace hT2 := hT2.put hP9 (by omega);replace xw := Put.to xw hP9 (by omega);replace xo := Put.more xo hP9 (.inr (by simp));replace a := Put.cellOff hP9 a (by simp);replace g := Put.cellOff hP9 g (by simp);replace l := Put.cellOff hP9 l (by simp);replace m := Put.cellOff hP9 m (by simp);clear d;have d := hP9.new 0 _ rfl;try simp only [Nat.reduceAdd,Nat.zero_add,Nat.add_zero] at d
   clear hP9;refine Mops.done ?_;apply hK;clear hK K' gd;refine Ends.keep [2,4,5,11,12,13] ?_;rintro r10 ⟨af,an,aw,T,Y,ac,-⟩;simp [go_sem,ak,au,aA,aB,aC,X,ab,ad] at af an aw T Y ac;clear ak au aA aB aC X ab ad;refine Ends.mk ?_;refine bNo ?_;refine tNo ?_;refine lRg fun K' gd hK => ?_;go_simp;apply hK;clear hK K' gd;refine Ends.keep [2,4,5,11,12,13] ?_;rintro r11 ⟨aL,aM,aO,aH,aI,aJ,-⟩;simp [go_sem,af,an,aw,T,Y,ac] at aL aM aO aH aI aJ;clear af an aw T Y ac;refine Ends.mk ?_;refine thenK_normal ⟨by omega,⟨by rw [aL,ai],by rw [aM,aq],by rw [aO,ay],by rw [aH,U],by rw [aI,Z],trivial⟩,rfl,⟨xo,f5⟩,?_⟩;exact ⟨_,by rw [aJ,IntWalk.i64_in _ (by omega)];rfl,a,g,l,m,d,by rw [Sh.tab_take h];exact hT2⟩
  ·refine cFf ?_;obtain rfl : k = c.words.length := by omega
   rw [List.take_of_length_le (by omega)] at hT;refine Wp.exit ?_;refine tEx ?_;refine tEx ?_;refine blockK_here ?_;refine tNo ?_;refine sRg fun K' gd hK => ?_;refine cu2 fun K1 hK1 => ?_;go_simp;apply hK1;clear hK1 K1;refine Wops.absS (b := n4) (i := 0) [_,_,_,_,_] (somes [cellVal f,cellVal x,cellVal y,cellVal z,cellVal B] (by simp) (by intro j v hj;match j,hj with | 0,hj => (simp at hj;subst hj;exact f) | 1,hj => (simp at hj;subst hj;exact x) | 2,hj => (simp at hj;subst hj;exact y) | 3,hj => (simp at hj;subst hj;exact z) | 4,hj => (simp at hj;subst hj;exact B))) fun P10 hP10 => ?_;replace hT := hT.put hP10 (by omega);replace xw := Put.to xw hP10 (by omega);clear xo;clear f;clear x;clear y;clear z;clear B;have f := hP10.new 0 _ rfl;try simp only [Nat.reduceAdd,Nat.zero_add,Nat.add_zero] at f
   have x := hP10.new 1 _ rfl;try simp only [Nat.reduceAdd,Nat.zero_add,Nat.add_zero] at x
   have y := hP10.new 2 _ rfl;try simp only [Nat.reduceAdd,Nat.zero_add,Nat.add_zero] at y
   have z := hP10.new 3 _ rfl;try simp only [Nat.reduceAdd,Nat.zero_add,Nat.add_zero] at z
   have B := hP10.new 4 _ rfl;try simp only [Nat.reduceAdd,Nat.zero_add,Nat.add_zero] at B
   clear hP10;try simp only [Wops_nil,updO_some,updO_none]
   apply hK;clear hK K' gd;refine Wp.keep [4] ?_;rintro r12 ⟨aN,-⟩;simp [go_sem,M,N,O,I,J,K,L] at aN;clear M N O I J K L;refine Wp.ret ?_;refine endK_cell (v := .agg #[cellVal f,cellVal x,cellVal y,cellVal z,cellVal B]) Tryz.results164 (by decide) aN (by dsimp only [cellVal];go_simp) ?_
   dsimp only [cellVal]
   exact ⟨⟨_,rfl,_,rfl,hT.less (by omega)⟩,xw⟩
end Go.Proofs.YtnklbepeoicgpaaGreat.St
namespace Go.Proofs.YtnklbepeoicgpaaGreat.St
open Go.RowKit Go.Wk Go.Proofs
attribute [local irreducible] Go.Wk.Wops Go.Wk.Wp Go.Wk.Mtree Go.Wk.Mops
set_option maxHeartbeats 8000000
set_option maxRecDepth 20000
@[go_sem] theorem eqZ_nil (w : World) (a : Option Addr) (n c n' c' : Nat) : (binOp .eql 29 (.slice a n c) (.slice none n' c')).run Tryz.prog w = .ok (.bool a.isNone) w :=
 Lib.run_eql_slice_nil w _ 45 a n c n' c' (by kernel_rfl)
theorem newsZ_of {w : World} {b o : Nat} {xs : List (Int × Int)} (h : ∀ i (h : i < xs.length) r u,(encZ xs[i])[r]? = some u → w.cell? ⟨b,o + i * 2 + r,none⟩ = some u) :
  ∀ j u,(encL xs)[j]? = some u → w.cell? ((⟨b,o,none⟩ : Addr).add j) = some u := by
 intro j u hu;rw [Addr.add_lit];have hl := encL_len xs;have hj : j < xs.length * 2 := by have := (List.getElem?_eq_some_iff.1 hu).1;omega
 obtain ⟨h1,h2⟩ := encL_get (l := xs) (k := j / 2) (s := xs[j / 2]'(by omega)) (List.getElem?_eq_getElem _)
 rcases Nat.mod_two_eq_zero_or_one j with hm | hm
 ·have e : j = j / 2 * 2 := by omega
  have := h (j / 2) (by omega) 0 u (by rw [e,h1] at hu;rw [← hu];rfl);rw [show o + j / 2 * 2 + 0 = o + j by omega] at this;exact this
 ·have e : j = j / 2 * 2 + 1 := by omega
  have := h (j / 2) (by omega) 1 u (by rw [e,h2] at hu;rw [← hu];rfl);rw [show o + j / 2 * 2 + 1 = o + j by omega] at this;exact this
theorem one_spans {xs : List (Int × Int)} : ∀ u ∈ encL xs,u.oneCell' = true := by
 intro u hu;unfold encL at hu;rw [List.mem_flatMap] at hu;obtain ⟨x,-,hx⟩ := hu;simp at hx;rcases hx with rfl | rfl <;> rfl
theorem cloneZ_c (v : Value) (xs : List (Int × Int)) (w : World) (hx : SpansV w w.heap.size v xs) (hl : xs.length ≤ 1000000000) :
  CallsV Tryz.prog 194 #[v] w fun v' w' => OwnZ w' w.heap.size v' xs ∧ Ext w w' := by
 obtain ⟨A,c,rfl,hx,hcap⟩ := hx
 have hA : (∃ b o,A = some ⟨b,o,none⟩ ∧ b < w.heap.size ∧ ∀ i (h : i < xs.length) r u,(encZ xs[i])[r]? = some u → w.cell? ⟨b,o + i * 2 + r,none⟩ = some u) ∨ (xs = [] ∧ A = none) ∨ (xs = [] ∧ ∃ a,A = some a) := by
  by_cases h : xs = []
  ·cases A with
   | none => exact .inr (.inl ⟨h,rfl⟩)
   | some a => exact .inr (.inr ⟨h,a,rfl⟩)
  ·exact .inl (hx h)
 rcases hA with ⟨b,o,rfl,hb,hc⟩ | ⟨rfl,rfl⟩ | ⟨rfl,a,rfl⟩
 ·skip;refine Wp.fn Tryz.func194 rfl Tryz.ntmps194 (by simp) ?_;refine Wp.keep [0] ?_;rintro r1 ⟨d,-⟩;simp [go_sem] at d;refine sRg fun K' gd hK => ?_;go_simp;apply hK;clear hK K' gd;refine Wp.keep [0] ?_;rintro r2 ⟨e,-⟩;simp [go_sem,d] at e;clear d;refine Wp.seq ?_;refine sRg fun K' gd hK => ?_;go_simp;apply hK;clear hK K' gd;refine Wp.keep [0,4] ?_;rintro r3 ⟨f,g,-⟩;simp [go_sem,e] at f g;clear e;refine cFf ?_;refine skN ?_;refine sRg fun K' gd hK => ?_;refine cu2 fun K1 hK1 => ?_;go_simp;apply hK1;clear hK1 K1;obtain ⟨v',w',hrun,hown,hg,-⟩ := app_run spans_T (own0 w 45 2) ⟨b,o,none⟩ xs.length c (encL xs) 29 (encL_len xs) (newsZ_of fun i h r u hu => cell_al _ (hc i h r u hu)) one_spans (by omega) (by simp);refine Wops.law rfl (exec_append2 rfl hrun (by go_simp) (by go_simp)) ?_;go_simp;apply hK;clear hK K' gd;refine Wp.keep [2] ?_;rintro r4 ⟨j,-⟩;simp [go_sem,f,g] at j;clear f g;refine Wp.ret ?_;refine endK_tmp Tryz.results194 (by decide) ?_;rw [j];exact ⟨by simpa [OwnZ] using hown,Below.grown ((Ext.refl w).alloc _) (own0 w 45 2) hg (Nat.le_refl _) (Nat.le_refl _)⟩
 ·skip;refine Wp.fn Tryz.func194 rfl Tryz.ntmps194 (by simp) ?_;refine Wp.keep [0] ?_;rintro r1 ⟨d,-⟩;simp [go_sem] at d;refine sRg fun K' gd hK => ?_;go_simp;apply hK;clear hK K' gd;refine Wp.keep [0] ?_;rintro r2 ⟨e,-⟩;simp [go_sem,d] at e;clear d;refine Wp.seq ?_;refine sRg fun K' gd hK => ?_;go_simp;apply hK;clear hK K' gd;refine Wp.keep [0,4] ?_;rintro r3 ⟨f,g,-⟩;simp [go_sem,e] at f g;clear e;refine cTt ?_;refine sRg fun K' gd hK => ?_;go_simp;apply hK;clear hK K' gd;refine Wp.keep [2] ?_;rintro r4 ⟨j,-⟩;simp [go_sem,f,g] at j;clear f g;refine Wp.ret ?_;refine tRe ?_;refine endK_tmp Tryz.results194 (by decide) ?_;rw [j];exact ⟨World.ownsRow_nil _ _ _ _,Ext.refl _⟩
 ·skip;refine Wp.fn Tryz.func194 rfl Tryz.ntmps194 (by simp) ?_;refine Wp.keep [0] ?_;rintro r1 ⟨d,-⟩;simp [go_sem] at d;refine sRg fun K' gd hK => ?_;go_simp;apply hK;clear hK K' gd;refine Wp.keep [0] ?_;rintro r2 ⟨e,-⟩;simp [go_sem,d] at e;clear d;refine Wp.seq ?_;refine sRg fun K' gd hK => ?_;go_simp;apply hK;clear hK K' gd;refine Wp.keep [0,4] ?_;rintro r3 ⟨f,g,-⟩;simp [go_sem,e] at f g;clear e;refine cFf ?_;refine skN ?_;refine sRg fun K' gd hK => ?_;refine cu2 fun K1 hK1 => ?_;go_simp;apply hK1;clear hK1 K1;obtain - := trivial;refine Wops.law rfl (exec_append rfl (by go_simp;exact ⟨rfl,rfl⟩)) ?_;go_simp;apply hK;clear hK K' gd;refine Wp.keep [2] ?_;rintro r4 ⟨j,-⟩;simp [go_sem,f,g] at j;clear f g;refine Wp.ret ?_;refine endK_tmp Tryz.results194 (by decide) ?_;rw [j];exact ⟨own0 w 45 2,(Ext.refl w).alloc _⟩
structure RowP (W : World) (b n : Nat) (f : Nat → Int × Int) : Prop where
 c0 : ∀ i,i < n → W.cell? ⟨b,i * 2,none⟩ = some (.int .i64 (f i).1)
 c1 : ∀ i,i < n → W.cell? ⟨b,i * 2 + 1,none⟩ = some (.int .i64 (f i).2)
 fz : ∀ j,W.frozen? ⟨b,j,none⟩ = false
 n1 : 0 < n
section
variable {W V : World} {b n : Nat} {f : Nat → Int × Int}
theorem RowP.ext (h : RowP W b n f) (hE : Ext W V) : RowP V b n f := ⟨fun i hi => hE.cell (h.c0 i hi),fun i hi => hE.cell (h.c1 i hi),hE.fz (h.c0 0 h.n1) h.fz,h.n1⟩
theorem RowP.set {i : Nat} {x : Int × Int} (h : RowP W b n f) (p : Put W V b (i * 2) [.int .i64 x.1,.int .i64 x.2]) : RowP V b n (fun q => if q = i then x else f q) := by
 refine ⟨fun q hq => ?_,fun q hq => ?_,fun j => (p.fz _).trans (h.fz j),h.n1⟩
 ·skip
  by_cases e : q = i
  ·subst e;rw [if_pos rfl];have := p.new 0 _ rfl;rwa [Nat.add_zero] at this
  ·rw [if_neg e];exact Put.cellOff p (h.c0 q hq) (by simp;omega)
 ·skip
  by_cases e : q = i
  ·subst e;rw [if_pos rfl];exact p.new 1 _ rfl
  ·rw [if_neg e];exact Put.cellOff p (h.c1 q hq) (by simp;omega)
theorem RowP.congr {g : Nat → Int × Int} (h : RowP W b n f) (he : ∀ i,i < n → g i = f i) : RowP W b n g := ⟨fun i hi => by rw [he i hi];exact h.c0 i hi,fun i hi => by rw [he i hi];exact h.c1 i hi,h.fz,h.n1⟩
end
def revF (n : Nat) (f : Nat → Int × Int) (k : Nat) : Nat → Int × Int := fun q => if q < k ∨ n < q + k + 1 then f (n - 1 - q) else f q
theorem revF_step {n k j : Nat} {f : Nat → Int × Int} (h : j + k + 1 = n) (hkj : k < j) (q : Nat) (hq : q < n) : revF n f (k + 1) q = if q = j then revF n f k k else if q = k then revF n f k j else revF n f k q := by
 have e1 : revF n f k k = f k := by unfold revF;rw [if_neg (by omega)]
 have e2 : revF n f k j = f j := by unfold revF;rw [if_neg (by omega)]
 rw [e1,e2]
 by_cases a : q = j
 ·subst a;rw [if_pos rfl];unfold revF;rw [if_pos (by omega)];congr 1;omega
 ·rw [if_neg a]
  by_cases c : q = k
  ·subst c;rw [if_pos rfl];unfold revF;rw [if_pos (by omega)];congr 1;omega
  ·rw [if_neg c];unfold revF
   by_cases d : q < k ∨ n < q + k + 1
   ·rw [if_pos d,if_pos (by omega)]
   ·rw [if_neg d,if_neg (by omega)]
theorem swapZ {W : World} {b n k j : Nat} {f : Nat → Int × Int} (h : RowP W b n f) (hk : k < n) (hj : j < n) :
  RowP ((((W.drew.setCell ⟨b,k * 2,none⟩ (.int .i64 (f j).1)).setCell ⟨b,k * 2 + 1,none⟩ (.int .i64 (f j).2)).setCell ⟨b,j * 2,none⟩ (.int .i64 (f k).1)).setCell ⟨b,j * 2 + 1,none⟩ (.int .i64 (f k).2)) b n
   (fun q => if q = j then f k else if q = k then f j else f q) ∧
  Chg [b] W ((((W.drew.setCell ⟨b,k * 2,none⟩ (.int .i64 (f j).1)).setCell ⟨b,k * 2 + 1,none⟩ (.int .i64 (f j).2)).setCell ⟨b,j * 2,none⟩ (.int .i64 (f k).1)).setCell ⟨b,j * 2 + 1,none⟩ (.int .i64 (f k).2)) := by
 have h0 := h.ext (Ext.refl W).drew;have p1 := setL_put (w := W.drew) (b := b) (i := k * 2) (vs := [.int .i64 (f j).1,.int .i64 (f j).2]) (some2 (h0.c0 k hk) (h0.c1 k hk));have h1 := h0.set p1;have p2 := setL_put (b := b) (i := j * 2) (vs := [.int .i64 (f k).1,.int .i64 (f k).2]) (some2 (h1.c0 j hj) (h1.c1 j hj));exact ⟨h1.set p2,((((Chg.refl [b] W).drew.setC (by simp)).setC (by simp)).setC (by simp)).setC (by simp)⟩
theorem revZ_c (b n c : Nat) (f : Nat → Int × Int) (w : World) (h : RowP w b n f) (hn : n ≤ 1000000000) :
  CallsV Tryz.prog 195 #[.slice (some ⟨b,0,none⟩) n c] w fun _ w' => RowP w' b n (fun i => f (n - 1 - i)) ∧ Chg [b] w w' := by
 have h0 := h.n1;have hw1 : IntKind.i64.wrap ((n : Int) - 1) = ((n - 1 : Nat) : Int) := by rw [IntWalk.i64_in _ (by omega)];omega
 refine Wp.fn Tryz.func195 rfl Tryz.ntmps195 (by simp) ?_;have xw := Ext.refl w;refine Wp.keep [0] ?_;rintro r1 ⟨a,-⟩;simp [go_sem] at a;have xq := Chg.refl [b] w;refine sRg fun K' gd hK => ?_;go_simp;apply hK;clear hK K' gd;refine Wp.keep [0,2,3] ?_;rintro r2 ⟨d,u,x,-⟩;simp [go_sem,a] at d u x;clear a;refine Wp.block ?_;refine Wp.loop (fun k ρ ds wk => AllEq [0] ρ r2 ∧ ds = [] ∧ (Chg [b] w wk) ∧ (∃ j : Nat,ρ 2 = .int .i64 (k : Int) ∧ ρ 3 = .int .i64 (j : Int) ∧ j + k + 1 = n ∧ RowP wk b n (revF n f k))) (n) ?_ ?_
 ·refine ⟨AllEq.refl _ _,rfl,Chg.refl _ _,?_⟩;exact ⟨n - 1,by rw [u];rfl,by rw [x],by omega,h.congr fun i hi => by unfold revF;rw [if_neg (by omega)]⟩
 ·rintro k r3 _ wk hk ⟨hA,rfl,xo,⟨j,e2,e3,hjk,hR⟩⟩;obtain ⟨g,-⟩ := hA;rw [d] at g;clear xw;replace xq := Chg.more xq xo (by intro b hm;simp only [List.mem_cons,List.not_mem_nil,or_false] at hm;first | (left;omega) | (right;simp [hm];done) | (rcases hm with hm | hm <;> first | (left;omega) | (right;simp [hm])));refine Wp.seq ?_;refine sRg fun K' gd hK => ?_;go_simp;apply hK;clear hK K' gd;refine Wp.keep [0,2,3,9] ?_;rintro r4 ⟨l,o,r,z,-⟩;simp [go_sem,g,e2,e3] at l o r z;clear g e2 e3
  by_cases hkj : k < j
  ·refine cTt ?_;have hk2 := hkj;have y0 := hR.c0 k (by omega);have y1 := hR.c1 k (by omega);have u0 := hR.c0 j (by omega);have u1 := hR.c1 j (by omega);have fb := hR.fz;have hw2 : IntKind.i64.wrap ((j : Int) - 1) = ((j - 1 : Nat) : Int) := by rw [IntWalk.i64_in _ (by omega)];omega
   have hin1 : (j : Int) < (n : Int) := by omega
   have hin2 : (k : Int) < (n : Int) := by omega
   obtain ⟨hS1,hS2⟩ := swapZ hR (show k < n by omega) (show j < n by omega);refine skN ?_;refine sBk ?_;refine Wp.loneDrawT (.inl rfl) mixed (.rd [0,1,4,5,6,7,8,9,10,11,12] (.both (.act 2 false (.both (.act 3 false (.act 13 true (.act 14 true (.act 15 true .done)))) (.act 13 true (.act 3 false (.act 14 true (.act 15 true .done)))))) (.both (.act 3 false (.both (.act 2 false (.act 13 true (.act 14 true (.act 15 true .done)))) (.act 13 true (.act 2 false (.act 14 true (.act 15 true .done)))))) (.act 13 true (.both (.act 2 false (.act 3 false (.act 14 true (.act 15 true .done)))) (.act 3 false (.act 2 false (.act 14 true (.act 15 true .done))))))))) (by kernel_rfl) (fun ρ W => AllEq [0,2,3] ρ r4 ∧ (RowP W b n (fun q => if q = j then revF n f k k else if q = k then revF n f k j else revF n f k q) ∧ Chg [b] w W)) (fun K' gd hK hg => ?_) ?_
   ·skip;clear hg;simp only [pickT,nth,List.map_cons,List.map_nil];apply Mtree.reads
    ·intro w' hE';have hC' := hE'.cellsS;go_simp;with_reducible rfl
    repeat' first
     | refine Mtree.two ?_ ?_
     | (refine Mtree.fin ?_;refine hK _ _ ⟨by simp [AllEq,go_sem],?_⟩;exact ⟨hS1,xo.more hS2 (by simp)⟩)
     | (refine Mtree.stepT fun K1 hK1 => ?_;go_simp;apply hK1;clear hK1 K1)
     | (refine Mtree.step fun K1 hK1 => ?_;go_simp;refine hK1 _ _ XA ?_;clear hK1 K1)
   ·rintro r5 W ⟨hA,hR2,xo⟩;obtain ⟨m,p,s,-⟩ := hA;rw [l] at m;rw [o] at p;rw [r] at s;clear l o r z;refine Ends.mk ?_;refine bNo ?_;refine tNo ?_;refine lRg fun K' gd hK => ?_;go_simp;apply hK;clear hK K' gd;refine Ends.keep [0,2,3] ?_;rintro r6 ⟨t,v,y,-⟩;simp [go_sem,m,p,s] at t v y;clear m p s;refine Ends.mk ?_;refine thenK_normal ⟨by omega,⟨by rw [t,d],trivial⟩,rfl,xo,?_⟩;exact ⟨j - 1,by rw [v,IntWalk.i64_in _ (by omega)];rfl,by rw [y],by omega,hR2.congr fun q hq => by rw [revF_step hjk hk2 q hq]⟩
  ·refine cFf ?_;refine Wp.exit ?_;refine tEx ?_;refine tEx ?_;refine blockK_here ?_;refine endN_none Tryz.results195 ?_;exact ⟨hR.congr fun i hi => by unfold revF;by_cases e : i < k ∨ n < i + k + 1;(rw [if_pos e]);(rw [if_neg e];congr 1;omega),xo⟩
end Go.Proofs.YtnklbepeoicgpaaGreat.St
namespace Go.Proofs.YtnklbepeoicgpaaGreat.St
open Go.RowKit Go.Wk Go.Proofs
attribute [local irreducible] Go.Wk.Wops Go.Wk.Wp Go.Wk.Mtree Go.Wk.Mops
set_option maxHeartbeats 8000000
set_option maxRecDepth 20000
def near (xs : List (Int × Int)) (p : Int × Int → Int × Bool) : Int × Bool :=
 match xs.find? fun x => (p x).2 with
 | some x => ((p x).1,true)
 | none => (0,false)
theorem near_some {xs : List (Int × Int)} {p : Int × Int → Int × Bool} {k : Nat} (h : k < xs.length) (hn : ∀ y ∈ xs.take k,(p y).2 = false) (hp : (p xs[k]).2 = true) : near xs p = ((p xs[k]).1,true) := by
 unfold near
 have e : xs.find? (fun x => (p x).2) = some xs[k] := by
  have e0 : (xs.take k).find? (fun x => (p x).2) = none := List.find?_eq_none.2 (fun y hy => by simp [hn y hy]);have e1 : (xs.drop k).find? (fun x => (p x).2) = some xs[k] := by rw [drop_cons h,List.find?_cons_of_pos (p := fun x => (p x).2) hp]
  have e2 : xs.find? (fun x => (p x).2) = (xs.take k ++ xs.drop k).find? (fun x => (p x).2) := by rw [List.take_append_drop]
  rw [e2,List.find?_append,e0,e1];rfl
 rw [e]
theorem near_none {xs : List (Int × Int)} {p : Int × Int → Int × Bool} (hn : ∀ y ∈ xs,(p y).2 = false) : near xs p = (0,false) := by
 unfold near;rw [List.find?_eq_none.2 (fun y hy => by simp [hn y hy])]
theorem nearest_c (v : Value) (xs : List (Int × Int)) (p : Int × Int → Int × Bool) (gf : Nat) (en : Value) (w : World) (hx : SpansV w w.heap.size v xs) (hl : xs.length ≤ 1000000000)
  (heg : ∀ args w,(callFunc gf args).run Tryz.prog w = .ok (.enter gf args) w)
  (hp : ∀ x W,Ext w W → CallsV Tryz.prog gf #[.agg #[.int .i64 x.1,.int .i64 x.2],en] W fun v W' => v = .tuple #[.int .i64 (p x).1,.bool (p x).2] ∧ Ext W W') :
  CallsV Tryz.prog 196 #[v,.func (.func gf) #[] #[en]] w fun v w' => v = .tuple #[.int .i64 (near xs p).1,.bool (near xs p).2] ∧ Ext w w' := by
 obtain ⟨A,c,rfl,-,-⟩ := id hx;refine Wp.fn Tryz.func196 rfl Tryz.ntmps196 (by simp) ?_;have xw := Ext.refl w;refine Wp.keep [0,1] ?_;rintro r1 ⟨n,S,-⟩;simp [go_sem] at n S;refine sRg fun K' gd hK => ?_;go_simp;apply hK;clear hK K' gd;refine Wp.keep [0,1] ?_;rintro r2 ⟨q,X,-⟩;simp [go_sem,n,S] at q X;clear n S;refine Wp.seq ?_;refine sRg fun K' gd hK => ?_;go_simp;apply hK;clear hK K' gd;refine Wp.keep [1,10,11,12] ?_;rintro r3 ⟨Y,u,H,aq,-⟩;simp [go_sem,q,X] at Y u H aq;clear q X;refine Wp.block ?_;refine Wp.loop (fun k ρ ds wk => AllEq [1,10,11] ρ r3 ∧ ds = [] ∧ (Ext w wk) ∧ (ρ 12 = .int .i64 (k : Int) ∧ (∀ y ∈ xs.take k,(p y).2 = false))) (xs.length) ?_ ?_
 ·refine ⟨AllEq.refl _ _,rfl,Ext.refl _,?_⟩;exact ⟨by rw [aq];rfl,by simp⟩
 ·rintro k r4 _ wk hk ⟨hA,rfl,xl1,⟨e12,hn⟩⟩;obtain ⟨Z,z,I,-⟩ := hA;rw [Y] at Z;rw [u] at z;rw [H] at I;replace xw := Ext.trans xw xl1;refine sRg fun K' gd hK => ?_;go_simp;apply hK;clear hK K' gd;refine Wp.keep [1,10,11,12,13] ?_;rintro r5 ⟨g,a,d,e,f,-⟩;simp [go_sem,Z,z,I,e12] at g a d e f;clear Z z I e12;refine Wp.seq ?_
  by_cases h : k < xs.length
  ·refine cTt ?_;obtain ⟨b,o,rfl,hb,y0,y1⟩ := SpansV.two hx h;replace y0 := xw.cell y0;replace y1 := xw.cell y1
   by_cases hq : (p xs[k]).2 = true
   ·skip;refine skN ?_;refine sBk ?_;refine sRg fun K' gd hK => ?_;refine cu4 fun K1 hK1 => ?_;go_simp;apply hK1;clear hK1 K1;refine Wops.absA fun aA n7 i => ?_;obtain ⟨q7,i,s7,l,f7,r7⟩ := i;try simp only [q7] at l f7 r7 ⊢
    replace xw := xw.trans i;replace xl1 := xl1.trans i;have ay := l 0 _ rfl;have az := l 1 _ rfl;clear l i;clear r7;try simp only [Wops_nil,updO_some,updO_none]
    apply hK;clear hK K' gd;refine Wp.keep [1,7,10,11,12] ?_;rintro r6 ⟨aa,ag,B,J,P,-⟩;simp [go_sem,g,a,d,e,f] at aa ag B J P;clear g a d e f;refine sRg fun K' gd hK => ?_;refine cu3 fun K1 hK1 => ?_;go_simp;refine Wcall (.inl rfl) (hp xs[k] _ xw) ?_;rintro v w2 ⟨rfl,hE⟩;go_simp;apply hK1;clear hK1 K1;replace xw := xw.trans hE;replace xl1 := xl1.trans hE;clear hE;go_simp;apply hK;clear hK K' gd;refine Wp.keep [1,8,9,10,11,12] ?_;rintro r8 ⟨ab,aj,am,C,K,Q,-⟩;simp [go_sem,aa,ag,B,J,P] at ab aj am C K Q;clear aa ag B J P;refine sRg fun K' gd hK => ?_;go_simp;apply hK;clear hK K' gd;refine Wp.keep [1,8,10,11,12,22] ?_;rintro r9 ⟨ac,ak,D,L,R,ae,-⟩;simp [go_sem,ab,aj,am,C,K,Q] at ac ak D L R ae;clear ab aj am C K Q;refine cTt ?_;refine sRg fun K' gd hK => ?_;go_simp;apply hK;clear hK K' gd;refine Wp.keep [4,5] fun r10 hkeep => ?_
    obtain ⟨au,aw,-⟩ := hkeep;simp [go_sem,ac,ak,D,L,R,ae] at au aw;clear ac ak D L R ae;refine Wp.ret ?_;refine bRe ?_;refine tRe ?_;refine tRe ?_;refine bRe ?_;refine tRe ?_;refine endK_tmp2 Tryz.results196 (by decide) (by decide) ?_;rw [au,aw];exact ⟨by rw [near_some h hn hq],xw⟩
   ·skip;refine skN ?_;refine sBk ?_;refine sRg fun K' gd hK => ?_;refine cu4 fun K1 hK1 => ?_;go_simp;apply hK1;clear hK1 K1;refine Wops.absA fun aB n7 j => ?_;obtain ⟨q7,j,s7,m,f7,r7⟩ := j;try simp only [q7] at m f7 r7 ⊢
    replace xw := xw.trans j;replace xl1 := xl1.trans j;have ay := m 0 _ rfl;have az := m 1 _ rfl;clear m j;clear r7;try simp only [Wops_nil,updO_some,updO_none]
    apply hK;clear hK K' gd;refine Wp.keep [1,7,10,11,12] ?_;rintro r11 ⟨T,af,r,E,M,-⟩;simp [go_sem,g,a,d,e,f] at T af r E M;clear g a d e f;refine sRg fun K' gd hK => ?_;refine cu3 fun K1 hK1 => ?_;go_simp;refine Wcall (.inl rfl) (hp xs[k] _ xw) ?_;rintro v w2 ⟨rfl,hE⟩;go_simp;apply hK1;clear hK1 K1;replace xw := xw.trans hE;replace xl1 := xl1.trans hE;clear hE;go_simp;apply hK;clear hK K' gd;refine Wp.keep [1,8,9,10,11,12] ?_;rintro r13 ⟨U,ah,al,s,F,N,-⟩;simp [go_sem,T,af,r,E,M] at U ah al s F N;clear T af r E M;refine sRg fun K' gd hK => ?_;go_simp;apply hK;clear hK K' gd;refine Wp.keep [1,8,10,11,12,22] ?_;rintro r14 ⟨V,ai,t,G,O,ad,-⟩;simp [go_sem,U,ah,al,s,F,N] at V ai t G O ad;clear U ah al s F N;refine cFf ?_;refine Wp.skip ?_;refine bNo ?_;refine tNo ?_;refine Wp.loneRegion (.inl rfl) (by kernel_rfl) fun K' gd hK hg => ?_
    clear hg;go_simp;apply hK;clear hK K' gd;refine Ends.keep [1,10,11,12] ?_;rintro r15 ⟨ar,an,ao,ap,-⟩;simp [go_sem,V,ai,t,G,O,ad] at ar an ao ap;clear V ai t G O ad;refine Ends.mk ?_;refine thenK_normal ⟨by omega,⟨by rw [ar,Y],by rw [an,u],by rw [ao,H],trivial⟩,rfl,xl1,?_⟩;exact ⟨by rw [ap,IntWalk.i64_in _ (by omega)];rfl,fun y hy => by rw [take_snoc h,List.mem_append,List.mem_singleton] at hy;rcases hy with hy | rfl;exact hn y hy;simpa using hq⟩
  ·refine cFf ?_;obtain rfl : k = xs.length := by omega
   rw [List.take_length] at hn;refine Wp.exit ?_;refine tEx ?_;refine tEx ?_;refine blockK_here ?_;refine tNo ?_;refine sRg fun K' gd hK => ?_;go_simp;apply hK;clear hK K' gd;refine Wp.keep [4,5] ?_;rintro r16 ⟨av,ax,-⟩;simp [go_sem,g,a,d,e,f] at av ax;clear g a d e f;refine Wp.ret ?_;refine endK_tmp2 Tryz.results196 (by decide) (by decide) ?_;rw [av,ax];exact ⟨by rw [near_none hn],xw⟩
def nxp (day : Int) (x : Int × Int) : Int × Bool := (max x.1 day,decide (day ≤ x.2))
def bfp (day : Int) (x : Int × Int) : Int × Bool := (min x.2 day,decide (x.1 ≤ day))
theorem next1_c (x y day : Int) (q : Nat) (w : World) (hq : w.cell? ⟨q,0,none⟩ = some (.int .i64 day)) :
  CallsV Tryz.prog 216 #[.agg #[.int .i64 x,.int .i64 y],.pointer (some ⟨q,0,none⟩)] w fun v w' => v = .tuple #[.int .i64 (nxp day (x,y)).1,.bool (nxp day (x,y)).2] ∧ Ext w w' := by
 refine Wp.fn Tryz.func216 rfl Tryz.ntmps216 (by simp) ?_;have xw := Ext.refl w;refine Wp.keep [0,1] ?_;rintro r1 ⟨c,d,-⟩;simp [go_sem] at c d;refine sRg fun K' gd hK => ?_;refine cu1 fun K1 hK1 => ?_;go_simp;apply hK1;clear hK1 K1;refine Wops.absA fun k n2 a => ?_;obtain ⟨q2,a,s2,b,f2,r2⟩ := a;try simp only [q2] at b f2 r2 ⊢
 replace xw := xw.trans a;replace hq := a.cell hq;have g := b 0 _ rfl;have h := b 1 _ rfl;clear b a;clear r2;go_simp;apply hK;clear hK K' gd;refine Wp.keep [1,2] ?_;rintro r2 ⟨e,f,-⟩;simp [go_sem,c,d] at e f;clear c d;refine Wp.seqDraw (.inl rfl) mixed [([0,1,2,3,4],none),([5,6,7,8,9],none)] (by kernel_rfl) fun K' gd hK hg => ?_;clear hg;simp only [pick,nth,List.map_cons,List.map_nil,Option.map_none,Option.map_some];refine Mops.absD fun D2 hD2 zD2 => ?_;replace xw := xw.trans hD2;replace hq := hD2.cell hq;replace g := hD2.cell g;replace h := hD2.cell h;clear hD2;refine mNo ?_
 refine mNo ?_
 refine Mops.done ?_;apply hK;clear hK K' gd;refine Wp.keep [3,4] ?_;rintro r3 ⟨i,j,-⟩;simp [go_sem,e,f] at i j;clear e f;refine Wp.ret ?_;refine endK_tmp2 Tryz.results216 (by decide) (by decide) ?_;rw [i,j];exact ⟨by unfold nxp;congr 3;simp only [Int.max_def];repeat' split;all_goals first | rfl | (congr 1;omega),xw⟩
theorem before1_c (x y day : Int) (q : Nat) (w : World) (hq : w.cell? ⟨q,0,none⟩ = some (.int .i64 day)) :
  CallsV Tryz.prog 197 #[.agg #[.int .i64 x,.int .i64 y],.pointer (some ⟨q,0,none⟩)] w fun v w' => v = .tuple #[.int .i64 (bfp day (x,y)).1,.bool (bfp day (x,y)).2] ∧ Ext w w' := by
 refine Wp.fn Tryz.func197 rfl Tryz.ntmps197 (by simp) ?_;have xw := Ext.refl w;refine Wp.keep [0,1] ?_;rintro r1 ⟨c,d,-⟩;simp [go_sem] at c d;refine sRg fun K' gd hK => ?_;refine cu1 fun K1 hK1 => ?_;go_simp;apply hK1;clear hK1 K1;refine Wops.absA fun k n2 a => ?_;obtain ⟨q2,a,s2,b,f2,r2⟩ := a;try simp only [q2] at b f2 r2 ⊢
 replace xw := xw.trans a;replace hq := a.cell hq;have g := b 0 _ rfl;have h := b 1 _ rfl;clear b a;clear r2;go_simp;apply hK;clear hK K' gd;refine Wp.keep [1,2] ?_;rintro r2 ⟨e,f,-⟩;simp [go_sem,c,d] at e f;clear c d;refine Wp.seqDraw (.inl rfl) mixed [([0,1,2,3,4],none),([5,6,7,8,9],none)] (by kernel_rfl) fun K' gd hK hg => ?_;clear hg;simp only [pick,nth,List.map_cons,List.map_nil,Option.map_none,Option.map_some];refine Mops.absD fun D2 hD2 zD2 => ?_;replace xw := xw.trans hD2;replace hq := hD2.cell hq;replace g := hD2.cell g;replace h := hD2.cell h;clear hD2;refine mNo ?_
 refine mNo ?_
 refine Mops.done ?_;apply hK;clear hK K' gd;refine Wp.keep [3,4] ?_;rintro r3 ⟨i,j,-⟩;simp [go_sem,e,f] at i j;clear e f;refine Wp.ret ?_;refine endK_tmp2 Tryz.results197 (by decide) (by decide) ?_;rw [i,j];exact ⟨by unfold bfp;congr 3;simp only [Int.min_def];repeat' split;all_goals first | rfl | (congr 1;omega),xw⟩
theorem next_near (l : List (Int × Int)) (e day : Int) : nextS l e day = if (near l (nxp day)).2 = true ∧ (near l (nxp day)).1 ≤ e then (near l (nxp day)).1 else 731 := by
 unfold nextS near;have : (fun x : Int × Int => (nxp day x).2) = fun x => decide (day ≤ x.2) := rfl;rw [this]
 cases l.find? fun x => decide (day ≤ x.2) with
 | none => simp
 | some x =>
   simp only [nxp,true_and]
   by_cases h : e < max x.1 day
   ·rw [if_pos h,if_neg (by omega)]
   ·rw [if_neg h,if_pos (by omega)]
theorem bef_near (l : List (Int × Int)) (b day : Int) : befS l b day = if (near l.reverse (bfp day)).2 = true ∧ b ≤ (near l.reverse (bfp day)).1 then (near l.reverse (bfp day)).1 else -1 := by
 unfold befS near;have : (fun x : Int × Int => (bfp day x).2) = fun x => decide (x.1 ≤ day) := rfl;rw [this]
 cases l.reverse.find? fun x => decide (x.1 ≤ day) with
 | none => simp
 | some x =>
   simp only [bfp,true_and]
   by_cases h : min x.2 day < b
   ·rw [if_pos h,if_neg (by omega)]
   ·rw [if_neg h,if_pos (by omega)]
theorem OwnZ.rowP {w : World} {base : Nat} {v : Value} {l : List (Int × Int)} (h : OwnZ w base v l) (hne : l ≠ []) : ∃ b c,v = .slice (some ⟨b,0,none⟩) l.length c ∧ base ≤ b ∧ l.length ≤ c ∧ RowP w b l.length fun i => l[i]?.getD (0,0) := by
 rcases h.2 with ⟨rfl,hn⟩ | ⟨g,cap,cur,rfl,hb,hg,hnc,hcm,hcs,htake⟩
 ·exact absurd (List.eq_nil_of_length_eq_zero hn) hne
 ·refine ⟨g,cap,rfl,hb,hnc,fun i hi => ?_,fun i hi => ?_,own_fz h,List.length_pos_iff.2 hne⟩
  ·have := World.ownsRow.cells h (g := g) rfl _ _ (encL_get (List.getElem?_eq_getElem hi)).1;rw [Addr.add_lit,Nat.zero_add] at this;rw [List.getElem?_eq_getElem hi];exact this
  ·have := World.ownsRow.cells h (g := g) rfl _ _ (encL_get (List.getElem?_eq_getElem hi)).2;rw [Addr.add_lit,Nat.zero_add] at this;rw [List.getElem?_eq_getElem hi];exact this
theorem RowP.rev {w : World} {b c : Nat} {l : List (Int × Int)} (h : RowP w b l.length fun i => l[l.length - 1 - i]?.getD (0,0)) (hc : l.length ≤ c) : SpansV w w.heap.size (.slice (some ⟨b,0,none⟩) l.length c) l.reverse := by
 refine ⟨_,c,by rw [List.length_reverse],fun _ => ⟨b,0,rfl,cell_lt (h.c0 0 h.n1),fun i hi r u hu => ?_⟩,by simpa using hc⟩;rw [List.length_reverse] at hi;have e : l[l.length - 1 - i]? = some (l.reverse[i]'(by simpa using hi)) := by rw [List.getElem_reverse,List.getElem?_eq_getElem]
 have h0 := h.c0 i hi;have h1 := h.c1 i hi;rw [e] at h0 h1
 match r,hu with
 | 0,hu => simp only [encZ,List.getElem?_cons_zero,Option.some.injEq] at hu;subst hu;rw [Nat.zero_add,Nat.add_zero];exact h0
 | 1,hu => simp only [encZ,List.getElem?_cons_succ,List.getElem?_cons_zero,Option.some.injEq] at hu;subst hu;rw [Nat.zero_add];exact h1
 | r + 2,hu => simp [encZ] at hu
theorem rev0_c (A : Option Addr) (c : Nat) (w : World) : CallsV Tryz.prog 195 #[.slice A 0 c] w fun _ w' => True ∧ Ext w w' := by
 refine Wp.fn Tryz.func195 rfl Tryz.ntmps195 (by simp) ?_;have xw := Ext.refl w;refine Wp.keep [0] ?_;rintro r1 ⟨a,-⟩;simp [go_sem] at a;refine sRg fun K' gd hK => ?_;go_simp;apply hK;clear hK K' gd;refine Wp.keep [0,2,3] ?_;rintro r2 ⟨d,e,f,-⟩;simp [go_sem,a] at d e f;clear a;refine Wp.block ?_;refine Wp.loop (fun k ρ ds wk => AllEq [0] ρ r2 ∧ ds = [] ∧ (Ext w wk) ∧ (ρ 2 = .int .i64 0 ∧ ρ 3 = .int .i64 (-1))) (0) ?_ ?_
 ·refine ⟨AllEq.refl _ _,rfl,Ext.refl _,?_⟩;exact ⟨by rw [e],by rw [f];rfl⟩
 ·rintro k r3 _ wk hk ⟨hA,rfl,xl1,⟨e2,e3⟩⟩;obtain ⟨b,-⟩ := hA;rw [d] at b;replace xw := Ext.trans xw xl1;refine Wp.seq ?_;refine sRg fun K' gd hK => ?_;go_simp;apply hK;clear hK K' gd;refine Wp.keep [0,2,3,9] ?_;rintro r4 ⟨g,h,i,j,-⟩;simp [go_sem,b,e2,e3] at g h i j;clear b e2 e3;refine cFf ?_;refine Wp.exit ?_;refine tEx ?_;refine tEx ?_;refine blockK_here ?_;refine endN_none Tryz.results195 ?_;exact ⟨trivial,xw⟩
theorem Md.T_get {m : Md} {i : Nat} (h : i < m.tab.length) : m.tab[i] = m.T i := by unfold Md.T;rw [List.getElem?_eq_getElem h];rfl
theorem next_c (v : Value) (m : Md) (i : Nat) (day : Int) (w : World) (hV : MadeV w w.heap.size v m) (hm : MdOk m) (hi : i < m.n) :
  CallsV Tryz.prog 192 #[v,.int .i64 (i : Int),.int .i64 day] w fun v w' => v = .int .i64 (m.nx i day) ∧ Ext w w' := by
 obtain ⟨wv,tv,rfl,⟨A,c,rfl,-⟩,hT⟩ := hV;obtain ⟨A2,c2,rfl,-⟩ := id hT;have htl : i < m.tab.length := by rw [hm.len];exact hi
 obtain ⟨b,o,u,rfl,hb,-,y0,hS⟩ := hT.row htl;rw [Md.T_get htl] at hS;obtain ⟨A3,c3,rfl,-,-⟩ := id hS;have hin : (i : Int) < (m.tab.length : Int) := by omega
 clear hT;refine Wp.fn Tryz.func192 rfl Tryz.ntmps192 (by simp) ?_;have xw := Ext.refl w;refine Wp.keep [0,1,2] ?_;rintro r1 ⟨l,p,y,-⟩;simp [go_sem] at l p y;refine sRg fun K' gd hK => ?_;refine cu1 fun K1 hK1 => ?_;go_simp;apply hK1;clear hK1 K1;refine Wops.absA fun L n3 h => ?_;obtain ⟨q3,h,s3,k,f3,r3⟩ := h;try simp only [q3] at k f3 r3 ⊢
 replace xw := xw.trans h;replace y0 := h.cell y0;have j := k 2 _ rfl;have G := k 4 _ rfl;clear k h;clear r3;refine cu1 fun K1 hK1 => ?_;go_simp;apply hK1;clear hK1 K1;refine Wops.absA fun M n5 g => ?_;obtain ⟨q5,g,s5,F,f5,r5⟩ := g;try simp only [q5] at F f5 r5 ⊢
 replace xw := xw.trans g;replace y0 := g.cell y0;replace j := g.cell j;replace G := g.cell G;have K := F 0 _ rfl;clear F g;clear r5;go_simp;apply hK;clear hK K' gd;refine Wp.keep [1,3,5] ?_;rintro r2 ⟨q,z,B,-⟩;simp [go_sem,l,p,y] at q z B;clear l p y;refine sRg fun K' gd hK => ?_;refine cu7 fun K1 hK1 => ?_;go_simp;refine Wcall (.inl rfl) (nearest_c _ (m.T i) (nxp day) 216 (.pointer (some ⟨n5,0,none⟩)) _ (hS.ext xw) (by have := hm.many i;omega) (enters_of Tryz.func216 (by kernel_rfl) rfl) (fun x W hW => next1_c x.1 x.2 day n5 W (hW.cell K))) ?_;rintro v w2 ⟨rfl,hE⟩;go_simp;apply hK1;clear hK1 K1;replace xw := xw.trans hE;replace j := hE.cell j;clear hE;go_simp;apply hK;clear hK K' gd;refine Wp.keep [3,7,8] ?_;rintro r4 ⟨a,d,f,-⟩;simp [go_sem,q,z,B] at a d f;clear q z B
 by_cases hq : (near (m.T i) (nxp day)).2 = true
 ·skip
  by_cases he : m.c.e < (near (m.T i) (nxp day)).1
  ·skip;refine Wp.seq ?_;refine sRh fun K' gd hK hg => ?_;have g2 : gd 2 = some 21 := hg 2;clear hg;go_simp;apply hK;clear hK K' gd g2;refine Wp.keep [7,27] ?_;rintro r5 ⟨C,r,-⟩;simp [go_sem,a,d,f] at C r;clear a d f;refine cTt ?_;refine sRg fun K' gd hK => ?_;go_simp;apply hK;clear hK K' gd;refine Wp.keep [6] ?_;rintro r6 ⟨I,-⟩;simp [go_sem,C,r] at I;clear C r;refine Wp.ret ?_;refine tRe ?_;refine endK_tmp Tryz.results192 (by decide) ?_;rw [I];exact ⟨by unfold Md.nx;rw [next_near,if_neg (by omega)],xw⟩
  ·skip;refine Wp.seq ?_;refine sRh fun K' gd hK hg => ?_;have g2 : gd 2 = some 21 := hg 2;clear hg;go_simp;apply hK;clear hK K' gd g2;refine Wp.keep [7,27] ?_;rintro r7 ⟨D,s,-⟩;simp [go_sem,a,d,f] at D s;clear a d f;refine cFf ?_;refine skN ?_;refine sRg fun K' gd hK => ?_;go_simp;apply hK;clear hK K' gd;refine Wp.keep [6] ?_;rintro r8 ⟨J,-⟩;simp [go_sem,D,s] at J;clear D s;refine Wp.ret ?_;refine endK_tmp Tryz.results192 (by decide) ?_;rw [J];exact ⟨by unfold Md.nx;rw [next_near,if_pos ⟨hq,by omega⟩],xw⟩
 ·skip;replace hq : (near (m.T i) (nxp day)).2 = false := by simpa using hq
  refine Wp.seq ?_;refine sRh fun K' gd hK hg => ?_;have g2 : gd 2 = some 21 := hg 2;clear hg;go_simp;apply hK;clear hK K' gd g2;refine Wp.keep [7,27] ?_;rintro r9 ⟨E,t,-⟩;simp [go_sem,a,d,f] at E t;clear a d f;refine cTt ?_;refine sRg fun K' gd hK => ?_;go_simp;apply hK;clear hK K' gd;refine Wp.keep [6] ?_;rintro r10 ⟨H,-⟩;simp [go_sem,E,t] at H;clear E t;refine Wp.ret ?_;refine tRe ?_;refine endK_tmp Tryz.results192 (by decide) ?_;rw [H];exact ⟨by unfold Md.nx;rw [next_near,if_neg (by rw [hq];simp)],xw⟩
theorem before_c (v : Value) (m : Md) (i : Nat) (day : Int) (w : World) (hV : MadeV w w.heap.size v m) (hm : MdOk m) (hi : i < m.n) :
  CallsV Tryz.prog 166 #[v,.int .i64 (i : Int),.int .i64 day] w fun v w' => v = .int .i64 (m.bf i day) ∧ Ext w w' := by
 obtain ⟨wv,tv,rfl,⟨A,c,rfl,-⟩,hT⟩ := hV;obtain ⟨A2,c2,rfl,-⟩ := id hT;have htl : i < m.tab.length := by rw [hm.len];exact hi
 obtain ⟨b,o,u,rfl,hb,-,y0,hS⟩ := hT.row htl;rw [Md.T_get htl] at hS;obtain ⟨A3,c3,rfl,-,-⟩ := id hS;have hin : (i : Int) < (m.tab.length : Int) := by omega
 have hmn := hm.many i;clear hT;obtain ⟨l,hl⟩ : ∃ l,∃ _u : Unit,m.T i = l := ⟨_,(),rfl⟩;rw [hl.choose_spec] at hS y0 hmn;have hres : ∃ _u : Unit,m.bf i day = if (near l.reverse (bfp day)).2 = true ∧ m.c.b ≤ (near l.reverse (bfp day)).1 then (near l.reverse (bfp day)).1 else -1 := ⟨(),by unfold Md.bf;rw [bef_near,hl.choose_spec]⟩;refine Wp.fn Tryz.func166 rfl Tryz.ntmps166 (by simp) ?_;have xw := Ext.refl w;refine Wp.keep [0,1,2] ?_;rintro r1 ⟨t,y,B,-⟩;simp [go_sem] at t y B;refine sRg fun K' gd hK => ?_;refine cu1 fun K1 hK1 => ?_;go_simp;apply hK1;clear hK1 K1;refine Wops.absA fun ad n3 r => ?_;obtain ⟨q3,r,s3,s,f3,r3⟩ := r;try simp only [q3] at s f3 r3 ⊢
 replace xw := xw.trans r;replace y0 := r.cell y0;have a := s 1 _ rfl;have Y := s 4 _ rfl;clear s r;clear r3;refine cu1 fun K1 hK1 => ?_;go_simp;apply hK1;clear hK1 K1;refine Wops.absA fun ae n5 j => ?_;obtain ⟨q5,j,s5,X,f5,r5⟩ := j;try simp only [q5] at X f5 r5 ⊢
 replace xw := xw.trans j;replace y0 := j.cell y0;replace a := j.cell a;replace Y := j.cell Y;have d := X 0 _ rfl;clear X j;clear r5;go_simp;apply hK;clear hK K' gd;refine Wp.keep [1,3,5] ?_;rintro r2 ⟨z,H,L,-⟩;simp [go_sem,t,y,B] at z H L;clear t y B;refine sRg fun K' gd hK => ?_;refine cu6 fun K1 hK1 => ?_;go_simp;refine Wcall (.inl rfl) (cloneZ_c _ l _ (hS.ext xw) (by omega)) ?_;rintro v w2 ⟨hZ,hE⟩;go_simp;apply hK1;clear hK1 K1;replace xw := xw.trans hE;replace y0 := hE.cell y0;replace a := hE.cell a;replace d := hE.cell d;clear hE;go_simp;apply hK;clear hK K' gd;refine Wp.keep [3,5,7] ?_;rintro r4 ⟨k,p,q,-⟩;simp [go_sem,z,H,L] at k p q;clear z H L
 by_cases hne : l = []
 ·skip;subst hne;obtain ⟨A9,c9,rfl⟩ := ownsRow_slice hZ;refine sRg fun K' gd hK => ?_;refine cu2 fun K1 hK1 => ?_;go_simp;refine Wcall (.inl rfl) (rev0_c _ _ _) ?_;rintro v w3 ⟨-,hE⟩;go_simp;apply hK1;clear hK1 K1;replace xw := xw.trans hE;replace d := hE.cell d;clear hE;try simp only [Wops_nil,updO_some,updO_none]
  apply hK;clear hK K' gd;refine Wp.keep [3,5,7] ?_;rintro r6 ⟨I,M,O,-⟩;simp [go_sem,k,p,q] at I M O;clear k p q;refine sRg fun K' gd hK => ?_;refine cu3 fun K1 hK1 => ?_;go_simp;refine Wcall (.inl rfl) (nearest_c _ [] (bfp day) 197 (.pointer (some ⟨n5,0,none⟩)) _ ⟨A9,c9,rfl,fun h => absurd rfl h,Nat.zero_le _⟩ (by simp) (enters_of Tryz.func197 (by kernel_rfl) rfl) (fun x W hW => before1_c x.1 x.2 day n5 W (hW.cell d))) ?_;rintro v w4 ⟨rfl,hE⟩;go_simp;apply hK1;clear hK1 K1;replace xw := xw.trans hE;clear hE;go_simp;apply hK;clear hK K' gd;refine Wp.keep [3,8,9] ?_;rintro r8 ⟨J,S,V,-⟩;simp [go_sem,I,M,O] at J S V;clear I M O;have hq0 : (near [] (bfp day)).2 = false := rfl;refine Wp.seq ?_;refine sRh fun K' gd hK hg => ?_;have g2 : gd 2 = some 26 := hg 2;clear hg;go_simp;apply hK;clear hK K' gd g2;refine Wp.keep [8,32] ?_;rintro r9 ⟨U,F,-⟩;simp [go_sem,J,S,V] at U F;clear J S V;refine cTt ?_;refine sRg fun K' gd hK => ?_;go_simp;apply hK;clear hK K' gd
  refine Wp.keep [6] ?_;rintro r10 ⟨Z,-⟩;simp [go_sem,U,F] at Z;clear U F;refine Wp.ret ?_;refine tRe ?_;refine endK_tmp Tryz.results166 (by decide) ?_;rw [Z];exact ⟨by rw [hres.choose_spec,if_neg (by simp [near])],xw⟩
 ·skip;obtain ⟨b9,c9,rfl,hb9,hc9,hR⟩ := hZ.rowP hne;refine sRg fun K' gd hK => ?_;refine cu2 fun K1 hK1 => ?_;go_simp;refine Wcall (.inl rfl) (revZ_c b9 l.length c9 _ _ hR (by omega)) ?_;rintro v w3 ⟨hR2,hE⟩;go_simp;apply hK1;clear hK1 K1;replace xw := Chg.to xw hE XL;replace a := Chg.cell hE a XN;replace d := Chg.cell hE d XN;try simp only [Wops_nil,updO_some,updO_none]
  apply hK;clear hK K' gd;refine Wp.keep [3,5,7] ?_;rintro r12 ⟨G,K,N,-⟩;simp [go_sem,k,p,q] at G K N;clear k p q;refine sRg fun K' gd hK => ?_;refine cu3 fun K1 hK1 => ?_;go_simp;refine Wcall (.inl rfl) (nearest_c _ l.reverse (bfp day) 197 (.pointer (some ⟨n5,0,none⟩)) _ (hR2.rev hc9) (by simp;omega) (enters_of Tryz.func197 (by kernel_rfl) rfl) (fun x W hW => before1_c x.1 x.2 day n5 W (hW.cell d))) ?_;rintro v w4 ⟨rfl,hE⟩;go_simp;apply hK1;clear hK1 K1;replace xw := xw.trans hE;replace a := hE.cell a;clear hE;go_simp;apply hK;clear hK K' gd;refine Wp.keep [3,8,9] ?_;rintro r14 ⟨e,f,g,-⟩;simp [go_sem,G,K,N] at e f g;clear G K N
  by_cases hq : (near l.reverse (bfp day)).2 = true
  ·skip
   by_cases he : (near l.reverse (bfp day)).1 < m.c.b
   ·skip;refine Wp.seq ?_;refine sRh fun K' gd hK hg => ?_;have g2 : gd 2 = some 26 := hg 2;clear hg;go_simp;apply hK;clear hK K' gd g2;refine Wp.keep [8,32] ?_;rintro r15 ⟨P,C,-⟩;simp [go_sem,e,f,g] at P C;clear e f g;refine cTt ?_;refine sRg fun K' gd hK => ?_;go_simp;apply hK;clear hK K' gd;refine Wp.keep [6] ?_;rintro r16 ⟨aa,-⟩;simp [go_sem,P,C] at aa;clear P C;refine Wp.ret ?_;refine tRe ?_;refine endK_tmp Tryz.results166 (by decide) ?_;rw [aa];exact ⟨by rw [hres.choose_spec,if_neg (by omega)],xw⟩
   ·skip;refine Wp.seq ?_;refine sRh fun K' gd hK hg => ?_;have g2 : gd 2 = some 26 := hg 2;clear hg;go_simp;apply hK;clear hK K' gd g2;refine Wp.keep [8,32] ?_;rintro r17 ⟨Q,D,-⟩;simp [go_sem,e,f,g] at Q D;clear e f g;refine cFf ?_;refine skN ?_;refine sRg fun K' gd hK => ?_;go_simp;apply hK;clear hK K' gd;refine Wp.keep [6] ?_;rintro r18 ⟨ab,-⟩;simp [go_sem,Q,D] at ab;clear Q D;refine Wp.ret ?_;refine endK_tmp Tryz.results166 (by decide) ?_;rw [ab];exact ⟨by rw [hres.choose_spec,if_pos ⟨hq,by omega⟩],xw⟩
  ·skip;replace hq : (near l.reverse (bfp day)).2 = false := by simpa using hq
   refine Wp.seq ?_;refine sRh fun K' gd hK hg => ?_;have g2 : gd 2 = some 26 := hg 2;clear hg;go_simp;apply hK;clear hK K' gd g2;refine Wp.keep [8,32] ?_;rintro r19 ⟨R,E,-⟩;simp [go_sem,e,f,g] at R E;clear e f g;refine cTt ?_;refine sRg fun K' gd hK => ?_;go_simp;apply hK;clear hK K' gd;refine Wp.keep [6] ?_;rintro r20 ⟨ac,-⟩;simp [go_sem,R,E] at ac;clear R E;refine Wp.ret ?_;refine tRe ?_;refine endK_tmp Tryz.results166 (by decide) ?_;rw [ac];exact ⟨by rw [hres.choose_spec,if_neg (by rw [hq];simp)],xw⟩
end Go.Proofs.YtnklbepeoicgpaaGreat.St
namespace Go.Proofs.YtnklbepeoicgpaaGreat.St
open Go.RowKit Go.Wk Go.Proofs
attribute [local irreducible] Go.Wk.Wops Go.Wk.Wp Go.Wk.Mtree Go.Wk.Mops
set_option maxHeartbeats 8000000
set_option maxRecDepth 20000
theorem from_c (v dv : Value) (m : Md) (l : List Int) (i pn : Nat) (w : World) (hV : MadeV w w.heap.size v m) (hD : IntsV w w.heap.size dv l) (hp : m.c.p = (pn : Int)) (hp1 : 1 ≤ pn) (hp2 : pn ≤ 40) (hi : i ≤ l.length) (hi2 : i ≤ 40)
  (hbd : ∀ j,j < i → -1000 ≤ gI l j ∧ gI l j ≤ 1000) :
  CallsV Tryz.prog 193 #[v,dv,.int .i64 (i : Int)] w fun v w' => v = .int .i64 (fromD m.c.b pn l i) ∧ Ext w w' := by
 obtain ⟨wv,tv,rfl,⟨A,c,rfl,-⟩,⟨A2,c2,rfl,-⟩⟩ := hV;rw [hp];clear hp
 by_cases h0 : 0 < i
 ·obtain ⟨k,rfl⟩ : ∃ k,i = k + 1 := ⟨i - 1,by omega⟩;obtain ⟨b,o,c3,rfl,hb,hc⟩ := hD.get (show k < l.length by omega);have y0 := hc k (by omega);have hw1 : IntKind.i64.wrap (k : Int) = (k : Int) := IntWalk.i64_in _ (by omega);have hin : (k : Int) < (l.length : Int) := by omega
  have hgt : (0 : Int) < (k : Int) + 1 := by omega
  by_cases h1 : pn ≤ k + 1
  ·have y1 := hc (k + 1 - pn) (by omega);have hb1 := hbd (k + 1 - pn) (by omega);have hw2 : IntKind.i64.wrap ((k : Int) + 1 - (pn : Int)) = ((k + 1 - pn : Nat) : Int) := by rw [IntWalk.i64_in _ (by omega)];omega
   have hw3 : IntKind.i64.wrap (gI l (k + 1 - pn) + 1) = gI l (k + 1 - pn) + 1 := IntWalk.i64_in _ (by omega);have hin2 : ((k + 1 - pn : Nat) : Int) < (l.length : Int) := by omega
   have hge : (pn : Int) ≤ (k : Int) + 1 := by omega
   refine Wp.fn Tryz.func193 rfl Tryz.ntmps193 (by simp) ?_;have xw := Ext.refl w;refine Wp.keep [0,1,2] ?_;rintro r1 ⟨e,g,s,-⟩;simp [go_sem] at e g s;refine sRg fun K' gd hK => ?_;refine cu1 fun K1 hK1 => ?_;go_simp;apply hK1;clear hK1 K1;refine Wops.absA fun O n3 a => ?_;obtain ⟨q3,a,s3,d,f3,r3⟩ := a;try simp only [q3] at d f3 r3 ⊢
   replace xw := xw.trans a;replace y0 := a.cell y0;replace y1 := a.cell y1;have P := d 1 _ rfl;have Q := d 3 _ rfl;clear d a;clear r3;go_simp;apply hK;clear hK K' gd;refine Wp.keep [1,2,3] ?_;rintro r2 ⟨h,t,z,-⟩;simp [go_sem,e,g,s] at h t z;clear e g s;refine sRg fun K' gd hK => ?_;go_simp;apply hK;clear hK K' gd;refine Wp.keep [1,2,3,7] ?_;rintro r3 ⟨n,u,B,E,-⟩;simp [go_sem,h,t,z] at n u B E;clear h t z;refine Wp.seq ?_;refine sRg fun K' gd hK => ?_;go_simp;apply hK;clear hK K' gd;refine Wp.keep [1,2,3,7,12] ?_;rintro r4 ⟨q,x,C,F,f,-⟩;simp [go_sem,n,u,B,E] at q x C F f;clear n u B E;refine cTt ?_;refine lRg fun K' gd hK => ?_;go_simp;apply hK;clear hK K' gd;refine Ends.keep [1,2,3,7] ?_;rintro r5 ⟨r,y,D,G,-⟩;simp [go_sem,q,x,C,F,f] at r y D G;clear q x C F f;refine Ends.mk ?_;refine tNo ?_;refine Wp.seq ?_;refine sRg fun K' gd hK => ?_;go_simp;apply hK;clear hK K' gd;refine Wp.keep [1,2,3,7,24] ?_;rintro r6 ⟨H,J,K,L,I,-⟩;simp [go_sem,r,y,D,G] at H J K L I;clear r y D G;refine cTt ?_;refine lRg fun K' gd hK => ?_;go_simp;apply hK;clear hK K' gd;refine Ends.keep [7] ?_;rintro r7 ⟨N,-⟩;simp [go_sem,H,J,K,L,I] at N;clear H J K L I;refine Ends.mk ?_;refine tNo ?_;refine sRg fun K' gd hK => ?_;go_simp;apply hK;clear hK K' gd;refine Wp.keep [6] ?_;rintro r8 ⟨T,-⟩;simp [go_sem,N] at T;clear N;refine Wp.ret ?_;refine endK_tmp Tryz.results193 (by decide) ?_;rw [T];exact ⟨congrArg (Value.int .i64) (by unfold fromD;rw [if_pos h1,if_pos h0];try simp only [Nat.add_sub_cancel,Int.max_def];repeat' split;all_goals omega),xw⟩
  ·have hge : ¬ (pn : Int) ≤ (k : Int) + 1 := by omega
   refine Wp.fn Tryz.func193 rfl Tryz.ntmps193 (by simp) ?_;have xw := Ext.refl w;refine Wp.keep [0,1,2] ?_;rintro r1 ⟨e,g,s,-⟩;simp [go_sem] at e g s;refine sRg fun K' gd hK => ?_;refine cu1 fun K1 hK1 => ?_;go_simp;apply hK1;clear hK1 K1;refine Wops.absA fun O n3 a => ?_;obtain ⟨q3,a,s3,d,f3,r3⟩ := a;try simp only [q3] at d f3 r3 ⊢
   replace xw := xw.trans a;replace y0 := a.cell y0;have P := d 1 _ rfl;have Q := d 3 _ rfl;clear d a;clear r3;go_simp;apply hK;clear hK K' gd;refine Wp.keep [1,2,3] ?_;rintro r2 ⟨h,t,z,-⟩;simp [go_sem,e,g,s] at h t z;clear e g s;refine sRg fun K' gd hK => ?_;go_simp;apply hK;clear hK K' gd;refine Wp.keep [1,2,3,7] ?_;rintro r3 ⟨n,u,B,E,-⟩;simp [go_sem,h,t,z] at n u B E;clear h t z;refine Wp.seq ?_;refine sRg fun K' gd hK => ?_;go_simp;apply hK;clear hK K' gd;refine Wp.keep [1,2,3,7,12] ?_;rintro r4 ⟨q,x,C,F,f,-⟩;simp [go_sem,n,u,B,E] at q x C F f;clear n u B E;refine cTt ?_;refine lRg fun K' gd hK => ?_;go_simp;apply hK;clear hK K' gd;refine Ends.keep [1,2,3,7] ?_;rintro r5 ⟨r,y,D,G,-⟩;simp [go_sem,q,x,C,F,f] at r y D G;clear q x C F f;refine Ends.mk ?_;refine tNo ?_;refine Wp.seq ?_;refine sRg fun K' gd hK => ?_;go_simp;apply hK
   clear hK K' gd;refine Wp.keep [1,2,3,7,24] ?_;rintro r6 ⟨H,J,K,L,I,-⟩;simp [go_sem,r,y,D,G] at H J K L I;clear r y D G;refine cFf ?_;refine skN ?_;refine sRg fun K' gd hK => ?_;go_simp;apply hK;clear hK K' gd;refine Wp.keep [6] ?_;rintro r7 ⟨S,-⟩;simp [go_sem,H,J,K,L,I] at S;clear H J K L I;refine Wp.ret ?_;refine endK_tmp Tryz.results193 (by decide) ?_;rw [S];exact ⟨congrArg (Value.int .i64) (by unfold fromD;rw [if_neg h1,if_pos h0];try simp only [Nat.add_sub_cancel,Int.max_def];repeat' split;all_goals omega),xw⟩
 ·obtain rfl : i = 0 := by omega
  have h1 : ¬ pn ≤ 0 := by omega
  have hp0 : ¬ pn = 0 := by omega
  refine Wp.fn Tryz.func193 rfl Tryz.ntmps193 (by simp) ?_;have xw := Ext.refl w;refine Wp.keep [0,1,2] ?_;rintro r1 ⟨e,g,s,-⟩;simp [go_sem] at e g s;refine sRg fun K' gd hK => ?_;refine cu1 fun K1 hK1 => ?_;go_simp;apply hK1;clear hK1 K1;refine Wops.absA fun O n3 a => ?_;obtain ⟨q3,a,s3,d,f3,r3⟩ := a;try simp only [q3] at d f3 r3 ⊢
  replace xw := xw.trans a;have P := d 1 _ rfl;have Q := d 3 _ rfl;clear d a;clear r3;go_simp;apply hK;clear hK K' gd;refine Wp.keep [1,2,3] ?_;rintro r2 ⟨h,t,z,-⟩;simp [go_sem,e,g,s] at h t z;clear e g s;refine sRg fun K' gd hK => ?_;go_simp;apply hK;clear hK K' gd;refine Wp.keep [1,2,3,7] ?_;rintro r3 ⟨n,u,B,E,-⟩;simp [go_sem,h,t,z] at n u B E;clear h t z;refine Wp.seq ?_;refine sRg fun K' gd hK => ?_;go_simp;apply hK;clear hK K' gd;refine Wp.keep [1,2,3,7,12] ?_;rintro r4 ⟨q,x,C,F,f,-⟩;simp [go_sem,n,u,B,E] at q x C F f;clear n u B E;refine cFf ?_;refine skN ?_;refine Wp.seq ?_;refine sRg fun K' gd hK => ?_;go_simp;apply hK;clear hK K' gd;refine Wp.keep [1,2,3,7,24] ?_;rintro r5 ⟨r,y,D,G,M,-⟩;simp [go_sem,q,x,C,F,f] at r y D G M;clear q x C F f;refine cFf ?_;refine skN ?_;refine sRg fun K' gd hK => ?_;go_simp;apply hK;clear hK K' gd;refine Wp.keep [6] ?_;rintro r6 ⟨R,-⟩;simp [go_sem,r,y,D,G,M] at R;clear r y D G M;refine Wp.ret ?_;refine endK_tmp Tryz.results193 (by decide) ?_;rw [R];exact ⟨congrArg (Value.int .i64) (by unfold fromD;rw [if_neg h1,if_neg h0]),xw⟩
theorem gI_drop (l : List Int) (n i : Nat) : gI (l.drop n) i = gI l (n + i) := by unfold gI;rw [List.getElem?_drop]
theorem to_c (v dv : Value) (m : Md) (l : List Int) (i pn : Nat) (w : World) (hV : MadeV w w.heap.size v m) (hD : IntsV w w.heap.size dv l) (hp : m.c.p = (pn : Int)) (hp1 : 1 ≤ pn) (hp2 : pn ≤ 40) (hi : i < l.length) (hi2 : l.length ≤ 40)
  (hbd : ∀ j,i < j → j < l.length → -1000 ≤ gI l j ∧ gI l j ≤ 1000) :
  CallsV Tryz.prog 167 #[v,dv,.int .i64 (i : Int)] w fun v w' => v = .int .i64 (toD m.c.e pn (l.drop (i + 1))) ∧ Ext w w' := by
 obtain ⟨wv,tv,rfl,⟨A,c,rfl,-⟩,⟨A2,c2,rfl,-⟩⟩ := hV;rw [hp];clear hp;obtain ⟨b,o,c3,rfl,hb,hc⟩ := hD.get hi;obtain ⟨i1,hi1⟩ : ∃ i1 : Nat,∃ _u : Unit,i1 = i + 1 := ⟨_,(),rfl⟩;obtain ⟨j1,hj1⟩ : ∃ j1 : Nat,∃ _u : Unit,j1 = i + pn := ⟨_,(),rfl⟩;have hw1 : IntKind.i64.wrap ((i : Int) + 1) = (i1 : Int) := by have := hi1.choose_spec;rw [IntWalk.i64_in _ (by omega)];omega
 have hw2 : IntKind.i64.wrap ((i : Int) + (pn : Int)) = (j1 : Int) := by have := hj1.choose_spec;rw [IntWalk.i64_in _ (by omega)];omega
 have hres : ∃ _u : Unit,toD m.c.e pn (l.drop (i + 1)) = if j1 < l.length then min (if i1 < l.length then min m.c.e (gI l i1) else m.c.e) (gI l j1 - 1) else (if i1 < l.length then min m.c.e (gI l i1) else m.c.e) := ⟨(),by
  have e1 := hi1.choose_spec;rw [← e1];have hdl : (l.drop i1).length = l.length - i1 := List.length_drop;unfold toD;rw [gI_drop,gI_drop,show i1 + (pn - 1) = j1 by omega,Nat.add_zero]
  by_cases a : j1 < l.length <;> by_cases c : i1 < l.length
  ·rw [if_pos (by omega),if_pos (by omega),if_pos a,if_pos c]
  ·omega
  ·rw [if_neg (by omega),if_pos (by omega),if_neg a,if_pos c]
  ·rw [if_neg (by omega),if_neg (by omega),if_neg a,if_neg c]⟩
 have hbd1 : j1 < l.length → -1000 ≤ gI l j1 ∧ gI l j1 ≤ 1000 := fun h => hbd j1 (by omega) h;clear hbd;obtain ⟨r,hr⟩ : ∃ r,toD m.c.e pn (l.drop (i + 1)) = r := ⟨_,rfl⟩;rw [hr] at hres ⊢;clear hr
 by_cases h0 : i1 < l.length
 ·have y0 := hc i1 h0;have hin : (i1 : Int) < (l.length : Int) := by omega
  by_cases h1 : j1 < l.length
  ·have y1 := hc j1 h1;have hb1 := hbd1 h1;have hw3 : IntKind.i64.wrap (gI l j1 - 1) = gI l j1 - 1 := IntWalk.i64_in _ (by omega);have hin2 : (j1 : Int) < (l.length : Int) := by omega
   refine Wp.fn Tryz.func167 rfl Tryz.ntmps167 (by simp) ?_;have xw := Ext.refl w;refine Wp.keep [0,1,2] ?_;rintro r1 ⟨g,n,x,-⟩;simp [go_sem] at g n x;refine sRg fun K' gd hK => ?_;refine cu1 fun K1 hK1 => ?_;go_simp;apply hK1;clear hK1 K1;refine Wops.absA fun R n3 d => ?_;obtain ⟨q3,d,s3,f,f3,r3⟩ := d;try simp only [q3] at f f3 r3 ⊢
   replace xw := xw.trans d;replace y0 := d.cell y0;replace y1 := d.cell y1;have S := f 2 _ rfl;have T := f 3 _ rfl;clear f d;clear r3;go_simp;apply hK;clear hK K' gd;refine Wp.keep [1,2,3] ?_;rintro r2 ⟨q,y,D,-⟩;simp [go_sem,g,n,x] at q y D;clear g n x;refine sRg fun K' gd hK => ?_;go_simp;apply hK;clear hK K' gd;refine Wp.keep [1,2,3,7] ?_;rintro r3 ⟨s,z,E,H,-⟩;simp [go_sem,q,y,D] at s z E H;clear q y D;refine Wp.seq ?_;refine sRg fun K' gd hK => ?_;go_simp;apply hK;clear hK K' gd;refine Wp.keep [1,2,3,7,15] ?_;rintro r4 ⟨t,B,F,I,k,-⟩;simp [go_sem,s,z,E,H] at t B F I k;clear s z E H;refine cTt ?_;refine lRg fun K' gd hK => ?_;go_simp;apply hK;clear hK K' gd;refine Ends.keep [1,2,3,7] ?_;rintro r5 ⟨u,C,G,J,-⟩;simp [go_sem,t,B,F,I,k] at u C G J;clear t B F I k;refine Ends.mk ?_;refine tNo ?_;refine Wp.seq ?_;refine sRg fun K' gd hK => ?_;go_simp;apply hK;clear hK K' gd;refine Wp.keep [1,2,3,7,30] ?_;rintro r6 ⟨K,L,N,O,M,-⟩;simp [go_sem,u,C,G,J] at K L N O M;clear u C G J;refine cTt ?_;refine lRg fun K' gd hK => ?_;go_simp;apply hK;clear hK K' gd;refine Ends.keep [7] ?_;rintro r7 ⟨Q,-⟩;simp [go_sem,K,L,N,O,M] at Q;clear K L N O M;refine Ends.mk ?_;refine tNo ?_;refine sRg fun K' gd hK => ?_;go_simp;apply hK;clear hK K' gd;refine Wp.keep [6] ?_;rintro r8 ⟨W,-⟩;simp [go_sem,Q] at W;clear Q;refine Wp.ret ?_;refine endK_tmp Tryz.results167 (by decide) ?_;rw [W];exact ⟨congrArg (Value.int .i64) (by rw [hres.choose_spec,if_pos h1,if_pos h0];try simp only [Int.min_def];repeat' split;all_goals omega),xw⟩
  ·skip;refine Wp.fn Tryz.func167 rfl Tryz.ntmps167 (by simp) ?_;have xw := Ext.refl w;refine Wp.keep [0,1,2] ?_;rintro r1 ⟨g,n,x,-⟩;simp [go_sem] at g n x;refine sRg fun K' gd hK => ?_;refine cu1 fun K1 hK1 => ?_;go_simp;apply hK1;clear hK1 K1;refine Wops.absA fun R n3 d => ?_;obtain ⟨q3,d,s3,f,f3,r3⟩ := d;try simp only [q3] at f f3 r3 ⊢
   replace xw := xw.trans d;replace y0 := d.cell y0;have S := f 2 _ rfl;have T := f 3 _ rfl;clear f d;clear r3;go_simp;apply hK;clear hK K' gd;refine Wp.keep [1,2,3] ?_;rintro r2 ⟨q,y,D,-⟩;simp [go_sem,g,n,x] at q y D;clear g n x;refine sRg fun K' gd hK => ?_;go_simp;apply hK;clear hK K' gd;refine Wp.keep [1,2,3,7] ?_;rintro r3 ⟨s,z,E,H,-⟩;simp [go_sem,q,y,D] at s z E H;clear q y D;refine Wp.seq ?_;refine sRg fun K' gd hK => ?_;go_simp;apply hK;clear hK K' gd;refine Wp.keep [1,2,3,7,15] ?_;rintro r4 ⟨t,B,F,I,k,-⟩;simp [go_sem,s,z,E,H] at t B F I k;clear s z E H;refine cTt ?_;refine lRg fun K' gd hK => ?_;go_simp;apply hK;clear hK K' gd;refine Ends.keep [1,2,3,7] ?_;rintro r5 ⟨u,C,G,J,-⟩;simp [go_sem,t,B,F,I,k] at u C G J;clear t B F I k;refine Ends.mk ?_;refine tNo ?_;refine Wp.seq ?_;refine sRg fun K' gd hK => ?_;go_simp;apply hK
   clear hK K' gd;refine Wp.keep [1,2,3,7,30] ?_;rintro r6 ⟨K,L,N,O,M,-⟩;simp [go_sem,u,C,G,J] at K L N O M;clear u C G J;refine cFf ?_;refine skN ?_;refine sRg fun K' gd hK => ?_;go_simp;apply hK;clear hK K' gd;refine Wp.keep [6] ?_;rintro r7 ⟨V,-⟩;simp [go_sem,K,L,N,O,M] at V;clear K L N O M;refine Wp.ret ?_;refine endK_tmp Tryz.results167 (by decide) ?_;rw [V];exact ⟨congrArg (Value.int .i64) (by rw [hres.choose_spec,if_neg h1,if_pos h0];try simp only [Int.min_def];repeat' split;all_goals omega),xw⟩
 ·have h1 : ¬ j1 < l.length := by omega
  refine Wp.fn Tryz.func167 rfl Tryz.ntmps167 (by simp) ?_;have xw := Ext.refl w;refine Wp.keep [0,1,2] ?_;rintro r1 ⟨g,n,x,-⟩;simp [go_sem] at g n x;refine sRg fun K' gd hK => ?_;refine cu1 fun K1 hK1 => ?_;go_simp;apply hK1;clear hK1 K1;refine Wops.absA fun R n3 d => ?_;obtain ⟨q3,d,s3,f,f3,r3⟩ := d;try simp only [q3] at f f3 r3 ⊢
  replace xw := xw.trans d;have S := f 2 _ rfl;have T := f 3 _ rfl;clear f d;clear r3;go_simp;apply hK;clear hK K' gd;refine Wp.keep [1,2,3] ?_;rintro r2 ⟨q,y,D,-⟩;simp [go_sem,g,n,x] at q y D;clear g n x;refine sRg fun K' gd hK => ?_;go_simp;apply hK;clear hK K' gd;refine Wp.keep [1,2,3,7] ?_;rintro r3 ⟨s,z,E,H,-⟩;simp [go_sem,q,y,D] at s z E H;clear q y D;refine Wp.seq ?_;refine sRg fun K' gd hK => ?_;go_simp;apply hK;clear hK K' gd;refine Wp.keep [1,2,3,7,15] ?_;rintro r4 ⟨t,B,F,I,k,-⟩;simp [go_sem,s,z,E,H] at t B F I k;clear s z E H;refine cFf ?_;refine skN ?_;refine Wp.seq ?_;refine sRg fun K' gd hK => ?_;go_simp;apply hK;clear hK K' gd;refine Wp.keep [1,2,3,7,30] ?_;rintro r5 ⟨u,C,G,J,P,-⟩;simp [go_sem,t,B,F,I,k] at u C G J P;clear t B F I k;refine cFf ?_;refine skN ?_;refine sRg fun K' gd hK => ?_;go_simp;apply hK;clear hK K' gd;refine Wp.keep [6] ?_;rintro r6 ⟨U,-⟩;simp [go_sem,u,C,G,J,P] at U;clear u C G J P;refine Wp.ret ?_;refine endK_tmp Tryz.results167 (by decide) ?_;rw [U];exact ⟨congrArg (Value.int .i64) (by rw [hres.choose_spec,if_neg h1,if_neg h0]),xw⟩
end Go.Proofs.YtnklbepeoicgpaaGreat.St
