/- Flaws in rows of our own; a tour in which a day is closed, or some flaws are left out. A tour without some flaws. Best, Merit, Close, Lost. Plans of days: how many days each flaw has, and what closed sets of days prove of the worth. What the search for a day does: it gives the new flaw a day, or shows a closed set of days. Adding flaws to a plan, one after the other: what is left out has a closed set of days; a best plan has one for each flaw that is left out. Spans of days: closed days fill a span; what cannot be planned makes a jam. What a best mending is worth with a flaw on a day; the days -/
import Derived.Test.YtnklbepeoicgpaaGreatB2
import Derived.Test.YtnklbepeoicgpaaGreatB1
import Derived.Lib.SliceRun
set_option linter.all false
namespace Go.Proofs.YtnklbepeoicgpaaGreat
open Go.RowKit Go.Wk Go.Proofs
attribute [local irreducible] Go.Wk.Wops Go.Wk.Wp Go.Wk.Mtree Go.Wk.Mops
set_option maxHeartbeats 8000000
set_option maxRecDepth 20000
theorem flaws_T : ElemT Tryz.prog 23 47 4 := elemT_of (by kernel_rfl)
def encFs (l : List Fl) : List Value := l.flatMap encF
theorem encFs_len (l : List Fl) : (encFs l).length = l.length * 4 := by
 induction l with
 | nil => rfl
 | cons a l ih =>
   have e : encFs (a :: l) = encF a ++ encFs l := rfl;rw [e,List.length_append,List.length_cons,ih];have : (encF a).length = 4 := rfl;omega
theorem encF_one {f : Fl} : ∀ u ∈ encF f,u.oneCell' = true := by
 intro u hx;simp [encF] at hx
 rcases hx with rfl | rfl | rfl | rfl <;> rfl
theorem encFs_one {l : List Fl} : ∀ u ∈ encFs l,u.oneCell' = true := by
 intro u hu;unfold encFs at hu;rw [List.mem_flatMap] at hu;obtain ⟨x,-,hx⟩ := hu;exact encF_one u hx
theorem encFs_add (l : List Fl) (a : Fl) : encFs (l ++ [a]) = encFs l ++ encF a := by unfold encFs;rw [List.flatMap_append];simp
theorem four_get (l : List Fl) : ∀ (i : Nat) (h : i < l.length) (r : Nat) (u : Value),(encF l[i])[r]? = some u → (encFs l)[i * 4 + r]? = some u := by
 induction l with
 | nil => intro i h;cases h
 | cons a l ih =>
   intro i h r u hu;rw [show encFs (a :: l) = encF a ++ encFs l from rfl]
   cases i with
   | zero =>
     have hr : r < (encF a).length := (List.getElem?_eq_some_iff.1 hu).1;rw [Nat.zero_mul,Nat.zero_add,List.getElem?_append_left hr];exact hu
   | succ i =>
     have hl : (encF a).length = 4 := rfl;rw [List.getElem?_append_right (by rw [hl];omega),hl,show (i + 1) * 4 + r - 4 = i * 4 + r by omega];exact ih i (by simpa using h) r u hu
theorem newsF_of {w : World} {b o : Nat} {xs : List Fl} (h : ∀ i (h : i < xs.length) r u,(encF xs[i])[r]? = some u → w.cell? ⟨b,o + i * 4 + r,none⟩ = some u) :
  ∀ j u,(encFs xs)[j]? = some u → w.cell? ((⟨b,o,none⟩ : Addr).add j) = some u := by
 intro j u hu;rw [Addr.add_lit];have hl := encFs_len xs;have hj : j < xs.length * 4 := by have := (List.getElem?_eq_some_iff.1 hu).1;omega
 have hm : j % 4 < 4 := Nat.mod_lt _ (by omega);have hi : j / 4 < xs.length := by omega
 have hr : j % 4 < (encF xs[j / 4]).length := hm;have e := four_get xs (j / 4) hi (j % 4) _ (List.getElem?_eq_getElem hr);rw [show j / 4 * 4 + j % 4 = j by omega,hu] at e
 injection e with e
 have := h (j / 4) hi (j % 4) u (by rw [e];exact List.getElem?_eq_getElem hr);rw [show o + j / 4 * 4 + j % 4 = o + j by omega] at this;exact this
def OwnF (w : World) (base : Nat) (v : Value) (l : List Fl) : Prop := w.ownsRow base 47 4 v l.length (encFs l)
theorem OwnF.ext {w w' : World} {base : Nat} {v : Value} {l : List Fl} (h : OwnF w base v l) (hE : Ext w w') : OwnF w' base v l := ownsRow_ext h hE
theorem OwnF.less {w : World} {base b2 : Nat} {v : Value} {l : List Fl} (h : OwnF w base v l) (hb : b2 ≤ base) : OwnF w b2 v l := ownsRow_less h hb
theorem OwnF.put {w w' : World} {base b i : Nat} {v : Value} {l : List Fl} {vs : List Value} (h : OwnF w base v l) (p : Put w w' b i vs) (hb : b < base) : OwnF w' base v l := World.ownsRow.put h p hb
theorem OwnF.slice {w : World} {base : Nat} {v : Value} {l : List Fl} (h : OwnF w base v l) : ∃ A c,v = .slice A l.length c := by
 rcases h.2 with ⟨rfl,hn⟩ | ⟨g,cap,cur,rfl,-⟩
 ·exact ⟨none,0,by rw [hn]⟩
 ·exact ⟨_,_,rfl⟩
structure RowG (W : World) (b : Nat) (l : List Fl) : Prop where
 c : ∀ i (h : i < l.length) r u,(encF l[i])[r]? = some u → W.cell? ⟨b,i * 4 + r,none⟩ = some u
 fz : ∀ j,W.frozen? ⟨b,j,none⟩ = false
 ne : l ≠ []
theorem RowG.len {W : World} {b : Nat} {xs : List Fl} (h : RowG W b xs) : b < W.heap.size := cell_lt (h.c 0 (List.length_pos_iff.2 h.ne) 0 _ rfl)
theorem OwnF.rowG {w : World} {base : Nat} {v : Value} {xs : List Fl} (h : OwnF w base v xs) (hne : xs ≠ []) : ∃ b c,v = .slice (some ⟨b,0,none⟩) xs.length c ∧ base ≤ b ∧ xs.length ≤ c ∧ RowG w b xs := by
 rcases h.2 with ⟨rfl,hn⟩ | ⟨g,cap,cur,rfl,hb,hg,hnc,hcm,hcs,htake⟩
 ·exact absurd (List.eq_nil_of_length_eq_zero hn) hne
 ·refine ⟨g,cap,rfl,hb,hnc,fun i hi r u hu => ?_,own_fz h,hne⟩;have := World.ownsRow.cells h (g := g) rfl _ _ (four_get xs i hi r u hu);rw [Addr.add_lit,Nat.zero_add] at this;exact this
theorem OwnF.flawsV {w : World} {base : Nat} {v : Value} {xs : List Fl} (h : OwnF w base v xs) : FlawsV w w.heap.size v xs := by
 by_cases hne : xs = []
 ·subst hne;obtain ⟨A,c,rfl⟩ := OwnF.slice h;exact ⟨A,c,rfl,fun h => absurd rfl h,Nat.zero_le _⟩
 ·obtain ⟨b,c,rfl,-,hc,hR⟩ := h.rowG hne;exact ⟨_,c,rfl,fun _ => ⟨b,0,rfl,hR.len,fun i hi r u hu => by rw [Nat.zero_add];exact hR.c i hi r u hu⟩,hc⟩
abbrev FlawsB := RowsB 4 encF
theorem OwnF.flawsB {w : World} {base : Nat} {v : Value} {xs : List Fl} (h : OwnF w base v xs) : FlawsB w base v xs := by
 by_cases hne : xs = []
 ·subst hne;obtain ⟨A,c,rfl⟩ := OwnF.slice h;exact ⟨A,c,rfl,fun h => absurd rfl h,Nat.zero_le _⟩
 ·obtain ⟨b,c,rfl,hb,hc,hR⟩ := h.rowG hne;exact ⟨_,c,rfl,fun _ => ⟨b,0,rfl,hb,hR.len,fun i hi r u hu => by rw [Nat.zero_add];exact hR.c i hi r u hu⟩,hc⟩
structure TourB (w : World) (base : Nat) (v : Value) (t : Tr) : Prop where
 ex : ∃ cv fv,v = .agg #[.int .i64 t.n,cv,fv] ∧ IntsB w base cv t.cl ∧ FlawsB w base fv t.fl
section
variable {w w' : World} {base b2 : Nat} {v : Value} {t : Tr}
theorem TourB.ext (h : TourB w base v t) (hE : Ext w w') : TourB w' base v t := by obtain ⟨x,z,h1,h2,h3⟩ := h.ex;exact ⟨x,z,h1,h2.ext hE,h3.ext hE⟩
theorem TourB.chg {L : List Nat} (h : TourB w base v t) (hC : Chg L w w') (hL : ∀ b ∈ L,b < base) : TourB w' base v t := by obtain ⟨x,z,h1,h2,h3⟩ := h.ex;exact ⟨x,z,h1,h2.chg hC hL,h3.chg hC hL⟩
theorem TourB.put {k i : Nat} {vs : List Value} (h : TourB w base v t) (p : Put w w' k i vs) (hb : k < base) : TourB w' base v t := h.chg p.chg (by simpa using hb)
theorem TourB.less (h : TourB w base v t) (hb : b2 ≤ base) : TourB w b2 v t := by obtain ⟨x,z,h1,h2,h3⟩ := h.ex;exact ⟨x,z,h1,h2.less hb,h3.less hb⟩
theorem TourB.shut {m0 : Nat} (h : TourB w base v t) (hS : Shut m0 w w') : TourB w' base v t := by obtain ⟨x,z,h1,h2,h3⟩ := h.ex;exact ⟨x,z,h1,h2.shut hS,h3.shut hS⟩
theorem TourB.tourV (h : TourB w base v t) : TourV w w.heap.size v t := by obtain ⟨x,z,h1,h2,h3⟩ := h.ex;exact ⟨x,z,h1,h2.ints,h3.rowsV⟩
theorem TourB.open' (h : TourB w base v t) : ∃ A c A2 c2,v = .agg #[.int .i64 t.n,.slice A t.cl.length c,.slice A2 t.fl.length c2] := by
 obtain ⟨x,z,rfl,h2,h3⟩ := h.ex;obtain ⟨A,c,rfl⟩ := h2.slice;obtain ⟨A2,c2,rfl⟩ := h3.slice;exact ⟨A,c,A2,c2,rfl⟩
end
@[go_sem] theorem eql_nilF (w : World) (a : Option Addr) (n c n' c' : Nat) : (binOp .eql 23 (.slice a n c) (.slice none n' c')).run Tryz.prog w = .ok (.bool a.isNone) w :=
 Lib.run_eql_slice_nil w _ 47 a n c n' c' (by kernel_rfl)
theorem cloneF_c (v : Value) (xs : List Fl) (w : World) (hx : FlawsV w w.heap.size v xs) (hl : xs.length ≤ 1000000000) :
  CallsV Tryz.prog 176 #[v] w fun v' w' => OwnF w' w.heap.size v' xs ∧ Ext w w' := by
 obtain ⟨A,c,rfl,hx,hcap⟩ := hx
 have hA : (∃ b o,A = some ⟨b,o,none⟩ ∧ b < w.heap.size ∧ ∀ i (h : i < xs.length) r u,(encF xs[i])[r]? = some u → w.cell? ⟨b,o + i * 4 + r,none⟩ = some u) ∨ (xs = [] ∧ A = none) ∨ (xs = [] ∧ ∃ a,A = some a) := by
  by_cases h : xs = []
  ·cases A with
   | none => exact .inr (.inl ⟨h,rfl⟩)
   | some a => exact .inr (.inr ⟨h,a,rfl⟩)
  ·exact .inl (hx h)
 rcases hA with ⟨b,o,rfl,hb,hc⟩ | ⟨rfl,rfl⟩ | ⟨rfl,a,rfl⟩
 ·skip;refine Wp.fn Tryz.func176 rfl Tryz.ntmps176 (by simp) ?_;refine Wp.keep [0] ?_;rintro r1 ⟨d,-⟩;simp [go_sem] at d;refine sRg fun K' gd hK => ?_;go_simp;apply hK;clear hK K' gd;refine Wp.keep [0] ?_;rintro r2 ⟨e,-⟩;simp [go_sem,d] at e;clear d;refine Wp.seq ?_;refine sRg fun K' gd hK => ?_;go_simp;apply hK;clear hK K' gd;refine Wp.keep [0,4] ?_;rintro r3 ⟨f,g,-⟩;simp [go_sem,e] at f g;clear e;refine cFf ?_;refine skN ?_;refine sRg fun K' gd hK => ?_;refine cu2 fun K1 hK1 => ?_;go_simp;apply hK1;clear hK1 K1;obtain ⟨v',w',hrun,hown,hg,-⟩ := app_run flaws_T (own0 w 47 4) ⟨b,o,none⟩ xs.length c (encFs xs) 23 (encFs_len xs) (newsF_of fun i h r u hu => cell_al _ (hc i h r u hu)) encFs_one (by omega) (by simp);refine Wops.law rfl (exec_append2 rfl hrun (by go_simp) (by go_simp)) ?_;go_simp;apply hK;clear hK K' gd;refine Wp.keep [2] ?_;rintro r4 ⟨j,-⟩;simp [go_sem,f,g] at j;clear f g;refine Wp.ret ?_;refine endK_tmp Tryz.results176 (by decide) ?_;rw [j];exact ⟨by simpa [OwnF] using hown,Below.grown ((Ext.refl w).alloc _) (own0 w 47 4) hg (Nat.le_refl _) (Nat.le_refl _)⟩
 ·skip;refine Wp.fn Tryz.func176 rfl Tryz.ntmps176 (by simp) ?_;refine Wp.keep [0] ?_;rintro r1 ⟨d,-⟩;simp [go_sem] at d;refine sRg fun K' gd hK => ?_;go_simp;apply hK;clear hK K' gd;refine Wp.keep [0] ?_;rintro r2 ⟨e,-⟩;simp [go_sem,d] at e;clear d;refine Wp.seq ?_;refine sRg fun K' gd hK => ?_;go_simp;apply hK;clear hK K' gd;refine Wp.keep [0,4] ?_;rintro r3 ⟨f,g,-⟩;simp [go_sem,e] at f g;clear e;refine cTt ?_;refine sRg fun K' gd hK => ?_;go_simp;apply hK;clear hK K' gd;refine Wp.keep [2] ?_;rintro r4 ⟨j,-⟩;simp [go_sem,f,g] at j;clear f g;refine Wp.ret ?_;refine tRe ?_;refine endK_tmp Tryz.results176 (by decide) ?_;rw [j];exact ⟨World.ownsRow_nil _ _ _ _,Ext.refl _⟩
 ·skip;refine Wp.fn Tryz.func176 rfl Tryz.ntmps176 (by simp) ?_;refine Wp.keep [0] ?_;rintro r1 ⟨d,-⟩;simp [go_sem] at d;refine sRg fun K' gd hK => ?_;go_simp;apply hK;clear hK K' gd;refine Wp.keep [0] ?_;rintro r2 ⟨e,-⟩;simp [go_sem,d] at e;clear d;refine Wp.seq ?_;refine sRg fun K' gd hK => ?_;go_simp;apply hK;clear hK K' gd;refine Wp.keep [0,4] ?_;rintro r3 ⟨f,g,-⟩;simp [go_sem,e] at f g;clear e;refine cFf ?_;refine skN ?_;refine sRg fun K' gd hK => ?_;refine cu2 fun K1 hK1 => ?_;go_simp;apply hK1;clear hK1 K1;obtain - := trivial;refine Wops.law rfl (exec_append rfl (by go_simp;exact ⟨rfl,rfl⟩)) ?_;go_simp;apply hK;clear hK K' gd;refine Wp.keep [2] ?_;rintro r4 ⟨j,-⟩;simp [go_sem,f,g] at j;clear f g;refine Wp.ret ?_;refine endK_tmp Tryz.results176 (by decide) ?_;rw [j];exact ⟨own0 w 47 4,(Ext.refl w).alloc _⟩
def closedT (t : Tr) (d : Int) : Tr := ⟨t.n,closeL t.cl d,t.fl⟩
theorem closed_c (t : Tr) (d : Int) (v : Value) (w : World) (hV : TourV w w.heap.size v t) (hr : Rising t.cl) (hcl : t.cl.length ≤ 1000) (hfl : t.fl.length ≤ 1000) :
  CallsV Tryz.prog 115 #[v,.int .i64 d] w fun v' w' => TourB w' w.heap.size v' (closedT t d) ∧ Ext w w' := by
 obtain ⟨A,c,A2,c2,rfl,hI,hF⟩ := hV.open';have hIS : IntsS w w.heap.size (.slice A t.cl.length c) t.cl := ⟨hI⟩;have hFS : FlawsS w w.heap.size (.slice A2 t.fl.length c2) t.fl := ⟨hF⟩;obtain ⟨n,hn⟩ : ∃ n,∃ _u : Unit,t.n = n := ⟨_,(),rfl⟩;clear hV hI hF;rw [hn.choose_spec];replace hr : ∃ _u : Unit,_ := ⟨(),hr⟩;have hcl9 : t.cl.length ≤ 1000000000 := by omega
 have hfl9 : t.fl.length ≤ 1000000000 := by omega
 refine Wp.fn Tryz.func115 rfl Tryz.ntmps115 (by simp) ?_;have xw := Ext.refl w;refine Wp.keep [0,1] ?_;rintro r1 ⟨H,I,-⟩;simp [go_sem] at H I;refine sRg fun K' gd hK => ?_;refine cu1 fun K1 hK1 => ?_;go_simp;apply hK1;clear hK1 K1;refine Wops.absT fun av n2 u R2 => ?_;obtain ⟨q2,u,s2,D,f2,r2⟩ := u;try simp only [q2] at D f2 r2 ⊢
 replace hIS := hIS.ext u;replace hFS := hFS.ext u;replace xw := xw.trans u;have ao := D 0 _ rfl;have G := D 1 _ rfl;have m := D 2 _ rfl;clear D u;clear r2;refine cu1 fun K1 hK1 => ?_;go_simp;apply hK1;clear hK1 K1;refine Wops.absT fun aw n4 r R4 => ?_;obtain ⟨q4,r,s4,E,f4,r4⟩ := r;try simp only [q4] at E f4 r4 ⊢
 replace hIS := hIS.ext r;replace hFS := hFS.ext r;replace xw := xw.trans r;replace ao := r.cell ao;replace G := r.cell G;replace m := r.cell m;have a := E 0 _ rfl;have e := E 1 _ rfl;have f := E 2 _ rfl;clear E r;clear r4;try simp only [Wops_nil,updO_some,updO_none]
 apply hK;clear hK K' gd;refine Wp.keep [1,2,4] ?_;rintro r2 ⟨K,S,aa,-⟩;simp [go_sem,H,I] at K S aa;clear H I;refine sRg fun K' gd hK => ?_;refine cu3 fun K1 hK1 => ?_;go_simp;apply hK1;clear hK1 K1;refine Wops.absT fun an n5 p R5 => ?_;obtain ⟨q5,p,s5,F,f5,r5⟩ := p;try simp only [q5] at F f5 r5 ⊢
 replace f4 := p.fz a f4;replace hIS := hIS.ext p;replace hFS := hFS.ext p;replace xw := xw.trans p;replace G := p.cell G;replace m := p.cell m;replace a := p.cell a;replace e := p.cell e;replace f := p.cell f;have h := F 0 _ rfl;have k := F 1 _ rfl;have l := F 2 _ rfl;clear F p;clear r5;try simp only [Wops_nil,updO_some,updO_none]
 apply hK;clear hK K' gd;refine Wp.keep [1,2,4,5] ?_;rintro r3 ⟨L,T,ab,ai,-⟩;simp [go_sem,K,S,aa] at L T ab ai;clear K S aa;obtain ⟨B0,hB0,hB1⟩ : ∃ B0 : Nat,B0 ≤ an.heap.size ∧ an.heap.size ≤ B0 := ⟨_,Nat.le_refl _,Nat.le_refl _⟩;refine sRg fun K' gd hK => ?_;refine cu3 fun K1 hK1 => ?_;go_simp;refine Wcall (.inl rfl) (cloneI_c (.slice A t.cl.length c) t.cl _ (hIS.v.more (Below.size (XE))) hcl9) ?_;rintro v w2 ⟨hO0,hE⟩;have hO := OwnI.less hO0 hB0;clear hO0;obtain ⟨A3,c3,rfl⟩ := OwnI.slice hO;go_simp;apply hK1;clear hK1 K1;have z4 := Below.size hE;replace f4 := hE.fz a f4;replace f5 := hE.fz h f5;replace hFS := hFS.ext hE;replace xw := xw.trans hE;replace m := hE.cell m;replace a := hE.cell a;replace e := hE.cell e;replace f := hE.cell f;replace h := hE.cell h;replace k := hE.cell k;replace l := hE.cell l;clear hE;refine cu2 fun K1 hK1 => ?_;go_simp;apply hK1;clear hK1 K1;refine Wops.absS (b := n5) (i := 1) [_] (somes [cellVal k] (by simp) (by intro j v hj;match j,hj with | 0,hj => (simp at hj;subst hj;exact k))) fun P4 hP4 => ?_
 have zP4 := hP4.same;replace f4 := hP4.frz f4;replace f5 := hP4.frz f5;replace hFS := hFS.put hP4 (by omega);replace hO := hO.put hP4 (by omega);replace xw := Put.to xw hP4 (by omega);replace m := hP4.cell m (by omega);replace a := hP4.cell a (by omega);replace e := hP4.cell e (by omega);replace f := hP4.cell f (by omega);replace h := Put.cellOff hP4 h (by simp);clear k;replace l := Put.cellOff hP4 l (by simp);have k := hP4.new 0 _ rfl;try simp only [Nat.reduceAdd,Nat.zero_add,Nat.add_zero] at k
 clear hP4;try simp only [Wops_nil,updO_some,updO_none]
 apply hK;clear hK K' gd;refine Wp.keep [1,2,4,5] ?_;rintro r5 ⟨M,U,ac,aj,-⟩;simp [go_sem,L,T,ab,ai] at M U ac aj;clear L T ab ai;refine Wp.seq ?_;refine sRg fun K' gd hK => ?_;refine cu4 fun K1 hK1 => ?_;go_simp;refine Wcall (.inl rfl) (bsearch_c (.slice A3 t.cl.length c3) t.cl d _ hO.intsV hcl9 hr.choose_spec) ?_;rintro v w4 ⟨rfl,hE⟩;go_simp;apply hK1;clear hK1 K1;have z6 := Below.size hE;replace f4 := hE.fz a f4;replace f5 := hE.fz h f5;replace hFS := hFS.ext hE;replace hO := hO.ext hE;replace xw := xw.trans hE;replace m := hE.cell m;replace a := hE.cell a;replace e := hE.cell e;replace f := hE.cell f;replace h := hE.cell h;replace l := hE.cell l;replace k := hE.cell k;clear hE;go_simp;apply hK;clear hK K' gd;refine Wp.keep [1,2,4,5,6,7] ?_;rintro r7 ⟨x,y,z,B,C,s,-⟩;simp [go_sem,M,U,ac,aj] at x y z B C s;clear M U ac aj
 by_cases hd : d ∈ t.cl
 ·skip;rw [decide_eq_true hd] at s;have hcd : ∃ _u : Unit,closeL t.cl d = t.cl := ⟨(),if_pos hd⟩;refine sRg fun K' gd hK => ?_;go_simp;apply hK;clear hK K' gd;refine Wp.keep [1,2,4,5,6,21] ?_;rintro r8 ⟨N,V,ad,ak,am,P,-⟩;simp [go_sem,x,y,z,B,C,s] at N V ad ak am P;clear x y z B C s;refine cFf ?_;refine skN ?_;refine sRg fun K' gd hK => ?_;refine cu3 fun K1 hK1 => ?_;go_simp;refine Wcall (.inl rfl) (cloneF_c (.slice A2 t.fl.length c2) t.fl _ (hFS.v.more (Below.size (XE))) hfl9) ?_;rintro v w6 ⟨hO6,hE⟩;have hG := OwnF.less (b2 := B0) hO6 (by omega);clear hO6;obtain ⟨A7,c7,rfl⟩ := OwnF.slice hG;go_simp;apply hK1;clear hK1 K1;replace f4 := hE.fz a f4;replace f5 := hE.fz h f5;replace hO := hO.ext hE;replace xw := xw.trans hE;replace a := hE.cell a;replace e := hE.cell e;replace f := hE.cell f;replace h := hE.cell h;replace l := hE.cell l;replace k := hE.cell k;clear hE;refine cu2 fun K1 hK1 => ?_;go_simp;apply hK1;clear hK1 K1
  refine Wops.absS (b := n5) (i := 2) [_] (somes [cellVal l] (by simp) (by intro j v hj;match j,hj with | 0,hj => (simp at hj;subst hj;exact l))) fun P5 hP5 => ?_;replace f4 := hP5.frz f4;replace hO := hO.put hP5 (by omega);replace hG := hG.put hP5 (by omega);replace xw := Put.to xw hP5 (by omega);replace a := hP5.cell a (by omega);replace e := hP5.cell e (by omega);replace f := hP5.cell f (by omega);replace h := Put.cellOff hP5 h (by simp);clear l;replace k := Put.cellOff hP5 k (by simp);have l := hP5.new 0 _ rfl;try simp only [Nat.reduceAdd,Nat.zero_add,Nat.add_zero] at l
  clear hP5;try simp only [Wops_nil,updO_some,updO_none]
  apply hK;clear hK K' gd;refine Wp.keep [4,5] ?_;rintro r10 ⟨W,ae,-⟩;simp [go_sem,N,V,ad,ak,am,P] at W ae;clear N V ad ak am P;refine sRg fun K' gd hK => ?_;refine cu2 fun K1 hK1 => ?_;go_simp;apply hK1;clear hK1 K1;refine Wops.absS (b := n4) (i := 0) [_,_,_] (somes [cellVal a,cellVal e,cellVal f] (by simp) (by intro j v hj;match j,hj with | 0,hj => (simp at hj;subst hj;exact a) | 1,hj => (simp at hj;subst hj;exact e) | 2,hj => (simp at hj;subst hj;exact f))) fun P6 hP6 => ?_;replace hO := hO.put hP6 (by omega);replace hG := hG.put hP6 (by omega);replace xw := Put.to xw hP6 (by omega);clear a;clear e;clear f;have a := hP6.new 0 _ rfl;try simp only [Nat.reduceAdd,Nat.zero_add,Nat.add_zero] at a
  have e := hP6.new 1 _ rfl;try simp only [Nat.reduceAdd,Nat.zero_add,Nat.add_zero] at e
  have f := hP6.new 2 _ rfl;try simp only [Nat.reduceAdd,Nat.zero_add,Nat.add_zero] at f
  clear hP6;try simp only [Wops_nil,updO_some,updO_none]
  apply hK;clear hK K' gd;refine Wp.keep [4] ?_;rintro r11 ⟨ap,-⟩;simp [go_sem,W,ae] at ap;clear W ae;refine Wp.ret ?_;refine endK_cell (v := .agg #[cellVal a,cellVal e,cellVal f]) Tryz.results115 (by decide) ap (by dsimp only [cellVal];go_simp) ?_
  dsimp only [cellVal]
  exact ⟨⟨_,_,by rw [show (closedT t d).n = n from hn.choose_spec],by unfold closedT;rw [hcd.choose_spec];exact hO.intsB.less (by omega),hG.flawsB.less (by omega)⟩,xw⟩
 ·skip;rw [decide_eq_false hd] at s;have hcd : ∃ _u : Unit,closeL t.cl d = insAt t.cl (posL t.cl d) d := ⟨(),if_neg hd⟩;obtain ⟨g,hg1,hg3,hg2⟩ := own_blk hO (by omega);refine sRg fun K' gd hK => ?_;go_simp;apply hK;clear hK K' gd;refine Wp.keep [1,2,4,5,6,21] ?_;rintro r12 ⟨J,Q,X,af,al,O,-⟩;simp [go_sem,x,y,z,B,C,s] at J Q X af al O;clear x y z B C s;refine cTt ?_;refine lRg fun K' gd hK => ?_;refine cu5 fun K1 hK1 => ?_;go_simp;apply hK1;clear hK1 K1;refine Wops.absT fun au n26 o R26 => ?_;obtain ⟨q26,o,s26,ar,f26,r26⟩ := o;try simp only [q26] at ar f26 r26 ⊢
  replace R26 := (show RowC _ _ _ _ from R26);replace f4 := o.fz a f4;replace f5 := o.fz h f5;replace hFS := hFS.ext o;replace hO := hO.ext o;replace xw := xw.trans o;replace m := o.cell m;replace a := o.cell a;replace e := o.cell e;replace f := o.cell f;replace h := o.cell h;replace l := o.cell l;replace k := o.cell k;clear o f26;clear ar;refine cu1 fun K1 hK1 => ?_;go_simp;refine Wcall (.inl rfl) (insert_g (.slice A3 t.cl.length c3) t.cl d (posL t.cl d) n26 1 B0 g _ hO (by omega) hg2 R26 (by omega) (posL_le _ _) hcl) ?_;rintro v w6 ⟨hO5,hC⟩;obtain ⟨A4,c4,rfl⟩ := OwnI.slice hO5;rw [insAt_len] at hO5;go_simp;apply hK1;clear hK1 K1;have z13 := Chg.size hC;replace f4 := Chg.fz hC a f4 XN;replace f5 := Chg.fz hC h f5 XN;replace hFS := hFS.chg hC XB;replace xw := Chg.to xw hC XL;replace m := Chg.cell hC m XN;replace a := Chg.cell hC a XN;replace e := Chg.cell hC e XN;replace f := Chg.cell hC f XN;replace h := Chg.cell hC h XN;replace l := Chg.cell hC l XN;replace k := Chg.cell hC k XN;refine cu2 fun K1 hK1 => ?_;go_simp;apply hK1;clear hK1 K1
  refine Wops.absS (b := n5) (i := 1) [_] (somes [cellVal k] (by simp) (by intro j v hj;match j,hj with | 0,hj => (simp at hj;subst hj;exact k))) fun P9 hP9 => ?_;have zP9 := hP9.same;replace f4 := hP9.frz f4;replace f5 := hP9.frz f5;replace hFS := hFS.put hP9 (by omega);replace hO5 := hO5.put hP9 (by omega);replace xw := Put.to xw hP9 (by omega);replace m := hP9.cell m (by omega);replace a := hP9.cell a (by omega);replace e := hP9.cell e (by omega);replace f := hP9.cell f (by omega);replace h := Put.cellOff hP9 h (by simp);replace l := Put.cellOff hP9 l (by simp);clear k;have k := hP9.new 0 _ rfl;try simp only [Nat.reduceAdd,Nat.zero_add,Nat.add_zero] at k
  clear hP9;try simp only [Wops_nil,updO_some,updO_none]
  apply hK;clear hK K' gd;refine Ends.keep [2,4,5] ?_;rintro r14 ⟨R,Y,ag,-⟩;simp [go_sem,J,Q,X,af,al,O] at R Y ag;clear J Q X af al O;refine Ends.mk ?_;refine tNo ?_;refine sRg fun K' gd hK => ?_;refine cu3 fun K1 hK1 => ?_;go_simp;refine Wcall (.inl rfl) (cloneF_c (.slice A2 t.fl.length c2) t.fl _ (hFS.v.more (Below.size (XE))) hfl9) ?_;rintro v w7 ⟨hO6,hE⟩;have hG := OwnF.less (b2 := B0) hO6 (by omega);clear hO6;obtain ⟨A7,c7,rfl⟩ := OwnF.slice hG;go_simp;apply hK1;clear hK1 K1;replace f4 := hE.fz a f4;replace f5 := hE.fz h f5;replace hO5 := hO5.ext hE;replace xw := xw.trans hE;replace a := hE.cell a;replace e := hE.cell e;replace f := hE.cell f;replace h := hE.cell h;replace l := hE.cell l;replace k := hE.cell k;clear hE;refine cu2 fun K1 hK1 => ?_;go_simp;apply hK1;clear hK1 K1;refine Wops.absS (b := n5) (i := 2) [_] (somes [cellVal l] (by simp) (by intro j v hj;match j,hj with | 0,hj => (simp at hj;subst hj;exact l))) fun P10 hP10 => ?_;replace f4 := hP10.frz f4
  replace hO5 := hO5.put hP10 (by omega);replace hG := hG.put hP10 (by omega);replace xw := Put.to xw hP10 (by omega);replace a := hP10.cell a (by omega);replace e := hP10.cell e (by omega);replace f := hP10.cell f (by omega);replace h := Put.cellOff hP10 h (by simp);clear l;replace k := Put.cellOff hP10 k (by simp);have l := hP10.new 0 _ rfl;try simp only [Nat.reduceAdd,Nat.zero_add,Nat.add_zero] at l
  clear hP10;try simp only [Wops_nil,updO_some,updO_none]
  apply hK;clear hK K' gd;refine Wp.keep [4,5] ?_;rintro r16 ⟨Z,ah,-⟩;simp [go_sem,R,Y,ag] at Z ah;clear R Y ag;refine sRg fun K' gd hK => ?_;refine cu2 fun K1 hK1 => ?_;go_simp;apply hK1;clear hK1 K1;refine Wops.absS (b := n4) (i := 0) [_,_,_] (somes [cellVal a,cellVal e,cellVal f] (by simp) (by intro j v hj;match j,hj with | 0,hj => (simp at hj;subst hj;exact a) | 1,hj => (simp at hj;subst hj;exact e) | 2,hj => (simp at hj;subst hj;exact f))) fun P11 hP11 => ?_;replace hO5 := hO5.put hP11 (by omega);replace hG := hG.put hP11 (by omega);replace xw := Put.to xw hP11 (by omega);clear a;clear e;clear f;have a := hP11.new 0 _ rfl;try simp only [Nat.reduceAdd,Nat.zero_add,Nat.add_zero] at a
  have e := hP11.new 1 _ rfl;try simp only [Nat.reduceAdd,Nat.zero_add,Nat.add_zero] at e
  have f := hP11.new 2 _ rfl;try simp only [Nat.reduceAdd,Nat.zero_add,Nat.add_zero] at f
  clear hP11;try simp only [Wops_nil,updO_some,updO_none]
  apply hK;clear hK K' gd;refine Wp.keep [4] ?_;rintro r17 ⟨aq,-⟩;simp [go_sem,Z,ah] at aq;clear Z ah;refine Wp.ret ?_;refine endK_cell (v := .agg #[cellVal a,cellVal e,cellVal f]) Tryz.results115 (by decide) aq (by dsimp only [cellVal];go_simp) ?_
  dsimp only [cellVal]
  exact ⟨⟨_,_,by rw [show (closedT t d).n = n from hn.choose_spec],by unfold closedT;rw [hcd.choose_spec];have q := (OwnI.intsB hO5).less (b2 := w.heap.size) (by omega);rw [insAt_len];exact q,hG.flawsB.less (by omega)⟩,xw⟩
def keepN (l : List Int) (fl : List Fl) : Nat → List Fl
 | 0 => []
 | k + 1 => if (k : Int) ∈ l then keepN l fl k else keepN l fl k ++ (fl[k]?).toList
theorem keepN_in {l : List Int} {fl : List Fl} {k : Nat} (h : (k : Int) ∈ l) : keepN l fl (k + 1) = keepN l fl k := if_pos h
theorem keepN_out {l : List Int} {fl : List Fl} {k : Nat} (h : ¬ (k : Int) ∈ l) (hk : k < fl.length) : keepN l fl (k + 1) = keepN l fl k ++ [fl[k]] := by
 rw [keepN,if_neg h,List.getElem?_eq_getElem hk];rfl
theorem keepN_len {l : List Int} {fl : List Fl} : ∀ k,(keepN l fl k).length ≤ k
 | 0 => Nat.le_refl _
 | k + 1 => by
   have := keepN_len (l := l) (fl := fl) k;unfold keepN
   split
   ·omega
   ·rw [List.length_append];have : (fl[k]?).toList.length ≤ 1 := by cases fl[k]? <;> simp
    omega
def withoutT (t : Tr) (l : List Int) : Tr := ⟨t.n,t.cl,keepN l t.fl t.fl.length⟩
theorem newsG {w : World} {b : Nat} {f : Fl} (x0 : w.cell? ⟨b,0,none⟩ = some (.int .i64 f.id)) (x1 : w.cell? ⟨b,1,none⟩ = some (.int .i64 f.lo)) (x2 : w.cell? ⟨b,2,none⟩ = some (.int .i64 f.hi)) (x3 : w.cell? ⟨b,3,none⟩ = some (.int .i64 f.m)) :
  ∀ j u,(encF f)[j]? = some u → w.cell? ((⟨b,0,none⟩ : Addr).add j) = some u := by
 intro j u hu;rw [Addr.add_lit,Nat.zero_add]
 match j,hu with
 | 0,hu => injection hu with hu;subst hu;exact x0
 | 1,hu => injection hu with hu;subst hu;exact x1
 | 2,hu => injection hu with hu;subst hu;exact x2
 | 3,hu => injection hu with hu;subst hu;exact x3
 | j + 4,hu => exact absurd hu (by simp [encF])
structure IntsW (w : World) (lo hi : Nat) (v : Value) (xs : List Int) : Prop where
 ex : ∃ (A : Option Addr) (c : Nat),v = .slice A xs.length c ∧ (xs ≠ [] → ∃ b o,A = some ⟨b,o,none⟩ ∧ lo ≤ b ∧ b < hi ∧ ∀ k (h : k < xs.length),w.cell? ⟨b,o + k,none⟩ = some (.int .i64 xs[k])) ∧ xs.length ≤ c
theorem IntsW.chg {w w' : World} {lo hi : Nat} {v : Value} {xs : List Int} {L : List Nat} (h : IntsW w lo hi v xs) (hC : Chg L w w') (hL : ∀ b,lo ≤ b ∧ b < hi → b ∉ L) : IntsW w' lo hi v xs := by
 obtain ⟨A,c,hv,hx,hcap⟩ := h.ex
 exact ⟨A,c,hv,fun hne => by
  obtain ⟨b,o,hA,h1,h2,hc⟩ := hx hne
  exact ⟨b,o,hA,h1,h2,fun k hk => Chg.cell hC (hc k hk) (hL b ⟨h1,h2⟩)⟩,hcap⟩
theorem IntsW.ext {w w' : World} {lo hi : Nat} {v : Value} {xs : List Int} (h : IntsW w lo hi v xs) (hE : Ext w w') : IntsW w' lo hi v xs := h.chg ((Chg.refl [] w).ext hE) (by simp)
theorem IntsW.put {w w' : World} {lo hi k i : Nat} {v : Value} {xs : List Int} {vs : List Value} (h : IntsW w lo hi v xs) (p : Put w w' k i vs) (hb : k < lo ∨ hi ≤ k) : IntsW w' lo hi v xs := h.chg p.chg (by intro b hb2 hm;simp at hm;omega)
theorem IntsW.of {w : World} {base hi : Nat} {v : Value} {xs : List Int} (h : IntsB w base v xs) (hh : w.heap.size ≤ hi) : IntsW w base hi v xs := by
 obtain ⟨A,c,hv,hx,hcap⟩ := h
 exact ⟨A,c,hv,fun hne => by
  obtain ⟨b,o,hA,h1,h2,hc⟩ := hx hne
  exact ⟨b,o,hA,h1,by omega,hc⟩,hcap⟩
theorem IntsW.intsB {w : World} {lo hi : Nat} {v : Value} {xs : List Int} (h : IntsW w lo hi v xs) : IntsB w lo v xs := by
 obtain ⟨A,c,hv,hx,hcap⟩ := h.ex
 exact ⟨A,c,hv,fun hne => by
  obtain ⟨b,o,hA,h1,h2,hc⟩ := hx hne
  exact ⟨b,o,hA,h1,cell_lt (hc 0 (List.length_pos_iff.2 hne)),hc⟩,hcap⟩
theorem IntsW.lo {w : World} {lo lo2 hi : Nat} {v : Value} {xs : List Int} (h : IntsW w lo hi v xs) (hl : lo2 ≤ lo) : IntsW w lo2 hi v xs := by
 obtain ⟨A,c,hv,hx,hcap⟩ := h.ex
 exact ⟨A,c,hv,fun hne => by
  obtain ⟨b,o,hA,h1,h2,hc⟩ := hx hne
  exact ⟨b,o,hA,by omega,h2,hc⟩,hcap⟩
theorem without2_c (t : Tr) (l : List Int) (v lv : Value) (w : World) (hV : TourV w w.heap.size v t) (hL : IntsV w w.heap.size lv l) (hl : l.length ≤ 1000) (hcl : t.cl.length ≤ 1000) (hfl : t.fl.length ≤ 1000) :
  CallsV Tryz.prog 103 #[v,lv] w fun v' w' => (∃ cv fv B0,v' = .agg #[.int .i64 t.n,cv,fv] ∧ IntsW w' w.heap.size B0 cv t.cl ∧ OwnF w' B0 fv (withoutT t l).fl ∧ w.heap.size ≤ B0) ∧ Ext w w' := by
 obtain ⟨A,c,A2,c2,rfl,hI,hF⟩ := hV.open';obtain ⟨A1,c1,rfl,-,-⟩ := id hL;have hIS : IntsS w w.heap.size (.slice A t.cl.length c) t.cl := ⟨hI⟩;have hFS : FlawsS w w.heap.size (.slice A2 t.fl.length c2) t.fl := ⟨hF⟩;have hLS : IntsS w w.heap.size (.slice A1 l.length c1) l := ⟨hL⟩;obtain ⟨n,hn⟩ : ∃ n,∃ _u : Unit,t.n = n := ⟨_,(),rfl⟩;clear hV hI hF hL;rw [hn.choose_spec];have hcl9 : t.cl.length ≤ 1000000000 := by omega
 have hl9 : l.length ≤ 1000000000000000 := by omega
 refine Wp.fn Tryz.func103 rfl Tryz.ntmps103 (by simp) ?_;have xw := Ext.refl w;refine Wp.keep [0,1] ?_;rintro r1 ⟨ac,ao,-⟩;simp [go_sem] at ac ao;refine sRg fun K' gd hK => ?_;refine cu1 fun K1 hK1 => ?_;go_simp;apply hK1;clear hK1 K1;refine Wops.absA fun bf n2 z => ?_;obtain ⟨q2,z,s2,T,f2,r2⟩ := z;try simp only [q2] at T f2 r2 ⊢
 replace hIS := hIS.ext z;replace hFS := hFS.ext z;replace hLS := hLS.ext z;replace xw := xw.trans z;have aS := T 0 _ rfl;have W := T 1 _ rfl;have o := T 2 _ rfl;clear T z;clear r2;refine cu1 fun K1 hK1 => ?_;go_simp;apply hK1;clear hK1 K1;refine Wops.absA fun bg n4 r => ?_;obtain ⟨q4,r,s4,U,f4,r4⟩ := r;try simp only [q4] at U f4 r4 ⊢
 replace hIS := hIS.ext r;replace hFS := hFS.ext r;replace hLS := hLS.ext r;replace xw := xw.trans r;replace aS := r.cell aS;replace W := r.cell W;replace o := r.cell o;have f := U 0 _ rfl;have g := U 1 _ rfl;have h := U 2 _ rfl;clear U r;clear r4;try simp only [Wops_nil,updO_some,updO_none]
 apply hK;clear hK K' gd;refine Wp.keep [1,2,4] ?_;rintro r2 ⟨au,aA,aG,-⟩;simp [go_sem,ac,ao] at au aA aG;clear ac ao;refine sRg fun K' gd hK => ?_;refine cu3 fun K1 hK1 => ?_;go_simp;apply hK1;clear hK1 K1;refine Wops.absA fun bh n5 m => ?_;obtain ⟨q5,m,s5,V,f5,r5⟩ := m;try simp only [q5] at V f5 r5 ⊢
 replace f4 := m.fz f f4;replace hIS := hIS.ext m;replace hFS := hFS.ext m;replace hLS := hLS.ext m;replace xw := xw.trans m;replace W := m.cell W;replace o := m.cell o;replace f := m.cell f;replace g := m.cell g;replace h := m.cell h;have a := V 0 _ rfl;have e := V 1 _ rfl;have d := V 2 _ rfl;clear V m;clear r5;try simp only [Wops_nil,updO_some,updO_none]
 apply hK;clear hK K' gd;refine Wp.keep [1,2,4,5] ?_;rintro r3 ⟨av,aB,aH,aN,-⟩;simp [go_sem,au,aA,aG] at av aB aH aN;clear au aA aG;refine sRg fun K' gd hK => ?_;refine cu3 fun K1 hK1 => ?_;go_simp;refine Wcall (.inl rfl) (cloneI_c (.slice A t.cl.length c) t.cl _ (hIS.v.more (Below.size (XE))) hcl9) ?_;rintro v w2 ⟨hO0,hE⟩;have hO := (OwnI.intsB hO0).less (b2 := n5 + 1) (by omega);clear hO0;obtain ⟨A3,c3,rfl⟩ := hO.slice;go_simp;apply hK1;clear hK1 K1;have z4 := Below.size hE;replace f4 := hE.fz f f4;replace f5 := hE.fz a f5;replace hFS := hFS.ext hE;replace hLS := hLS.ext hE;replace xw := xw.trans hE;replace o := hE.cell o;replace f := hE.cell f;replace g := hE.cell g;replace h := hE.cell h;replace a := hE.cell a;replace e := hE.cell e;replace d := hE.cell d;clear hE;refine cu2 fun K1 hK1 => ?_;go_simp;apply hK1;clear hK1 K1;refine Wops.absS (b := n5) (i := 1) [_] (somes [cellVal e] (by simp) (by intro j v hj;match j,hj with | 0,hj => (simp at hj;subst hj;exact e))) fun P4 hP4 => ?_;have zP4 := hP4.same
 replace f4 := hP4.frz f4;replace f5 := hP4.frz f5;replace hFS := hFS.put hP4 (by omega);replace hLS := hLS.put hP4 (by omega);replace hO := hO.put hP4 (by omega);replace xw := Put.to xw hP4 (by omega);replace o := hP4.cell o (by omega);replace f := hP4.cell f (by omega);replace g := hP4.cell g (by omega);replace h := hP4.cell h (by omega);replace a := Put.cellOff hP4 a (by simp);clear e;replace d := Put.cellOff hP4 d (by simp);have e := hP4.new 0 _ rfl;try simp only [Nat.reduceAdd,Nat.zero_add,Nat.add_zero] at e
 clear hP4;refine cu2 fun K1 hK1 => ?_;go_simp;apply hK1;clear hK1 K1;refine Wops.absS (b := n5) (i := 2) [_] (somes [cellVal d] (by simp) (by intro j v hj;match j,hj with | 0,hj => (simp at hj;subst hj;exact d))) fun P5 hP5 => ?_;have zP5 := hP5.same;replace f4 := hP5.frz f4;replace f5 := hP5.frz f5;replace hFS := hFS.put hP5 (by omega);replace hLS := hLS.put hP5 (by omega);replace hO := hO.put hP5 (by omega);replace xw := Put.to xw hP5 (by omega);replace o := hP5.cell o (by omega);replace f := hP5.cell f (by omega);replace g := hP5.cell g (by omega);replace h := hP5.cell h (by omega);replace a := Put.cellOff hP5 a (by simp);clear d;replace e := Put.cellOff hP5 e (by simp);have d := hP5.new 0 _ rfl;try simp only [Nat.reduceAdd,Nat.zero_add,Nat.add_zero] at d
 clear hP5;try simp only [Wops_nil,updO_some,updO_none]
 apply hK;clear hK K' gd;refine Wp.keep [1,2,4,5] ?_;rintro r5 ⟨aw,aC,aI,aO,-⟩;simp [go_sem,av,aB,aH,aN] at aw aC aI aO;clear av aB aH aN;obtain ⟨B0,hB0,hB1,hB2⟩ : ∃ B,n5 < B ∧ B ≤ P5.heap.size ∧ P5.heap.size ≤ B := ⟨P5.heap.size,cell_lt a,Nat.le_refl _,Nat.le_refl _⟩;replace hO := IntsW.of (hi := B0) hO hB2;refine Wp.seq ?_;refine sRg fun K' gd hK => ?_;go_simp;apply hK;clear hK K' gd;refine Wp.keep [1,4,5,15,16,17] ?_;rintro r6 ⟨Z,aa,ab,X,Y,aZ,-⟩;simp [go_sem,aw,aC,aI,aO] at Z aa ab X Y aZ;clear aw aC aI aO;refine Wp.block ?_;refine Wp.loop (fun k ρ ds wk => AllEq [1,4,5,15,16] ρ r6 ∧ ds = [] ∧ (Chg [n5] P5 wk ∧ (∀ i,wk.frozen? ⟨n5,i,none⟩ = false)) ∧ (∃ v,ρ 17 = .int .i64 (k : Int) ∧ wk.cell? ⟨n5,0,none⟩ = some (.int .i64 n) ∧ wk.cell? ⟨n5,1,none⟩ = some (.slice A3 t.cl.length c3) ∧ wk.cell? ⟨n5,2,none⟩ = some v ∧ OwnF wk B0 v (keepN l t.fl k))) (t.fl.length) ?_ ?_
 ·refine ⟨AllEq.refl _ _,rfl,⟨Chg.refl _ _,f5⟩,?_⟩;exact ⟨_,by rw [aZ];rfl,a,e,d,World.ownsRow_nil _ _ _ _⟩
 ·rintro k r7 _ wk hk ⟨hA,rfl,⟨xo,gf5⟩,⟨v5,e17,a7,a8,a9,hO9⟩⟩;obtain ⟨ax,aJ,aP,ag,ak,-⟩ := hA;rw [Z] at ax;rw [aa] at aJ;rw [ab] at aP;rw [X] at ag;rw [Y] at ak;have zxo := Chg.size xo;replace f4 := Chg.fz xo f f4 XN;clear f5;replace hFS := hFS.chg xo XB;replace hLS := hLS.chg xo XB;replace hO := hO.chg xo XB;replace xw := Chg.to xw xo XL;replace o := Chg.cell xo o XN;replace f := Chg.cell xo f XN;replace g := Chg.cell xo g XN;replace h := Chg.cell xo h XN;clear a;clear e;clear d;have f5 := gf5;clear gf5;have a := a7;clear a7;have e := a8;clear a8;have d := a9;clear a9;have q8 := keepN_len (l := l) (fl := t.fl) k;obtain ⟨A5,c5,rfl⟩ := OwnF.slice hO9;refine sRg fun K' gd hK => ?_;go_simp;apply hK;clear hK K' gd;refine Wp.keep [1,4,5,15,16,17,18] ?_;rintro r8 ⟨L,N,P,E,G,I,K,-⟩;simp [go_sem,ax,aJ,aP,ag,ak,e17] at L N P E G I K;clear ax aJ aP ag ak e17;refine Wp.seq ?_
  by_cases hk2 : k < t.fl.length
  ·refine cTt ?_;have hkl : (k : Int) < (t.fl.length : Int) := by omega
   obtain ⟨b2,o2,eA,hb2,x0,x1,x2,x3⟩ := FlawsV.at hFS.v hk2;subst eA;have xv := Ext.refl wk;refine skN ?_;refine sBk ?_;refine sRg fun K' gd hK => ?_;refine cu4 fun K1 hK1 => ?_;go_simp;apply hK1;clear hK1 K1;refine Wops.absA fun bi n7 p => ?_;obtain ⟨q7,p,s7,D,f7,r7⟩ := p;try simp only [q7] at D f7 r7 ⊢
   replace f5 := p.fz a f5;replace hLS := hLS.ext p;replace xw := xw.trans p;replace xo := Chg.ext xo p;replace xv := xv.trans p;replace a := p.cell a;replace e := p.cell e;replace d := p.cell d;have s := D 0 _ rfl;have u := D 1 _ rfl;have x := D 2 _ rfl;have y := D 3 _ rfl;clear D p;clear r7;refine cu2 fun K1 hK1 => ?_;go_simp;apply hK1;clear hK1 K1;refine Wops.absS (b := n7) (i := 0) [_,_,_,_] (somes [cellVal s,cellVal u,cellVal x,cellVal y] (by simp) (by intro j v hj;match j,hj with | 0,hj => (simp at hj;subst hj;exact s) | 1,hj => (simp at hj;subst hj;exact u) | 2,hj => (simp at hj;subst hj;exact x) | 3,hj => (simp at hj;subst hj;exact y))) fun P9 hP9 => ?_;have zP9 := hP9.same;replace f5 := hP9.frz f5;replace hLS := hLS.put hP9 (by omega);replace xw := Put.to xw hP9 (by omega);replace xo := Put.more xo hP9 (.inl (by omega));replace xv := Put.to xv hP9 (by omega);replace a := hP9.cell a (by omega);replace e := hP9.cell e (by omega);replace d := hP9.cell d (by omega);clear s;clear u;clear x;clear y;have s := hP9.new 0 _ rfl;try simp only [Nat.reduceAdd,Nat.zero_add,Nat.add_zero] at s
   have u := hP9.new 1 _ rfl;try simp only [Nat.reduceAdd,Nat.zero_add,Nat.add_zero] at u
   have x := hP9.new 2 _ rfl;try simp only [Nat.reduceAdd,Nat.zero_add,Nat.add_zero] at x
   have y := hP9.new 3 _ rfl;try simp only [Nat.reduceAdd,Nat.zero_add,Nat.add_zero] at y
   clear hP9;try simp only [Wops_nil,updO_some,updO_none]
   apply hK;clear hK K' gd;refine Wp.keep [1,4,5,6,7,15,16,17] ?_;rintro r9 ⟨M,O,Q,R,S,F,H,J,-⟩;simp [go_sem,L,N,P,E,G,I,K] at M O Q R S F H J;clear L N P E G I K;replace hO9 := OwnF.ext hO9 xv
   by_cases hin : (k : Int) ∈ l
   ·skip;refine sRg fun K' gd hK => ?_;refine cu3 fun K1 hK1 => ?_;go_simp;refine Wcall (.inl rfl) (contains_c (.slice A1 l.length c1) l (k : Int) _ (hLS.v.more (Below.size (XE))) hl9) ?_;rintro v w3 ⟨hv,hE⟩;rw [decide_eq_true hin] at hv;subst hv;go_simp;apply hK1;clear hK1 K1;replace f5 := hE.fz a f5;replace hO9 := hO9.ext hE;replace xw := xw.trans hE;replace xo := Chg.ext xo hE;replace a := hE.cell a;replace e := hE.cell e;replace d := hE.cell d;clear hE;go_simp;apply hK;clear hK K' gd;refine Wp.keep [1,4,5,7,15,16,17,25] ?_;rintro r11 ⟨ap,aD,aK,aQ,ad,ah,al,ay,-⟩;simp [go_sem,M,O,Q,R,S,F,H,J] at ap aD aK aQ ad ah al ay;clear M O Q R S F H J;refine cFf ?_;refine Wp.skip ?_;refine bNo ?_;refine tNo ?_;refine lRg fun K' gd hK => ?_;go_simp;apply hK;clear hK K' gd;refine Ends.keep [1,4,5,15,16,17] ?_;rintro r12 ⟨a0,a2,a5,aT,aV,aX,-⟩;simp [go_sem,ap,aD,aK,aQ,ad,ah,al,ay] at a0 a2 a5 aT aV aX
    clear ap aD aK aQ ad ah al ay;refine Ends.mk ?_;refine thenK_normal ⟨by omega,⟨by rw [a0,Z],by rw [a2,aa],by rw [a5,ab],by rw [aT,X],by rw [aV,Y],trivial⟩,rfl,⟨xo,f5⟩,?_⟩;exact ⟨_,by rw [aX,IntWalk.i64_in _ (by omega)];rfl,a,e,d,by rw [keepN_in hin];exact hO9⟩
   ·skip;refine sRg fun K' gd hK => ?_;refine cu3 fun K1 hK1 => ?_;go_simp;refine Wcall (.inl rfl) (contains_c (.slice A1 l.length c1) l (k : Int) _ (hLS.v.more (Below.size (XE))) hl9) ?_;rintro v w3 ⟨hv,hE⟩;rw [decide_eq_false hin] at hv;subst hv;go_simp;apply hK1;clear hK1 K1;have z13 := Below.size hE;replace f5 := hE.fz a f5;replace hO9 := hO9.ext hE;replace xw := xw.trans hE;replace xo := Chg.ext xo hE;replace a := hE.cell a;replace e := hE.cell e;replace d := hE.cell d;replace s := hE.cell s;replace u := hE.cell u;replace x := hE.cell x;replace y := hE.cell y;clear hE;go_simp;apply hK;clear hK K' gd;refine Wp.keep [1,4,5,7,15,16,17,25] ?_;rintro r14 ⟨aq,aE,aL,aR,ae,ai,am,az,-⟩;simp [go_sem,M,O,Q,R,S,F,H,J] at aq aE aL aR ae ai am az;clear M O Q R S F H J;refine cTt ?_;refine lRg fun K' gd hK => ?_;refine cu4 fun K1 hK1 => ?_;go_simp;apply hK1;clear hK1 K1;refine Wops.absA fun be n29 q => ?_
    obtain ⟨q29,q,s29,C,f29,r29⟩ := q;try simp only [q29] at C f29 r29 ⊢
    replace f5 := q.fz a f5;replace hO9 := hO9.ext q;replace xw := xw.trans q;replace xo := Chg.ext xo q;replace a := q.cell a;replace e := q.cell e;replace d := q.cell d;clear q f29;have ba := C 0 _ rfl;have bb := C 1 _ rfl;have bc := C 2 _ rfl;have bd := C 3 _ rfl;clear C;refine cu1 fun K1 hK1 => ?_;obtain ⟨v',w7,hrun,hO2,hgr,-⟩ := app_run flaws_T hO9 ⟨n29,0,none⟩ 1 1 (encF t.fl[k]) 23 rfl (newsG ba bb bc bd) encF_one (by omega) (by omega);refine Wops.law rfl (exec_append2 rfl hrun (by go_simp) (by go_simp)) ?_;simp only [updO_some,Wops_nil];apply hK1;clear hK1 K1;replace f5 := Chg.fz (grown_chg hgr) a f5 (lt_off (World.ownsRow.lt hO9) (by omega));replace xw := Chg.to xw (grown_chg hgr) (lt_ge (World.ownsRow.lt hO9) (by omega));replace xo := Chg.more xo (grown_chg hgr) (by first | exact lt_gm (World.ownsRow.lt hO9) (by omega) | simp);replace a := Chg.cell (grown_chg hgr) a (lt_off (World.ownsRow.lt hO9) (by omega));replace e := Chg.cell (grown_chg hgr) e (lt_off (World.ownsRow.lt hO9) (by omega));replace d := Chg.cell (grown_chg hgr) d (lt_off (World.ownsRow.lt hO9) (by omega));have hO3 : OwnF w7 B0 v' (keepN l t.fl (k + 1)) := by rw [keepN_out hin hk2];unfold OwnF;rw [encFs_add,List.length_append];exact hO2
    clear hO2;obtain ⟨A6,c6,rfl⟩ := OwnF.slice hO3;refine cu2 fun K1 hK1 => ?_;go_simp;apply hK1;clear hK1 K1;refine Wops.absS (b := n5) (i := 2) [_] (somes [cellVal d] (by simp) (by intro j v hj;match j,hj with | 0,hj => (simp at hj;subst hj;exact d))) fun P11 hP11 => ?_;replace f5 := hP11.frz f5;replace hO3 := hO3.put hP11 (by omega);replace xw := Put.to xw hP11 (by omega);replace xo := Put.more xo hP11 (.inr (by simp));replace a := Put.cellOff hP11 a (by simp);replace e := Put.cellOff hP11 e (by simp);clear d;have d := hP11.new 0 _ rfl;try simp only [Nat.reduceAdd,Nat.zero_add,Nat.add_zero] at d
    clear hP11;try simp only [Wops_nil,updO_some,updO_none]
    apply hK;clear hK K' gd;refine Ends.keep [1,4,5,15,16,17] ?_;rintro r16 ⟨ar,aF,aM,af,aj,an,-⟩;simp [go_sem,aq,aE,aL,aR,ae,ai,am,az] at ar aF aM af aj an;clear aq aE aL aR ae ai am az;refine Ends.mk ?_;refine bNo ?_;refine tNo ?_;refine lRg fun K' gd hK => ?_;go_simp;apply hK;clear hK K' gd;refine Ends.keep [1,4,5,15,16,17] ?_;rintro r17 ⟨a1,a3,a6,aU,aW,aY,-⟩;simp [go_sem,ar,aF,aM,af,aj,an] at a1 a3 a6 aU aW aY;clear ar aF aM af aj an;refine Ends.mk ?_;refine thenK_normal ⟨by omega,⟨by rw [a1,Z],by rw [a3,aa],by rw [a6,ab],by rw [aU,X],by rw [aW,Y],trivial⟩,rfl,⟨xo,f5⟩,?_⟩;exact ⟨_,by rw [aY,IntWalk.i64_in _ (by omega)];rfl,a,e,d,hO3⟩
  ·refine cFf ?_;obtain rfl : k = t.fl.length := by omega
   refine Wp.exit ?_;refine tEx ?_;refine tEx ?_;refine blockK_here ?_;refine tNo ?_;refine sRg fun K' gd hK => ?_;refine cu2 fun K1 hK1 => ?_;go_simp;apply hK1;clear hK1 K1;refine Wops.absS (b := n4) (i := 0) [_,_,_] (somes [cellVal f,cellVal g,cellVal h] (by simp) (by intro j v hj;match j,hj with | 0,hj => (simp at hj;subst hj;exact f) | 1,hj => (simp at hj;subst hj;exact g) | 2,hj => (simp at hj;subst hj;exact h))) fun P12 hP12 => ?_;replace hO := hO.put hP12 (by omega);replace hO9 := hO9.put hP12 (by omega);replace xw := Put.to xw hP12 (by omega);clear xo;clear f;clear g;clear h;have f := hP12.new 0 _ rfl;try simp only [Nat.reduceAdd,Nat.zero_add,Nat.add_zero] at f
   have g := hP12.new 1 _ rfl;try simp only [Nat.reduceAdd,Nat.zero_add,Nat.add_zero] at g
   have h := hP12.new 2 _ rfl;try simp only [Nat.reduceAdd,Nat.zero_add,Nat.add_zero] at h
   clear hP12;try simp only [Wops_nil,updO_some,updO_none]
   apply hK;clear hK K' gd;refine Wp.keep [4] ?_;rintro r18 ⟨a4,-⟩;simp [go_sem,L,N,P,E,G,I,K] at a4;clear L N P E G I K;refine Wp.ret ?_;refine endK_cell (v := .agg #[cellVal f,cellVal g,cellVal h]) Tryz.results103 (by decide) a4 (by dsimp only [cellVal];go_simp) ?_
   dsimp only [cellVal]
   exact ⟨⟨_,_,B0,rfl,hO.lo (by omega),hO9,by omega⟩,xw⟩
theorem without_c (t : Tr) (l : List Int) (v lv : Value) (w : World) (hV : TourV w w.heap.size v t) (hL : IntsV w w.heap.size lv l) (hl : l.length ≤ 1000) (hcl : t.cl.length ≤ 1000) (hfl : t.fl.length ≤ 1000) :
  CallsV Tryz.prog 103 #[v,lv] w fun v' w' => (∃ cv fv,v' = .agg #[.int .i64 t.n,cv,fv] ∧ IntsB w' w.heap.size cv t.cl ∧ OwnF w' w.heap.size fv (withoutT t l).fl) ∧ Ext w w' :=
 (without2_c t l v lv w hV hL hl hcl hfl).mono fun _ _ ⟨⟨cv,fv,_,h1,h2,h3,h4⟩,hE⟩ => ⟨⟨cv,fv,h1,h2.intsB,h3.less h4⟩,hE⟩
theorem chkFl_zero {n : Int} : ∀ {l : List Fl} {ids : List Int},chkFl n ids l = 0 ↔ (∀ f ∈ l,FlOk n f) ∧ (∀ f ∈ l,f.id ∉ ids) ∧ l.Pairwise fun f g => f.id ≠ g.id
 | [],ids => by simp [chkFl]
 | f :: l,ids => by
   unfold chkFl
   by_cases h1 : FlOk n f
   ·rw [if_neg (not_not_intro h1)]
    by_cases h2 : f.id ∈ ids
    ·rw [if_pos h2]
     constructor
     ·intro h;cases h
     ·rintro ⟨-,h,-⟩;exact absurd h2 (h f List.mem_cons_self)
    ·rw [if_neg h2,chkFl_zero];simp only [List.mem_cons,List.pairwise_cons,forall_eq_or_imp]
     constructor
     ·rintro ⟨a,b,c⟩;exact ⟨⟨h1,a⟩,⟨h2,fun g hg hi => b g hg (.inr hi)⟩,fun g hg e => b g hg (.inl e.symm),c⟩
     ·rintro ⟨⟨-,a⟩,⟨-,b⟩,c,d⟩;exact ⟨a,fun g hg h => h.elim (fun e => c g hg e.symm) (b g hg),d⟩
   ·rw [if_pos h1]
    constructor
    ·intro h;cases h
    ·rintro ⟨h,-⟩;exact absurd (h f List.mem_cons_self) h1
structure GoodT (t : Tr) : Prop where
 n : 1 ≤ t.n ∧ t.n ≤ 60
 cl : ClOk t.n t.cl
 fl : t.fl.length ≤ 40
 ok : ∀ f ∈ t.fl,FlOk t.n f
 ids : t.fl.Pairwise fun f g => f.id ≠ g.id
theorem checkT_zero {t : Tr} : checkT t = 0 ↔ GoodT t := by
 unfold checkT
 by_cases h1 : 1 ≤ t.n ∧ t.n ≤ 60
 ·rw [if_neg (not_not_intro h1)]
  by_cases h2 : ClOk t.n t.cl
  ·rw [if_neg (not_not_intro h2)]
   by_cases h3 : 40 < t.fl.length
   ·rw [if_pos h3];exact ⟨(fun h => by cases h),fun h => absurd h.fl (by omega)⟩
   ·rw [if_neg h3,chkFl_zero];exact ⟨fun ⟨a,_,b⟩ => ⟨h1,h2,by omega,a,b⟩,fun h => ⟨h.ok,(fun _ _ h => by cases h),h.ids⟩⟩
  ·rw [if_pos h2];exact ⟨(fun h => by cases h),fun h => absurd h.cl h2⟩
 ·rw [if_pos h1];exact ⟨(fun h => by cases h),fun h => absurd h.n h1⟩
theorem ClOk.ge {n : Int} {cl : List Int} (h : ClOk n cl) : ∀ k,k < cl.length → (k : Int) ≤ gI cl k
 | 0,hk => (h 0 hk).1.1
 | k + 1,hk => by
   have := ClOk.ge h k (by omega);have := (h (k + 1) hk).2 (by omega);rw [Nat.add_sub_cancel] at this;omega
theorem ClOk.len {n : Int} {cl : List Int} (h : ClOk n cl) (hn : 0 ≤ n) : (cl.length : Int) ≤ n := by
 by_cases e : cl.length = 0
 ·omega
 ·have h1 := ClOk.ge h (cl.length - 1) (by omega);have h2 := (h (cl.length - 1) (by omega)).1.2;omega
theorem GoodT.len {t : Tr} (h : GoodT t) : t.cl.length ≤ 60 := by have := h.cl.len (by have := h.n;omega);have := h.n;omega
theorem GoodT.plan {t : Tr} (h : GoodT t) (hl : t.fl.length ≤ 12) : PlanT t t.n.toNat :=
 ⟨by have := h.n;omega,by have := h.n;omega,by have := h.n;omega,by have := h.len;omega,hl,fun k hk => by have := h.ok _ (List.getElem_mem hk);unfold FlOk at this;have := h.n;omega,fun k hk => by have := h.ok _ (List.getElem_mem hk);unfold FlOk at this;omega⟩
theorem meritF_le {t : Tr} {n : Nat} (h : PlanT t n) : 0 ≤ meritF t n ∧ meritF t n ≤ 60000 := by
 have := worthN_le h.mr (bestF t n) n;have := h.n2;unfold meritF;omega
theorem Best_c (t : Tr) (v : Value) (w : World) (hV : TourV w w.heap.size v t) (hf : FitT t) (hl : checkT t = 0 → t.fl.length ≤ 12) :
  CallsV Tryz.prog 17 #[v] w fun v' w' => (∃ mv,v' = .tuple #[mv,.int .i64 (checkT t)] ∧ (checkT t = 0 → MendB w' w.heap.size mv (wholeF t t.n.toNat (bestF t t.n.toNat))) ∧ (checkT t ≠ 0 → mv = .agg #[.slice none 0 0,.int .i64 0,.slice none 0 0])) ∧ Ext w w' := by
 obtain ⟨A,c,A2,c2,rfl,hI,hF⟩ := hV.open';have hIS : IntsS w w.heap.size (.slice A t.cl.length c) t.cl := ⟨hI⟩;have hFS : FlawsS w w.heap.size (.slice A2 t.fl.length c2) t.fl := ⟨hF⟩;have hTS : TourS w w.heap.size (.agg #[.int .i64 t.n,.slice A t.cl.length c,.slice A2 t.fl.length c2]) t := ⟨hV⟩;clear hV hI hF;obtain ⟨n,hn⟩ : ∃ n,∃ _u : Unit,t.n.toNat = n := ⟨_,(),rfl⟩;rw [hn.choose_spec];refine Wp.fn Tryz.func17 rfl Tryz.ntmps17 (by simp) ?_;have xw := Ext.refl w;refine Wp.keep [0] ?_;rintro r1 ⟨x,-⟩;simp [go_sem] at x;refine sRg fun K' gd hK => ?_;refine cu1 fun K1 hK1 => ?_;go_simp;apply hK1;clear hK1 K1;refine Wops.absA fun N n1 k => ?_;obtain ⟨q1,k,s1,p,f1,r1⟩ := k;try simp only [q1] at p f1 r1 ⊢
 replace hIS := hIS.ext k;replace hFS := hFS.ext k;replace hTS := hTS.ext k;replace xw := xw.trans k;have r := p 0 _ rfl;have s := p 1 _ rfl;have u := p 2 _ rfl;clear p k;clear r1;refine cu1 fun K1 hK1 => ?_;go_simp;apply hK1;clear hK1 K1;refine Wops.absA fun O n2 f => ?_;obtain ⟨q2,f,s2,q,f2,r2⟩ := f;try simp only [q2] at q f2 r2 ⊢
 replace hIS := hIS.ext f;replace hFS := hFS.ext f;replace hTS := hTS.ext f;replace xw := xw.trans f;replace r := f.cell r;replace s := f.cell s;replace u := f.cell u;have a := q 0 _ rfl;have d := q 1 _ rfl;have e := q 2 _ rfl;clear q f;clear r2;go_simp;apply hK;clear hK K' gd;refine Wp.keep [1,2] ?_;rintro r2 ⟨y,C,-⟩;simp [go_sem,x] at y C;clear x;refine Wp.seq ?_;refine sRg fun K' gd hK => ?_;refine cu2 fun K1 hK1 => ?_;go_simp;refine Wcall (.inl rfl) (check_c t _ _ (hTS.v.more (Below.size (XE))) hf) ?_;rintro v w2 ⟨rfl,hE⟩;go_simp;apply hK1;clear hK1 K1;have z3 := Below.size hE;replace f2 := hE.fz a f2;replace hIS := hIS.ext hE;replace hFS := hFS.ext hE;replace hTS := hTS.ext hE;replace xw := xw.trans hE;replace r := hE.cell r;replace s := hE.cell s;replace u := hE.cell u;replace a := hE.cell a;replace d := hE.cell d;replace e := hE.cell e;clear hE;go_simp;apply hK;clear hK K' gd;refine Wp.keep [1,2,4] ?_;rintro r4 ⟨l,m,o,-⟩;simp [go_sem,y,C] at l m o;clear y C
 by_cases h0 : checkT t = 0
 ·skip;have hP : PlanT t n := by rw [← hn.choose_spec];exact (checkT_zero.1 h0).plan (hl h0)
  refine sRg fun K' gd hK => ?_;go_simp;apply hK;clear hK K' gd;refine Wp.keep [1,2,4,8] ?_;rintro r5 ⟨z,D,F,H,-⟩;simp [go_sem,l,m,o] at z D F H;clear l m o;refine cFf ?_;refine skN ?_;refine sRg fun K' gd hK => ?_;refine cu2 fun K1 hK1 => ?_;go_simp;refine Wcall (.inl rfl) (best_c t n _ _ hP (hTS.v.more (Below.size (XE)))) ?_;rintro v w4 ⟨⟨A',c',A2',c2',g,rfl,eV,hH,hg2⟩,hE⟩;obtain ⟨-,e2,e3⟩ := agg3_inj eV;obtain ⟨rfl,rfl⟩ := slice_inj e2;obtain ⟨rfl,rfl⟩ := slice_inj e3;clear e2 e3 eV;go_simp;apply hK1;clear hK1 K1;have z6 := Below.size hE;replace f2 := hE.fz a f2;replace hIS := hIS.ext hE;replace hFS := hFS.ext hE;replace hTS := hTS.ext hE;replace xw := xw.trans hE;replace a := hE.cell a;replace d := hE.cell d;replace e := hE.cell e;clear hE;refine cu1 fun K1 hK1 => ?_;go_simp;refine Wcall (.inl rfl) (whole_c t n g A c A2 c2 (bestF t n) _ hP (hTS.v.more (Below.size (XE))) hH (hIS.v.more (Below.size (XE))) (hFS.v.more (Below.size (XE))) bestF_lt) ?_;rintro v w5 ⟨hM0,hE⟩;have hM := MendB.less (b2 := n2 + 1) hM0 (by omega)
  clear hM0;obtain ⟨A8,c8,A9,c9,rfl⟩ := hM.open';go_simp;apply hK1;clear hK1 K1;replace f2 := hE.fz a f2;replace xw := xw.trans hE;replace a := hE.cell a;replace d := hE.cell d;replace e := hE.cell e;clear hE;refine cu1 fun K1 hK1 => ?_;go_simp;apply hK1;clear hK1 K1;refine Wops.absS (b := n2) (i := 0) [_,_,_] (somes [cellVal a,cellVal d,cellVal e] (by simp) (by intro j v hj;match j,hj with | 0,hj => (simp at hj;subst hj;exact a) | 1,hj => (simp at hj;subst hj;exact d) | 2,hj => (simp at hj;subst hj;exact e))) fun P3 hP3 => ?_;replace hM := hM.put hP3 (by omega);replace xw := Put.to xw hP3 (by omega);clear a;clear d;clear e;have a := hP3.new 0 _ rfl;try simp only [Nat.reduceAdd,Nat.zero_add,Nat.add_zero] at a
  have d := hP3.new 1 _ rfl;try simp only [Nat.reduceAdd,Nat.zero_add,Nat.add_zero] at d
  have e := hP3.new 2 _ rfl;try simp only [Nat.reduceAdd,Nat.zero_add,Nat.add_zero] at e
  clear hP3;go_simp;apply hK;clear hK K' gd;refine Wp.keep [2,3] ?_;rintro r8 ⟨K,M,-⟩;simp [go_sem,z,D,F,H] at K M;clear z D F H;refine Wp.ret ?_;refine endK_cell_tmp (v := .agg #[cellVal a,cellVal d,cellVal e]) Tryz.results17 (by decide) (by decide) K (by dsimp only [cellVal];go_simp) ?_;rw [M]
  dsimp only [cellVal]
  exact ⟨⟨_,by rw [h0],fun _ => hM.less (by omega),fun h => absurd h0 h⟩,xw⟩
 ·skip;refine sRg fun K' gd hK => ?_;go_simp;apply hK;clear hK K' gd;refine Wp.keep [1,2,4,8] ?_;rintro r9 ⟨B,E,G,I,-⟩;simp [go_sem,l,m,o] at B E G I;clear l m o;refine cTt ?_;refine sRg fun K' gd hK => ?_;refine cu3 fun K1 hK1 => ?_;go_simp;apply hK1;clear hK1 K1;refine Wops.absS (b := n2) (i := 0) [_,_,_] (somes [cellVal a,cellVal d,cellVal e] (by simp) (by intro j v hj;match j,hj with | 0,hj => (simp at hj;subst hj;exact a) | 1,hj => (simp at hj;subst hj;exact d) | 2,hj => (simp at hj;subst hj;exact e))) fun P4 hP4 => ?_;replace xw := Put.to xw hP4 (by omega);clear a;clear d;clear e;have a := hP4.new 0 _ rfl;try simp only [Nat.reduceAdd,Nat.zero_add,Nat.add_zero] at a
  have d := hP4.new 1 _ rfl;try simp only [Nat.reduceAdd,Nat.zero_add,Nat.add_zero] at d
  have e := hP4.new 2 _ rfl;try simp only [Nat.reduceAdd,Nat.zero_add,Nat.add_zero] at e
  clear hP4;go_simp;apply hK;clear hK K' gd;refine Wp.keep [2,3] ?_;rintro r10 ⟨J,L,-⟩;simp [go_sem,B,E,G,I] at J L;clear B E G I;refine Wp.ret ?_;refine tRe ?_;refine endK_cell_tmp (v := .agg #[cellVal a,cellVal d,cellVal e]) Tryz.results17 (by decide) (by decide) J (by dsimp only [cellVal];go_simp) ?_;rw [L]
  dsimp only [cellVal]
  exact ⟨⟨_,rfl,fun h => absurd h h0,fun _ => rfl⟩,xw⟩
theorem Merit_c (t : Tr) (v : Value) (w : World) (hV : TourV w w.heap.size v t) (hf : FitT t) (hl : checkT t = 0 → t.fl.length ≤ 12) :
  CallsV Tryz.prog 56 #[v] w fun v' w' => v' = .tuple #[.int .i64 (if checkT t = 0 then meritF t t.n.toNat else 0),.int .i64 (checkT t)] ∧ Ext w w' := by
 obtain ⟨A,c,A2,c2,rfl,hI,hF⟩ := hV.open';have hTS : TourS w w.heap.size (.agg #[.int .i64 t.n,.slice A t.cl.length c,.slice A2 t.fl.length c2]) t := ⟨hV⟩;clear hV hI hF;obtain ⟨n,hn⟩ : ∃ n,∃ _u : Unit,t.n.toNat = n := ⟨_,(),rfl⟩;rw [hn.choose_spec];refine Wp.fn Tryz.func56 rfl Tryz.ntmps56 (by simp) ?_;have xw := Ext.refl w;refine Wp.keep [0] ?_;rintro r1 ⟨f,-⟩;simp [go_sem] at f;refine sRg fun K' gd hK => ?_;refine cu1 fun K1 hK1 => ?_;go_simp;apply hK1;clear hK1 K1;refine Wops.absA fun y n1 d => ?_;obtain ⟨q1,d,s1,e,f1,r1⟩ := d;try simp only [q1] at e f1 r1 ⊢
 replace hTS := hTS.ext d;replace xw := xw.trans d;have o := e 0 _ rfl;have p := e 1 _ rfl;have q := e 2 _ rfl;clear e d;clear r1;go_simp;apply hK;clear hK K' gd;refine Wp.keep [1] ?_;rintro r2 ⟨g,-⟩;simp [go_sem,f] at g;clear f;refine Wp.seq ?_;refine sRg fun K' gd hK => ?_;refine cu2 fun K1 hK1 => ?_;go_simp;refine Wcall (.inl rfl) (check_c t _ _ (hTS.v.more (Below.size (XE))) hf) ?_;rintro v w2 ⟨rfl,hE⟩;go_simp;apply hK1;clear hK1 K1;replace hTS := hTS.ext hE;replace xw := xw.trans hE;replace o := hE.cell o;replace p := hE.cell p;replace q := hE.cell q;clear hE;go_simp;apply hK;clear hK K' gd;refine Wp.keep [1,4] ?_;rintro r4 ⟨a,b,-⟩;simp [go_sem,g] at a b;clear g
 by_cases h0 : checkT t = 0
 ·skip;have hP : PlanT t n := by rw [← hn.choose_spec];exact (checkT_zero.1 h0).plan (hl h0)
  refine sRg fun K' gd hK => ?_;go_simp;apply hK;clear hK K' gd;refine Wp.keep [1,4,8] ?_;rintro r5 ⟨h,j,l,-⟩;simp [go_sem,a,b] at h j l;clear a b;refine cFf ?_;refine skN ?_;refine sRg fun K' gd hK => ?_;refine cu2 fun K1 hK1 => ?_;go_simp;refine Wcall (.inl rfl) (mendMerit_c t n _ _ hP (hTS.v.more (Below.size (XE)))) ?_;rintro v w4 ⟨rfl,hE⟩;go_simp;apply hK1;clear hK1 K1;replace xw := xw.trans hE;clear hE;go_simp;apply hK;clear hK K' gd;refine Wp.keep [2,3] ?_;rintro r7 ⟨r,u,-⟩;simp [go_sem,h,j,l] at r u;clear h j l;refine Wp.ret ?_;refine endK_tmp2 Tryz.results56 (by decide) (by decide) ?_;rw [r,u];exact ⟨by rw [if_pos h0,h0],xw⟩
 ·skip;refine sRg fun K' gd hK => ?_;go_simp;apply hK;clear hK K' gd;refine Wp.keep [1,4,8] ?_;rintro r8 ⟨i,k,m,-⟩;simp [go_sem,a,b] at i k m;clear a b;refine cTt ?_;refine sRg fun K' gd hK => ?_;go_simp;apply hK;clear hK K' gd;refine Wp.keep [2,3] ?_;rintro r9 ⟨s,x,-⟩;simp [go_sem,i,k,m] at s x;clear i k m;refine Wp.ret ?_;refine tRe ?_;refine endK_tmp2 Tryz.results56 (by decide) (by decide) ?_;rw [s,x];exact ⟨by rw [if_neg h0],xw⟩
def dayE (t : Tr) (d : Int) : Int := if checkT t ≠ 0 then checkT t else if 0 ≤ d ∧ d ≤ t.n - 1 then 0 else 1
theorem dayOf_c (t : Tr) (d : Int) (v : Value) (w : World) (hV : TourV w w.heap.size v t) (hf : FitT t) :
  CallsV Tryz.prog 116 #[v,.int .i64 d] w fun v' w' => v' = .int .i64 (dayE t d) ∧ Ext w w' := by
 obtain ⟨A,c,A2,c2,rfl,hI,hF⟩ := hV.open';have hTS : TourS w w.heap.size (.agg #[.int .i64 t.n,.slice A t.cl.length c,.slice A2 t.fl.length c2]) t := ⟨hV⟩;clear hV hI hF;refine Wp.fn Tryz.func116 rfl Tryz.ntmps116 (by simp) ?_;have xw := Ext.refl w;refine Wp.keep [0,1] ?_;rintro r1 ⟨l,p,-⟩;simp [go_sem] at l p;refine sRg fun K' gd hK => ?_;refine cu1 fun K1 hK1 => ?_;go_simp;apply hK1;clear hK1 K1;refine Wops.absA fun E n2 j => ?_;obtain ⟨q2,j,s2,k,f2,r2⟩ := j;try simp only [q2] at k f2 r2 ⊢
 replace hTS := hTS.ext j;replace xw := xw.trans j;have z := k 0 _ rfl;have F := k 1 _ rfl;have G := k 2 _ rfl;clear k j;clear r2;go_simp;apply hK;clear hK K' gd;refine Wp.keep [1,2] ?_;rintro r2 ⟨r,u,-⟩;simp [go_sem,l,p] at r u;clear l p;refine Wp.seq ?_;refine sRg fun K' gd hK => ?_;refine cu2 fun K1 hK1 => ?_;go_simp;refine Wcall (.inl rfl) (check_c t _ _ (hTS.v.more (Below.size (XE))) hf) ?_;rintro v w2 ⟨rfl,hE⟩;go_simp;apply hK1;clear hK1 K1;replace xw := xw.trans hE;replace z := hE.cell z;clear hE;go_simp;apply hK;clear hK K' gd;refine Wp.keep [1,2,5] ?_;rintro r4 ⟨a,e,g,-⟩;simp [go_sem,r,u] at a e g;clear r u
 by_cases h0 : checkT t = 0
 ·skip;have hw : IntKind.i64.wrap (t.n - 1) = t.n - 1 := IntWalk.i64_in _ (by have := (checkT_zero.1 h0).n;omega);refine sRg fun K' gd hK => ?_;go_simp;apply hK;clear hK K' gd;refine Wp.keep [1,2,5,9] ?_;rintro r5 ⟨b,f,h,i,-⟩;simp [go_sem,a,e,g] at b f h i;clear a e g;refine cFf ?_
  by_cases h1 : 0 ≤ d ∧ d ≤ t.n - 1
  ·skip;refine skN ?_;refine Wp.seq ?_;refine sRg fun K' gd hK => ?_;refine cu5 fun K1 hK1 => ?_;go_simp;refine Wcall (.inl rfl) (within_T h1 _) ?_;rintro v w3 ⟨rfl,hE⟩;go_simp;apply hK1;clear hK1 K1;replace xw := xw.trans hE;clear hE;go_simp;apply hK;clear hK K' gd;refine Wp.keep [16] ?_;rintro r7 ⟨o,-⟩;simp [go_sem,b,f,h,i] at o;clear b f h i;refine cFf ?_;refine skN ?_;refine sRg fun K' gd hK => ?_;go_simp;apply hK;clear hK K' gd;refine Wp.keep [4] ?_;rintro r8 ⟨D,-⟩;simp [go_sem,o] at D;clear o;refine Wp.ret ?_;refine endK_tmp Tryz.results116 (by decide) ?_;rw [D];exact ⟨by unfold dayE;rw [if_neg (not_not_intro h0),if_pos h1],xw⟩
  ·skip;refine skN ?_;refine Wp.seq ?_;refine sRg fun K' gd hK => ?_;refine cu5 fun K1 hK1 => ?_;go_simp;refine Wcall (.inl rfl) (within_F h1 _) ?_;rintro v w3 ⟨rfl,hE⟩;go_simp;apply hK1;clear hK1 K1;replace xw := xw.trans hE;clear hE;go_simp;apply hK;clear hK K' gd;refine Wp.keep [16] ?_;rintro r10 ⟨m,-⟩;simp [go_sem,b,f,h,i] at m;clear b f h i;refine cTt ?_;refine sRg fun K' gd hK => ?_;go_simp;apply hK;clear hK K' gd;refine Wp.keep [4] ?_;rintro r11 ⟨B,-⟩;simp [go_sem,m] at B;clear m;refine Wp.ret ?_;refine tRe ?_;refine endK_tmp Tryz.results116 (by decide) ?_;rw [B];exact ⟨by unfold dayE;rw [if_neg (not_not_intro h0),if_neg h1],xw⟩
 ·skip;refine sRg fun K' gd hK => ?_;go_simp;apply hK;clear hK K' gd;refine Wp.keep [1,2,5,9] ?_;rintro r12 ⟨q,s,x,y,-⟩;simp [go_sem,a,e,g] at q s x y;clear a e g;refine cTt ?_;refine sRg fun K' gd hK => ?_;go_simp;apply hK;clear hK K' gd;refine Wp.keep [4] ?_;rintro r13 ⟨C,-⟩;simp [go_sem,q,s,x,y] at C;clear q s x y;refine Wp.ret ?_;refine tRe ?_;refine endK_tmp Tryz.results116 (by decide) ?_;rw [C];exact ⟨by unfold dayE;rw [if_pos h0],xw⟩
theorem dayE_zero {t : Tr} {d : Int} : dayE t d = 0 ↔ checkT t = 0 ∧ 0 ≤ d ∧ d ≤ t.n - 1 := by
 unfold dayE
 by_cases h0 : checkT t = 0
 ·rw [if_neg (not_not_intro h0)]
  by_cases h1 : 0 ≤ d ∧ d ≤ t.n - 1
  ·rw [if_pos h1];exact ⟨fun _ => ⟨h0,h1⟩,fun _ => rfl⟩
  ·rw [if_neg h1];exact ⟨(fun h => by cases h),fun h => absurd h.2 h1⟩
 ·rw [if_pos h0];exact ⟨fun h => absurd h h0,fun h => absurd h.1 h0⟩
theorem closeL_len (cl : List Int) (d : Int) : (closeL cl d).length ≤ cl.length + 1 := by
 unfold closeL
 split
 ·omega
 ·rw [insAt_len];exact Nat.le_refl _
theorem PlanT.closed {t : Tr} {n : Nat} (h : PlanT t n) (hl : t.cl.length ≤ 1000) (d : Int) : PlanT (closedT t d) n :=
 ⟨h.tn,h.n1,h.n2,by have := closeL_len t.cl d;show (closeL t.cl d).length ≤ _;omega,h.fl,h.sp,h.mr⟩
def lostF (t : Tr) (d : Int) : Int := if dayE t d = 0 then meritF t t.n.toNat - meritF (closedT t d) t.n.toNat else 0
theorem Lost_c (t : Tr) (d : Int) (v : Value) (w : World) (hV : TourV w w.heap.size v t) (hf : FitT t) (hl : checkT t = 0 → t.fl.length ≤ 12) :
  CallsV Tryz.prog 39 #[v,.int .i64 d] w fun v' w' => v' = .tuple #[.int .i64 (lostF t d),.int .i64 (dayE t d)] ∧ Ext w w' := by
 obtain ⟨A,c,A2,c2,rfl,hI,hF⟩ := hV.open';have hTS : TourS w w.heap.size (.agg #[.int .i64 t.n,.slice A t.cl.length c,.slice A2 t.fl.length c2]) t := ⟨hV⟩;clear hV hI hF;unfold lostF;obtain ⟨n,hn⟩ : ∃ n,∃ _u : Unit,t.n.toNat = n := ⟨_,(),rfl⟩;rw [hn.choose_spec];refine Wp.fn Tryz.func39 rfl Tryz.ntmps39 (by simp) ?_;have xw := Ext.refl w;refine Wp.keep [0,1] ?_;rintro r1 ⟨k,o,-⟩;simp [go_sem] at k o;refine sRg fun K' gd hK => ?_;refine cu1 fun K1 hK1 => ?_;go_simp;apply hK1;clear hK1 K1;refine Wops.absA fun F n2 f => ?_;obtain ⟨q2,f,s2,g,f2,r2⟩ := f;try simp only [q2] at g f2 r2 ⊢
 replace hTS := hTS.ext f;replace xw := xw.trans f;have h := g 0 _ rfl;have i := g 1 _ rfl;have j := g 2 _ rfl;clear g f;clear r2;go_simp;apply hK;clear hK K' gd;refine Wp.keep [1,2] ?_;rintro r2 ⟨q,u,-⟩;simp [go_sem,k,o] at q u;clear k o;refine Wp.seq ?_;refine sRg fun K' gd hK => ?_;refine cu3 fun K1 hK1 => ?_;go_simp;refine Wcall (.inl rfl) (dayOf_c t d _ _ (hTS.v.more (Below.size (XE))) hf) ?_;rintro v w2 ⟨rfl,hE⟩;go_simp;apply hK1;clear hK1 K1;replace hTS := hTS.ext hE;replace xw := xw.trans hE;replace h := hE.cell h;replace i := hE.cell i;replace j := hE.cell j;clear hE;go_simp;apply hK;clear hK K' gd;refine Wp.keep [1,2,6] ?_;rintro r4 ⟨a,b,e,-⟩;simp [go_sem,q,u] at a b e;clear q u
 by_cases h0 : dayE t d = 0
 ·skip;have hg := checkT_zero.1 (dayE_zero.1 h0).1;have hP : PlanT t n := by rw [← hn.choose_spec];exact hg.plan (hl (dayE_zero.1 h0).1)
  refine sRg fun K' gd hK => ?_;go_simp;apply hK;clear hK K' gd;refine Wp.keep [1,2,6,11] ?_;rintro r5 ⟨r,x,z,m,-⟩;simp [go_sem,a,b,e] at r x z m;clear a b e;refine cFf ?_;refine skN ?_;refine Wp.seqDraw (.inl rfl) mixed [([0,2,3],some (1,false)),([],some (4,false)),([],some (5,false)),([6,7,8],none)] (by kernel_rfl) fun K' gd hK hg => ?_;clear hg;simp only [pick,nth,List.map_cons,List.map_nil,Option.map_none,Option.map_some];refine Mops.absD fun D2 hD2 zD2 => ?_;replace hTS := hTS.ext hD2;replace xw := xw.trans hD2;replace h := hD2.cell h;replace i := hD2.cell i;replace j := hD2.cell j;clear hD2;refine mAc ?_
  intro K1 hK1;go_simp;refine Wcall (.inl rfl) (mendMerit_c t n _ _ hP (hTS.v.more (Below.size (XE)))) ?_;rintro v w3 ⟨rfl,hE⟩;go_simp;refine hK1 _ _ (by assumption) ?_;clear hK1 K1;replace hTS := hTS.ext hE;replace xw := xw.trans hE;clear hE;apply Mops.act
  ·exact fun _ _ => Rops_done
  intro K1 hK1;go_simp;refine Wcall (.inl rfl) (closed_c t d _ _ (hTS.v.more (Below.size (XE))) hg.cl.rising (by have := hg.len;omega) (by have := hg.fl;omega)) ?_;rintro v w4 ⟨hM,hE⟩;go_simp;refine hK1 _ _ (by assumption) ?_;clear hK1 K1;replace xw := xw.trans hE;clear hE;apply Mops.act
  ·exact fun _ _ => Rops_done
  intro K1 hK1;go_simp;refine Wcall (.inl rfl) (mendMerit_c (closedT t d) n _ _ (hP.closed (by have := hg.len;omega) d) hM.tourV) ?_;rintro v w5 ⟨rfl,hE⟩;go_simp;refine hK1 _ _ (by assumption) ?_;clear hK1 K1;replace xw := xw.trans hE;clear hE;apply Mops.none
  ·intro w' hE';go_simp;with_reducible rfl
  refine Mops.done ?_;apply hK;clear hK K' gd;refine Wp.keep [4,5] ?_;rintro r9 ⟨C,E,-⟩;simp [go_sem,r,x,z,m] at C E;clear r x z m;refine Wp.ret ?_;refine endK_tmp2 Tryz.results39 (by decide) (by decide) ?_;rw [C,E];exact ⟨by rw [if_pos h0,h0,IntWalk.i64_in _ (by have := meritF_le hP;have := meritF_le (hP.closed (by have := hg.len;omega) d);omega)],xw⟩
 ·skip;refine sRg fun K' gd hK => ?_;go_simp;apply hK;clear hK K' gd;refine Wp.keep [1,2,6,11] ?_;rintro r10 ⟨p,s,y,l,-⟩;simp [go_sem,a,b,e] at p s y l;clear a b e;refine cTt ?_;refine sRg fun K' gd hK => ?_;go_simp;apply hK;clear hK K' gd;refine Wp.keep [4,5] ?_;rintro r11 ⟨B,D,-⟩;simp [go_sem,p,s,y,l] at B D;clear p s y l;refine Wp.ret ?_;refine tRe ?_;refine endK_tmp2 Tryz.results39 (by decide) (by decide) ?_;rw [B,D];exact ⟨by rw [if_neg h0],xw⟩
end Go.Proofs.YtnklbepeoicgpaaGreat
namespace Go.Proofs.YtnklbepeoicgpaaGreat
def sumN (f : Nat → Int) : Nat → Int
 | 0 => 0
 | n + 1 => sumN f n + f n
theorem sumN_le {f g : Nat → Int} : ∀ n,(∀ d,d < n → f d ≤ g d) → sumN f n ≤ sumN g n
 | 0,_ => Int.le_refl _
 | n + 1,h => Int.add_le_add (sumN_le n fun d hd => h d (by omega)) (h n (by omega))
theorem sumN_eq {f g : Nat → Int} : ∀ n,(∀ d,d < n → f d = g d) → sumN f n = sumN g n
 | 0,_ => rfl
 | n + 1,h => by unfold sumN;rw [sumN_eq n fun d hd => h d (by omega),h n (by omega)]
theorem sumN_add {f g : Nat → Int} : ∀ n,sumN (fun d => f d + g d) n = sumN f n + sumN g n
 | 0 => rfl
 | n + 1 => by unfold sumN;rw [sumN_add n];omega
theorem sumN_zero : ∀ n,sumN (fun _ => 0) n = 0
 | 0 => rfl
 | n + 1 => by unfold sumN;rw [sumN_zero n];rfl
theorem sumN_pos {f : Nat → Int} (n : Nat) (h : ∀ d,d < n → 0 ≤ f d) : 0 ≤ sumN f n := by rw [← sumN_zero n];exact sumN_le n h
theorem sumN_one {F : Nat → Int} {k : Nat} : ∀ n,sumN (fun j => if j = k then F j else 0) n = if k < n then F k else 0
 | 0 => by rw [if_neg (Nat.not_lt_zero _)];rfl
 | n + 1 => by
   unfold sumN;rw [sumN_one n]
   by_cases e : n = k
   ·subst e;rw [if_neg (Nat.lt_irrefl _),if_pos rfl,if_pos (Nat.lt_succ_self _)];omega
   ·rw [if_neg e]
    by_cases h : k < n
    ·rw [if_pos h,if_pos (by omega)];omega
    ·rw [if_neg h,if_neg (by omega)];omega
theorem sumN_le_at {f g : Nat → Int} {k : Nat} {c : Int} : ∀ n,k < n → (∀ d,d < n → d ≠ k → f d ≤ g d) → f k + c ≤ g k → sumN f n + c ≤ sumN g n
 | 0,hk,_,_ => absurd hk (Nat.not_lt_zero _)
 | n + 1,hk,h,hc => by
   unfold sumN
   by_cases e : n = k
   ·subst e;have := sumN_le (f := f) (g := g) n fun d hd => h d (by omega) (by omega);omega
   ·have := sumN_le_at n (by omega) (fun d hd hne => h d (by omega) hne) hc;have := h n (by omega) e;omega
def cntN (h : Nat → Int) (j : Int) (n : Nat) : Int := sumN (fun d => if h d = j then 1 else 0) n
theorem cntN_pos {h : Nat → Int} {j : Int} {n : Nat} : 0 ≤ cntN h j n := sumN_pos n fun d _ => by split <;> decide
theorem cntN_S {h : Nat → Int} {j : Int} {n : Nat} : cntN h j (n + 1) = cntN h j n + if h n = j then 1 else 0 := rfl
theorem cntN_zero {h : Nat → Int} {j : Int} : ∀ {n : Nat},cntN h j n = 0 → ∀ d,d < n → h d ≠ j
 | 0,_,d,hd => absurd hd (Nat.not_lt_zero _)
 | n + 1,hc,d,hd => by
   rw [cntN_S] at hc;have := cntN_pos (h := h) (j := j) (n := n);have hn : h n ≠ j := by intro e;rw [if_pos e] at hc;omega
   rw [if_neg hn] at hc
   by_cases e : d = n
   ·rw [e];exact hn
   ·exact cntN_zero (n := n) (by omega) d (by omega)
theorem cntN_of_zero {h : Nat → Int} {j : Int} {n : Nat} (hd : ∀ d,d < n → h d ≠ j) : cntN h j n = 0 := by
 unfold cntN;rw [sumN_eq n (g := fun _ => 0) fun d hdn => if_neg (hd d hdn)];exact sumN_zero n
theorem cntN_some {h : Nat → Int} {j : Int} : ∀ {n : Nat},cntN h j n ≠ 0 → ∃ d,d < n ∧ h d = j
 | 0,hc => absurd rfl hc
 | n + 1,hc => by
   by_cases e : h n = j
   ·exact ⟨n,Nat.lt_succ_self _,e⟩
   ·rw [cntN_S,if_neg e,Int.add_zero] at hc;obtain ⟨d,hd,he⟩ := cntN_some hc;exact ⟨d,by omega,he⟩
theorem cntN_ge {h : Nat → Int} {j : Int} {n d : Nat} (hd : d < n) (e : h d = j) : 1 ≤ cntN h j n := by
 have := cntN_pos (h := h) (j := j) (n := n)
 by_cases h0 : cntN h j n = 0
 ·exact absurd e (cntN_zero h0 d hd)
 ·omega
theorem cntN_two {h : Nat → Int} {j : Int} : ∀ {n d e : Nat},cntN h j n ≤ 1 → d < n → e < n → h d = j → h e = j → d = e
 | 0,d,_,_,hd,_,_,_ => absurd hd (Nat.not_lt_zero _)
 | n + 1,d,e,hc,hd,he,h1,h2 => by
   rw [cntN_S] at hc
   by_cases a : d = n
   ·by_cases b : e = n
    ·omega
    ·rw [← a,if_pos h1] at hc;have := cntN_ge (n := d) (d := e) (by omega) h2;omega
   ·have q := cntN_ge (n := n) (d := d) (by omega) h1
    by_cases b : e = n
    ·rw [← b,if_pos h2] at hc;rw [← b] at q;omega
    ·have : 0 ≤ (if h n = j then (1 : Int) else 0) := by split <;> decide
     exact cntN_two (n := n) (by omega) (by omega) (by omega) h1 h2
theorem cntN_upd {h : Nat → Int} {i j : Int} {d : Nat} : ∀ {n : Nat},d < n → cntN (updI h d i) j n = cntN h j n - (if h d = j then 1 else 0) + if i = j then 1 else 0
 | 0,hd => absurd hd (Nat.not_lt_zero _)
 | n + 1,hd => by
   rw [cntN_S,cntN_S]
   by_cases e : n = d
   ·subst e;have : cntN (updI h n i) j n = cntN h j n := by unfold cntN;exact sumN_eq n fun d hd => by have e : updI h n i d = h d := if_neg (show ¬ d = n by omega);rw [e]
    rw [this];unfold updI;rw [if_pos rfl];omega
   ·rw [cntN_upd (n := n) (by omega)];unfold updI;rw [if_neg e];omega
def worthW (W : Int → Int) (h : Nat → Int) (n : Nat) : Int := sumN (fun d => if 0 ≤ h d then W (h d) else 0) n
theorem worth_cnt {W : Int → Int} {h : Nat → Int} {m : Nat} : ∀ n,(∀ d,d < n → h d < m) → worthW W h n = sumN (fun j => cntN h (j : Int) n * W (j : Int)) m
 | 0,_ => by
   rw [sumN_eq m (g := fun _ => 0) fun d _ => by show (0 : Int) * _ = 0;rw [Int.zero_mul],sumN_zero];rfl
 | n + 1,hm => by
   have ih := worth_cnt (W := W) (h := h) n fun d hd => hm d (by omega)
   show worthW W h n + _ = _
   have e : sumN (fun j => cntN h (j : Int) (n + 1) * W (j : Int)) m = sumN (fun j => cntN h (j : Int) n * W (j : Int)) m + sumN (fun j => if h n = (j : Int) then W (j : Int) else 0) m := by
    rw [← sumN_add];refine sumN_eq m fun d _ => ?_;rw [cntN_S,Int.add_mul];congr 1;split <;> simp
   rw [ih,e]
   congr 1
   show (if 0 ≤ h n then W (h n) else 0) = _
   by_cases h0 : 0 ≤ h n
   ·rw [if_pos h0];obtain ⟨k,hk⟩ : ∃ k : Nat,h n = (k : Int) := ⟨(h n).toNat,by omega⟩;have := hm n (by omega)
    rw [hk,sumN_eq m (g := fun j => if j = k then W (j : Int) else 0) fun d _ => by
     by_cases e : d = k
     ·rw [if_pos e,if_pos (by omega)]
     ·rw [if_neg e,if_neg (by omega)],sumN_one,if_pos (by omega)]
   ·rw [if_neg h0,sumN_eq m (g := fun _ => 0) fun d _ => if_neg (by omega),sumN_zero]
structure OkP (N : Int → List Nat) (n m : Nat) (h : Nat → Int) : Prop where
 lt : ∀ d,-1 ≤ h d ∧ h d < m
 day : ∀ d,d < n → 0 ≤ h d → d ∈ N (h d)
 one : ∀ j : Nat,cntN h (j : Int) n ≤ 1
def Clo (N : Int → List Nat) (n : Nat) (h : Nat → Int) (X : Nat → Prop) : Prop := ∀ d,X d → d < n ∧ 0 ≤ h d ∧ ∀ e ∈ N (h d),X e
section
open Classical
noncomputable def maxP (P : Nat → Prop) (W : Int → Int) : Nat → Int
 | 0 => 0
 | m + 1 => if P m then max (maxP P W m) (W m) else maxP P W m
theorem maxP_pos {P : Nat → Prop} {W : Int → Int} : ∀ m,0 ≤ maxP P W m
 | 0 => Int.le_refl _
 | m + 1 => by have := maxP_pos (P := P) (W := W) m;unfold maxP;split <;> omega
theorem maxP_ge {P : Nat → Prop} {W : Int → Int} {i : Nat} (hP : P i) : ∀ m,i < m → W i ≤ maxP P W m
 | 0,h => absurd h (Nat.not_lt_zero _)
 | m + 1,h => by
   unfold maxP
   by_cases e : i = m
   ·subst e;rw [if_pos hP];omega
   ·have := maxP_ge (W := W) hP m (by omega);split <;> omega
theorem maxP_cases {P : Nat → Prop} {W : Int → Int} : ∀ m,maxP P W m = 0 ∨ ∃ i,i < m ∧ P i ∧ maxP P W m = W i
 | 0 => .inl rfl
 | m + 1 => by
   unfold maxP
   by_cases h : P m
   ·rw [if_pos h]
    by_cases hm : maxP P W m ≤ W m
    ·exact .inr ⟨m,Nat.lt_succ_self _,h,by omega⟩
    ·rcases maxP_cases (P := P) (W := W) m with e | ⟨i,h1,h2,h3⟩
     ·exact .inl (by omega)
     ·exact .inr ⟨i,by omega,h2,by omega⟩
   ·rw [if_neg h]
    rcases maxP_cases (P := P) (W := W) m with e | ⟨i,h1,h2,h3⟩
    ·exact .inl e
    ·exact .inr ⟨i,by omega,h2,h3⟩
def CertI (N : Int → List Nat) (n : Nat) (W : Int → Int) (h : Nat → Int) (i : Int) (X : Nat → Prop) : Prop := Clo N n h X ∧ (∀ d ∈ N i,X d) ∧ ∀ d,X d → W i ≤ W (h d)
theorem dual_max {N : Int → List Nat} {n m : Nat} {W : Int → Int} {h g : Nat → Int} {S : Int → Prop} (hh : OkP N n m h) (hg : OkP N n m g) (hS : ∀ d,d < n → 0 ≤ g d → S (g d) ∨ W (g d) = 0)
  (hW : ∀ j,0 ≤ W j) (hc : ∀ i : Nat,i < m → S i → cntN h i n = 0 → ∃ X,CertI N n W h i X) : worthW W g n ≤ worthW W h n := by
 let P : Nat → Nat → Prop := fun d i => ∃ X,CertI N n W h i X ∧ X d
 let y : Nat → Int := fun d => maxP (P d) W m
 let u : Int → Int := fun j => sumN (fun e => if h e = j then W j - y e else 0) n
 have y0 : ∀ d,0 ≤ y d := fun d => maxP_pos m
 have ylo : ∀ d,d < n → 0 ≤ h d → y d ≤ W (h d) := fun d _ h0 => by
  rcases maxP_cases (P := P d) (W := W) m with e | ⟨i,-,⟨X,⟨hX,-,hX3⟩,hX2⟩,e⟩
  ·show maxP _ _ _ ≤ _;rw [e];exact hW _
  ·show maxP _ _ _ ≤ _;rw [e];exact hX3 d hX2
 have yno : ∀ d,h d < 0 → y d = 0 := fun d h0 => by
  rcases maxP_cases (P := P d) (W := W) m with e | ⟨i,-,⟨X,⟨hX,-,-⟩,hX2⟩,e⟩
  ·exact e
  ·have := (hX d hX2).2.1;omega
 have u0 : ∀ j : Int,0 ≤ j → 0 ≤ u j := fun j hj => sumN_pos n fun e he => by
  split
  ·rename_i q;have := ylo e he (by omega);rw [q] at this;omega
  ·exact Int.le_refl _
 have key : ∀ d,d < n → 0 ≤ g d → W (g d) ≤ u (g d) + y d := fun d hd h0 => by
  have hdN := hg.day d hd h0;obtain ⟨j,hj⟩ : ∃ j : Nat,g d = (j : Int) := ⟨(g d).toNat,by omega⟩;have hjm : j < m := by have := (hg.lt d).2;omega
  rw [hj] at hdN ⊢
  by_cases hz : cntN h (j : Int) n = 0
  ·have hS1 := hS d hd h0;rw [hj] at hS1
   by_cases hw0 : W (j : Int) = 0
   ·rw [hw0];have := y0 d;have := u0 (j : Int) (by omega);omega
   obtain ⟨X,hX⟩ := hc j hjm (hS1.resolve_right hw0) hz;have : W (j : Int) ≤ y d := maxP_ge (P := P d) ⟨X,hX,hX.2.1 d hdN⟩ m hjm;have := u0 j (by omega);omega
  ·obtain ⟨e,he,hej⟩ := cntN_some hz
   have hu : u (j : Int) = W (j : Int) - y e := by
    show sumN _ n = _
    rw [sumN_eq n (g := fun k => if k = e then W (j : Int) - y k else 0) fun k hk => by
     by_cases q : k = e
     ·rw [if_pos q,q,if_pos hej]
     ·rw [if_neg q,if_neg fun q2 => q (cntN_two (hh.one j) hk he q2 hej)],sumN_one,if_pos he]
   have : y e ≤ y d := by
    rcases maxP_cases (P := P e) (W := W) m with e0 | ⟨i,him,⟨X,hX,hX2⟩,e0⟩
    ·show maxP _ _ _ ≤ _;rw [e0];exact y0 d
    ·show maxP _ _ _ ≤ _;rw [e0]
     refine maxP_ge (P := P d) ⟨X,hX,(hX.1 e hX2).2.2 d (by rw [hej];exact hdN)⟩ m him
   omega
 -- what h is worth
 have eh : worthW W h n = sumN (fun j => u (j : Int)) m + sumN y n := by
  have e1 : sumN (fun j => u (j : Int)) m = worthW (fun _ => 1) h n * 0 + sumN (fun e => if 0 ≤ h e then W (h e) - y e else 0) n := by
   rw [Int.mul_zero,Int.zero_add]
   have : ∀ k,k ≤ n → sumN (fun j => sumN (fun e => if h e = (j : Int) then W (j : Int) - y e else 0) k) m = sumN (fun e => if 0 ≤ h e then W (h e) - y e else 0) k := by
    intro k
    induction k with
    | zero => intro _;exact sumN_zero m
    | succ k ih =>
      intro hk
      show sumN (fun j => sumN (fun e => if h e = (j : Int) then W (j : Int) - y e else 0) k + if h k = (j : Int) then W (j : Int) - y k else 0) m = _
      rw [sumN_add,ih (by omega)]
      show _ = sumN (fun e => if 0 ≤ h e then W (h e) - y e else 0) k + (if 0 ≤ h k then W (h k) - y k else 0)
      congr 1
      by_cases h0 : 0 ≤ h k
      ·obtain ⟨q,hq⟩ : ∃ q : Nat,h k = (q : Int) := ⟨(h k).toNat,by omega⟩;have := (hh.lt k).2
       rw [if_pos h0,hq,sumN_eq m (g := fun j => if j = q then W (j : Int) - y k else 0) fun d _ => by
        by_cases e : d = q
        ·rw [if_pos e,if_pos (by omega)]
        ·rw [if_neg e,if_neg (by omega)],sumN_one,if_pos (by omega)]
      ·rw [if_neg h0,sumN_eq m (g := fun _ => 0) fun d _ => if_neg (by omega),sumN_zero]
   exact this n (Nat.le_refl _)
  rw [e1,Int.mul_zero,Int.zero_add,← sumN_add];refine sumN_eq n fun d _ => ?_
  split
  ·omega
  ·rw [yno d (by omega)];rfl
 have eg : worthW W g n ≤ worthW u g n + sumN y n := by
  unfold worthW;rw [← sumN_add];refine sumN_le n fun d hd => ?_
  split
  ·rename_i h0;exact key d hd h0
  ·have := y0 d;omega
 have eu : worthW u g n ≤ sumN (fun j => u (j : Int)) m := by
  rw [worth_cnt n fun d _ => (hg.lt d).2];refine sumN_le m fun j _ => ?_;have h1 := hg.one j;have h2 := cntN_pos (h := g) (j := (j : Int)) (n := n);have h3 := u0 (j : Int) (by omega)
  by_cases e : cntN g (j : Int) n = 0
  ·rw [e,Int.zero_mul];exact h3
  ·rw [show cntN g (j : Int) n = 1 by omega,Int.one_mul];exact Int.le_refl _
 omega
end
theorem updI_at {h : Nat → Int} {d : Nat} {i : Int} : updI h d i d = i := if_pos rfl
theorem updI_ne {h : Nat → Int} {d e : Nat} {i : Int} (q : e ≠ d) : updI h d i e = h e := if_neg q
theorem markT_at {t : Nat → Bool} {d : Nat} : markT t d d = true := if_pos rfl
theorem markT_ne {t : Nat → Bool} {d e : Nat} (q : e ≠ d) : markT t d e = t e := if_neg q
theorem markT_true {t : Nat → Bool} {d e : Nat} : markT t d e = true ↔ e = d ∨ t e = true := by
 by_cases q : e = d
 ·subst q;rw [markT_at];simp
 ·rw [markT_ne q];simp [q]
def OneMore (N : Int → List Nat) (n : Nat) (h g : Nat → Int) (i : Int) (Y : Nat → Prop) : Prop :=
 (∀ j : Nat,cntN g (j : Int) n = cntN h (j : Int) n + if i = (j : Int) then 1 else 0) ∧ ∀ d,g d ≠ h d → Y d ∧ 0 ≤ g d ∧ (g d = i ∨ ∃ e,g d = h e) ∧ d ∈ N (g d)
def Swap (N : Int → List Nat) (n : Nat) (h g : Nat → Int) (i : Int) (d : Nat) (Y : Nat → Prop) : Prop :=
 (∀ j : Nat,cntN g (j : Int) n = cntN h (j : Int) n - (if h d = (j : Int) then 1 else 0) + if i = (j : Int) then 1 else 0) ∧ ∀ d,g d ≠ h d → Y d ∧ 0 ≤ g d ∧ (g d = i ∨ ∃ e,g d = h e) ∧ d ∈ N (g d)
structure GiveR (N : Int → List Nat) (L : List Nat) (n : Nat) (i : Int) (h : Nat → Int) (t : Nat → Bool) (r : Gv) : Prop where
 mono : ∀ d,t d = true → r.2.2 d = true
 lt : ∀ d,r.2.2 d = true → t d = true ∨ d < n
 same : r.1 = false → r.2.1 = h
 all : r.1 = false → ∀ d ∈ L,r.2.2 d = true
 clo : r.1 = false → ∀ d,r.2.2 d = true → t d = false → 0 ≤ h d ∧ (∀ e ∈ N (h d),r.2.2 e = true) ∧ ∃ g,Swap N n h g i d fun e => r.2.2 e = true ∧ t e = false
 more : r.1 = true → OneMore N n h r.2.1 i fun e => r.2.2 e = true ∧ t e = false
theorem loopF_R {N : Int → List Nat} {n f : Nat} {g : Int → (Nat → Int) → (Nat → Bool) → Gv}
  (hg : ∀ i h t,0 ≤ i → untr n t < f → (∀ d,-1 ≤ h d) → GiveR N (N i) n i h t (g i h t)) {i : Int} (hi : 0 ≤ i) : ∀ (L : List Nat) h t,untr n t < f + 1 → (∀ d ∈ L,d < n ∧ d ∈ N i) → (∀ d,-1 ≤ h d) →
  GiveR N L n i h t (loopF g i L h t)
 | [],h,t,_,_,_ => ⟨fun d hd => hd,fun d hd => .inl hd,fun _ => rfl,fun _ d hd => absurd hd List.not_mem_nil,(fun _ d h1 h2 => by rw [show (loopF g i [] h t).2.2 d = t d from rfl,h2] at h1;cases h1),(fun e => by cases e)⟩
 | d :: L,h,t,hf,hL,hh => by
   have hdn := (hL d List.mem_cons_self).1;have hdN := (hL d List.mem_cons_self).2;have hL2 : ∀ d ∈ L,d < n ∧ d ∈ N i := fun e he => hL e (List.mem_cons_of_mem _ he);unfold loopF
   by_cases ht : t d = true
   ·rw [if_pos ht];have q := loopF_R hg hi L h t hf hL2 hh
    exact ⟨q.mono,q.lt,q.same,fun e x hx => by
     rcases List.mem_cons.1 hx with rfl | hx
     ·exact q.mono _ ht
     ·exact q.all e x hx,q.clo,q.more⟩
   ·have ht : t d = false := by simpa using ht
    rw [if_neg (by rw [ht];decide)];have hf2 := untr_mark hdn ht
    by_cases h0 : h d < 0
    ·rw [if_pos h0];refine ⟨fun e he => markT_true.2 (.inr he),fun e he => ?_,(fun e => by cases e),(fun e => by cases e),(fun e => by cases e),fun _ => ⟨fun j => ?_,fun e he => ?_⟩⟩
     ·rcases markT_true.1 he with rfl | he
      ·exact .inr hdn
      ·exact .inl he
     ·show cntN (updI h d i) _ n = _
      rw [cntN_upd hdn,if_neg (by omega)];omega
     ·have hed : e = d := by
       by_cases q : e = d
       ·exact q
       ·exact absurd (updI_ne q) he
      subst hed;refine ⟨⟨markT_at,ht⟩,?_,.inl updI_at,?_⟩
      ·show 0 ≤ updI h e i e;rw [updI_at];exact hi
      ·show e ∈ N (updI h e i e);rw [updI_at];exact hdN
    ·rw [if_neg h0];have q := hg (h d) h (markT t d) (by omega) (by omega) hh
     dsimp only
     generalize g (h d) h (markT t d) = r at q
     have hr0 : ∀ e,t e = true → r.2.2 e = true := fun e he => q.mono e (markT_true.2 (.inr he));have hrd : r.2.2 d = true := q.mono d markT_at
     have hrlt : ∀ e,r.2.2 e = true → t e = true ∨ e < n := fun e he => by
      rcases q.lt e he with he | he
      ·rcases markT_true.1 he with rfl | he
       ·exact .inr hdn
       ·exact .inl he
      ·exact .inr he
     by_cases hr : r.1 = true
     ·rw [if_pos hr];have ⟨m1,m2⟩ := q.more hr
      have hsd : r.2.1 d = h d := by
       by_cases e : r.2.1 d = h d
       ·exact e
       ·have := (m2 d e).1.2;rw [markT_at] at this;cases this
      refine ⟨hr0,hrlt,(fun e => by cases e),(fun e => by cases e),(fun e => by cases e),fun _ => ⟨fun j => ?_,fun e he => ?_⟩⟩
      ·show cntN (updI r.2.1 d i) _ n = _
       rw [cntN_upd hdn,m1,hsd];omega
      ·by_cases hed : e = d
       ·subst hed;refine ⟨⟨hrd,ht⟩,?_,.inl updI_at,?_⟩
        ·show 0 ≤ updI r.2.1 e i e;rw [updI_at];exact hi
        ·show e ∈ N (updI r.2.1 e i e);rw [updI_at];exact hdN
       ·have he2 : r.2.1 e ≠ h e := fun x => he ((updI_ne hed).trans x);have ⟨⟨a1,a2⟩,a3,a4,a5⟩ := m2 e he2;have ex : updI r.2.1 d i e = r.2.1 e := updI_ne hed;refine ⟨⟨a1,?_⟩,?_,?_,?_⟩
        ·rw [markT_ne hed] at a2;exact a2
        ·show 0 ≤ updI r.2.1 d i e;rw [ex];exact a3
        ·show updI r.2.1 d i e = i ∨ ∃ e',updI r.2.1 d i e = h e'
         rw [ex]
         rcases a4 with a4 | ⟨e',a4⟩
         ·exact .inr ⟨d,a4⟩
         ·exact .inr ⟨e',a4⟩
        ·show e ∈ N (updI r.2.1 d i e);rw [ex];exact a5
     ·rw [if_neg hr];have hr : r.1 = false := by simpa using hr
      have hs := q.same hr;rw [hs];have q2 := loopF_R hg hi L h r.2.2 (by have := untr_le (n := n) hr0;omega) hL2 hh;refine ⟨fun e he => q2.mono e (hr0 e he),fun e he => (q2.lt e he).elim (hrlt e) .inr,q2.same,fun e x hx => ?_,fun e x hx hx2 => ?_,fun e => ⟨(q2.more e).1,fun x hx => ?_⟩⟩
      ·rcases List.mem_cons.1 hx with rfl | hx
       ·exact q2.mono _ hrd
       ·exact q2.all e x hx
      ·by_cases hx3 : r.2.2 x = true
       ·by_cases hxd : x = d
        ·subst hxd;refine ⟨by omega,fun y hy => q2.mono y (q.all hr y hy),updI h x i,fun j => ?_,fun y hy => ?_⟩
         ·rw [cntN_upd hdn]
         ·have hyd : y = x := by
           by_cases q : y = x
           ·exact q
           ·exact absurd (updI_ne q) hy
          subst hyd;exact ⟨⟨q2.mono _ hrd,ht⟩,by rw [updI_at];exact hi,.inl updI_at,by rw [updI_at];exact hdN⟩
        ·obtain ⟨a1,a2,g',a3,a4⟩ := q.clo hr x hx3 (by rw [markT_ne hxd];exact hx2)
         have hgd : g' d = h d := by
          by_cases e : g' d = h d
          ·exact e
          ·have := (a4 d e).1.2;rw [markT_at] at this;cases this
         refine ⟨a1,fun y hy => q2.mono y (a2 y hy),updI g' d i,fun j => ?_,fun y hy => ?_⟩
         ·rw [cntN_upd hdn,a3,hgd];omega
         ·by_cases hyd : y = d
          ·subst hyd;exact ⟨⟨q2.mono _ hrd,ht⟩,by rw [updI_at];exact hi,.inl updI_at,by rw [updI_at];exact hdN⟩
          ·have ⟨⟨b1,b2⟩,b3,b4,b5⟩ := a4 y fun x => hy ((updI_ne hyd).trans x);rw [markT_ne hyd] at b2;rw [updI_ne hyd];refine ⟨⟨q2.mono _ b1,b2⟩,b3,?_,b5⟩
           rcases b4 with b4 | ⟨e',b4⟩
           ·exact .inr ⟨d,b4⟩
           ·exact .inr ⟨e',b4⟩
       ·obtain ⟨a1,a2,g',a3,a4⟩ := q2.clo e x hx (by simpa using hx3);refine ⟨a1,a2,g',a3,fun y hy => ?_⟩;have ⟨⟨b1,b2⟩,b3⟩ := a4 y hy;refine ⟨⟨b1,?_⟩,b3⟩
        by_cases ty : t y = true
        ·rw [hr0 y ty] at b2;cases b2
        ·simpa using ty
      ·have ⟨⟨b1,b2⟩,b3⟩ := (q2.more e).2 x hx;refine ⟨⟨b1,?_⟩,b3⟩
       by_cases ty : t x = true
       ·rw [hr0 x ty] at b2;cases b2
       ·simpa using ty
theorem giveF_R {N : Int → List Nat} {n : Nat} (hN : ∀ i,∀ d ∈ N i,d < n) : ∀ f i h t,0 ≤ i → untr n t < f → (∀ d,-1 ≤ h d) → GiveR N (N i) n i h t (giveF N f i h t)
 | 0,_,_,_,_,hf,_ => absurd hf (Nat.not_lt_zero _)
 | f + 1,i,h,t,hi,hf,hh => loopF_R (fun i h t hi hf hh => giveF_R hN f i h t hi hf hh) hi (N i) h t hf (fun d hd => ⟨hN i d hd,hd⟩) hh
theorem loopF_clo {N : Int → List Nat} {n : Nat} {X : Nat → Prop} {g : Int → (Nat → Int) → (Nat → Bool) → Gv} (hs : ∀ i h t,(g i h t).1 = false → (g i h t).2.1 = h)
  (hg : ∀ i h t,Clo N n h X → ((∀ d ∈ N i,X d) → (g i h t).1 = false) ∧ ∀ d,X d → (g i h t).2.1 d = h d) (i : Int) : ∀ (L : List Nat) h t,Clo N n h X → ((∀ d ∈ L,X d) → (loopF g i L h t).1 = false) ∧ ∀ d,X d → (loopF g i L h t).2.1 d = h d
 | [],_,_,_ => ⟨fun _ => rfl,fun _ _ => rfl⟩
 | d :: L,h,t,hX => by
   unfold loopF
   by_cases ht : t d = true
   ·rw [if_pos ht];have q := loopF_clo hs hg i L h t hX;exact ⟨fun h => q.1 fun e he => h e (List.mem_cons_of_mem _ he),q.2⟩
   ·rw [if_neg ht]
    by_cases h0 : h d < 0
    ·rw [if_pos h0];have hn : ¬ X d := fun x => by have := (hX d x).2.1;omega
     exact ⟨fun h => absurd (h d List.mem_cons_self) hn,fun e he => updI_ne fun (x : e = d) => hn (x ▸ he)⟩
    ·rw [if_neg h0]
     dsimp only
     have q := hg (h d) h (markT t d) hX;have hs2 := hs (h d) h (markT t d)
     generalize g (h d) h (markT t d) = r at q hs2
     by_cases hr : r.1 = true
     ·rw [if_pos hr];have hn : ¬ X d := fun x => by have := q.1 (hX d x).2.2;rw [hr] at this;cases this
      exact ⟨fun h => absurd (h d List.mem_cons_self) hn,fun e he => (updI_ne fun (x : e = d) => hn (x ▸ he)).trans (q.2 e he)⟩
     ·rw [if_neg hr,hs2 (by simpa using hr)];have q2 := loopF_clo hs hg i L h r.2.2 hX;exact ⟨fun h => q2.1 fun e he => h e (List.mem_cons_of_mem _ he),q2.2⟩
theorem loopF_same {g : Int → (Nat → Int) → (Nat → Bool) → Gv} (hs : ∀ i h t,(g i h t).1 = false → (g i h t).2.1 = h) (i : Int) : ∀ (L : List Nat) h t,(loopF g i L h t).1 = false → (loopF g i L h t).2.1 = h
 | [],_,_,_ => rfl
 | d :: L,h,t,e => by
   unfold loopF at e ⊢
   by_cases ht : t d = true
   ·rw [if_pos ht] at e ⊢;exact loopF_same hs i L h t e
   ·rw [if_neg ht] at e ⊢
    by_cases h0 : h d < 0
    ·rw [if_pos h0] at e;cases e
    ·rw [if_neg h0] at e ⊢
     dsimp only at e ⊢
     have hs2 := hs (h d) h (markT t d)
     generalize g (h d) h (markT t d) = r at e hs2 ⊢
     by_cases hr : r.1 = true
     ·rw [if_pos hr] at e;cases e
     ·rw [if_neg hr] at e ⊢;rw [hs2 (by simpa using hr)] at e ⊢;exact loopF_same hs i L h _ e
theorem giveF_same {N : Int → List Nat} : ∀ f i h t,(giveF N f i h t).1 = false → (giveF N f i h t).2.1 = h
 | 0,_,_,_,_ => rfl
 | f + 1,i,h,t,e => loopF_same (fun i h t e => giveF_same f i h t e) i (N i) h t e
theorem giveF_clo {N : Int → List Nat} {n : Nat} {X : Nat → Prop} : ∀ f i h t,Clo N n h X → ((∀ d ∈ N i,X d) → (giveF N f i h t).1 = false) ∧ ∀ d,X d → (giveF N f i h t).2.1 d = h d
 | 0,_,_,_,_ => ⟨fun _ => rfl,fun _ _ => rfl⟩
 | f + 1,i,h,t,hX => loopF_clo (fun i h t e => giveF_same f i h t e) (fun i h t hX => giveF_clo f i h t hX) i (N i) h t hX
theorem addR_R {N : Int → List Nat} {n m : Nat} {h : Nat → Int} {i : Nat} (hN : ∀ i,∀ d ∈ N i,d < n) (hh : OkP N n m h) : GiveR N (N i) n i h (fun _ => false) (addR N n h i) :=
 giveF_R hN (n + 1) i h _ (by omega) (by have := untr_none n;omega) fun d => (hh.lt d).1
theorem OkP.more {N : Int → List Nat} {n m : Nat} {h g : Nat → Int} {i : Nat} {Y : Nat → Prop} (hh : OkP N n m h) (hi : i < m) (hg : ∀ d,g d ≠ h d → Y d ∧ 0 ≤ g d ∧ (g d = i ∨ ∃ e,g d = h e) ∧ d ∈ N (g d)) (hc : ∀ j : Nat,cntN g (j : Int) n ≤ 1) : OkP N n m g := by
 refine ⟨fun d => ?_,fun d hd h0 => ?_,hc⟩
 ·by_cases e : g d = h d
  ·rw [e];exact hh.lt d
  ·have ⟨_,h1,h2,_⟩ := hg d e
   rcases h2 with h2 | ⟨e,h2⟩
   ·omega
   ·rw [h2];exact hh.lt e
 ·by_cases e : g d = h d
  ·rw [e] at h0 ⊢;exact hh.day d hd h0
  ·exact (hg d e).2.2.2
theorem add_true {N : Int → List Nat} {n m : Nat} {h : Nat → Int} {i : Nat} (hN : ∀ i,∀ d ∈ N i,d < n) (hh : OkP N n m h) (hi : i < m) (h0 : cntN h (i : Int) n = 0) (hb : addB N n h i = true) :
  OkP N n m (addF N n h i) ∧ ∀ j : Nat,cntN (addF N n h i) (j : Int) n = cntN h (j : Int) n + if i = j then 1 else 0 := by
 have q := (addR_R (i := i) hN hh).more hb;have e : addF N n h i = (addR N n h i).2.1 := if_pos hb
 have hc : ∀ j : Nat,cntN (addF N n h i) (j : Int) n = cntN h (j : Int) n + if i = j then 1 else 0 := fun j => by
  rw [e,q.1 j];congr 1
  by_cases x : i = j
  ·rw [if_pos x,if_pos (by omega)]
  ·rw [if_neg x,if_neg (by omega)]
 refine ⟨hh.more hi (Y := fun _ => True) (fun d hd => ?_) fun j => ?_,hc⟩
 ·rw [e] at hd ⊢;exact ⟨trivial,(q.2 d hd).2⟩
 ·rw [hc];have := hh.one j
  split
  ·rename_i x;subst x;omega
  ·omega
theorem add_false {N : Int → List Nat} {n m : Nat} {h : Nat → Int} {i : Nat} (hN : ∀ i,∀ d ∈ N i,d < n) (hh : OkP N n m h) (hi : i < m) (h0 : cntN h (i : Int) n = 0) (hb : addB N n h i = false) :
  addF N n h i = h ∧ ∃ X,Clo N n h X ∧ (∀ d ∈ N i,X d) ∧ ∀ d,X d → ∃ g,OkP N n m g ∧ ∀ j : Nat,cntN g (j : Int) n = cntN h (j : Int) n - (if h d = (j : Int) then 1 else 0) + if i = j then 1 else 0 := by
 have q := addR_R (i := i) hN hh;refine ⟨if_neg (by show ¬ addB N n h i = true;rw [hb];decide),fun d => (addR N n h i).2.2 d = true,fun d hd => ?_,q.all hb,fun d hd => ?_⟩
 ·have := q.clo hb d hd rfl;exact ⟨(q.lt d hd).resolve_left (by decide),this.1,this.2.1⟩
 ·obtain ⟨a1,-,g,a2,a3⟩ := q.clo hb d hd rfl
  have hc : ∀ j : Nat,cntN g (j : Int) n = cntN h (j : Int) n - (if h d = (j : Int) then 1 else 0) + if i = j then 1 else 0 := fun j => by
   rw [a2 j];congr 1
   by_cases x : i = j
   ·rw [if_pos x,if_pos (by omega)]
   ·rw [if_neg x,if_neg (by omega)]
  refine ⟨g,hh.more hi a3 fun j => ?_,hc⟩;rw [hc];have := hh.one j
  split
  ·split
   ·omega
   ·omega
  ·split
   ·rename_i x;subst x;omega
   ·omega
theorem add_clo {N : Int → List Nat} {n : Nat} {h : Nat → Int} {i : Int} {X : Nat → Prop} (hX : Clo N n h X) (d : Nat) (hd : X d) : addF N n h i d = h d := by
 unfold addF
 split
 ·exact (giveF_clo (n + 1) i h (fun _ => false) hX).2 d hd
 ·rfl
theorem Clo.of_same {N : Int → List Nat} {n : Nat} {h g : Nat → Int} {X : Nat → Prop} (hX : Clo N n h X) (e : ∀ d,X d → g d = h d) : Clo N n g X := fun d hd => by
 rw [e d hd];exact hX d hd
structure PlanC (N : Int → List Nat) (n m : Nat) (R : Int → Int → Prop) (p : List Int) (h : Nat → Int) : Prop where
 ok : OkP N n m h
 only : ∀ j : Nat,cntN h (j : Int) n ≠ 0 → (j : Int) ∈ p
 cert : ∀ i ∈ p,cntN h i n = 0 → ∃ X,Clo N n h X ∧ (∀ d ∈ N i,X d) ∧ ∀ d,X d → R (h d) i
theorem noPlan_ok {N : Int → List Nat} {n m : Nat} : OkP N n m noPlan := by
 have hc : ∀ j : Nat,cntN noPlan (j : Int) n = 0 := fun j => cntN_of_zero fun d _ => by show (-1 : Int) ≠ _;omega
 exact ⟨fun d => ⟨Int.le_refl _,by show (-1 : Int) < _;omega⟩,fun d _ h => absurd h (by show ¬ (0 : Int) ≤ -1;omega),fun j => by rw [hc];decide⟩
theorem noPlan_cnt {n j : Nat} : cntN noPlan (j : Int) n = 0 := cntN_of_zero fun d _ => by show (-1 : Int) ≠ _;omega
theorem foldl_C {N : Int → List Nat} {n m : Nat} {R : Int → Int → Prop} (hN : ∀ i,∀ d ∈ N i,d < n) : ∀ (l p : List Int) (h : Nat → Int),(p ++ l).Nodup → (p ++ l).Pairwise R → (∀ x ∈ p ++ l,∃ k : Nat,x = (k : Int) ∧ k < m) → PlanC N n m R p h → PlanC N n m R (p ++ l) (l.foldl (addF N n) h)
 | [],p,h,_,_,_,hp => by rw [List.append_nil];exact hp
 | i :: l,p,h,hd,hR,hm,hp => by
   rw [List.foldl_cons,show p ++ i :: l = (p ++ [i]) ++ l by simp];rw [show p ++ i :: l = (p ++ [i]) ++ l by simp] at hd hR hm;refine foldl_C hN l (p ++ [i]) _ hd hR hm ?_;obtain ⟨k,rfl,hk⟩ := hm i (by simp);have hd1 := (List.nodup_append.1 hd).1;have hR1 := (List.pairwise_append.1 hR).1
   have hnp : ∀ x ∈ p,x ≠ (k : Int) := fun x hx e => by
    have := (List.nodup_append.1 hd1).2.2 x hx _ (List.mem_singleton.2 rfl);exact this e
   have hRk : ∀ x ∈ p,R x (k : Int) := fun x hx => (List.pairwise_append.1 hR1).2.2 x hx _ (List.mem_singleton.2 rfl)
   have h0 : cntN h (k : Int) n = 0 := by
    by_cases e : cntN h (k : Int) n = 0
    ·exact e
    ·exact absurd rfl (hnp _ (hp.only k e))
   have hin : ∀ d,d < n → 0 ≤ h d → h d ∈ p := fun d hd h1 => by
    obtain ⟨j,hj⟩ : ∃ j : Nat,h d = (j : Int) := ⟨(h d).toNat,by omega⟩;rw [hj];exact hp.only j (by have := cntN_ge hd hj;omega)
   have hold : ∀ i ∈ p,cntN h i n = 0 → ∃ X,Clo N n (addF N n h k) X ∧ (∀ d ∈ N i,X d) ∧ ∀ d,X d → R (addF N n h k d) i := fun i hi hz => by
    obtain ⟨X,h1,h2,h3⟩ := hp.cert i hi hz;exact ⟨X,h1.of_same (add_clo h1),h2,fun d hd => by rw [add_clo h1 d hd];exact h3 d hd⟩
   by_cases hb : addB N n h k = true
   ·obtain ⟨h1,h2⟩ := add_true hN hp.ok hk h0 hb;refine ⟨h1,fun j hj => ?_,fun i hi hz => ?_⟩
    ·rw [h2] at hj
     by_cases e : k = j
     ·subst e;simp
     ·rw [if_neg e,Int.add_zero] at hj;exact List.mem_append_left _ (hp.only j hj)
    ·obtain ⟨q,rfl,hq⟩ := hm i (List.mem_append_left _ hi);rw [h2] at hz;have := cntN_pos (h := h) (j := (q : Int)) (n := n)
     by_cases e : k = q
     ·rw [if_pos e] at hz;omega
     ·rw [if_neg e,Int.add_zero] at hz
      rcases List.mem_append.1 hi with hi | hi
      ·exact hold _ hi hz
      ·rw [List.mem_singleton] at hi;omega
   ·have hb : addB N n h k = false := by simpa using hb
    obtain ⟨h1,X,h2,h3,-⟩ := add_false hN hp.ok hk h0 hb;refine ⟨by rw [h1];exact hp.ok,fun j hj => ?_,fun i hi hz => ?_⟩
    ·rw [h1] at hj;exact List.mem_append_left _ (hp.only j hj)
    ·rcases List.mem_append.1 hi with hi | hi
     ·rw [h1] at hz;exact hold i hi hz
     ·rw [List.mem_singleton] at hi;subst hi;rw [h1];exact ⟨X,h2,h3,fun d hd => hRk _ (hin d (h2 d hd).1 (h2 d hd).2.1)⟩
theorem planF_C {N : Int → List Nat} {n m : Nat} {R : Int → Int → Prop} {l : List Int} (hN : ∀ i,∀ d ∈ N i,d < n) (hd : l.Nodup) (hR : l.Pairwise R) (hm : ∀ x ∈ l,∃ k : Nat,x = (k : Int) ∧ k < m) : PlanC N n m R l (planF N n l) := by
 have q := foldl_C hN l [] noPlan hd hR hm ⟨noPlan_ok,fun j hj => absurd noPlan_cnt hj,fun i hi => absurd hi List.not_mem_nil⟩;exact q
def canF (N : Int → List Nat) (n : Nat) : List Int → (Nat → Int) → Bool
 | [],_ => true
 | i :: l,h => addB N n h i && canF N n l (addF N n h i)
theorem canF_true {N : Int → List Nat} {n m : Nat} (hN : ∀ i,∀ d ∈ N i,d < n) : ∀ (l : List Int) (h : Nat → Int),OkP N n m h → l.Nodup → (∀ x ∈ l,∃ k : Nat,x = (k : Int) ∧ k < m ∧ cntN h x n = 0) → canF N n l h = true →
  OkP N n m (l.foldl (addF N n) h) ∧ ∀ j : Nat,cntN (l.foldl (addF N n) h) (j : Int) n = cntN h (j : Int) n + if (j : Int) ∈ l then 1 else 0
 | [],h,hh,_,_,_ => ⟨hh,fun j => by simp⟩
 | i :: l,h,hh,hd,hm,hc => by
   obtain ⟨k,rfl,hk,h0⟩ := hm i List.mem_cons_self;unfold canF at hc;rw [Bool.and_eq_true] at hc;obtain ⟨a1,a2⟩ := add_true hN hh hk h0 hc.1;have hd2 := List.nodup_cons.1 hd;rw [List.foldl_cons]
   obtain ⟨b1,b2⟩ := canF_true hN l _ a1 hd2.2 (fun x hx => by
    obtain ⟨q,rfl,hq,hz⟩ := hm x (List.mem_cons_of_mem _ hx);refine ⟨q,rfl,hq,?_⟩
    rw [a2,hz,if_neg (by rintro rfl;exact hd2.1 hx)];rfl) hc.2
   refine ⟨b1,fun j => ?_⟩;rw [b2,a2]
   by_cases e : k = j
   ·subst e;rw [if_pos rfl,if_neg hd2.1,if_pos List.mem_cons_self];omega
   ·rw [if_neg e]
    by_cases hj : (j : Int) ∈ l
    ·rw [if_pos hj,if_pos (List.mem_cons_of_mem _ hj)];omega
    ·rw [if_neg hj,if_neg (by rw [List.mem_cons];rintro (x | x);omega;exact hj x)];omega
structure SpanT (t : Tr) (n : Nat) : Prop where
 sp : ∀ k (h : k < t.fl.length),0 ≤ t.fl[k].lo ∧ t.fl[k].hi < n
theorem openN_in {cl : List Int} {lo hi : Int} {d : Nat} (h0 : 0 ≤ lo) : d ∈ openN cl lo hi ↔ lo ≤ (d : Int) ∧ (d : Int) ≤ hi ∧ (d : Int) ∉ cl := by
 unfold openN;rw [List.mem_filter,List.mem_range'_1];simp only [Bool.not_eq_true',decide_eq_false_iff_not]
 constructor
 ·rintro ⟨h1,h2⟩;exact ⟨by omega,by omega,h2⟩
 ·rintro ⟨h1,h2,h3⟩;exact ⟨by omega,h3⟩
theorem trN_at {t : Tr} {i : Nat} (hi : i < t.fl.length) : t.N (i : Int) = openN t.cl t.fl[i].lo t.fl[i].hi := by
 unfold Tr.N;rw [Int.toNat_natCast,List.getElem?_eq_getElem hi]
theorem trN_lt {t : Tr} {n : Nat} (hT : SpanT t n) (i : Int) (d : Nat) (hd : d ∈ t.N i) : d < n := by
 unfold Tr.N at hd
 cases e : t.fl[i.toNat]? with
 | none => rw [e] at hd;cases hd
 | some f =>
   rw [e] at hd;obtain ⟨hk,rfl⟩ := List.getElem?_eq_some_iff.1 e;have := hT.sp _ hk;have := (openN_in this.1).1 hd;omega
def inA (fl : List Fl) (a b x : Int) : Bool := match fl[x.toNat]? with | some f => decide (a ≤ f.lo ∧ f.hi ≤ b) | none => false
theorem inA_at {fl : List Fl} {a b : Int} {i : Nat} (hi : i < fl.length) : inA fl a b (i : Int) = decide (a ≤ fl[i].lo ∧ fl[i].hi ≤ b) := by
 unfold inA;rw [Int.toNat_natCast,List.getElem?_eq_getElem hi]
def jamN (fl : List Fl) (a b : Int) (l : List Int) : Int := ((l.filter (inA fl a b)).length : Int)
end Go.Proofs.YtnklbepeoicgpaaGreat
namespace Go.Proofs.YtnklbepeoicgpaaGreat
open Go.RowKit Go.Wk Go.Proofs
attribute [local irreducible] Go.Wk.Wops Go.Wk.Wp Go.Wk.Mtree Go.Wk.Mops
set_option maxHeartbeats 8000000
set_option maxRecDepth 20000
theorem FlawsS.adm {w V : World} {S m : Nat} {v : Value} {fl : List Fl} (h : FlawsS w S v fl) (hA : Adm m w V) : FlawsS V S v fl := ⟨h.v.cells fun _ _ _ _ hc => hA.cell hc⟩
theorem OwnI.adm {w V : World} {base m : Nat} {v : Value} {l : List Int} (h : OwnI w base v l) (hA : Adm m w V) : OwnI V base v l := ownsRow_adm h hA
theorem keepN_mem {l : List Int} {fl : List Fl} {f : Fl} : ∀ {k : Nat},f ∈ keepN l fl k → f ∈ fl
 | 0,h => by cases h
 | k + 1,h => by
   unfold keepN at h
   split at h
   ·exact keepN_mem h
   ·rcases List.mem_append.1 h with h | h
    ·exact keepN_mem h
    ·cases e : fl[k]? with
     | none => rw [e] at h;cases h
     | some g => rw [e] at h;obtain rfl : f = g := by simpa using h
                 exact List.mem_of_getElem? e
theorem PlanT.without {t : Tr} {n : Nat} (h : PlanT t n) (l : List Int) : PlanT (withoutT t l) n :=
 ⟨h.tn,h.n1,h.n2,h.cl,by have := keepN_len (l := l) (fl := t.fl) t.fl.length;have := h.fl;show (keepN l t.fl t.fl.length).length ≤ 12;omega,
  fun k hk => by obtain ⟨j,hj,e⟩ := List.mem_iff_getElem.1 (keepN_mem (List.getElem_mem hk));rw [← e];exact h.sp j hj,
  fun k hk => by obtain ⟨j,hj,e⟩ := List.mem_iff_getElem.1 (keepN_mem (List.getElem_mem hk));rw [← e];exact h.mr j hj⟩
def onF (t : Tr) (n i d : Nat) : Int := mAt t.fl (i : Int) + meritF (closedT (withoutT t [(i : Int)]) (d : Int)) n
theorem onF_le {t : Tr} {n : Nat} (h : PlanT t n) (hl : t.cl.length ≤ 1000) (i d : Nat) : 0 ≤ onF t n i d ∧ onF t n i d ≤ 61000 := by
 have h1 := mAt_le h.mr (i : Int);have h2 := meritF_le ((h.without [(i : Int)]).closed hl (d : Int));unfold onF;omega
theorem dayOn_c (t : Tr) (n i d : Nat) (v : Value) (w : World) (hP : PlanT t n) (hcl : t.cl.length ≤ 900) (hr : Rising t.cl) (hi : i < t.fl.length) (hV : TourV w w.heap.size v t) :
  CallsV Tryz.prog 114 #[v,.int .i64 (i : Int),.int .i64 (d : Int)] w fun v' w' => v' = .int .i64 (onF t n i d) ∧ Ext w w' := by
 obtain ⟨A,c,A2,c2,rfl,hI,hF⟩ := hV.open';have hFS : FlawsS w w.heap.size (.slice A2 t.fl.length c2) t.fl := ⟨hF⟩;have hTS : TourS w w.heap.size (.agg #[.int .i64 t.n,.slice A t.cl.length c,.slice A2 t.fl.length c2]) t := ⟨hV⟩;have hif2 : (i : Int) < (t.fl.length : Int) := by omega
 obtain ⟨b2,o2,eA,hb2,x0,x1,x2,x3⟩ := FlawsV.at hF hi;subst eA;have hm : ∃ _u : Unit,mAt t.fl (i : Int) = t.fl[i].m := ⟨(),mAt_at hi⟩;have ho := onF_le hP (by omega) i d;have hP2 := (hP.without [(i : Int)]).closed (d := (d : Int)) (by show t.cl.length ≤ _;omega);have hpf := hP.fl;clear hV hI hF;refine Wp.fn Tryz.func114 rfl Tryz.ntmps114 (by simp) ?_;have xw := Ext.refl w;refine Wp.keep [0,1,2] ?_;rintro r1 ⟨g,h,l,-⟩;simp [go_sem] at g h l;refine sRg fun K' gd hK => ?_;refine cu1 fun K1 hK1 => ?_;go_simp;apply hK1;clear hK1 K1;refine Wops.absT fun B n3 a R3 => ?_;obtain ⟨q3,a,s3,f,f3,r3⟩ := a;try simp only [q3] at f f3 r3 ⊢
 replace hTS := hTS.ext a;replace xw := xw.trans a;replace x3 := a.cell x3;have s := f 0 _ rfl;have u := f 1 _ rfl;have x := f 2 _ rfl;clear f a;clear r3;go_simp;apply hK;clear hK K' gd;refine Wp.keep [1,2,3] ?_;rintro r2 ⟨j,o,p,-⟩;simp [go_sem,g,h,l] at j o p;clear g h l;refine Wp.seqDraw (.inl rfl) mixed [([0,1,2,3,4],none),([5,6,7,10],some (8,false)),([],some (9,false)),([],some (11,false)),([],some (12,false)),([13,14],none)] (by kernel_rfl) fun K' gd hK hg => ?_;clear hg;simp only [pick,nth,List.map_cons,List.map_nil,Option.map_none,Option.map_some];refine Mops.absD fun D2 hD2 zD2 => ?_;replace hTS := hTS.ext hD2;replace xw := xw.trans hD2;replace x3 := hD2.cell x3;replace s := hD2.cell s;replace u := hD2.cell u;replace x := hD2.cell x;clear hD2;refine mNo ?_
 refine mAc ?_
 intro K1 hK1;go_simp;refine hK1 _ _ (XA) ?_;clear hK1 K1;refine Mops.absT fun z n15 b R15 => ?_;obtain ⟨q15,b,s15,q,f15,r15⟩ := b;try simp only [q15] at q f15 r15 ⊢
 replace hTS := hTS.ext b;replace xw := xw.trans b;clear b f15;have r := q 0 _ rfl;clear q;apply Mops.act
 ·exact fun _ _ => Rops_done
 intro K1 hK1;go_simp;refine Wcall (.inl rfl) (without_c t [(i : Int)] _ (.slice (some ⟨n15,0,none⟩) 1 1) _ (hTS.v.more (Below.size (XE))) ⟨_,1,rfl,fun _ => ⟨n15,0,rfl,cell_lt r,fun k hk => by obtain rfl : k = 0 := (by simpa using hk);exact r⟩,Nat.le_refl _⟩ (by simp) (by omega) (by omega)) ?_;rintro v w3 ⟨hW,hE⟩;obtain ⟨cv,fv,rfl,w1,w2⟩ := hW;go_simp;refine hK1 _ _ (by assumption) ?_;clear hK1 K1;replace xw := xw.trans hE;clear hE;apply Mops.act
 ·exact fun _ _ => Rops_done
 intro K1 hK1;go_simp;refine Wcall (.inl rfl) (closed_c (withoutT t [(i : Int)]) (d : Int) _ _ ⟨cv,fv,rfl,w1.ints,w2.flawsV⟩ hr (by show t.cl.length ≤ _;omega) (by have := hP2.fl;show _ ≤ 1000;have e : (closedT (withoutT t [(i : Int)]) (d : Int)).fl = (withoutT t [(i : Int)]).fl := rfl;rw [e] at this;omega)) ?_;rintro v w4 ⟨hM,hE⟩;go_simp;refine hK1 _ _ (by assumption) ?_;clear hK1 K1;replace xw := xw.trans hE;clear hE;apply Mops.act
 ·exact fun _ _ => Rops_done
 intro K1 hK1;go_simp;refine Wcall (.inl rfl) (mendMerit_c (closedT (withoutT t [(i : Int)]) (d : Int)) n _ _ hP2 hM.tourV) ?_;rintro v w5 ⟨rfl,hE⟩;go_simp;refine hK1 _ _ (by assumption) ?_;clear hK1 K1;replace xw := xw.trans hE;clear hE;apply Mops.none
 ·intro w' hE';go_simp;with_reducible rfl
 refine Mops.done ?_;apply hK;clear hK K' gd;refine Wp.keep [6] ?_;rintro r6 ⟨y,-⟩;simp [go_sem,j,o,p] at y;clear j o p;refine Wp.ret ?_;refine endK_tmp Tryz.results114 (by decide) ?_;rw [y];exact ⟨by rw [show t.fl[i].m + meritF (closedT (withoutT t [(i : Int)]) (d : Int)) n = onF t n i d by unfold onF;rw [hm.choose_spec],IntWalk.i64_in _ (by omega)],xw⟩
def daysP (t : Tr) (n i d : Nat) : Bool := decide (onF t n i d = meritF t n)
def daysL (t : Tr) (n i : Nat) : List Int := ((t.N (i : Int)).filter (daysP t n i)).map fun d : Nat => (d : Int)
theorem openN_len60 {cl : List Int} {lo hi : Int} {n : Nat} (h0 : 0 ≤ lo) (hh : hi < n) (hn : n ≤ 60) : (openN cl lo hi).length ≤ 60 := by
 have := openN_le cl lo hi;omega
theorem daysOf_c (t : Tr) (n i : Nat) (v : Value) (w : World) (hP : PlanT t n) (hcl : t.cl.length ≤ 900) (hr : Rising t.cl) (hi : i < t.fl.length) (hV : TourV w w.heap.size v t) :
  CallsV Tryz.prog 104 #[v,.int .i64 (i : Int)] w fun v' w' => IntsB w' w.heap.size v' (daysL t n i) ∧ Ext w w' := by
 obtain ⟨A,c,A2,c2,rfl,hI,hF⟩ := hV.open';have hIS : IntsS w w.heap.size (.slice A t.cl.length c) t.cl := ⟨hI⟩;have hTS : TourS w w.heap.size (.agg #[.int .i64 t.n,.slice A t.cl.length c,.slice A2 t.fl.length c2]) t := ⟨hV⟩;have hif2 : (i : Int) < (t.fl.length : Int) := by omega
 obtain ⟨b2,o2,eA,hb2,x0,x1,x2,x3⟩ := FlawsV.at hF hi;subst eA;obtain ⟨F,hFe⟩ : ∃ F,∃ _u : Unit,t.fl[i] = F := ⟨_,(),rfl⟩;rw [hFe.choose_spec] at x0 x1 x2 x3;have hsp : ∃ _u : Unit,0 ≤ F.lo ∧ F.hi < n := ⟨(),by rw [← hFe.choose_spec];exact hP.sp i hi⟩;obtain ⟨lo,hlo⟩ : ∃ lo : Nat,∃ _u : Unit,F.lo = (lo : Int) := ⟨F.lo.toNat,(),by have := hsp.choose_spec;omega⟩;rw [hlo.choose_spec] at x1;obtain ⟨hi9,hhi⟩ : ∃ h,∃ _u : Unit,F.hi = h := ⟨_,(),rfl⟩;rw [hhi.choose_spec] at x2;obtain ⟨L,hL⟩ : ∃ L,∃ _u : Unit,openN t.cl (lo : Int) hi9 = L ∧ t.N (i : Int) = L ∧ L.length ≤ 60 := ⟨_,(),rfl,by rw [trN_at hi,hFe.choose_spec,hlo.choose_spec,hhi.choose_spec],openN_len60 (by omega) (by rw [← hhi.choose_spec];exact hsp.choose_spec.2) hP.n2⟩;have hdl : ∃ _u : Unit,daysL t n i = (L.filter (daysP t n i)).map fun d : Nat => (d : Int) := ⟨(),by unfold daysL;rw [hL.choose_spec.2.1]⟩;have hit := open_it;have hh9 : hi9 ≤ 1000000 := by have := hsp.choose_spec;have := hhi.choose_spec;have := hP.n2;omega
 clear hV hI hF;refine Wp.fnM Tryz.func104 rfl Tryz.ntmps104 (by simp) ?_;have xw := Ext.refl w;refine Wp.keep [0,1] ?_;rintro r1 ⟨O,Q,-⟩;simp [go_sem] at O Q;refine sRg fun K' gd hK => ?_;refine cu1 fun K1 hK1 => ?_;go_simp;apply hK1;clear hK1 K1;refine Wops.absA fun aw n2 y => ?_;obtain ⟨q2,y,s2,G,f2,r2⟩ := y;try simp only [q2] at G f2 r2 ⊢
 replace hIS := hIS.ext y;replace hTS := hTS.ext y;replace xw := xw.trans y;replace x1 := y.cell x1;replace x2 := y.cell x2;have e := G 0 _ rfl;have f := G 1 _ rfl;have g := G 2 _ rfl;clear G y;clear r2;refine cu1 fun K1 hK1 => ?_;go_simp;apply hK1;clear hK1 K1;refine Wops.absA fun ax n3 r => ?_;obtain ⟨q3,r,s3,ai,f3,r3⟩ := r;try simp only [q3] at ai f3 r3 ⊢
 replace hIS := hIS.ext r;replace hTS := hTS.ext r;replace xw := xw.trans r;replace x1 := r.cell x1;replace x2 := r.cell x2;replace e := r.cell e;replace f := r.cell f;replace g := r.cell g;have m := ai 0 _ rfl;clear ai r;clear r3;go_simp;apply hK;clear hK K' gd;refine Wp.keep [2,3] ?_;rintro r2 ⟨R,V,-⟩;simp [go_sem,O,Q] at R V;clear O Q;refine sRg fun K' gd hK => ?_;refine cu2 fun K1 hK1 => ?_;go_simp;refine Wcall (.inl rfl) (mendMerit_c t n _ _ hP (hTS.v.more (Below.size (XE)))) ?_;rintro v w2 ⟨rfl,hE⟩;go_simp;apply hK1;clear hK1 K1;have z3 := Below.size hE;replace hIS := hIS.ext hE;replace hTS := hTS.ext hE;replace xw := xw.trans hE;replace x1 := hE.cell x1;replace x2 := hE.cell x2;replace e := hE.cell e;replace f := hE.cell f;replace g := hE.cell g;replace m := hE.cell m;clear hE;refine cu2 fun K1 hK1 => ?_;go_simp;apply hK1;clear hK1 K1;refine Wops.absA fun ay n5 q => ?_;obtain ⟨q5,q,s5,aj,f5,r5⟩ := q;try simp only [q5] at aj f5 r5 ⊢
 replace hIS := hIS.ext q;replace hTS := hTS.ext q;replace xw := xw.trans q;replace x1 := q.cell x1;replace x2 := q.cell x2;replace e := q.cell e;replace f := q.cell f;replace g := q.cell g;replace m := q.cell m;have o := aj 0 _ rfl;clear aj q;clear r5;try simp only [Wops_nil,updO_some,updO_none]
 apply hK;clear hK K' gd;refine Wp.keep [2,3,5] ?_;rintro r4 ⟨S,X,ac,-⟩;simp [go_sem,R,V] at S X ac;clear R V;refine sRg fun K' gd hK => ?_;refine cu1 fun K1 hK1 => ?_;go_simp;apply hK1;clear hK1 K1;refine Wops.absA fun az n6 p => ?_;obtain ⟨q6,p,s6,ak,f6,r6⟩ := p;try simp only [q6] at ak f6 r6 ⊢
 replace hIS := hIS.ext p;replace hTS := hTS.ext p;replace xw := xw.trans p;replace x1 := p.cell x1;replace x2 := p.cell x2;replace e := p.cell e;replace f := p.cell f;replace g := p.cell g;replace m := p.cell m;replace o := p.cell o;have a := ak 0 _ rfl;clear ak p;clear r6;try simp only [Wops_nil,updO_some,updO_none]
 apply hK;clear hK K' gd;refine Wp.keep [2,3,5,6] ?_;rintro r5 ⟨T,aa,ad,af,-⟩;simp [go_sem,S,X,ac] at T aa ad af;clear S X ac;refine Wp.seq ?_;refine Wp.seqDraw (.inl rfl) mixed [([0,1,2,3,4],none),([5,6],some (7,false))] (by kernel_rfl) fun K' gd hK hg => ?_;clear hg;simp only [pick,nth,List.map_cons,List.map_nil,Option.map_none,Option.map_some];refine Mops.absD fun D5 hD5 zD5 => ?_;replace f6 := hD5.fz a f6;replace hIS := hIS.ext hD5;replace hTS := hTS.ext hD5;replace xw := xw.trans hD5;replace x1 := hD5.cell x1;replace x2 := hD5.cell x2;replace e := hD5.cell e;replace f := hD5.cell f;replace g := hD5.cell g;replace m := hD5.cell m;replace o := hD5.cell o;replace a := hD5.cell a;clear hD5;refine mNo ?_
 refine mAc ?_
 intro K1 hK1;go_simp;refine Wcall (.inl rfl) (open_c (.slice A t.cl.length c) (.slice (some ⟨b2,o2,none⟩) t.fl.length c2) t.n (lo : Int) hi9 _) ?_;rintro v w3 ⟨bs,bt,rfl,hE,z0,z1,zt,hz1,hz2⟩;go_simp;refine hK1 _ _ (by assumption) ?_;clear hK1 K1;have z6 := Below.size hE;replace f6 := hE.fz a f6;replace hIS := hIS.ext hE;replace hTS := hTS.ext hE;replace xw := xw.trans hE;replace e := hE.cell e;replace f := hE.cell f;replace g := hE.cell g;replace m := hE.cell m;replace o := hE.cell o;replace a := hE.cell a;clear hE;refine Mops.done ?_;apply hK;clear hK K' gd;refine Wp.keep [2,3,5,6,17] ?_;rintro r7 ⟨I,J,K,M,H,-⟩;simp [go_sem,T,aa,ad,af] at I J K M H;clear T aa ad af;have hOD : OpenD w3 bs bt w.heap.size lo hi9 (.slice A t.cl.length c) t.cl := ⟨z0,z1,zt,hIS,Below.size xw⟩;clear z0 z1 zt;obtain ⟨B0,hB0,hB1⟩ : ∃ B0,B0 ≤ w3.heap.size ∧ w3.heap.size ≤ B0 := ⟨_,Nat.le_refl _,Nat.le_refl _⟩;refine Wp.block ?_;refine Wp.range (hit bs bt w.heap.size lo hi9 A c t.cl (by omega) hh9) (by go_simp) (enters_of Tryz.func173 (by kernel_rfl) rfl) (fun _ => rfl) (fun k W => (Chg [n6] w3 W ∧ (∀ i,W.frozen? ⟨n6,i,none⟩ = false)) ∧ (∃ v Z,W.cell? ⟨n6,0,none⟩ = some v ∧ OwnI W B0 v Z ∧ (∃ _u : Unit,Z = ((L.take k).filter (daysP t n i)).map fun d : Nat => (d : Int)))) (fun _ _ => False) ?_ ?_ ?_ ?_ ?_ ?_ ?_
 ·rintro k W ⟨⟨xr,gf6⟩,⟨v6,Z,u,hO,hZ⟩⟩;exact hOD.chg xr (by simp;omega) (by simp;omega) (by simp;omega)
 ·rintro k W W' hA ⟨⟨xr,gf6⟩,⟨v6,Z,u,hO,hZ⟩⟩;refine ⟨⟨Adm.chg hA xr (Nat.le_refl _),Adm.fz hA u gf6⟩,?_⟩;exact ⟨_,_,hA.cell u,ownsRow_adm hO hA,hZ⟩
 ·skip;exact fun _ _ _ _ h => h
 ·refine ⟨⟨Chg.refl _ _,f6⟩,?_⟩;exact ⟨_,[],a,World.ownsRow_nil _ _ _ _,(),rfl⟩
 ·rintro l k x W hx ⟨⟨xr,gf6⟩,⟨v6,Z,u,hO,hZ⟩⟩ hl;have zxr := Chg.size xr;have hTS_b := hTS;clear f6;replace xw := Chg.to xw xr XL;replace e := Chg.cell xr e XN;replace f := Chg.cell xr f XN;replace g := Chg.cell xr g XN;replace m := Chg.cell xr m XN;replace o := Chg.cell xr o XN;clear a;have f6 := gf6;clear gf6;have a := u;clear u;have xb := Ext.refl W;simp only [encD,List.zip_toArray,List.zip_cons_cons,List.zip_nil_left,putL_cons,putL_nil];refine Wp.keep [2,3,5,6,18] ?_;rintro r8 ⟨U,ab,ae,ag,P,-⟩;simp [go_sem,I,J,K,M,H] at U ab ae ag P;refine Wp.loneRegion (.inr ⟨_,rfl⟩) (by kernel_rfl) fun K' gd hK hg => ?_;clear hg;go_simp;apply hK;clear hK K' gd;refine Ends.keep [2,3,5,6,7] ?_;rintro r9 ⟨z,B,C,D,E,-⟩;simp [go_sem,U,ab,ae,ag,P] at z B C D E;clear U ab ae ag P;refine Ends.mk ?_;refine tNo ?_;refine ⟨KeepsOthers.of_ext xb,fun W2 hA2 hl2 => ?_⟩;replace f6 := Adm.fz hA2 a f6;replace xw := Adm.toE hA2 xw (by omega);replace xr := Adm.chg hA2 xr (by omega);clear xb;replace hTS := hTS_b.chg xr XB;replace hO := hO.adm hA2;replace e := Adm.cell hA2 e;replace f := Adm.cell hA2 f;replace g := Adm.cell hA2 g;replace m := Adm.cell hA2 m;replace o := Adm.cell hA2 o;replace a := Adm.cell hA2 a
  obtain ⟨lr,hl2⟩ := hl2;have xk := Chg.refl [n6] W2;rw [hL.choose_spec.1] at hx;have hkL : k < L.length := (List.getElem?_eq_some_iff.1 hx).1;have hst := filter_take (daysP t n i) L hx;have hfl : Z.length ≤ 60 := by rw [hZ.choose_spec,List.length_map];have q1 := List.length_filter_le (daysP t n i) (L.take k);rw [List.length_take] at q1;have := hL.choose_spec.2.2;omega
  obtain ⟨A9,c9,rfl⟩ := OwnI.slice hO;replace hst : ∃ _u : Unit,_ := ⟨(),hst⟩;have hKp : KeepR W2 W2 := ⟨KeepsOthers.of_ext (Ext.refl _)⟩;have zA2 := hA2.size
  by_cases hd : onF t n i x = meritF t n
  ·skip;refine Wp.block ?_;refine Wp.seqDraw (.inr ⟨_,rfl⟩) mixed [([0,1,2,4],some (3,false)),([5],none)] (by kernel_rfl) fun K' gd hK hg => ?_;clear hg;simp only [pick,nth,List.map_cons,List.map_nil,Option.map_none,Option.map_some];refine Mops.absD fun D9 hD9 zD9 => ?_;replace f6 := hD9.fz a f6;replace hTS := hTS.ext hD9;replace hO := hO.ext hD9;replace hKp := hKp.ext hD9;replace xw := xw.trans hD9;replace xr := Chg.ext xr hD9;replace xk := Chg.ext xk hD9;replace e := hD9.cell e;replace f := hD9.cell f;replace g := hD9.cell g;replace m := hD9.cell m;replace o := hD9.cell o;replace a := hD9.cell a;clear hD9;refine mAc ?_
   intro K1 hK1;go_simp;refine Wcall (.inr ⟨_,rfl⟩) (dayOn_c t n i x _ _ hP hcl hr hi (hTS.v.more (Below.size (XE)))) ?_;rintro v w5 ⟨rfl,hE⟩;go_simp;refine hK1 _ _ (by assumption) ?_;clear hK1 K1;have z10 := Below.size hE;replace f6 := hE.fz a f6;replace hO := hO.ext hE;replace hKp := hKp.ext hE;replace xw := xw.trans hE;replace xr := Chg.ext xr hE;replace xk := Chg.ext xk hE;replace a := hE.cell a;clear hE;apply Mops.none
   ·intro w' hE';go_simp;with_reducible rfl
   refine Mops.done ?_;apply hK;clear hK K' gd;refine Wp.keep [6,7,24] ?_;rintro r11 ⟨an,ao,al,-⟩;simp [go_sem,z,B,C,D,E] at an ao al;clear z B C D E;refine cTt ?_;refine Wp.loneRegion (.inr ⟨_,rfl⟩) (by kernel_rfl) fun K' gd hK hg => ?_;clear hg;refine cu3 fun K1 hK1 => ?_;go_simp;apply hK1;clear hK1 K1;refine Wops.absA fun av n27 s => ?_;obtain ⟨q27,s,s27,ah,f27,r27⟩ := s;try simp only [q27] at ah f27 r27 ⊢
   replace f6 := s.fz a f6;replace hO := hO.ext s;replace hKp := hKp.ext s;replace xw := xw.trans s;replace xr := Chg.ext xr s;replace xk := Chg.ext xk s;replace a := s.cell a;clear s f27;have ap := ah 0 _ rfl;clear ah;refine cu1 fun K1 hK1 => ?_;obtain ⟨v',w7,hrun,hO2,hgr,-⟩ := app_run ints_T hO ⟨n27,0,none⟩ 1 1 [.int .i64 (x : Int)] 22 rfl (news_one ap) (one_one rfl) (by omega) (by omega);refine Wops.law rfl (exec_append2 rfl hrun (by go_simp) (by go_simp)) ?_;simp only [updO_some,Wops_nil];apply hK1;clear hK1 K1;replace f6 := Chg.fz (grown_chg hgr) a f6 (lt_off (World.ownsRow.lt hO) (by omega));replace xw := Chg.to xw (grown_chg hgr) (lt_ge (World.ownsRow.lt hO) (by omega));replace xr := Chg.more xr (grown_chg hgr) (by first | exact lt_gm (World.ownsRow.lt hO) (by omega) | simp);replace a := Chg.cell (grown_chg hgr) a (lt_off (World.ownsRow.lt hO) (by omega));have hO3 : OwnI w7 B0 v' (Z ++ [(x : Int)]) := by unfold OwnI;rw [encI_add,List.length_append];exact hO2
   replace hKp := hKp.grown hO hgr;clear hO hO2;obtain ⟨Y,hY⟩ : ∃ Y,∃ _u : Unit,Z ++ [(x : Int)] = Y := ⟨_,(),rfl⟩;rw [hY.choose_spec] at hO3;obtain ⟨A8,c8,rfl⟩ := OwnI.slice hO3;refine cu1 fun K1 hK1 => ?_;go_simp;apply hK1;clear hK1 K1;refine Wops.absS (b := n6) (i := 0) [_] (somes [cellVal a] (by simp) (by intro j v hj;match j,hj with | 0,hj => (simp at hj;subst hj;exact a))) fun P11 hP11 => ?_;replace f6 := hP11.frz f6;replace hO3 := hO3.put hP11 (by omega);replace hKp := hKp.put hP11 (by omega);replace xw := Put.to xw hP11 (by omega);replace xr := Put.more xr hP11 (.inr (by simp));clear a;have a := hP11.new 0 _ rfl;try simp only [Nat.reduceAdd,Nat.zero_add,Nat.add_zero] at a
   clear hP11;try simp only [Wops_nil,updO_some,updO_none]
   apply hK;clear hK K' gd;refine Ends.keep [] fun r13 hkeep => ?_;clear hkeep;clear an ao al;refine Ends.mk ?_;refine bNo ?_;refine ⟨hKp.k,⟨xr,f6⟩,?_⟩;exact ⟨_,_,a,hO3,(),by rw [← hY.choose_spec,hst.choose_spec,if_pos (by unfold daysP;exact decide_eq_true hd),List.map_append,hZ.choose_spec];rfl⟩
  ·skip;refine Wp.block ?_;refine Wp.seqDraw (.inr ⟨_,rfl⟩) mixed [([0,1,2,4],some (3,false)),([5],none)] (by kernel_rfl) fun K' gd hK hg => ?_;clear hg;simp only [pick,nth,List.map_cons,List.map_nil,Option.map_none,Option.map_some];refine Mops.absD fun D12 hD12 zD12 => ?_;replace f6 := hD12.fz a f6;replace hTS := hTS.ext hD12;replace hO := hO.ext hD12;replace hKp := hKp.ext hD12;replace xw := xw.trans hD12;replace xr := Chg.ext xr hD12;replace xk := Chg.ext xk hD12;replace e := hD12.cell e;replace f := hD12.cell f;replace g := hD12.cell g;replace m := hD12.cell m;replace o := hD12.cell o;replace a := hD12.cell a;clear hD12;refine mAc ?_
   intro K1 hK1;go_simp;refine Wcall (.inr ⟨_,rfl⟩) (dayOn_c t n i x _ _ hP hcl hr hi (hTS.v.more (Below.size (XE)))) ?_;rintro v w5 ⟨rfl,hE⟩;go_simp;refine hK1 _ _ (by assumption) ?_;clear hK1 K1;replace f6 := hE.fz a f6;replace hO := hO.ext hE;replace hKp := hKp.ext hE;replace xw := xw.trans hE;replace xr := Chg.ext xr hE;replace xk := Chg.ext xk hE;replace a := hE.cell a;clear hE;apply Mops.none
   ·intro w' hE';go_simp;with_reducible rfl
   refine Mops.done ?_;apply hK;clear hK K' gd;refine Wp.keep [6,7,24] ?_;rintro r15 ⟨ar,au,aq,-⟩;simp [go_sem,z,B,C,D,E] at ar au aq;clear z B C D E;refine cFf ?_;refine Wp.skip ?_;refine bNo ?_;refine ⟨hKp.k,⟨xr,f6⟩,?_⟩;exact ⟨_,_,a,hO,(),by rw [hst.choose_spec,if_neg (by unfold daysP;simpa using hd),List.append_nil];exact hZ.choose_spec⟩
 ·rintro rm W hrm ⟨⟨xr,gf6⟩,⟨v6,Z,u,hO,hZ⟩⟩ hmk;clear f6;replace xw := Chg.to xw xr XL;clear a;clear gf6;have a := u;clear u;refine bNo ?_;refine tNo ?_;replace hZ : ∃ _u : Unit,daysL t n i = Z := ⟨(),by rw [hdl.choose_spec,hZ.choose_spec,hL.choose_spec.1,List.take_length]⟩;obtain ⟨A8,c8,rfl⟩ := OwnI.slice hO;refine sRg fun K' gd hK => ?_;go_simp;apply hK;clear hK K' gd;refine Wp.keep [4] ?_;rintro r16 ⟨am,-⟩;simp [go_sem,I,J,K,M,H] at am;clear I J K M H;refine Wp.ret ?_;refine endM_tmp Tryz.results104 (by decide) ((Marks.one (by first | omega | (simp at hrm;omega)) hmk)) fun wz hS => ?_;rw [am];exact ⟨by rw [hZ.choose_spec];exact (OwnI.intsB (OwnI.shut hO hS)).less (b2 := w.heap.size) (by omega),Shut.ext xw hS⟩
 ·rintro rm c W hrm hf hmk;exact hf.elim
def posF (fl : List Fl) (id : Int) : Int := match fl.findIdx? fun f => decide (f.id = id) with | some i => (i : Int) | none => -1
theorem FindP.eq {fl : List Fl} {id r : Int} (h : FindP fl id r) : r = posF fl id := by
 unfold posF
 rcases h with ⟨i,rfl,hi,he,hn⟩ | ⟨rfl,hn⟩
 ·have : fl.findIdx? (fun f => decide (f.id = id)) = some i := by
   rw [List.findIdx?_eq_some_iff_getElem];exact ⟨hi,decide_eq_true he,fun j hj => by simpa using hn j hj⟩
  rw [this]
 ·have : fl.findIdx? (fun f => decide (f.id = id)) = none := by
   rw [List.findIdx?_eq_none_iff];intro x hx;obtain ⟨j,hj,rfl⟩ := List.mem_iff_getElem.1 hx;exact decide_eq_false (hn j hj)
  rw [this]
theorem posF_cases (fl : List Fl) (id : Int) : (∃ i : Nat,∃ h : i < fl.length,posF fl id = (i : Int) ∧ fl[i].id = id) ∨ (posF fl id = -1 ∧ ∀ f ∈ fl,f.id ≠ id) := by
 unfold posF
 cases e : fl.findIdx? fun f => decide (f.id = id) with
 | none =>
   rw [List.findIdx?_eq_none_iff] at e;exact .inr ⟨rfl,fun f hf => by have := e f hf;simpa using this⟩
 | some i =>
   rw [List.findIdx?_eq_some_iff_getElem] at e;obtain ⟨hi,h1,-⟩ := e;exact .inl ⟨i,hi,rfl,by simpa using h1⟩
def daysE (t : Tr) (id : Int) : Int := if checkT t ≠ 0 then checkT t else if posF t.fl id < 0 then 5 else 0
def daysR (t : Tr) (id : Int) : List Int := if daysE t id = 0 then daysL t t.n.toNat (posF t.fl id).toNat else []
theorem Days_c (t : Tr) (id : Int) (v : Value) (w : World) (hV : TourV w w.heap.size v t) (hf : FitT t) (hl : checkT t = 0 → t.fl.length ≤ 12) :
  CallsV Tryz.prog 32 #[v,.int .i64 id] w fun v' w' => (∃ lv,v' = .tuple #[lv,.int .i64 (daysE t id)] ∧ IntsB w' w.heap.size lv (daysR t id)) ∧ Ext w w' := by
 obtain ⟨A,c,A2,c2,rfl,hI,hF⟩ := hV.open';have hTS : TourS w w.heap.size (.agg #[.int .i64 t.n,.slice A t.cl.length c,.slice A2 t.fl.length c2]) t := ⟨hV⟩;clear hV hI hF;unfold daysR daysE;obtain ⟨n,hn⟩ : ∃ n,∃ _u : Unit,t.n.toNat = n := ⟨_,(),rfl⟩;rw [hn.choose_spec];have hff := hf.fl;refine Wp.fn Tryz.func32 rfl Tryz.ntmps32 (by simp) ?_;have xw := Ext.refl w;refine Wp.keep [0,1] ?_;rintro r1 ⟨m,u,-⟩;simp [go_sem] at m u;refine sRg fun K' gd hK => ?_;refine cu1 fun K1 hK1 => ?_;go_simp;apply hK1;clear hK1 K1;refine Wops.absA fun Q n2 g => ?_;obtain ⟨q2,g,s2,h,f2,r2⟩ := g;try simp only [q2] at h f2 r2 ⊢
 replace hTS := hTS.ext g;replace xw := xw.trans g;have j := h 0 _ rfl;have k := h 1 _ rfl;have l := h 2 _ rfl;clear h g;clear r2;go_simp;apply hK;clear hK K' gd;refine Wp.keep [1,2] ?_;rintro r2 ⟨y,D,-⟩;simp [go_sem,m,u] at y D;clear m u;refine Wp.seq ?_;refine sRg fun K' gd hK => ?_;refine cu2 fun K1 hK1 => ?_;go_simp;refine Wcall (.inl rfl) (check_c t _ _ (hTS.v.more (Below.size (XE))) hf) ?_;rintro v w2 ⟨rfl,hE⟩;go_simp;apply hK1;clear hK1 K1;have z3 := Below.size hE;replace hTS := hTS.ext hE;replace xw := xw.trans hE;replace j := hE.cell j;replace k := hE.cell k;replace l := hE.cell l;clear hE;go_simp;apply hK;clear hK K' gd;refine Wp.keep [1,2,6] ?_;rintro r4 ⟨a,b,e,-⟩;simp [go_sem,y,D] at a b e;clear y D
 by_cases h0 : checkT t = 0
 ·skip;have hg := checkT_zero.1 h0;have hP : PlanT t n := by rw [← hn.choose_spec];exact hg.plan (hl h0)
  refine sRg fun K' gd hK => ?_;go_simp;apply hK;clear hK K' gd;refine Wp.keep [1,2,6,11] ?_;rintro r5 ⟨z,E,H,p,-⟩;simp [go_sem,a,b,e] at z E H p;clear a b e;refine cFf ?_;refine skN ?_;refine sRg fun K' gd hK => ?_;refine cu3 fun K1 hK1 => ?_;go_simp;refine Wcall (.inl rfl) (find_c t id _ _ (hTS.v.more (Below.size (XE))) (by omega)) ?_;rintro v w3 ⟨⟨r,rfl,hr⟩,hE⟩;replace hr : ∃ _u : Unit,_ := ⟨(),hr.eq⟩;go_simp;apply hK1;clear hK1 K1;have z6 := Below.size hE;replace hTS := hTS.ext hE;replace xw := xw.trans hE;replace j := hE.cell j;replace k := hE.cell k;replace l := hE.cell l;clear hE;go_simp;apply hK;clear hK K' gd;refine Wp.keep [2,7] ?_;rintro r7 ⟨d,f,-⟩;simp [go_sem,z,E,H,p] at d f;clear z E H p
  by_cases h1 : r < 0
  ·skip;refine Wp.seq ?_;refine sRg fun K' gd hK => ?_;go_simp;apply hK;clear hK K' gd;refine Wp.keep [2,7,17] ?_;rintro r8 ⟨F,J,s,-⟩;simp [go_sem,d,f] at F J s;clear d f;refine cTt ?_;refine sRg fun K' gd hK => ?_;go_simp;apply hK;clear hK K' gd;refine Wp.keep [4,5] ?_;rintro r9 ⟨M,P,-⟩;simp [go_sem,F,J,s] at M P;clear F J s;refine Wp.ret ?_;refine tRe ?_;refine endK_tmp2 Tryz.results32 (by decide) (by decide) ?_;rw [M,P];exact ⟨⟨_,by rw [if_neg (not_not_intro h0),if_pos (by have := hr.choose_spec;omega)],by rw [if_neg (by rw [if_neg (not_not_intro h0),if_pos (by have := hr.choose_spec;omega)];decide)];exact IntsB.nil _ _⟩,xw⟩
  ·skip;obtain ⟨i,hi⟩ : ∃ i : Nat,∃ _u : Unit,r = (i : Int) ∧ i < t.fl.length ∧ (posF t.fl id).toNat = i := (by rcases posF_cases t.fl id with ⟨i,h1,h2,h3⟩ | ⟨h1,-⟩;exact ⟨i,(),by have := hr.choose_spec;omega,h1,by omega⟩;exfalso;have := hr.choose_spec;omega);obtain ⟨-,hi1,hi2,hi3⟩ := hi;subst hi1;replace hi3 : ∃ _u : Unit,_ := ⟨(),hi3⟩;refine Wp.seq ?_;refine sRg fun K' gd hK => ?_;go_simp;apply hK;clear hK K' gd;refine Wp.keep [2,7,17] ?_;rintro r10 ⟨B,I,q,-⟩;simp [go_sem,d,f] at B I q;clear d f;refine cFf ?_;refine skN ?_;refine sRg fun K' gd hK => ?_;refine cu3 fun K1 hK1 => ?_;go_simp;refine Wcall (.inl rfl) (daysOf_c t n i _ _ hP (by have := hg.len;omega) hg.cl.rising hi2 (hTS.v.more (Below.size (XE)))) ?_;rintro v w4 ⟨hM,hE⟩;go_simp;apply hK1;clear hK1 K1;replace xw := xw.trans hE;clear hE;go_simp;apply hK;clear hK K' gd;refine Wp.keep [4,5] ?_;rintro r12 ⟨K,N,-⟩;simp [go_sem,B,I,q] at K N;clear B I q;refine Wp.ret ?_;refine endK_tmp2 Tryz.results32 (by decide) (by decide) ?_;rw [K,N];exact ⟨⟨_,by rw [if_neg (not_not_intro h0),if_neg (by have := hr.choose_spec;omega)],by rw [if_pos (by rw [if_neg (not_not_intro h0),if_neg (by have := hr.choose_spec;omega)]),hi3.choose_spec];exact hM.less (by omega)⟩,xw⟩
 ·skip;refine sRg fun K' gd hK => ?_;go_simp;apply hK;clear hK K' gd;refine Wp.keep [1,2,6,11] ?_;rintro r13 ⟨x,C,G,o,-⟩;simp [go_sem,a,b,e] at x C G o;clear a b e;refine cTt ?_;refine sRg fun K' gd hK => ?_;go_simp;apply hK;clear hK K' gd;refine Wp.keep [4,5] ?_;rintro r14 ⟨L,O,-⟩;simp [go_sem,x,C,G,o] at L O;clear x C G o;refine Wp.ret ?_;refine tRe ?_;refine endK_tmp2 Tryz.results32 (by decide) (by decide) ?_;rw [L,O];exact ⟨⟨_,by rw [if_pos h0],by rw [if_neg (by rw [if_pos h0];exact h0)];exact IntsB.nil _ _⟩,xw⟩
structure Own2 (W : World) (B0 : Nat) (vA : Value) (ZA : List Int) (vB : Value) (ZB : List Int) : Prop where
 a : OwnI W B0 vA ZA
 b : OwnI W B0 vB ZB
 ne : ∀ k,vA.ownBlock = some k → vB.ownBlock = some k → False
section
variable {W V : World} {B0 : Nat} {vA vB : Value} {ZA ZB : List Int}
theorem Own2.ext (h : Own2 W B0 vA ZA vB ZB) (hE : Ext W V) : Own2 V B0 vA ZA vB ZB := ⟨h.a.ext hE,h.b.ext hE,h.ne⟩
theorem Own2.swap (h : Own2 W B0 vA ZA vB ZB) : Own2 W B0 vB ZB vA ZA := ⟨h.b,h.a,fun k h1 h2 => h.ne k h2 h1⟩
theorem Own2.nil : Own2 W B0 (.slice none 0 0) [] (.slice none 0 0) [] := ⟨World.ownsRow_nil _ _ _ _,World.ownsRow_nil _ _ _ _,fun k h _ => by cases h⟩
theorem Own2.appA (h : Own2 W B0 vA ZA vB ZB) {n c : Nat} {x : Int} (ty : TypeId) (hc : W.cell? ⟨n,0,none⟩ = some (.int .i64 x)) (hl : ZA.length ≤ 1000) (hb : B0 ≤ W.heap.size) :
  ∃ v' w',(Builtin.append_ #[22,22] ty #[vA,.slice (some ⟨n,0,none⟩) 1 c]).run Tryz.prog W = .ok v' w' ∧ Own2 w' B0 v' (ZA ++ [x]) vB ZB ∧ W.grownBy w' vA.ownBlock := by
 obtain ⟨v',w',hrun,hO,hg,hbk⟩ := app_run2 ints_T h.a ⟨n,0,none⟩ 1 c [.int .i64 x] ty rfl (news_one hc) (one_one rfl) (by omega) hb;refine ⟨v',w',hrun,⟨by unfold OwnI;rw [encI_add,List.length_append];exact hO,ownsRow_chg h.b (grown_chg hg) fun b hb hm => ?_,fun k h1 h2 => ?_⟩,hg⟩
 ·cases e : vA.ownBlock with
  | none => rw [e] at hm;cases hm
  | some q => rw [e] at hm;obtain rfl : b = q := by simpa using hm
              exact h.ne b e hb
 ·rcases hbk with e | e
  ·exact h.ne k (by rw [← e];exact h1) h2
  ·rw [e] at h1;injection h1 with h1;have := (World.ownsRow.lt h.b k h2).2;omega
theorem Own2.appB (h : Own2 W B0 vA ZA vB ZB) {n c : Nat} {x : Int} (ty : TypeId) (hc : W.cell? ⟨n,0,none⟩ = some (.int .i64 x)) (hl : ZB.length ≤ 1000) (hb : B0 ≤ W.heap.size) :
  ∃ v' w',(Builtin.append_ #[22,22] ty #[vB,.slice (some ⟨n,0,none⟩) 1 c]).run Tryz.prog W = .ok v' w' ∧ Own2 w' B0 vA ZA v' (ZB ++ [x]) ∧ W.grownBy w' vB.ownBlock := by
 obtain ⟨v',w',h1,h2,h3⟩ := h.swap.appA (c := c) ty hc hl hb;exact ⟨v',w',h1,h2.swap,h3⟩
end
theorem sortO_c (v : Value) (Z : List Int) (base g : Nat) (w : World) (hO : OwnI w base v Z) (hg : ∀ k,v.ownBlock = some k → k = g) (hl : Z.length ≤ 12) :
  CallsV Tryz.prog 105 #[v] w fun _ w' => IntsB w' base v (sortI Z) ∧ Chg [g] w w' := by
 by_cases hne : Z = []
 ·subst hne;obtain ⟨A,c,rfl⟩ := OwnI.slice hO;exact (sort0_c A c w).mono fun v' w' ⟨_,hE⟩ => ⟨⟨A,c,rfl,fun h => absurd rfl h,Nat.zero_le _⟩,(Chg.refl [g] w).ext hE⟩
 ·obtain ⟨b,c,rfl,hb,hc,hR⟩ := hO.rowJ hne;obtain rfl : b = g := hg b rfl;exact (sort_c b Z.length c Z w hR rfl hl).mono fun v' w' ⟨h1,h2⟩ => ⟨by have q := h1.intsB (base := base) (c := c) hb (by rw [sortI_len];exact hc);rwa [sortI_len] at q,h2⟩
def idAt (fl : List Fl) (k : Nat) : Int := match fl[k]? with | some f => f.id | none => 0
theorem idAt_at {fl : List Fl} {k : Nat} (h : k < fl.length) : idAt fl k = fl[k].id := by unfold idAt;rw [List.getElem?_eq_getElem h]
def sureN (t : Tr) (n : Nat) : Nat → List Int
 | 0 => []
 | k + 1 => if meritF (withoutT t [(k : Int)]) n < meritF t n then sureN t n k ++ [idAt t.fl k] else sureN t n k
def someN (t : Tr) (n : Nat) : Nat → List Int
 | 0 => []
 | k + 1 => if 0 < (daysL t n k).length then someN t n k ++ [idAt t.fl k] else someN t n k
theorem sureN_len {t : Tr} {n : Nat} : ∀ k,(sureN t n k).length ≤ k
 | 0 => Nat.le_refl _
 | k + 1 => by have := sureN_len (t := t) (n := n) k;unfold sureN;split;(rw [List.length_append];simp;omega);omega
theorem someN_len {t : Tr} {n : Nat} : ∀ k,(someN t n k).length ≤ k
 | 0 => Nat.le_refl _
 | k + 1 => by have := someN_len (t := t) (n := n) k;unfold someN;split;(rw [List.length_append];simp;omega);omega
theorem IntsB.chgO {w w' : World} {base : Nat} {v : Value} {xs : List Int} {L : List Nat} (h : IntsB w base v xs) (hC : Chg L w w') (hL : ∀ b,v.ownBlock = some b → b ∉ L) : IntsB w' base v xs := by
 obtain ⟨A,c,rfl,hx,hcap⟩ := h
 exact ⟨A,c,rfl,fun hne => by
  obtain ⟨b,o,rfl,h1,h2,h3⟩ := hx hne
  exact ⟨b,o,rfl,h1,Nat.lt_of_lt_of_le h2 hC.size,fun k hk => Chg.cell hC (h3 k hk) (hL b rfl)⟩,hcap⟩
theorem Own2.blk {W : World} {B0 : Nat} {vA vB : Value} {ZA ZB : List Int} (h : Own2 W B0 vA ZA vB ZB) (hb : B0 ≤ W.heap.size) : ∃ g,B0 ≤ g ∧ (∀ k,vA.ownBlock = some k → k = g) ∧ ∀ k,vB.ownBlock = some k → k ≠ g := by
 cases e : vA.ownBlock with
 | none => exact ⟨W.heap.size + 7,by omega,fun k h => (by cases h),fun k hk => by have := (World.ownsRow.lt h.b k hk).2;omega⟩
 | some g => exact ⟨g,(World.ownsRow.lt h.a g e).1,fun k hk => by injection hk with hk;exact hk.symm,fun k hk he => h.ne k (by rw [he];exact e) hk⟩
def sureL (t : Tr) : List Int := if checkT t = 0 then sortI (sureN t t.n.toNat t.fl.length) else []
def someL (t : Tr) : List Int := if checkT t = 0 then sortI (someN t t.n.toNat t.fl.length) else []
theorem Surely_c (t : Tr) (v : Value) (w : World) (hV : TourV w w.heap.size v t) (hf : FitT t) (hl : checkT t = 0 → t.fl.length ≤ 12) :
  CallsV Tryz.prog 30 #[v] w fun v' w' => (∃ lv mv,v' = .tuple #[lv,mv,.int .i64 (checkT t)] ∧ IntsB w' w.heap.size lv (sureL t) ∧ IntsB w' w.heap.size mv (someL t)) ∧ Ext w w' := by
 obtain ⟨A,c,A2,c2,rfl,hI,hF⟩ := hV.open';have hTS : TourS w w.heap.size (.agg #[.int .i64 t.n,.slice A t.cl.length c,.slice A2 t.fl.length c2]) t := ⟨hV⟩;have hFS : FlawsS w w.heap.size (.slice A2 t.fl.length c2) t.fl := ⟨hF⟩;clear hV hI hF;obtain ⟨n,hn⟩ : ∃ n,∃ _u : Unit,t.n.toNat = n := ⟨_,(),rfl⟩;have hsu : ∃ _u : Unit,checkT t = 0 → sureL t = sortI (sureN t n t.fl.length) ∧ someL t = sortI (someN t n t.fl.length) := ⟨(),fun h => ⟨by unfold sureL;rw [if_pos h,hn.choose_spec],by unfold someL;rw [if_pos h,hn.choose_spec]⟩⟩;refine Wp.fn Tryz.func30 rfl Tryz.ntmps30 (by simp) ?_;have xw := Ext.refl w;refine Wp.keep [0] ?_;rintro r1 ⟨ax,-⟩;simp [go_sem] at ax;refine sRg fun K' gd hK => ?_;refine cu1 fun K1 hK1 => ?_;go_simp;apply hK1;clear hK1 K1;refine Wops.absA fun b9 n1 u => ?_;obtain ⟨q1,u,s1,aq,f1,r1⟩ := u;try simp only [q1] at aq f1 r1 ⊢
 replace hTS := hTS.ext u;replace hFS := hFS.ext u;replace xw := xw.trans u;have d := aq 0 _ rfl;have e := aq 1 _ rfl;have f := aq 2 _ rfl;clear aq u;clear r1;go_simp;apply hK;clear hK K' gd;refine Wp.keep [1] ?_;rintro r2 ⟨aK,-⟩;simp [go_sem,ax] at aK;clear ax;refine Wp.seq ?_;refine sRg fun K' gd hK => ?_;refine cu2 fun K1 hK1 => ?_;go_simp;refine Wcall (.inl rfl) (check_c t _ _ (hTS.v.more (Below.size (XE))) hf) ?_;rintro v w2 ⟨rfl,hE⟩;go_simp;apply hK1;clear hK1 K1;have z3 := Below.size hE;replace hTS := hTS.ext hE;replace hFS := hFS.ext hE;replace xw := xw.trans hE;replace d := hE.cell d;replace e := hE.cell e;replace f := hE.cell f;clear hE;go_simp;apply hK;clear hK K' gd;refine Wp.keep [1,5] ?_;rintro r4 ⟨O,ac,-⟩;simp [go_sem,aK] at O ac;clear aK
 by_cases h0 : checkT t = 0
 ·skip;have hg := checkT_zero.1 h0;have hP : PlanT t n := by rw [← hn.choose_spec];exact hg.plan (hl h0)
  have hm12 := hP.fl;have hcl9 := hg.len;refine sRg fun K' gd hK => ?_;go_simp;apply hK;clear hK K' gd;refine Wp.keep [1,5,14] ?_;rintro r5 ⟨aO,a1,aB,-⟩;simp [go_sem,O,ac] at aO a1 aB;clear O ac;refine cFf ?_;refine skN ?_;refine sRg fun K' gd hK => ?_;refine cu2 fun K1 hK1 => ?_;go_simp;refine Wcall (.inl rfl) (mendMerit_c t n _ _ hP (hTS.v.more (Below.size (XE)))) ?_;rintro v w3 ⟨rfl,hE⟩;go_simp;apply hK1;clear hK1 K1;have z6 := Below.size hE;replace hTS := hTS.ext hE;replace hFS := hFS.ext hE;replace xw := xw.trans hE;replace d := hE.cell d;replace e := hE.cell e;replace f := hE.cell f;clear hE;go_simp;apply hK;clear hK K' gd;refine Wp.keep [1,6] ?_;rintro r7 ⟨aP,a7,-⟩;simp [go_sem,aO,a1,aB] at aP a7;clear aO a1 aB;have hTS_xa := hTS;have hFS_xa := hFS;have xw_xa := xw;have c1_0_xa := d;have c1_1_xa := e;have c1_2_xa := f;have xa := Ext.refl w3;refine sRg fun K' gd hK => ?_;go_simp;apply hK;clear hK K' gd;refine Wp.keep [1,6,7,8] ?_;rintro r8 ⟨aQ,a8,bf,bm,-⟩
  simp [go_sem,aP,a7] at aQ a8 bf bm;clear aP a7;refine Wp.seq ?_;obtain ⟨B0,hB0,hB1,hB2⟩ : ∃ B,w.heap.size ≤ B ∧ B ≤ w3.heap.size ∧ w3.heap.size ≤ B := ⟨w3.heap.size,by omega,Nat.le_refl _,Nat.le_refl _⟩;refine sRg fun K' gd hK => ?_;go_simp;apply hK;clear hK K' gd;refine Wp.keep [1,6,7,8,19,20,21] ?_;rintro r9 ⟨q,s,b0,b6,p,r,bL,-⟩;simp [go_sem,aQ,a8,bf,bm] at q s b0 b6 p r bL;clear aQ a8 bf bm;refine Wp.block ?_;refine Wp.loop (fun k ρ ds wk => AllEq [1,6,19,20] ρ r9 ∧ ds = [] ∧ (Ext w3 wk) ∧ (∃ vA vB ZA ZB,ρ 21 = .int .i64 (k : Int) ∧ ρ 7 = vA ∧ ρ 8 = vB ∧ Own2 wk B0 vA ZA vB ZB ∧ (∃ _u : Unit,ZA = sureN t n k ∧ ZB = someN t n k))) (t.fl.length) ?_ ?_
  ·refine ⟨AllEq.refl _ _,rfl,xa,?_⟩;exact ⟨_,_,[],[],by rw [bL];rfl,b0,b6,Own2.nil,(),rfl,rfl⟩
  ·rintro k r10 _ wk hk ⟨hA,rfl,xo,⟨vA,vB,ZA,ZB,e21,e7,e8,hO0,hZ⟩⟩;obtain ⟨aH,a2,aC,aR,-⟩ := hA;rw [q] at aH;rw [s] at a2;rw [p] at aC;rw [r] at aR;have zxo := Below.size xo;have hTS := hTS_xa;have hFS := hFS_xa;have xw := xw_xa;have d := c1_0_xa;have e := c1_1_xa;have f := c1_2_xa;replace hTS := hTS.ext xo;replace hFS := hFS.ext xo;replace xw := Ext.trans xw xo;replace d := Ext.cell xo d;replace e := Ext.cell xo e;replace f := Ext.cell xo f;have hzl : ZA.length ≤ 12 ∧ ZB.length ≤ 12 := by have := sureN_len (t := t) (n := n) k;have := someN_len (t := t) (n := n) k;rw [hZ.choose_spec.1,hZ.choose_spec.2];omega
   obtain ⟨A5,c5,rfl⟩ := OwnI.slice hO0.a;obtain ⟨A6,c6,rfl⟩ := OwnI.slice hO0.b;refine sRg fun K' gd hK => ?_;go_simp;apply hK;clear hK K' gd;refine Wp.keep [1,6,7,8,19,20,21,22] ?_;rintro r11 ⟨K,ad,ah,al,F,P,T,X,-⟩;simp [go_sem,aH,a2,e7,e8,aC,aR,e21] at K ad ah al F P T X;clear aH a2 e7 e8 aC aR e21;refine Wp.seq ?_
   by_cases hk2 : k < t.fl.length
   ·refine cTt ?_;have hkl : (k : Int) < (t.fl.length : Int) := by omega
    obtain ⟨b2,o2,eA,hb2,x0,x1,x2,x3⟩ := FlawsV.at hFS.v hk2;subst eA;obtain ⟨G,hG⟩ : ∃ G,∃ _u : Unit,t.fl[k] = G ∧ idAt t.fl k = G.id := ⟨_,(),rfl,idAt_at hk2⟩;rw [hG.choose_spec.1] at x0 x1 x2 x3;have xv := Ext.refl wk;refine skN ?_;refine sBk ?_;refine sRg fun K' gd hK => ?_;refine cu4 fun K1 hK1 => ?_;go_simp;apply hK1;clear hK1 K1;refine Wops.absA fun b8 n10 o => ?_;obtain ⟨q10,o,s10,z,f10,r10⟩ := o;try simp only [q10] at z f10 r10 ⊢
    replace hTS := hTS.ext o;replace xw := xw.trans o;replace xo := xo.trans o;replace xv := xv.trans o;replace d := o.cell d;replace e := o.cell e;replace f := o.cell f;have g := z 0 _ rfl;have ar := z 1 _ rfl;have au := z 2 _ rfl;have av := z 3 _ rfl;clear z o;clear r10;refine cu2 fun K1 hK1 => ?_;go_simp;apply hK1;clear hK1 K1;refine Wops.absS (b := n10) (i := 0) [_,_,_,_] (somes [cellVal g,cellVal ar,cellVal au,cellVal av] (by simp) (by intro j v hj;match j,hj with | 0,hj => (simp at hj;subst hj;exact g) | 1,hj => (simp at hj;subst hj;exact ar) | 2,hj => (simp at hj;subst hj;exact au) | 3,hj => (simp at hj;subst hj;exact av))) fun P6 hP6 => ?_;have zP6 := hP6.same;replace hTS := hTS.put hP6 (by omega);replace xw := Put.to xw hP6 (by omega);replace xo := Put.to xo hP6 (by omega);replace xv := Put.to xv hP6 (by omega);replace d := hP6.cell d (by omega);replace e := hP6.cell e (by omega);replace f := hP6.cell f (by omega);clear g;clear ar;clear au;clear av;have g := hP6.new 0 _ rfl;try simp only [Nat.reduceAdd,Nat.zero_add,Nat.add_zero] at g
    try simp only [Nat.reduceAdd,Nat.zero_add,Nat.add_zero] at ar
    try simp only [Nat.reduceAdd,Nat.zero_add,Nat.add_zero] at au
    try simp only [Nat.reduceAdd,Nat.zero_add,Nat.add_zero] at av
    clear hP6;try simp only [Wops_nil,updO_some,updO_none]
    apply hK;clear hK K' gd;refine Wp.keep [1,6,7,8,9,10,19,20,21] ?_;rintro r12 ⟨aI,a3,a9,bg,bn,ay,aD,aS,aW,-⟩;simp [go_sem,K,ad,ah,al,F,P,T,X] at aI a3 a9 bg bn ay aD aS aW;clear K ad ah al F P T X;refine Wp.seq ?_;refine sRg fun K' gd hK => ?_;refine cu3 fun K1 hK1 => ?_;go_simp;apply hK1;clear hK1 K1;refine Wops.absA fun ca n28 l => ?_;obtain ⟨q28,l,s28,bp,f28,r28⟩ := l;try simp only [q28] at bp f28 r28 ⊢
    replace hTS := hTS.ext l;replace xw := xw.trans l;replace xo := xo.trans l;replace xv := xv.trans l;replace d := l.cell d;replace e := l.cell e;replace f := l.cell f;replace g := l.cell g;clear l f28;have bt := bp 0 _ rfl;clear bp;refine cu1 fun K1 hK1 => ?_;go_simp;refine Wcall (.inl rfl) (without_c t [(k : Int)] _ (.slice (some ⟨n28,0,none⟩) 1 1) _ (hTS.v.more (Below.size (XE))) ⟨_,1,rfl,fun _ => ⟨n28,0,rfl,cell_lt bt,fun k hk => by obtain rfl : k = 0 := (by simpa using hk);exact bt⟩,Nat.le_refl _⟩ (by simp) (by omega) (by omega)) ?_;rintro v w5 ⟨hW,hE⟩;obtain ⟨cv,fv,rfl,w1,w2⟩ := hW;go_simp;apply hK1;clear hK1 K1;have z13 := Below.size hE;replace hTS := hTS.ext hE;replace xw := xw.trans hE;replace xo := xo.trans hE;replace xv := xv.trans hE;replace d := hE.cell d;replace e := hE.cell e;replace f := hE.cell f;replace g := hE.cell g;clear hE;refine cu1 fun K1 hK1 => ?_;go_simp;refine Wcall (.inl rfl) (mendMerit_c (withoutT t [(k : Int)]) n _ _ (hP.without _) ⟨cv,fv,rfl,w1.ints,w2.flawsV⟩) ?_;rintro v w6 ⟨rfl,hE⟩;go_simp;apply hK1;clear hK1 K1
    have z14 := Below.size hE;replace hTS := hTS.ext hE;replace xw := xw.trans hE;replace xo := xo.trans hE;replace xv := xv.trans hE;replace d := hE.cell d;replace e := hE.cell e;replace f := hE.cell f;replace g := hE.cell g;clear hE;go_simp;apply hK;clear hK K' gd;refine Wp.keep [1,6,7,8,9,10,19,20,21,32] ?_;rintro r15 ⟨L,ae,ai,am,ap,C,H,Q,U,Z,-⟩;simp [go_sem,aI,a3,a9,bg,bn,ay,aD,aS,aW] at L ae ai am ap C H Q U Z;clear aI a3 a9 bg bn ay aD aS aW;have hO := hO0.ext xv
    by_cases h1 : meritF (withoutT t [(k : Int)]) n < meritF t n
    ·skip;refine cTt ?_;refine lRg fun K' gd hK => ?_;refine cu4 fun K1 hK1 => ?_;go_simp;apply hK1;clear hK1 K1;refine Wops.absA fun cb n36 m => ?_;obtain ⟨q36,m,s36,bq,f36,r36⟩ := m;try simp only [q36] at bq f36 r36 ⊢
     replace hTS := hTS.ext m;replace hO := hO.ext m;replace xw := xw.trans m;replace xo := xo.trans m;replace d := m.cell d;replace e := m.cell e;replace f := m.cell f;replace g := m.cell g;clear m f36;have b7 := bq 0 _ rfl;clear bq;refine cu1 fun K1 hK1 => ?_;obtain ⟨v',w7,hrun,hO1,hgr⟩ := hO.appA (c := 1) 22 b7 (by omega) (by omega);refine Wops.law rfl (exec_append2 rfl hrun (by go_simp) (by go_simp)) ?_;simp only [updO_some,Wops_nil];apply hK1;clear hK1 K1;have z16 := World.grownBy.size hgr;replace hTS := hTS.chg (grown_chg hgr) (by first | (intro b hb;exact lt_off (World.ownsRow.lt hO0.a) (by omega)) | exact lt_off (World.ownsRow.lt hO0.a) (by omega) | exact lt_ge (World.ownsRow.lt hO0.a) (by omega) | exact fun b hb => .inr (lt_ge (World.ownsRow.lt hO0.a) (by omega) b hb));replace xw := Chg.to xw (grown_chg hgr) (lt_ge (World.ownsRow.lt hO0.a) (by omega));replace xo := Chg.to xo (grown_chg hgr) (lt_ge (World.ownsRow.lt hO0.a) (by omega));replace d := Chg.cell (grown_chg hgr) d (lt_off (World.ownsRow.lt hO0.a) (by omega));replace e := Chg.cell (grown_chg hgr) e (lt_off (World.ownsRow.lt hO0.a) (by omega));replace f := Chg.cell (grown_chg hgr) f (lt_off (World.ownsRow.lt hO0.a) (by omega));replace g := Chg.cell (grown_chg hgr) g (lt_off (World.ownsRow.lt hO0.a) (by omega))
     replace hO := hO1;clear hO1;obtain ⟨Y,hY⟩ : ∃ Y,∃ _u : Unit,ZA ++ [G.id] = Y := ⟨_,(),rfl⟩;rw [hY.choose_spec] at hO;obtain ⟨A7,c7,rfl⟩ := OwnI.slice hO.a;go_simp;apply hK;clear hK K' gd;refine Ends.keep [1,6,7,8,9,10,19,20,21] ?_;rintro r17 ⟨aJ,a4,ba,bh,bo,az,aE,aT,aX,-⟩;simp [go_sem,L,ae,ai,am,ap,C,H,Q,U,Z] at aJ a4 ba bh bo az aE aT aX;clear L ae ai am ap C H Q U Z;refine Ends.mk ?_;refine tNo ?_;refine sRg fun K' gd hK => ?_;refine cu3 fun K1 hK1 => ?_;go_simp;refine Wcall (.inl rfl) (daysOf_c t n k _ _ hP (by omega) hg.cl.rising hk2 (hTS.v.more (Below.size (XE)))) ?_;rintro v w8 ⟨hM,hE⟩;obtain ⟨A8,c8,rfl⟩ := hM.slice;go_simp;apply hK1;clear hK1 K1;have z18 := Below.size hE;replace hO := hO.ext hE;replace xw := xw.trans hE;replace xo := xo.trans hE;replace g := hE.cell g;clear hE;go_simp;apply hK;clear hK K' gd;refine Wp.keep [1,6,7,8,10,19,20,21,42] ?_;rintro r19 ⟨M,af,aj,an,D,I,R,V,aa,-⟩;simp [go_sem,aJ,a4,ba,bh,bo,az,aE,aT,aX] at M af aj an D I R V aa
     clear aJ a4 ba bh bo az aE aT aX
     by_cases h2 : 0 < (daysL t n k).length
     ·skip;refine cTt ?_;refine lRg fun K' gd hK => ?_;refine cu4 fun K1 hK1 => ?_;go_simp;apply hK1;clear hK1 K1;refine Wops.absA fun cd n46 y => ?_;obtain ⟨q46,y,s46,bs,f46,r46⟩ := y;try simp only [q46] at bs f46 r46 ⊢
      replace hO := hO.ext y;replace xw := xw.trans y;replace xo := xo.trans y;clear y f46;have aw := bs 0 _ rfl;clear bs;refine cu1 fun K1 hK1 => ?_;obtain ⟨v',w9,hrun,hO2,hgr⟩ := hO.appB (c := 1) 22 aw (by omega) (by omega);refine Wops.law rfl (exec_append2 rfl hrun (by go_simp) (by go_simp)) ?_;simp only [updO_some,Wops_nil];apply hK1;clear hK1 K1;replace xw := Chg.to xw (grown_chg hgr) (lt_ge (World.ownsRow.lt hO0.b) (by omega));replace xo := Chg.to xo (grown_chg hgr) (lt_ge (World.ownsRow.lt hO0.b) (by omega));go_simp;apply hK;clear hK K' gd;refine Ends.keep [1,6,7,8,19,20,21] ?_;rintro r21 ⟨aL,a5,bb,bi,aF,aU,aY,-⟩;simp [go_sem,M,af,aj,an,D,I,R,V,aa] at aL a5 bb bi aF aU aY;clear M af aj an D I R V aa;refine Ends.mk ?_;refine bNo ?_;refine tNo ?_;refine lRg fun K' gd hK => ?_;go_simp;apply hK;clear hK K' gd;refine Ends.keep [1,6,7,8,19,20,21] ?_;rintro r22 ⟨bz,bS,bW,b1,bu,bD,bH,-⟩;simp [go_sem,aL,a5,bb,bi,aF,aU,aY] at bz bS bW b1 bu bD bH
      clear aL a5 bb bi aF aU aY;refine Ends.mk ?_;refine thenK_normal ⟨by omega,⟨by rw [bz,q],by rw [bS,s],by rw [bu,p],by rw [bD,r],trivial⟩,rfl,xo,?_⟩;exact ⟨_,_,_,_,by rw [bH,IntWalk.i64_in _ (by omega)];rfl,bW,b1,hO2,(),by rw [← hY.choose_spec,sureN,if_pos h1,hG.choose_spec.2,hZ.choose_spec.1],by rw [someN,if_pos h2,hG.choose_spec.2,hZ.choose_spec.2]⟩
     ·skip;refine cFf ?_;refine Wp.skip ?_;refine bNo ?_;refine tNo ?_;refine lRg fun K' gd hK => ?_;go_simp;apply hK;clear hK K' gd;refine Ends.keep [1,6,7,8,19,20,21] ?_;rintro r23 ⟨bA,bT,bX,b3,bv,bE,bI,-⟩;simp [go_sem,M,af,aj,an,D,I,R,V,aa] at bA bT bX b3 bv bE bI;clear M af aj an D I R V aa;refine Ends.mk ?_;refine thenK_normal ⟨by omega,⟨by rw [bA,q],by rw [bT,s],by rw [bv,p],by rw [bE,r],trivial⟩,rfl,xo,?_⟩;exact ⟨_,_,_,_,by rw [bI,IntWalk.i64_in _ (by omega)];rfl,bX,b3,hO,(),by rw [← hY.choose_spec,sureN,if_pos h1,hG.choose_spec.2,hZ.choose_spec.1],by rw [someN,if_neg h2];exact hZ.choose_spec.2⟩
    ·skip;refine cFf ?_;refine skN ?_;refine sRg fun K' gd hK => ?_;refine cu3 fun K1 hK1 => ?_;go_simp;refine Wcall (.inl rfl) (daysOf_c t n k _ _ hP (by omega) hg.cl.rising hk2 (hTS.v.more (Below.size (XE)))) ?_;rintro v w8 ⟨hM,hE⟩;obtain ⟨A8,c8,rfl⟩ := hM.slice;go_simp;apply hK1;clear hK1 K1;have z24 := Below.size hE;replace hO := hO.ext hE;replace xw := xw.trans hE;replace xo := xo.trans hE;replace g := hE.cell g;clear hE;go_simp;apply hK;clear hK K' gd;refine Wp.keep [1,6,7,8,10,19,20,21,42] ?_;rintro r25 ⟨N,ag,ak,ao,E,J,S,W,ab,-⟩;simp [go_sem,L,ae,ai,am,ap,C,H,Q,U,Z] at N ag ak ao E J S W ab;clear L ae ai am ap C H Q U Z
     by_cases h2 : 0 < (daysL t n k).length
     ·skip;refine cTt ?_;refine lRg fun K' gd hK => ?_;refine cu4 fun K1 hK1 => ?_;go_simp;apply hK1;clear hK1 K1;refine Wops.absA fun cc n46 x => ?_;obtain ⟨q46,x,s46,br,f46,r46⟩ := x;try simp only [q46] at br f46 r46 ⊢
      replace hO := hO.ext x;replace xw := xw.trans x;replace xo := xo.trans x;clear x f46;have aw := br 0 _ rfl;clear br;refine cu1 fun K1 hK1 => ?_;obtain ⟨v',w9,hrun,hO2,hgr⟩ := hO.appB (c := 1) 22 aw (by omega) (by omega);refine Wops.law rfl (exec_append2 rfl hrun (by go_simp) (by go_simp)) ?_;simp only [updO_some,Wops_nil];apply hK1;clear hK1 K1;replace xw := Chg.to xw (grown_chg hgr) (lt_ge (World.ownsRow.lt hO0.b) (by omega));replace xo := Chg.to xo (grown_chg hgr) (lt_ge (World.ownsRow.lt hO0.b) (by omega));go_simp;apply hK;clear hK K' gd;refine Ends.keep [1,6,7,8,19,20,21] ?_;rintro r27 ⟨aM,a6,bc,bj,aG,aV,aZ,-⟩;simp [go_sem,N,ag,ak,ao,E,J,S,W,ab] at aM a6 bc bj aG aV aZ;clear N ag ak ao E J S W ab;refine Ends.mk ?_;refine bNo ?_;refine tNo ?_;refine lRg fun K' gd hK => ?_;go_simp;apply hK;clear hK K' gd;refine Ends.keep [1,6,7,8,19,20,21] ?_;rintro r28 ⟨bB,bU,bY,b4,bw,bF,bJ,-⟩;simp [go_sem,aM,a6,bc,bj,aG,aV,aZ] at bB bU bY b4 bw bF bJ
      clear aM a6 bc bj aG aV aZ;refine Ends.mk ?_;refine thenK_normal ⟨by omega,⟨by rw [bB,q],by rw [bU,s],by rw [bw,p],by rw [bF,r],trivial⟩,rfl,xo,?_⟩;exact ⟨_,_,_,_,by rw [bJ,IntWalk.i64_in _ (by omega)];rfl,bY,b4,hO2,(),by rw [sureN,if_neg h1];exact hZ.choose_spec.1,by rw [someN,if_pos h2,hG.choose_spec.2,hZ.choose_spec.2]⟩
     ·skip;refine cFf ?_;refine Wp.skip ?_;refine bNo ?_;refine tNo ?_;refine lRg fun K' gd hK => ?_;go_simp;apply hK;clear hK K' gd;refine Ends.keep [1,6,7,8,19,20,21] ?_;rintro r29 ⟨bC,bV,bZ,b5,bx,bG,bK,-⟩;simp [go_sem,N,ag,ak,ao,E,J,S,W,ab] at bC bV bZ b5 bx bG bK;clear N ag ak ao E J S W ab;refine Ends.mk ?_;refine thenK_normal ⟨by omega,⟨by rw [bC,q],by rw [bV,s],by rw [bx,p],by rw [bG,r],trivial⟩,rfl,xo,?_⟩;exact ⟨_,_,_,_,by rw [bK,IntWalk.i64_in _ (by omega)];rfl,bZ,b5,hO,(),by rw [sureN,if_neg h1];exact hZ.choose_spec.1,by rw [someN,if_neg h2];exact hZ.choose_spec.2⟩
   ·refine cFf ?_;obtain rfl : k = t.fl.length := by omega
    obtain ⟨gA,hgA,hg1,hg2⟩ := hO0.blk (by omega);obtain ⟨gB,hgB,hg3,hg4⟩ := hO0.swap.blk (by omega);refine Wp.exit ?_;refine tEx ?_;refine tEx ?_;refine blockK_here ?_;refine tNo ?_;refine sRg fun K' gd hK => ?_;refine cu2 fun K1 hK1 => ?_;go_simp;refine Wcall (.inl rfl) (sortO_c _ ZA B0 gA _ hO0.a hg1 hzl.1) ?_;rintro v w8 ⟨hI8,hC⟩;have hOb : OwnI w8 B0 (.slice A6 ZB.length c6) ZB := ownsRow_chg hO0.b hC (by intro b hb hm;exact hg2 b hb (by simpa using hm));go_simp;apply hK1;clear hK1 K1;replace xw := Chg.to xw hC XL;replace xo := Chg.to xo hC XL;try simp only [Wops_nil,updO_some,updO_none]
    apply hK;clear hK K' gd;refine Wp.keep [7,8] ?_;rintro r31 ⟨bd,bk,-⟩;simp [go_sem,K,ad,ah,al,F,P,T,X] at bd bk;clear K ad ah al F P T X;refine sRg fun K' gd hK => ?_;refine cu2 fun K1 hK1 => ?_;go_simp;refine Wcall (.inl rfl) (sortO_c _ ZB B0 gB _ hOb hg3 hzl.2) ?_;rintro v w9 ⟨hI9,hC⟩;have hI7 : IntsB w9 B0 (.slice A5 ZA.length c5) (sortI ZA) := IntsB.chgO hI8 hC (by intro b hb hm;exact hg4 b hb (by simpa using hm));go_simp;apply hK1;clear hK1 K1;replace xw := Chg.to xw hC XL;replace xo := Chg.to xo hC XL;try simp only [Wops_nil,updO_some,updO_none]
    apply hK;clear hK K' gd;refine Wp.keep [7,8] ?_;rintro r33 ⟨be,bl,-⟩;simp [go_sem,bd,bk] at be bl;clear bd bk;refine sRg fun K' gd hK => ?_;go_simp;apply hK;clear hK K' gd;refine Wp.keep [2,3,4] ?_;rintro r34 ⟨bM,bO,bQ,-⟩;simp [go_sem,be,bl] at bM bO bQ;clear be bl;refine Wp.ret ?_;refine endK_tmp3 Tryz.results30 (by decide) (by decide) (by decide) ?_;rw [bM,bO,bQ];exact ⟨⟨_,_,by rw [h0],by rw [(hsu.choose_spec h0).1,← hZ.choose_spec.1];exact hI7.less (by omega),by rw [(hsu.choose_spec h0).2,← hZ.choose_spec.2];exact hI9.less (by omega)⟩,xw⟩
 ·skip;refine sRg fun K' gd hK => ?_;go_simp;apply hK;clear hK K' gd;refine Wp.keep [1,5,14] ?_;rintro r35 ⟨aN,a0,aA,-⟩;simp [go_sem,O,ac] at aN a0 aA;clear O ac;refine cTt ?_;refine sRg fun K' gd hK => ?_;go_simp;apply hK;clear hK K' gd;refine Wp.keep [2,3,4] ?_;rintro r36 ⟨bN,bP,bR,-⟩;simp [go_sem,aN,a0,aA] at bN bP bR;clear aN a0 aA;refine Wp.ret ?_;refine tRe ?_;refine endK_tmp3 Tryz.results30 (by decide) (by decide) (by decide) ?_;rw [bN,bP,bR];exact ⟨⟨_,_,rfl,by unfold sureL;rw [if_neg h0];exact IntsB.nil _ _,by unfold someL;rw [if_neg h0];exact IntsB.nil _ _⟩,xw⟩
def firstDay (n : Nat) (r : Tr) : Option Nat := (r.N 0).find? fun d => decide (onF r n 0 d = meritF r n)
def restT (n : Nat) (r : Tr) : Tr := match firstDay n r with | some d => closedT (withoutT r [0]) (d : Int) | none => withoutT r [0]
def dayI (n : Nat) (r : Tr) : Int := match firstDay n r with | some d => (d : Int) | none => -1
def earlF (n : Nat) : Nat → Tr → List Int
 | 0,_ => []
 | k + 1,r => dayI n r :: earlF n k (restT n r)
theorem keepN_first (fl : List Fl) : ∀ k,k ≤ fl.length → keepN [0] fl k = (fl.take k).drop 1
 | 0,_ => rfl
 | k + 1,h => by
   by_cases e : k = 0
   ·subst e;unfold keepN;rw [if_pos (by simp)];cases fl with
    | nil => rfl
    | cons a l => rfl
   ·have ih := keepN_first fl k (by omega);rw [keepN_out (by simp;omega) (by omega),ih,List.take_succ_eq_append_getElem (by omega),List.drop_append_of_le_length (by rw [List.length_take];omega)]
theorem keepN_tail (fl : List Fl) : keepN [0] fl fl.length = fl.drop 1 := by
 rw [keepN_first fl _ (Nat.le_refl _),List.take_length]
def RowsP {α : Type} (k : Nat) (enc : α → List Value) (w : World) (P : Nat → Prop) (v : Value) (xs : List α) : Prop :=
 ∃ (A : Option Addr) (c : Nat),v = .slice A xs.length c ∧ (xs ≠ [] → ∃ b o,A = some ⟨b,o,none⟩ ∧ P b ∧ b < w.heap.size ∧ ∀ i (h : i < xs.length) r u,(enc xs[i])[r]? = some u → w.cell? ⟨b,o + i * k + r,none⟩ = some u) ∧ xs.length ≤ c
def IntsP (w : World) (P : Nat → Prop) (v : Value) (xs : List Int) : Prop :=
 ∃ (A : Option Addr) (c : Nat),v = .slice A xs.length c ∧ (xs ≠ [] → ∃ b o,A = some ⟨b,o,none⟩ ∧ P b ∧ b < w.heap.size ∧ ∀ k (h : k < xs.length),w.cell? ⟨b,o + k,none⟩ = some (.int .i64 xs[k])) ∧ xs.length ≤ c
section
variable {α : Type} {k : Nat} {enc : α → List Value} {w w' : World} {P Q : Nat → Prop} {v : Value} {xs : List α} {L : List Nat}
theorem RowsP.chg (h : RowsP k enc w P v xs) (hC : Chg L w w') (hL : ∀ b,P b → b < w.heap.size → b ∉ L) : RowsP k enc w' P v xs := by
 obtain ⟨A,c,hv,hx,hcap⟩ := h
 exact ⟨A,c,hv,fun hne => by
  obtain ⟨b,o,hA,h1,h2,h3⟩ := hx hne
  exact ⟨b,o,hA,h1,Nat.lt_of_lt_of_le h2 hC.size,fun i hi r u hu => Chg.cell hC (h3 i hi r u hu) (hL b h1 h2)⟩,hcap⟩
theorem RowsP.mono (h : RowsP k enc w P v xs) (hP : ∀ b,P b → b < w.heap.size → Q b) : RowsP k enc w Q v xs := by
 obtain ⟨A,c,hv,hx,hcap⟩ := h
 exact ⟨A,c,hv,fun hne => by
  obtain ⟨b,o,hA,h1,h2,h3⟩ := hx hne
  exact ⟨b,o,hA,hP b h1 h2,h2,h3⟩,hcap⟩
theorem RowsP.rowsV (h : RowsP k enc w P v xs) : RowsV k enc w w.heap.size v xs := by
 obtain ⟨A,c,hv,hx,hcap⟩ := h
 exact ⟨A,c,hv,fun hne => by
  obtain ⟨b,o,hA,h1,h2,h3⟩ := hx hne
  exact ⟨b,o,hA,h2,h3⟩,hcap⟩
theorem RowsV.rowsP (h : RowsV k enc w w.heap.size v xs) : RowsP k enc w (fun _ => True) v xs := by
 obtain ⟨A,c,hv,hx,hcap⟩ := h
 exact ⟨A,c,hv,fun hne => by
  obtain ⟨b,o,hA,h2,h3⟩ := hx hne
  exact ⟨b,o,hA,trivial,h2,h3⟩,hcap⟩
theorem RowsB.rowsP {base : Nat} (h : RowsB k enc w base v xs) : RowsP k enc w (fun b => base ≤ b) v xs := by
 obtain ⟨A,c,hv,hx,hcap⟩ := h
 exact ⟨A,c,hv,fun hne => by
  obtain ⟨b,o,hA,h1,h2,h3⟩ := hx hne
  exact ⟨b,o,hA,h1,h2,h3⟩,hcap⟩
end
section
variable {w w' : World} {P Q : Nat → Prop} {v : Value} {xs : List Int} {L : List Nat}
theorem IntsP.chg (h : IntsP w P v xs) (hC : Chg L w w') (hL : ∀ b,P b → b < w.heap.size → b ∉ L) : IntsP w' P v xs := by
 obtain ⟨A,c,hv,hx,hcap⟩ := h
 exact ⟨A,c,hv,fun hne => by
  obtain ⟨b,o,hA,h1,h2,h3⟩ := hx hne
  exact ⟨b,o,hA,h1,Nat.lt_of_lt_of_le h2 hC.size,fun i hi => Chg.cell hC (h3 i hi) (hL b h1 h2)⟩,hcap⟩
theorem IntsP.mono (h : IntsP w P v xs) (hP : ∀ b,P b → b < w.heap.size → Q b) : IntsP w Q v xs := by
 obtain ⟨A,c,hv,hx,hcap⟩ := h
 exact ⟨A,c,hv,fun hne => by
  obtain ⟨b,o,hA,h1,h2,h3⟩ := hx hne
  exact ⟨b,o,hA,hP b h1 h2,h2,h3⟩,hcap⟩
theorem IntsP.intsV (h : IntsP w P v xs) : IntsV w w.heap.size v xs := by
 obtain ⟨A,c,hv,hx,hcap⟩ := h
 exact ⟨A,c,hv,fun hne => by
  obtain ⟨b,o,hA,h1,h2,h3⟩ := hx hne
  exact ⟨b,o,hA,h2,h3⟩,hcap⟩
theorem IntsV.intsP (h : IntsV w w.heap.size v xs) : IntsP w (fun _ => True) v xs := by
 obtain ⟨A,c,hv,hx,hcap⟩ := h
 exact ⟨A,c,hv,fun hne => by
  obtain ⟨b,o,hA,h2,h3⟩ := hx hne
  exact ⟨b,o,hA,trivial,h2,h3⟩,hcap⟩
theorem IntsB.intsP {base : Nat} (h : IntsB w base v xs) : IntsP w (fun b => base ≤ b) v xs := h
end
structure TourX (W : World) (P : Nat → Prop) (v : Value) (t : Tr) : Prop where
 ex : ∃ cv fv,v = .agg #[.int .i64 t.n,cv,fv] ∧ IntsP W P cv t.cl ∧ RowsP 4 encF W P fv t.fl
section
variable {W V : World} {P Q : Nat → Prop} {v : Value} {t : Tr} {L : List Nat}
theorem TourX.chg (h : TourX W P v t) (hC : Chg L W V) (hL : ∀ b,P b → b < W.heap.size → b ∉ L) : TourX V P v t := by obtain ⟨x,z,h1,h2,h3⟩ := h.ex;exact ⟨x,z,h1,h2.chg hC hL,h3.chg hC hL⟩
theorem TourX.ext (h : TourX W P v t) (hE : Ext W V) : TourX V P v t := h.chg ((Chg.refl [] W).ext hE) (by simp)
theorem TourX.mono (h : TourX W P v t) (hP : ∀ b,P b → b < W.heap.size → Q b) : TourX W Q v t := by obtain ⟨x,z,h1,h2,h3⟩ := h.ex;exact ⟨x,z,h1,h2.mono hP,h3.mono hP⟩
theorem TourX.tourV (h : TourX W P v t) : TourV W W.heap.size v t := by obtain ⟨x,z,h1,h2,h3⟩ := h.ex;exact ⟨x,z,h1,h2.intsV,h3.rowsV⟩
theorem TourV.tourX (h : TourV W W.heap.size v t) : TourX W (fun _ => True) v t := by obtain ⟨x,z,h1,h2,h3⟩ := h;exact ⟨x,z,h1,h2.intsP,h3.rowsP⟩
theorem TourB.tourX {base : Nat} (h : TourB W base v t) : TourX W (fun b => base ≤ b) v t := by obtain ⟨x,z,h1,h2,h3⟩ := h.ex;exact ⟨x,z,h1,h2.intsP,h3.rowsP⟩
end
theorem TourV.tourXS {W : World} {S : Nat} {v : Value} {t : Tr} (h : TourV W S v t) (hS : S ≤ W.heap.size) : TourX W (fun b => b < S) v t := by
 obtain ⟨x,z,h1,⟨A,c,hv,hx,hcap⟩,⟨A2,c2,hv2,hx2,hcap2⟩⟩ := h
 exact ⟨x,z,h1,⟨A,c,hv,fun hne => by
  obtain ⟨b,o,hA,h2,h3⟩ := hx hne
  exact ⟨b,o,hA,h2,by omega,h3⟩,hcap⟩,⟨A2,c2,hv2,fun hne => by
  obtain ⟨b,o,hA,h2,h3⟩ := hx2 hne
  exact ⟨b,o,hA,h2,by omega,h3⟩,hcap2⟩⟩
theorem some3 {w : World} {b : Nat} {x y z : Value} (h0 : w.cell? ⟨b,0,none⟩ = some x) (h1 : w.cell? ⟨b,1,none⟩ = some y) (h2 : w.cell? ⟨b,2,none⟩ = some z) {u v t : Value} : ∀ j,j < [u,v,t].length → (w.cell? ⟨b,0 + j,none⟩).isSome = true := fun j hj => by
 have hj : j < 3 := hj
 match j,hj with
 | 0,_ => rw [Nat.zero_add,h0];rfl
 | 1,_ => rw [Nat.zero_add,h1];rfl
 | 2,_ => rw [Nat.zero_add,h2];rfl
theorem own_not {v : Value} {q : Nat} (h : v.ownBlock ≠ some q) : q ∉ v.ownBlock.toList := fun hm => h (by
 cases e : v.ownBlock with
 | none => rw [e] at hm;cases hm
 | some g => rw [e] at hm;obtain rfl : q = g := by simpa using hm
             rfl)
theorem restT_none {n : Nat} {r : Tr} (h : firstDay n r = none) : restT n r = withoutT r [0] ∧ dayI n r = -1 := by unfold restT dayI;rw [h];exact ⟨rfl,rfl⟩
theorem restT_some {n d : Nat} {r : Tr} (h : firstDay n r = some d) : restT n r = closedT (withoutT r [0]) (d : Int) ∧ dayI n r = (d : Int) := by unfold restT dayI;rw [h];exact ⟨rfl,rfl⟩
theorem firstDay_none {n : Nat} {r : Tr} (h : ∀ d ∈ r.N 0,onF r n 0 d ≠ meritF r n) : firstDay n r = none := by
 unfold firstDay;rw [List.find?_eq_none];intro d hd;simpa using h d hd
theorem firstDay_some {n k x : Nat} {r : Tr} (hx : (r.N 0)[k]? = some x) (h : ∀ d ∈ (r.N 0).take k,onF r n 0 d ≠ meritF r n) (hd : onF r n 0 x = meritF r n) : firstDay n r = some x := by
 obtain ⟨hj,rfl⟩ := List.getElem?_eq_some_iff.1 hx;unfold firstDay;rw [List.find?_eq_some_iff_append];exact ⟨decide_eq_true hd,(r.N 0).take k,(r.N 0).drop (k + 1),by rw [← List.drop_eq_getElem_cons hj,List.take_append_drop],fun a ha => by simpa using h a ha⟩
theorem rising_pair {cl : List Int} : Rising cl ↔ cl.Pairwise (· < ·) := by
 rw [List.pairwise_iff_getElem]
 constructor
 ·intro h i j hi hj hij;have := h i j hij hj
  rwa [gI_lt hi,gI_lt hj] at this
 ·intro h i j hij hj;rw [gI_lt (by omega),gI_lt hj];exact h i j (by omega) hj hij
theorem Rising.close {cl : List Int} (h : Rising cl) (d : Int) : Rising (closeL cl d) := by
 unfold closeL
 by_cases hd : d ∈ cl
 ·rw [if_pos hd];exact h
 ·rw [if_neg hd];have h0 := rising_pair.1 h;have hp := posL_le cl d
  have h1 : ∀ x ∈ cl.take (posL cl d),x < d := fun x hx => by
   obtain ⟨j,hj,rfl⟩ := List.mem_iff_getElem.1 hx;rw [List.length_take] at hj;rw [List.getElem_take];have := List.not_of_lt_findIdx (p := fun x => decide (d ≤ x)) (xs := cl) (i := j) (by unfold posL at hj;omega);have := of_decide_eq_false (by simpa using this : decide (d ≤ cl[j]) = false);omega
  have h2 : ∀ x ∈ cl.drop (posL cl d),d < x := fun x hx => by
   have hlt : posL cl d < cl.length := by
    have := List.length_pos_of_mem hx;rw [List.length_drop] at this;omega
   have hge : d ≤ cl[posL cl d] := by
    have := List.findIdx_getElem (p := fun x => decide (d ≤ x)) (xs := cl) (w := hlt);exact of_decide_eq_true this
   have hne : d ≠ cl[posL cl d] := fun e => hd (e ▸ List.getElem_mem hlt);obtain ⟨j,hj,rfl⟩ := List.mem_iff_getElem.1 hx;rw [List.getElem_drop]
   by_cases e : j = 0
   ·subst e;simp only [Nat.add_zero];omega
   ·have := h (posL cl d) (posL cl d + j) (by omega) (by rw [List.length_drop] at hj;omega);rw [gI_lt hlt,gI_lt (by rw [List.length_drop] at hj;omega)] at this;omega
  rw [rising_pair];unfold insAt;rw [List.append_assoc,List.pairwise_append];refine ⟨h0.sublist (List.take_sublist _ _),?_,fun a ha b hb => ?_⟩
  ·rw [List.singleton_append,List.pairwise_cons];exact ⟨h2,h0.sublist (List.drop_sublist _ _)⟩
  ·have := h1 a ha;rw [List.singleton_append,List.mem_cons] at hb
   rcases hb with rfl | hb
   ·exact this
   ·have := h2 b hb;omega
theorem len_without {r : Tr} : (withoutT r [0]).fl.length = r.fl.length - 1 := by
 rw [show (withoutT r [0]).fl = keepN [0] r.fl r.fl.length from rfl,keepN_tail,List.length_drop]
theorem earl_step {n u m : Nat} {r r' : Tr} {Z Y G : List Int} (h : Z ++ earlF n (m - u) r = G) (hY : Z ++ [dayI n r] = Y) (hr : restT n r = r') (hu : u < m) : Y ++ earlF n (m - (u + 1)) r' = G := by
 rw [← h,← hY,← hr,show m - u = (m - (u + 1)) + 1 by omega];simp [earlF]
def earlL (t : Tr) : List Int := if checkT t = 0 then earlF t.n.toNat t.fl.length t else []
theorem Earliest_c (t : Tr) (v : Value) (w : World) (hV : TourV w w.heap.size v t) (hf : FitT t) (hl : checkT t = 0 → t.fl.length ≤ 12) :
  CallsV Tryz.prog 34 #[v] w fun v' w' => (∃ lv,v' = .tuple #[lv,.int .i64 (checkT t)] ∧ IntsB w' w.heap.size lv (earlL t)) ∧ Ext w w' := by
 obtain ⟨A,c,A2,c2,rfl,hI,hF⟩ := hV.open';have hTS : TourS w w.heap.size (.agg #[.int .i64 t.n,.slice A t.cl.length c,.slice A2 t.fl.length c2]) t := ⟨hV⟩;clear hV hI hF;obtain ⟨n,hn⟩ : ∃ n,∃ _u : Unit,t.n.toNat = n := ⟨_,(),rfl⟩;have hea : ∃ _u : Unit,checkT t = 0 → earlL t = earlF n t.fl.length t := ⟨(),fun h => by unfold earlL;rw [if_pos h,hn.choose_spec]⟩;have hit := open_it;refine Wp.fnM Tryz.func34 rfl Tryz.ntmps34 (by simp) ?_;have xw := Ext.refl w;refine Wp.keep [0] ?_;rintro r1 ⟨ai,-⟩;simp [go_sem] at ai;refine sRg fun K' gd hK => ?_;refine cu1 fun K1 hK1 => ?_;go_simp;apply hK1;clear hK1 K1;refine Wops.absA fun bE n1 ab => ?_;obtain ⟨q1,ab,s1,ac,f1,r1⟩ := ab;try simp only [q1] at ac f1 r1 ⊢
 replace hTS := hTS.ext ab;replace xw := xw.trans ab;have bi := ac 0 _ rfl;have bj := ac 1 _ rfl;have bk := ac 2 _ rfl;clear ac ab;clear r1;go_simp;apply hK;clear hK K' gd;refine Wp.keep [1] ?_;rintro r2 ⟨an,-⟩;simp [go_sem,ai] at an;clear ai;refine Wp.seq ?_;refine sRg fun K' gd hK => ?_;refine cu2 fun K1 hK1 => ?_;go_simp;refine Wcall (.inl rfl) (check_c t _ _ (hTS.v.more (Below.size (XE))) hf) ?_;rintro v w2 ⟨rfl,hE⟩;go_simp;apply hK1;clear hK1 K1;have z3 := Below.size hE;replace hTS := hTS.ext hE;replace xw := xw.trans hE;replace bi := hE.cell bi;replace bj := hE.cell bj;replace bk := hE.cell bk;clear hE;go_simp;apply hK;clear hK K' gd;refine Wp.keep [1,4] ?_;rintro r4 ⟨Q,R,-⟩;simp [go_sem,an] at Q R;clear an
 by_cases h0 : checkT t = 0
 ·skip;have hg := checkT_zero.1 h0;have hP : PlanT t n := by rw [← hn.choose_spec];exact hg.plan (hl h0)
  have hm12 := hP.fl;have hcl9 := hg.len;have hn60 := hP.n2;refine sRg fun K' gd hK => ?_;go_simp;apply hK;clear hK K' gd;refine Wp.keep [1,4,13] ?_;rintro r5 ⟨ap,az,ak,-⟩;simp [go_sem,Q,R] at ap az ak;clear Q R;refine cFf ?_;refine skN ?_;refine sRg fun K' gd hK => ?_;go_simp;apply hK;clear hK K' gd;refine Wp.keep [1,5] ?_;rintro r6 ⟨aq,aN,-⟩;simp [go_sem,ap,az,ak] at aq aN;clear ap az ak;refine Wp.seq ?_;have xw_xa := xw;have xa := Ext.refl w2;refine sRg fun K' gd hK => ?_;refine cu3 fun K1 hK1 => ?_;go_simp;apply hK1;clear hK1 K1;refine Wops.absA fun ag n6 J => ?_;obtain ⟨q6,J,s6,af,f6,r6⟩ := J;try simp only [q6] at af f6 r6 ⊢
  replace hTS := hTS.ext J;replace xw := xw.trans J;replace xa := xa.trans J;have M := af 0 _ rfl;have O := af 1 _ rfl;have P := af 2 _ rfl;clear af J;clear r6;try simp only [Wops_nil,updO_some,updO_none]
  apply hK;clear hK K' gd;refine Wp.keep [5,6] ?_;rintro r7 ⟨bu,bx,-⟩;simp [go_sem,aq,aN] at bu bx;clear aq aN;obtain ⟨B0,hB0,hB1,hB2⟩ : ∃ B,w.heap.size ≤ B ∧ B ≤ ag.heap.size ∧ ag.heap.size ≤ B := ⟨ag.heap.size,by omega,Nat.le_refl _,Nat.le_refl _⟩;have hX0 : TourX ag (fun b => (Value.slice none 0 0).ownBlock ≠ some b ∧ b ≠ n6) (.agg #[.int .i64 t.n,.slice A t.cl.length c,.slice A2 t.fl.length c2]) t := (hTS.v.tourXS (by omega)).mono fun b hb _ => ⟨(fun e => by cases e),by omega⟩;refine Wp.block ?_;refine Wp.loop (fun u ρ ds wu => AllEq [] ρ r7 ∧ MarksF (w.heap.size) ds wu ∧ (Ext w2 wu) ∧ (∃ (q : Nat) (r : Tr) (vO : Value) (Z : List Int) (A : Option Addr) (c : Nat) (A2 : Option Addr) (c2 : Nat),ρ 6 = .pointer (some ⟨q,0,none⟩) ∧ ρ 5 = vO ∧ wu.cell? ⟨q,0,none⟩ = some (.int .i64 r.n) ∧ wu.cell? ⟨q,1,none⟩ = some (.slice A r.cl.length c) ∧ wu.cell? ⟨q,2,none⟩ = some (.slice A2 r.fl.length c2) ∧ (∀ i,wu.frozen? ⟨q,i,none⟩ = false) ∧ OwnI wu B0 vO Z ∧ TourX wu (fun b => vO.ownBlock ≠ some b ∧ b ≠ q) (.agg #[.int .i64 r.n,.slice A r.cl.length c,.slice A2 r.fl.length c2]) r ∧ (∃ _u : Unit,n1 < q ∧ w2.heap.size ≤ q ∧ vO.ownBlock ≠ some q ∧ PlanT r n ∧ Rising r.cl ∧ r.fl.length + u = t.fl.length ∧ r.cl.length ≤ 60 + u ∧ Z.length = u ∧ Z ++ earlF n (t.fl.length - u) r = earlF n t.fl.length t))) (t.fl.length) ?_ ?_
  ·refine ⟨AllEq.refl _ _,MarksF.nil,xa,?_⟩;exact ⟨n6,t,_,[],A,c,A2,c2,bx,bu,M,O,P,f6,World.ownsRow_nil _ _ _ _,hX0,(),by omega,by omega,(fun e => by cases e),hP,hg.cl.rising,by omega,by omega,rfl,rfl⟩
  ·rintro u r8 dsu wu hu ⟨hA,hMk,xo,⟨q,r,vO,Z,A7,k7,A8,k8,e6,e5,y0,y1,y2,fy,hO,hX,hq⟩⟩;obtain ⟨-⟩ := hA;have xw := xw_xa;replace xw := Ext.trans xw xo;obtain ⟨-,p1,p2,p3,p4,p5,p6,p7,p8,p9⟩ := hq;replace p6 : ∃ _u : Unit,_ := ⟨(),p6⟩;replace p8 : ∃ _u : Unit,_ := ⟨(),p8⟩;replace p9 : ∃ _u : Unit,_ := ⟨(),p9⟩;have lq : q < wu.heap.size := cell_lt y0;obtain ⟨A9,k9,rfl⟩ := OwnI.slice hO;have xv := Ext.refl wu
   by_cases hk2 : u < t.fl.length
   ·skip;have hfl : (0 : Int) < (r.fl.length : Int) := by have := p6.choose_spec;omega
    have hfl2 : 0 < r.fl.length := by omega
    obtain ⟨A',c',A2',c2',eV,hI1,hF1⟩ := hX.tourV.open';obtain ⟨-,eV2,eV3⟩ := agg3_inj eV;obtain ⟨rfl,rfl⟩ := slice_inj eV2;obtain ⟨rfl,rfl⟩ := slice_inj eV3;clear eV eV2 eV3;obtain ⟨b2,o2,eA,hb2,x0,x1,x2,x3⟩ := FlawsV.at hF1 hfl2;subst eA;rw [Nat.zero_mul,Nat.add_zero] at x0 x1 x2 x3;have hIS : IntsS wu wu.heap.size (.slice A7 r.cl.length k7) r.cl := ⟨hI1⟩;have hTX : TourS wu wu.heap.size (.agg #[.int .i64 r.n,.slice A7 r.cl.length k7,.slice (some ⟨b2,o2,none⟩) r.fl.length k8]) r := ⟨hX.tourV⟩;clear hI1 hF1;obtain ⟨F,hFe⟩ : ∃ F,∃ _u : Unit,r.fl[0] = F := ⟨_,(),rfl⟩;rw [hFe.choose_spec] at x0 x1 x2 x3;have hsp : ∃ _u : Unit,0 ≤ F.lo ∧ F.hi < n := ⟨(),by rw [← hFe.choose_spec];exact p4.sp 0 hfl2⟩;obtain ⟨lo,hlo⟩ : ∃ lo : Nat,∃ _u : Unit,F.lo = (lo : Int) := ⟨F.lo.toNat,(),by have := hsp.choose_spec;omega⟩;rw [hlo.choose_spec] at x1;obtain ⟨hi9,hhi⟩ : ∃ h,∃ _u : Unit,F.hi = h := ⟨_,(),rfl⟩;rw [hhi.choose_spec] at x2;obtain ⟨L,hL⟩ : ∃ L,∃ _u : Unit,openN r.cl (lo : Int) hi9 = L ∧ r.N 0 = L := ⟨_,(),rfl,by rw [show (0 : Int) = ((0 : Nat) : Int) from rfl,trN_at hfl2,hFe.choose_spec,hlo.choose_spec,hhi.choose_spec]⟩;have hh9 : hi9 ≤ 1000000 := by have := hsp.choose_spec;have := hhi.choose_spec;omega
    refine Wp.seq ?_;refine sRg fun K' gd hK => ?_;go_simp;apply hK;clear hK K' gd;refine Wp.keep [5,6,19] ?_;rintro r9 ⟨aO,a0,am,-⟩;simp [go_sem,e5,e6] at aO a0 am;clear e5 e6;refine cTt ?_;refine skN ?_;refine sBk ?_;refine Wp.scopeKey 0 (fun _ _ _ => False) (fun _ => 0) rfl (fun _ _ _ h => h.elim) (fun _ => ?_);refine sRg fun K' gd hK => ?_;refine cu2 fun K1 hK1 => ?_;go_simp;refine Wcall (.inl rfl) (mendMerit_c r n _ _ p4 (hTX.v.more (Below.size (XE)))) ?_;rintro v w3 ⟨rfl,hE⟩;go_simp;apply hK1;clear hK1 K1;have z10 := Below.size hE;replace fy := hE.fz y0 fy;replace hMk := hMk.ext hE;replace hIS := hIS.ext hE;replace hTX := hTX.ext hE;replace xw := xw.trans hE;replace xo := xo.trans hE;replace xv := xv.trans hE;replace y0 := hE.cell y0;replace y1 := hE.cell y1;replace y2 := hE.cell y2;replace x1 := hE.cell x1;replace x2 := hE.cell x2;clear hE;refine cu2 fun K1 hK1 => ?_;go_simp;apply hK1;clear hK1 K1;refine Wops.absA fun bL n7 g => ?_;obtain ⟨q7,g,s7,bg,f7,r7⟩ := g
    try simp only [q7] at bg f7 r7 ⊢
    replace fy := g.fz y0 fy;replace hMk := hMk.ext g;replace hIS := hIS.ext g;replace hTX := hTX.ext g;replace xw := xw.trans g;replace xo := xo.trans g;replace xv := xv.trans g;replace y0 := g.cell y0;replace y1 := g.cell y1;replace y2 := g.cell y2;replace x1 := g.cell x1;replace x2 := g.cell x2;have m := bg 0 _ rfl;clear bg g;clear r7;try simp only [Wops_nil,updO_some,updO_none]
    apply hK;clear hK K' gd;refine Wp.keep [5,6,7] ?_;rintro r11 ⟨aA,aP,a1,-⟩;simp [go_sem,aO,a0,am] at aA aP a1;clear aO a0 am;refine sRg fun K' gd hK => ?_;refine cu2 fun K1 hK1 => ?_;go_simp;apply hK1;clear hK1 K1;refine Wops.absA fun bM n8 f => ?_;obtain ⟨q8,f,s8,bh,f8,r8⟩ := f;try simp only [q8] at bh f8 r8 ⊢
    replace fy := f.fz y0 fy;replace hMk := hMk.ext f;replace hIS := hIS.ext f;replace hTX := hTX.ext f;replace xw := xw.trans f;replace xo := xo.trans f;replace xv := xv.trans f;replace y0 := f.cell y0;replace y1 := f.cell y1;replace y2 := f.cell y2;replace x1 := f.cell x1;replace x2 := f.cell x2;replace m := f.cell m;have a := bh 0 _ rfl;clear bh f;clear r8;try simp only [Wops_nil,updO_some,updO_none]
    apply hK;clear hK K' gd;refine Wp.keep [5,6,7,8] ?_;rintro r12 ⟨aB,aQ,a2,a4,-⟩;simp [go_sem,aA,aP,a1] at aB aQ a2 a4;clear aA aP a1;refine Wp.seq ?_;refine Wp.label ?_;refine tNo ?_;refine Wp.seq ?_;refine Wp.seqDraw (.inl rfl) mixed [([0,1,2,3,4],none),([5],some (6,false))] (by kernel_rfl) fun K' gd hK hg => ?_;clear hg;simp only [pick,nth,List.map_cons,List.map_nil,Option.map_none,Option.map_some];refine Mops.absD fun D8 hD8 zD8 => ?_;replace fy := hD8.fz y0 fy;replace f8 := hD8.fz a f8;replace hMk := hMk.ext hD8;replace hIS := hIS.ext hD8;replace hTX := hTX.ext hD8;replace xw := xw.trans hD8;replace xo := xo.trans hD8;replace xv := xv.trans hD8;replace y0 := hD8.cell y0;replace y1 := hD8.cell y1;replace y2 := hD8.cell y2;replace x1 := hD8.cell x1;replace x2 := hD8.cell x2;replace m := hD8.cell m;replace a := hD8.cell a;clear hD8;refine mNo ?_
    refine mAc ?_
    intro K1 hK1;go_simp;refine Wcall (.inl rfl) (open_c (.slice A7 r.cl.length k7) (.slice (some ⟨b2,o2,none⟩) r.fl.length k8) r.n (lo : Int) hi9 _) ?_;rintro v w4 ⟨bs,bt,rfl,hE,z0,z1,zt,hz1,hz2⟩;go_simp;refine hK1 _ _ (by assumption) ?_;clear hK1 K1;have z13 := Below.size hE;replace fy := hE.fz y0 fy;replace f8 := hE.fz a f8;replace hMk := hMk.ext hE;replace hIS := hIS.ext hE;replace hTX := hTX.ext hE;replace xw := xw.trans hE;replace xo := xo.trans hE;replace xv := xv.trans hE;replace y0 := hE.cell y0;replace y1 := hE.cell y1;replace y2 := hE.cell y2;replace m := hE.cell m;replace a := hE.cell a;clear hE;refine Mops.done ?_;apply hK;clear hK K' gd;refine Wp.keep [5,6,7,8,28] ?_;rintro r14 ⟨E,G,H,I,D,-⟩;simp [go_sem,aB,aQ,a2,a4] at E G H I D;clear aB aQ a2 a4;have hOD : OpenD w4 bs bt wu.heap.size lo hi9 (.slice A7 r.cl.length k7) r.cl := ⟨z0,z1,zt,hIS,Below.size xv⟩;clear z0 z1 zt;have hMk9 := hMk;refine Wp.block ?_;refine Wp.range (hit bs bt wu.heap.size lo hi9 A7 k7 r.cl (by omega) hh9) (by go_simp) (enters_of Tryz.func173 (by kernel_rfl) rfl) (fun _ => rfl) (fun k W => (Ext w4 W) ∧ (∃ _u : Unit,∀ d ∈ L.take k,onF r n 0 d ≠ meritF r n)) (fun c W => c = .exit 2 ∧ Chg [n8] w4 W ∧ W.cell? ⟨n8,0,none⟩ = some (.int .i64 (dayI n r)) ∧ (∃ x : Nat,∃ _u : Unit,firstDay n r = some x)) ?_ ?_ ?_ ?_ ?_ ?_ ?_
    ·rintro k W ⟨xr,hno⟩;exact hOD.ext xr
    ·rintro k W W' hA ⟨xr,hno⟩;refine ⟨Adm.toE hA xr (Nat.le_refl _),?_⟩;exact hno
    ·skip;exact fun c V V' hA ⟨e1,e2,e3,e4⟩ => ⟨e1,Adm.chg hA e2 (Nat.le_refl _),hA.cell e3,e4⟩
    ·refine ⟨Ext.refl _,?_⟩;exact ⟨(),fun d hd => by rw [List.take_zero] at hd;cases hd⟩
    ·rintro l k x W hx ⟨xr,hno⟩ hl;have hTX_b := hTX;replace f8 := Ext.fz xr a f8;replace xw := Ext.trans xw xr;replace xo := Ext.trans xo xr;replace xv := Ext.trans xv xr;replace y0 := Ext.cell xr y0;replace y1 := Ext.cell xr y1;replace y2 := Ext.cell xr y2;replace m := Ext.cell xr m;replace a := Ext.cell xr a;have xb := Ext.refl W;simp only [encD,List.zip_toArray,List.zip_cons_cons,List.zip_nil_left,putL_cons,putL_nil];refine Wp.keep [5,6,7,8,29] ?_;rintro r15 ⟨aC,aR,a3,a5,ar,-⟩;simp [go_sem,E,G,H,I,D] at aC aR a3 a5 ar;refine Wp.loneRegion (.inr ⟨_,rfl⟩) (by kernel_rfl) fun K' gd hK hg => ?_;clear hg;go_simp;apply hK;clear hK K' gd;refine Ends.keep [5,6,7,8,9] ?_;rintro r16 ⟨S,T,U,X,aa,-⟩;simp [go_sem,aC,aR,a3,a5,ar] at S T U X aa;clear aC aR a3 a5 ar;refine Ends.mk ?_;refine tNo ?_;refine ⟨KeepsOthers.of_ext xb,fun W2 hA2 hl2 => ?_⟩;replace f8 := Adm.fz hA2 a f8;replace xw := Adm.toE hA2 xw (by omega);replace xo := Adm.toE hA2 xo (by omega);replace xv := Adm.toE hA2 xv (by omega);replace xr := Adm.toE hA2 xr (by omega);clear xb;replace hTX := hTX_b.ext xr;replace y0 := Adm.cell hA2 y0;replace y1 := Adm.cell hA2 y1;replace y2 := Adm.cell hA2 y2;replace m := Adm.cell hA2 m;replace a := Adm.cell hA2 a
     obtain ⟨lr,hl2⟩ := hl2;have xk := Ext.refl W2;have kb8 := IsC.of a;rw [hL.choose_spec.1] at hx
     by_cases hd : onF r n 0 x = meritF r n
     ·skip;refine Wp.block ?_;refine Wp.seqDraw (.inr ⟨_,rfl⟩) mixed [([0,1,3],some (2,false)),([4],none)] (by kernel_rfl) fun K' gd hK hg => ?_;clear hg;simp only [pick,nth,List.map_cons,List.map_nil,Option.map_none,Option.map_some];refine Mops.absD fun D12 hD12 zD12 => ?_;replace f8 := hD12.fz a f8;replace hTX := hTX.ext hD12;replace xw := xw.trans hD12;replace xo := xo.trans hD12;replace xv := xv.trans hD12;replace xr := xr.trans hD12;replace xk := xk.trans hD12;replace y0 := hD12.cell y0;replace y1 := hD12.cell y1;replace y2 := hD12.cell y2;replace m := hD12.cell m;replace a := hD12.cell a;clear hD12;refine mAc ?_
      intro K1 hK1;go_simp;refine Wcall (.inr ⟨_,rfl⟩) (dayOn_c r n 0 x _ _ p4 (by omega) p5 hfl2 (hTX.v.more (Below.size (XE)))) ?_;rintro v w5 ⟨rfl,hE⟩;go_simp;refine hK1 _ _ (by assumption) ?_;clear hK1 K1;replace f8 := hE.fz a f8;replace xw := xw.trans hE;replace xo := xo.trans hE;replace xv := xv.trans hE;replace xr := xr.trans hE;replace xk := xk.trans hE;replace a := hE.cell a;clear hE;apply Mops.none
      ·intro w' hE';go_simp;with_reducible rfl
      refine Mops.done ?_;apply hK;clear hK K' gd;refine Wp.keep [8,9,34] ?_;rintro r18 ⟨bz,bA,bn,-⟩;simp [go_sem,S,T,U,X,aa] at bz bA bn;clear S T U X aa;refine cTt ?_;have xp := (Chg.refl [n8] w4).ext xr;have xk2 := (Chg.refl [n8] W2).ext xk;have hfd : ∃ _u : Unit,firstDay n r = some x := ⟨(),firstDay_some (by rw [hL.choose_spec.2];exact hx) (by rw [hL.choose_spec.2];exact hno.choose_spec) hd⟩;refine Wp.seqRegion (.inr ⟨_,rfl⟩) (by kernel_rfl) fun K' gd hK hg => ?_;clear hg;refine cu2 fun K1 hK1 => ?_;go_simp;apply hK1;clear hK1 K1;refine Wops.absS (b := n8) (i := 0) [_] (somes [cellVal a] (by simp) (by intro j v hj;match j,hj with | 0,hj => (simp at hj;subst hj;exact a))) fun P13 hP13 => ?_;replace xw := Put.to xw hP13 (by omega);replace xo := Put.to xo hP13 (by omega);replace xv := Put.to xv hP13 (by omega);clear xr;clear xk;replace xp := Put.more xp hP13 (.inr (by simp));replace xk2 := Put.more xk2 hP13 (.inr (by simp));clear a;have a := hP13.new 0 _ rfl;try simp only [Nat.reduceAdd,Nat.zero_add,Nat.add_zero] at a
      clear hP13;try simp only [Wops_nil,updO_some,updO_none]
      apply hK;clear hK K' gd;refine Wp.keep [] fun r19 hkeep => ?_;clear hkeep;clear bz bA bn;refine Wp.exit ?_;refine blockK_on (by decide) ?_;exact ⟨KeepsOthers.of_chg xk2 (mem1 kb8),rfl,xp,by rw [(restT_some hfd.choose_spec).2];exact a,x,hfd⟩
     ·skip;refine Wp.block ?_;refine Wp.seqDraw (.inr ⟨_,rfl⟩) mixed [([0,1,3],some (2,false)),([4],none)] (by kernel_rfl) fun K' gd hK hg => ?_;clear hg;simp only [pick,nth,List.map_cons,List.map_nil,Option.map_none,Option.map_some];refine Mops.absD fun D14 hD14 zD14 => ?_;replace hTX := hTX.ext hD14;replace xw := xw.trans hD14;replace xo := xo.trans hD14;replace xv := xv.trans hD14;replace xr := xr.trans hD14;replace xk := xk.trans hD14;replace y0 := hD14.cell y0;replace y1 := hD14.cell y1;replace y2 := hD14.cell y2;replace m := hD14.cell m;clear hD14;refine mAc ?_
      intro K1 hK1;go_simp;refine Wcall (.inr ⟨_,rfl⟩) (dayOn_c r n 0 x _ _ p4 (by omega) p5 hfl2 (hTX.v.more (Below.size (XE)))) ?_;rintro v w5 ⟨rfl,hE⟩;go_simp;refine hK1 _ _ (by assumption) ?_;clear hK1 K1;replace xw := xw.trans hE;replace xo := xo.trans hE;replace xv := xv.trans hE;replace xr := xr.trans hE;replace xk := xk.trans hE;clear hE;apply Mops.none
      ·intro w' hE';go_simp;with_reducible rfl
      refine Mops.done ?_;apply hK;clear hK K' gd;refine Wp.keep [8,9,34] ?_;rintro r21 ⟨bC,bD,bB,-⟩;simp [go_sem,S,T,U,X,aa] at bC bD bB;clear S T U X aa;refine cFf ?_;refine Wp.skip ?_;refine bNo ?_;refine ⟨KeepsOthers.of_ext xk,xr,?_⟩;exact ⟨(),fun d hd2 => by rw [List.take_add_one,hx] at hd2;rcases List.mem_append.1 hd2 with hd2 | hd2;exact hno.choose_spec d hd2;obtain rfl : d = x := (by simpa using hd2);exact hd⟩
    ·rintro rm W hrm ⟨xr,hno⟩ hmk;have zxr := Below.size xr;replace fy := Ext.fz xr y0 fy;replace xw := Ext.trans xw xr;replace xo := Ext.trans xo xr;replace xv := Ext.trans xv xr;replace y0 := Ext.cell xr y0;replace y1 := Ext.cell xr y1;replace y2 := Ext.cell xr y2;replace a := Ext.cell xr a;refine bNo ?_;refine tNo ?_;have hMk := MarksF.cons hMk9 (hMk9.ext xr) hrm hmk (by omega);have hfd : ∃ _u : Unit,firstDay n r = none := ⟨(),firstDay_none (by rw [hL.choose_spec.2];have q := hno.choose_spec;rw [hL.choose_spec.1,List.take_length] at q;exact q)⟩;have hday : ∃ _u : Unit,restT n r = withoutT r [0] ∧ dayI n r = -1 := ⟨(),restT_none hfd.choose_spec⟩;have hneg : ¬ 0 ≤ dayI n r := by rw [hday.choose_spec.2];decide
     replace a : W.cell? ⟨n8,0,none⟩ = some (.int .i64 (dayI n r)) := by rw [hday.choose_spec.2];exact a
     have hO5 := OwnI.ext hO xv;have hX5 := hX.ext xv;refine sRg fun K' gd hK => ?_;refine cu3 fun K1 hK1 => ?_;go_simp;apply hK1;clear hK1 K1;refine Wops.absA fun bF n38 o => ?_;obtain ⟨q38,o,s38,bc,f38,r38⟩ := o;try simp only [q38] at bc f38 r38 ⊢
     replace fy := o.fz y0 fy;replace hMk := hMk.ext o;replace hO5 := hO5.ext o;replace hX5 := hX5.ext o;replace xw := xw.trans o;replace xo := xo.trans o;replace y0 := o.cell y0;replace y1 := o.cell y1;replace y2 := o.cell y2;replace a := o.cell a;clear o f38;have ah := bc 0 _ rfl;clear bc;refine cu1 fun K1 hK1 => ?_;obtain ⟨v',w7,hrun,hO6,hgr,hbk⟩ := app_run2 ints_T hO5 ⟨n38,0,none⟩ 1 1 [.int .i64 (dayI n r)] 22 rfl (news_one ah) (one_one rfl) (by have := p8.choose_spec;omega) (by omega);refine Wops.law rfl (exec_append2 rfl hrun (by go_simp) (by go_simp)) ?_;simp only [updO_some,Wops_nil];apply hK1;clear hK1 K1;have z22 := World.grownBy.size hgr;replace xw := Chg.to xw (grown_chg hgr) (lt_ge (World.ownsRow.lt hO) (by omega));replace xo := Chg.to xo (grown_chg hgr) (lt_ge (World.ownsRow.lt hO) (by omega));replace a := Chg.cell (grown_chg hgr) a (lt_off (World.ownsRow.lt hO) (by omega));have hO7 : OwnI w7 B0 v' (Z ++ [dayI n r]) := by unfold OwnI;rw [encI_add,List.length_append];exact hO6
     clear hO6;have hX7 := TourX.chg hX5 (grown_chg hgr) (fun b hb _ => own_not hb.1);replace hMk := MarksF.keeps hMk (keep_grown (KeepsOthers.of_ext (Ext.refl _)) hO5 hgr);have hy0 := y0;replace y0 := Chg.cell (grown_chg hgr) y0 (own_not p3);replace y1 := Chg.cell (grown_chg hgr) y1 (own_not p3);replace y2 := Chg.cell (grown_chg hgr) y2 (own_not p3);replace fy : ∀ i,w7.frozen? ⟨q,i,none⟩ = false := Chg.fz (grown_chg hgr) hy0 fy (own_not p3);obtain ⟨Y,hY⟩ : ∃ Y,∃ _u : Unit,Z ++ [dayI n r] = Y := ⟨_,(),rfl⟩;rw [hY.choose_spec] at hO7;obtain ⟨A5,k5,rfl⟩ := OwnI.slice hO7;have p10 : (Value.slice A5 Y.length k5).ownBlock ≠ some q := by rcases hbk with e | e;(rw [e];exact p3);(rw [e];intro h;injection h with h;omega)
     have p11 := World.ownsRow.lt hO7;have p12 : ∃ _u : Unit,Y.length = u + 1 := ⟨(),by rw [← hY.choose_spec,List.length_append,p8.choose_spec];rfl⟩;go_simp;apply hK;clear hK K' gd;refine Wp.keep [5,6,8] ?_;rintro r23 ⟨aD,aS,a6,-⟩;simp [go_sem,E,G,H,I,D] at aD aS a6;clear E G H I D;refine sRg fun K' gd hK => ?_;refine cu2 fun K1 hK1 => ?_;go_simp;apply hK1;clear hK1 K1;refine Wops.absA fun bH n41 s => ?_;obtain ⟨q41,s,s41,be,f41,r41⟩ := s;try simp only [q41] at be f41 r41 ⊢
     replace fy := s.fz y0 fy;replace hO7 := hO7.ext s;replace hX7 := hX7.ext s;replace hMk := hMk.ext s;replace xw := xw.trans s;replace xo := xo.trans s;replace a := s.cell a;replace y0 := s.cell y0;replace y1 := s.cell y1;replace y2 := s.cell y2;clear s f41;have K := be 0 _ rfl;clear be;refine cu1 fun K1 hK1 => ?_;go_simp;refine Wcall (.inl rfl) (without_c r [0] _ (.slice (some ⟨n41,0,none⟩) 1 1) _ hX7.tourV ⟨_,1,rfl,fun _ => ⟨n41,0,rfl,cell_lt K,fun k hk => by obtain rfl : k = 0 := (by simpa using hk);exact K⟩,Nat.le_refl _⟩ (by simp) (by omega) (by have := p4.fl;omega)) ?_;rintro v w8 ⟨hW,hE⟩;obtain ⟨cv,fv,rfl,g1,g2⟩ := hW;obtain ⟨A10,k10,rfl⟩ := g1.slice;obtain ⟨A11,k11,rfl⟩ := OwnF.slice g2;go_simp;apply hK1;clear hK1 K1;have z24 := Below.size hE;replace fy := hE.fz y0 fy;replace hO7 := hO7.ext hE;replace hMk := hMk.ext hE;replace xw := xw.trans hE;replace xo := xo.trans hE;replace a := hE.cell a;replace y0 := hE.cell y0;replace y1 := hE.cell y1;replace y2 := hE.cell y2;clear hE;refine cu1 fun K1 hK1 => ?_;go_simp;apply hK1;clear hK1 K1
     refine Wops.absS (b := q) (i := 0) [_,_,_] (some3 y0 y1 y2) fun P14 hP14 => ?_;have zP14 := hP14.same;replace hMk := hMk.put hP14 (by omega);replace xw := Put.to xw hP14 (by omega);replace xo := Put.to xo hP14 (by omega);replace a := hP14.cell a (by omega);try simp only [Wops_nil,updO_some,updO_none]
     apply hK;clear hK K' gd;refine Wp.keep [5,6,8] ?_;rintro r25 ⟨aE,aT,a7,-⟩;simp [go_sem,aD,aS,a6] at aE aT a7;clear aD aS a6;have y0 : P14.cell? ⟨q,0,none⟩ = some (.int .i64 r.n) := hP14.new 0 _ rfl;have y1 : P14.cell? ⟨q,1,none⟩ = some (.slice A10 r.cl.length k10) := hP14.new 1 _ rfl;have y2 : P14.cell? ⟨q,2,none⟩ = some (.slice A11 (withoutT r [0]).fl.length k11) := hP14.new 2 _ rfl;have hO8 : OwnI P14 B0 (.slice A5 Y.length k5) Y := ownsRow_chg hO7 hP14.chg (by intro b hb hm;exact p10 (by rw [hb];simpa using hm));have hX8 : TourX P14 (fun b => (Value.slice A5 Y.length k5).ownBlock ≠ some b ∧ b ≠ q) (.agg #[.int .i64 r.n,.slice A10 r.cl.length k10,.slice A11 (withoutT r [0]).fl.length k11]) (withoutT r [0]) := (TourX.mono (TourX.chg (TourB.tourX ⟨_,_,rfl,g1,g2.flawsB⟩) hP14.chg (fun b hb _ hm => by simp at hm;omega)) fun b hb _ => ⟨(fun e => by have := (p11 b e).2;omega),by omega⟩);refine sRg fun K' gd hK => ?_;go_simp;apply hK;clear hK K' gd;refine Wp.keep [5,6,8,44] ?_;rintro r26 ⟨aF,aU,a8,au,-⟩;simp [go_sem,aE,aT,a7] at aF aU a8 au;clear aE aT a7;refine cFf ?_;have hl8 : (withoutT r [0]).fl.length = r.fl.length - 1 := len_without;replace hl8 : ∃ _u : Unit,_ := ⟨(),hl8⟩;have xz := Ext.refl P14;refine Wp.skip ?_
     refine gotoK_normal ?_;refine bNo ?_;refine tNo ?_;refine sRg fun K' gd hK => ?_;go_simp;apply hK;clear hK K' gd;refine Wp.keep [5,48] ?_;rintro r27 ⟨aG,aw,-⟩;simp [go_sem,aF,aU,a8,au] at aG aw;clear aF aU a8 au;refine lRg fun K' gd hK => ?_;refine cu2 fun K1 hK1 => ?_;go_simp;apply hK1;clear hK1 K1;refine Wops.absA fun bJ n6 z => ?_;obtain ⟨q6,z,s6,ad,f6,r6⟩ := z;try simp only [q6] at ad f6 r6 ⊢
     replace hMk := hMk.ext z;replace xw := xw.trans z;replace xo := xo.trans z;replace xz := xz.trans z;have M := ad 0 _ rfl;have O := ad 1 _ rfl;have P := ad 2 _ rfl;clear ad z;clear r6;try simp only [Wops_nil,updO_some,updO_none]
     apply hK;clear hK K' gd;refine Ends.keep [5,6] ?_;rintro r28 ⟨bq,bv,-⟩;simp [go_sem,aG,aw] at bq bv;clear aG aw;refine Ends.mk ?_;refine thenK_normal ⟨by omega,trivial,hMk,xo,?_⟩;exact ⟨n6,withoutT r [0],_,Y,A10,k10,A11,k11,bv,bq,M,O,P,f6,OwnI.ext hO8 xz,TourX.ext (TourX.mono hX8 fun b hb hlt => ⟨hb.1,by omega⟩) xz,(),by omega,by omega,(fun e => by have := (p11 _ e).2;omega),p4.without _,p5,by have := p6.choose_spec;rw [hl8.choose_spec];omega,(by show r.cl.length ≤ _;omega),p12.choose_spec,earl_step p9.choose_spec hY.choose_spec hday.choose_spec.1 (by omega)⟩
    ·rintro rm c W hrm ⟨rfl,xs,e8c,⟨x,hfd⟩⟩ hmk;have zxs := Chg.size xs;replace fy := Chg.fz xs y0 fy XN;replace xw := Chg.to xw xs XL;replace xo := Chg.to xo xs XL;replace xv := Chg.to xv xs XL;replace y0 := Chg.cell xs y0 XN;replace y1 := Chg.cell xs y1 XN;replace y2 := Chg.cell xs y2 XN;refine Wp.exit ?_;refine blockK_here ?_;refine tNo ?_;have hMk := MarksF.cons hMk9 (hMk9.keeps (KeepsOthers.of_chg xs (mem1 (IsC.of a)))) hrm hmk (by omega);have hday : ∃ _u : Unit,restT n r = closedT (withoutT r [0]) (dayI n r) ∧ dayI n r = (x : Int) := ⟨(),by rw [(restT_some hfd.choose_spec).2];exact (restT_some hfd.choose_spec).1,(restT_some hfd.choose_spec).2⟩;have hneg : 0 ≤ dayI n r := by rw [hday.choose_spec.2];omega
     have a := e8c;have hO5 := OwnI.ext hO xv;have hX5 := hX.ext xv;refine sRg fun K' gd hK => ?_;refine cu3 fun K1 hK1 => ?_;go_simp;apply hK1;clear hK1 K1;refine Wops.absA fun bG n38 p => ?_;obtain ⟨q38,p,s38,bd,f38,r38⟩ := p;try simp only [q38] at bd f38 r38 ⊢
     replace fy := p.fz y0 fy;replace hMk := hMk.ext p;replace hO5 := hO5.ext p;replace hX5 := hX5.ext p;replace xw := xw.trans p;replace xo := xo.trans p;replace y0 := p.cell y0;replace y1 := p.cell y1;replace y2 := p.cell y2;replace a := p.cell a;clear p f38;have ah := bd 0 _ rfl;clear bd;refine cu1 fun K1 hK1 => ?_;obtain ⟨v',w7,hrun,hO6,hgr,hbk⟩ := app_run2 ints_T hO5 ⟨n38,0,none⟩ 1 1 [.int .i64 (dayI n r)] 22 rfl (news_one ah) (one_one rfl) (by have := p8.choose_spec;omega) (by omega);refine Wops.law rfl (exec_append2 rfl hrun (by go_simp) (by go_simp)) ?_;simp only [updO_some,Wops_nil];apply hK1;clear hK1 K1;have z29 := World.grownBy.size hgr;replace xw := Chg.to xw (grown_chg hgr) (lt_ge (World.ownsRow.lt hO) (by omega));replace xo := Chg.to xo (grown_chg hgr) (lt_ge (World.ownsRow.lt hO) (by omega));replace a := Chg.cell (grown_chg hgr) a (lt_off (World.ownsRow.lt hO) (by omega));have hO7 : OwnI w7 B0 v' (Z ++ [dayI n r]) := by unfold OwnI;rw [encI_add,List.length_append];exact hO6
     clear hO6;have hX7 := TourX.chg hX5 (grown_chg hgr) (fun b hb _ => own_not hb.1);replace hMk := MarksF.keeps hMk (keep_grown (KeepsOthers.of_ext (Ext.refl _)) hO5 hgr);have hy0 := y0;replace y0 := Chg.cell (grown_chg hgr) y0 (own_not p3);replace y1 := Chg.cell (grown_chg hgr) y1 (own_not p3);replace y2 := Chg.cell (grown_chg hgr) y2 (own_not p3);replace fy : ∀ i,w7.frozen? ⟨q,i,none⟩ = false := Chg.fz (grown_chg hgr) hy0 fy (own_not p3);obtain ⟨Y,hY⟩ : ∃ Y,∃ _u : Unit,Z ++ [dayI n r] = Y := ⟨_,(),rfl⟩;rw [hY.choose_spec] at hO7;obtain ⟨A5,k5,rfl⟩ := OwnI.slice hO7;have p10 : (Value.slice A5 Y.length k5).ownBlock ≠ some q := by rcases hbk with e | e;(rw [e];exact p3);(rw [e];intro h;injection h with h;omega)
     have p11 := World.ownsRow.lt hO7;have p12 : ∃ _u : Unit,Y.length = u + 1 := ⟨(),by rw [← hY.choose_spec,List.length_append,p8.choose_spec];rfl⟩;go_simp;apply hK;clear hK K' gd;refine Wp.keep [5,6,8] ?_;rintro r30 ⟨aH,aV,a9,-⟩;simp [go_sem,E,G,H,I,D] at aH aV a9;clear E G H I D;refine sRg fun K' gd hK => ?_;refine cu2 fun K1 hK1 => ?_;go_simp;apply hK1;clear hK1 K1;refine Wops.absA fun bI n41 y => ?_;obtain ⟨q41,y,s41,bf,f41,r41⟩ := y;try simp only [q41] at bf f41 r41 ⊢
     replace fy := y.fz y0 fy;replace hO7 := hO7.ext y;replace hX7 := hX7.ext y;replace hMk := hMk.ext y;replace xw := xw.trans y;replace xo := xo.trans y;replace a := y.cell a;replace y0 := y.cell y0;replace y1 := y.cell y1;replace y2 := y.cell y2;clear y f41;have K := bf 0 _ rfl;clear bf;refine cu1 fun K1 hK1 => ?_;go_simp;refine Wcall (.inl rfl) (without_c r [0] _ (.slice (some ⟨n41,0,none⟩) 1 1) _ hX7.tourV ⟨_,1,rfl,fun _ => ⟨n41,0,rfl,cell_lt K,fun k hk => by obtain rfl : k = 0 := (by simpa using hk);exact K⟩,Nat.le_refl _⟩ (by simp) (by omega) (by have := p4.fl;omega)) ?_;rintro v w8 ⟨hW,hE⟩;obtain ⟨cv,fv,rfl,g1,g2⟩ := hW;obtain ⟨A10,k10,rfl⟩ := g1.slice;obtain ⟨A11,k11,rfl⟩ := OwnF.slice g2;go_simp;apply hK1;clear hK1 K1;have z31 := Below.size hE;replace fy := hE.fz y0 fy;replace hO7 := hO7.ext hE;replace hMk := hMk.ext hE;replace xw := xw.trans hE;replace xo := xo.trans hE;replace a := hE.cell a;replace y0 := hE.cell y0;replace y1 := hE.cell y1;replace y2 := hE.cell y2;clear hE;refine cu1 fun K1 hK1 => ?_;go_simp;apply hK1;clear hK1 K1
     refine Wops.absS (b := q) (i := 0) [_,_,_] (some3 y0 y1 y2) fun P14 hP14 => ?_;have zP14 := hP14.same;replace fy := hP14.frz fy;replace hMk := hMk.put hP14 (by omega);replace xw := Put.to xw hP14 (by omega);replace xo := Put.to xo hP14 (by omega);replace a := hP14.cell a (by omega);try simp only [Wops_nil,updO_some,updO_none]
     apply hK;clear hK K' gd;refine Wp.keep [5,6,8] ?_;rintro r32 ⟨aI,aW,ba,-⟩;simp [go_sem,aH,aV,a9] at aI aW ba;clear aH aV a9;have y0 : P14.cell? ⟨q,0,none⟩ = some (.int .i64 r.n) := hP14.new 0 _ rfl;have y1 : P14.cell? ⟨q,1,none⟩ = some (.slice A10 r.cl.length k10) := hP14.new 1 _ rfl;have y2 : P14.cell? ⟨q,2,none⟩ = some (.slice A11 (withoutT r [0]).fl.length k11) := hP14.new 2 _ rfl;have hO8 : OwnI P14 B0 (.slice A5 Y.length k5) Y := ownsRow_chg hO7 hP14.chg (by intro b hb hm;exact p10 (by rw [hb];simpa using hm));have hX8 : TourX P14 (fun b => (Value.slice A5 Y.length k5).ownBlock ≠ some b ∧ b ≠ q) (.agg #[.int .i64 r.n,.slice A10 r.cl.length k10,.slice A11 (withoutT r [0]).fl.length k11]) (withoutT r [0]) := (TourX.mono (TourX.chg (TourB.tourX ⟨_,_,rfl,g1,g2.flawsB⟩) hP14.chg (fun b hb _ hm => by simp at hm;omega)) fun b hb _ => ⟨(fun e => by have := (p11 b e).2;omega),by omega⟩);refine sRg fun K' gd hK => ?_;go_simp;apply hK;clear hK K' gd;refine Wp.keep [5,6,8,44] ?_;rintro r33 ⟨aJ,aX,bb,av,-⟩;simp [go_sem,aI,aW,ba] at aJ aX bb av;clear aI aW ba;refine cTt ?_;refine lRg fun K' gd hK => ?_;refine cu3 fun K1 hK1 => ?_
     go_simp;refine Wcall (.inl rfl) (closed_c (withoutT r [0]) (dayI n r) _ _ hX8.tourV p5 (by show r.cl.length ≤ _;omega) (by have := keepN_len (l := [0]) (fl := r.fl) r.fl.length;have := p4.fl;show (keepN [0] r.fl r.fl.length).length ≤ _;omega)) ?_;rintro v w9 ⟨hW,hE⟩;obtain ⟨A12,k12,A13,k13,rfl⟩ := hW.open';go_simp;apply hK1;clear hK1 K1;have z34 := Below.size hE;replace fy := hE.fz y0 fy;replace hMk := hMk.ext hE;replace hO8 := hO8.ext hE;replace xw := xw.trans hE;replace xo := xo.trans hE;replace y0 := hE.cell y0;replace y1 := hE.cell y1;replace y2 := hE.cell y2;clear hE;refine cu1 fun K1 hK1 => ?_;go_simp;apply hK1;clear hK1 K1;refine Wops.absS (b := q) (i := 0) [_,_,_] (some3 y0 y1 y2) fun P16 hP16 => ?_;have zP16 := hP16.same;replace hMk := hMk.put hP16 (by omega);replace xw := Put.to xw hP16 (by omega);replace xo := Put.to xo hP16 (by omega);try simp only [Wops_nil,updO_some,updO_none]
     apply hK;clear hK K' gd;refine Ends.keep [5,6] ?_;rintro r35 ⟨aK,aY,-⟩;simp [go_sem,aJ,aX,bb,av] at aK aY;clear aJ aX bb av;refine Ends.mk ?_;refine gotoK_normal ?_;refine bNo ?_;refine tNo ?_;have y0 : P16.cell? ⟨q,0,none⟩ = some (.int .i64 r.n) := hP16.new 0 _ rfl;have y1 : P16.cell? ⟨q,1,none⟩ = some (.slice A12 (closedT (withoutT r [0]) (dayI n r)).cl.length k12) := hP16.new 1 _ rfl;have y2 : P16.cell? ⟨q,2,none⟩ = some (.slice A13 (closedT (withoutT r [0]) (dayI n r)).fl.length k13) := hP16.new 2 _ rfl;have hO9 : OwnI P16 B0 (.slice A5 Y.length k5) Y := ownsRow_chg hO8 hP16.chg (by intro b hb hm;exact p10 (by rw [hb];simpa using hm));have hX9 : TourX P16 (fun b => (Value.slice A5 Y.length k5).ownBlock ≠ some b ∧ b ≠ q) (.agg #[.int .i64 (closedT (withoutT r [0]) (dayI n r)).n,.slice A12 (closedT (withoutT r [0]) (dayI n r)).cl.length k12,.slice A13 (closedT (withoutT r [0]) (dayI n r)).fl.length k13]) (closedT (withoutT r [0]) (dayI n r)) := (TourX.mono (TourX.chg hW.tourX hP16.chg (fun b hb _ hm => by simp at hm;omega)) fun b hb _ => ⟨(fun e => by have := (p11 b e).2;omega),by omega⟩);have hl8 : (withoutT r [0]).fl.length = r.fl.length - 1 := len_without;replace hl8 : ∃ _u : Unit,_ := ⟨(),hl8⟩;have xz := Ext.refl P16;refine sRg fun K' gd hK => ?_;go_simp;apply hK;clear hK K' gd
     refine Wp.keep [5,48] ?_;rintro r36 ⟨aL,ax,-⟩;simp [go_sem,aK,aY] at aL ax;clear aK aY;refine lRg fun K' gd hK => ?_;refine cu2 fun K1 hK1 => ?_;go_simp;apply hK1;clear hK1 K1;refine Wops.absA fun bK n6 C => ?_;obtain ⟨q6,C,s6,ae,f6,r6⟩ := C;try simp only [q6] at ae f6 r6 ⊢
     replace hMk := hMk.ext C;replace xw := xw.trans C;replace xo := xo.trans C;replace xz := xz.trans C;have M := ae 0 _ rfl;have O := ae 1 _ rfl;have P := ae 2 _ rfl;clear ae C;clear r6;try simp only [Wops_nil,updO_some,updO_none]
     apply hK;clear hK K' gd;refine Ends.keep [5,6] ?_;rintro r37 ⟨br,bw,-⟩;simp [go_sem,aL,ax] at br bw;clear aL ax;refine Ends.mk ?_;refine thenK_normal ⟨by omega,trivial,hMk,xo,?_⟩;exact ⟨n6,closedT (withoutT r [0]) (dayI n r),_,Y,A12,k12,A13,k13,bw,br,M,O,P,f6,OwnI.ext hO9 xz,TourX.ext (TourX.mono hX9 fun b hb hlt => ⟨hb.1,by omega⟩) xz,(),by omega,by omega,(fun e => by have := (p11 _ e).2;omega),(p4.without _).closed (by show r.cl.length ≤ _;omega) _,p5.close _,by have := p6.choose_spec;rw [show (closedT (withoutT r [0]) (dayI n r)).fl.length = r.fl.length - 1 from hl8.choose_spec];omega,(by have := closeL_len r.cl (dayI n r);show (closeL r.cl (dayI n r)).length ≤ _;omega),p12.choose_spec,earl_step p9.choose_spec hY.choose_spec hday.choose_spec.1 (by omega)⟩
   ·skip;have hum : u = t.fl.length := by omega
    have hfl : r.fl = [] := List.eq_nil_of_length_eq_zero (by have := p6.choose_spec;omega);refine Wp.seq ?_;refine sRg fun K' gd hK => ?_;go_simp;apply hK;clear hK K' gd;refine Wp.keep [5,6,19] ?_;rintro r38 ⟨aM,aZ,al,-⟩;simp [go_sem,e5,e6] at aM aZ al;clear e5 e6;refine cFf ?_;refine Wp.exit ?_;refine tEx ?_;refine tEx ?_;refine blockK_here ?_;refine tNo ?_;refine sRg fun K' gd hK => ?_;go_simp;apply hK;clear hK K' gd;refine Wp.keep [2,3] ?_;rintro r39 ⟨bl,bo,-⟩;simp [go_sem,aM,aZ,al] at bl bo;clear aM aZ al;refine Wp.ret ?_;refine endM_tmp2 Tryz.results34 (by decide) (by decide) ((hMk.to (Nat.le_refl _))) fun wz hS => ?_;rw [bl,bo];exact ⟨⟨_,by rw [h0],by rw [hea.choose_spec h0,← p9.choose_spec,hum,Nat.sub_self,show earlF n 0 r = [] from rfl,List.append_nil];exact (OwnI.intsB (OwnI.shut hO hS)).less (by omega)⟩,Shut.ext xw hS⟩
 ·skip;refine sRg fun K' gd hK => ?_;go_simp;apply hK;clear hK K' gd;refine Wp.keep [1,4,13] ?_;rintro r40 ⟨ao,ay,aj,-⟩;simp [go_sem,Q,R] at ao ay aj;clear Q R;refine cTt ?_;refine sRg fun K' gd hK => ?_;go_simp;apply hK;clear hK K' gd;refine Wp.keep [2,3] ?_;rintro r41 ⟨bm,bp,-⟩;simp [go_sem,ao,ay,aj] at bm bp;clear ao ay aj;refine Wp.ret ?_;refine tRe ?_;refine endM_tmp2 Tryz.results34 (by decide) (by decide) (trivial) fun wz hS => ?_;rw [bm,bp];exact ⟨⟨_,rfl,by unfold earlL;rw [if_neg h0];exact IntsB.nil _ _⟩,Shut.ext xw hS⟩
theorem setL_cells (b : Nat) : ∀ (vs : List Value) (w : World) (i : Nat),w.setCells b i vs = setL w b i vs
 | [],_,_ => rfl
 | v :: vs,w,i => by rw [World.setCells,setL,setL_cells b vs]
def zerosI (m : Nat) : List Value := List.replicate m (.int .i64 0)
theorem run_clearI (w : World) (ty : TypeId) (b o m c : Nat) (hm : 0 < m) (hc : ∀ j,j < m → (w.cell? ⟨b,o + j,none⟩).isSome = true) (hf : ∀ j,j < m → w.frozen? ⟨b,o + j,none⟩ = false) :
  (Builtin.clear_ #[22] ty #[.slice (some ⟨b,o,none⟩) m c]).run Tryz.prog w = .ok (.tuple #[]) (setL w b o (zerosI m)) := by
 have hzc : (Builtin.zeroCells (Value.int .i64 0).cells m).toList = zerosI m := by
  unfold zerosI;apply List.ext_getElem
  ·simp [Builtin.zeroCells,Value.cells]
  ·intro i h1 h2;simp [Builtin.zeroCells,Value.cells];rw [Nat.mod_one];rfl
 have hst := run_storeCells_cells (P := Tryz.prog) b o (zerosI m) 0 w (by simpa [zerosI] using hc) (by simpa [zerosI] using hf) (by intro v hv';unfold zerosI at hv';rw [List.eq_of_mem_replicate hv'];rfl);simp only [Nat.add_zero] at hst;rw [setL_cells] at hst;have hz : (zeroValue 3).run Tryz.prog w = .ok (.int .i64 0) w := by simp [go_sem]
 obtain ⟨m,rfl⟩ : ∃ k,m = k + 1 := ⟨m - 1,by omega⟩;simp [Builtin.clear_,run_underlying Tryz.underlying22,hz,hzc,hst]
def filI (p : Int → Bool) (l : List Int) : List Int := l.filter fun a => !p a
theorem filI_all {p : Int → Bool} {al : List Int} (h : ∀ a ∈ al,p a = false) : filI p al = al := List.filter_eq_self.2 fun a ha => by rw [h a ha];rfl
theorem filI_T {p : Int → Bool} {al : List Int} {j : Nat} (h : j < al.length) (hp : p al[j] = true) : filI p (al.take (j + 1)) = filI p (al.take j) := by
 unfold filI;rw [take_snoc h,List.filter_append,List.filter_cons_of_neg (by rw [hp];decide)];simp
theorem filI_F {p : Int → Bool} {al : List Int} {j : Nat} (h : j < al.length) (hp : p al[j] = false) : filI p (al.take (j + 1)) = filI p (al.take j) ++ [al[j]] := by
 unfold filI;rw [take_snoc h,List.filter_append,List.filter_cons_of_pos (by rw [hp];rfl)];simp
theorem RowJ.someZ {W : World} {b i m : Nat} {xs : List Int} (h : RowJ W b xs) (hm : i + m ≤ xs.length) : ∀ j,j < m → (W.cell? ⟨b,i + j,none⟩).isSome = true := fun j hj => by
 rw [h.c (i + j) (by omega)];rfl
theorem set_mid {F mt R : List Int} {m0 x : Int} : (F ++ m0 :: mt ++ x :: R).set F.length x = (F ++ [x]) ++ (mt ++ [x]) ++ R := by
 rw [List.append_assoc,List.set_append_right _ _ (Nat.le_refl _),Nat.sub_self];simp
theorem exec_clear {P : Program} {ev : Operand → Value} {o : Oper} {s : Operand} {t : TypeId} (ho : o.op = .call { callee := .builtin .clear,args := #[s],argTypes := #[t] }) {v vs : Value} {w w' : World}
  (h : (Builtin.clear_ #[t] o.type #[vs]).run P w = .ok v w') (h1 : ev s = vs) : (execOp ev o).run P w = .ok (.value v) w' := by
 unfold execOp;simp only [ho,resolve,invoke,builtin,Sem.run_bind,Sem.run_pure,Result.andThen_ok,List.map_toArray,List.map_cons,List.map_nil,h1,h]
theorem indexJ_c (b n c : Nat) (xs : List Int) (p : Int → Bool) (gf : Nat) (lb : Array Value) (w : World) (hx : RowJ w b xs) (hn : xs.length = n) (hl : n ≤ 1000000000)
  (heg : ∀ args w,(callFunc gf args).run Tryz.prog w = .ok (.enter gf args) w)
  (hp : ∀ a ∈ xs,∀ W,Ext w W → CallsV Tryz.prog gf (#[.int .i64 a] ++ lb) W fun v W' => v = .bool (p a) ∧ Ext W W') :
  CallsV Tryz.prog 159 #[.slice (some ⟨b,0,none⟩) n c,.func (.func gf) #[] lb] w fun v w' =>
   ∃ r : Int,v = .int .i64 r ∧ (r = -1 → ∀ a ∈ xs,p a = false) ∧ (¬ r = -1 → ∃ (k : Nat) (h : k < xs.length),r = (k : Int) ∧ p xs[k] = true ∧ ∀ a ∈ xs.take k,p a = false) ∧ Ext w w' := by
 replace hn : ∃ _u : Unit,_ := ⟨(),hn⟩;refine Wp.fn Tryz.func159 rfl Tryz.ntmps159 (by simp) ?_;have xw := Ext.refl w;refine Wp.keep [0,1] ?_;rintro r1 ⟨j,B,-⟩;simp [go_sem] at j B;refine sRg fun K' gd hK => ?_;go_simp;apply hK;clear hK K' gd;refine Wp.keep [0,1] ?_;rintro r2 ⟨o,E,-⟩;simp [go_sem,j,B] at o E;clear j B;refine Wp.seq ?_;refine sRg fun K' gd hK => ?_;go_simp;apply hK;clear hK K' gd;refine Wp.keep [0,1,7,8] ?_;rintro r3 ⟨s,F,P,ae,-⟩;simp [go_sem,o,E] at s F P ae;clear o E;refine Wp.block ?_;refine Wp.loop (fun k ρ ds wk => AllEq [0,1,7] ρ r3 ∧ ds = [] ∧ (Ext w wk) ∧ (ρ 8 = .int .i64 (k : Int) ∧ (∃ _u : Unit,∀ a ∈ xs.take k,p a = false))) (n) ?_ ?_
 ·refine ⟨AllEq.refl _ _,rfl,Ext.refl _,?_⟩;exact ⟨by rw [ae];rfl,(),fun a ha => by rw [List.take_zero] at ha;cases ha⟩
 ·rintro k r4 _ wk hk ⟨hA,rfl,xl1,⟨e8,hq⟩⟩;obtain ⟨t,G,Q,-⟩ := hA;rw [s] at t;rw [F] at G;rw [P] at Q;replace xw := Ext.trans xw xl1;refine sRg fun K' gd hK => ?_;go_simp;apply hK;clear hK K' gd;refine Wp.keep [0,1,7,8,9] ?_;rintro r5 ⟨d,e,f,g,i,-⟩;simp [go_sem,t,G,Q,e8] at d e f g i;clear t G Q e8;refine Wp.seq ?_
  by_cases hk : k < n
  ·refine cTt ?_;have hkn : (k : Int) < (n : Int) := by omega
   have hkx : k < xs.length := by have := hn.choose_spec;omega
   have y0 := xw.cell (hx.c k hkx);obtain ⟨x,hxe⟩ : ∃ x,∃ _u : Unit,gI xs k = x ∧ xs[k] = x := ⟨_,(),rfl,(gI_lt hkx).symm⟩;rw [hxe.choose_spec.1] at y0;have hxm : x ∈ xs := by rw [← hxe.choose_spec.2];exact List.getElem_mem hkx
   by_cases hp1 : p x = true
   ·skip;refine skN ?_;refine sBk ?_;refine sRg fun K' gd hK => ?_;go_simp;apply hK;clear hK K' gd;refine Wp.keep [0,1,5,7,8] ?_;rintro r6 ⟨u,H,L,R,V,-⟩;simp [go_sem,d,e,f,g,i] at u H L R V;clear d e f g i;refine sRg fun K' gd hK => ?_;refine cu6 fun K1 hK1 => ?_;go_simp;refine Wcall (.inl rfl) (hp x hxm _ xw) ?_;rintro v w2 ⟨rfl,hE⟩;go_simp;apply hK1;clear hK1 K1;replace xw := xw.trans hE;replace xl1 := xl1.trans hE;clear hE;try simp only [Wops_nil,updO_some,updO_none]
    apply hK;clear hK K' gd;refine Wp.keep [0,1,5,7,8,16] ?_;rintro r8 ⟨y,I,M,S,X,A,-⟩;simp [go_sem,u,H,L,R,V] at y I M S X A;clear u H L R V;refine cTt ?_;refine sRg fun K' gd hK => ?_;go_simp;apply hK;clear hK K' gd;refine Wp.keep [4] ?_;rintro r9 ⟨ab,-⟩;simp [go_sem,y,I,M,S,X,A] at ab;clear y I M S X A;refine Wp.ret ?_;refine bRe ?_;refine tRe ?_;refine tRe ?_;refine bRe ?_;refine tRe ?_;refine endK_tmp Tryz.results159 (by decide) ?_;rw [ab];exact ⟨_,rfl,fun q => absurd q (by omega),fun _ => ⟨k,hkx,rfl,by rw [hxe.choose_spec.2];exact hp1,hq.choose_spec⟩,xw⟩
   ·skip;refine skN ?_;refine sBk ?_;refine sRg fun K' gd hK => ?_;go_simp;apply hK;clear hK K' gd;refine Wp.keep [0,1,5,7,8] ?_;rintro r10 ⟨l,C,J,N,T,-⟩;simp [go_sem,d,e,f,g,i] at l C J N T;clear d e f g i;refine sRg fun K' gd hK => ?_;refine cu6 fun K1 hK1 => ?_;go_simp;refine Wcall (.inl rfl) (hp x hxm _ xw) ?_;rintro v w2 ⟨rfl,hE⟩;go_simp;apply hK1;clear hK1 K1;replace xw := xw.trans hE;replace xl1 := xl1.trans hE;clear hE;try simp only [Wops_nil,updO_some,updO_none]
    apply hK;clear hK K' gd;refine Wp.keep [0,1,5,7,8,16] ?_;rintro r12 ⟨m,D,K,O,U,z,-⟩;simp [go_sem,l,C,J,N,T] at m D K O U z;clear l C J N T;refine cFf ?_;refine Wp.skip ?_;refine bNo ?_;refine tNo ?_;refine lRg fun K' gd hK => ?_;go_simp;apply hK;clear hK K' gd;refine Ends.keep [0,1,7,8] ?_;rintro r13 ⟨Y,Z,ac,ad,-⟩;simp [go_sem,m,D,K,O,U,z] at Y Z ac ad;clear m D K O U z;refine Ends.mk ?_;refine thenK_normal ⟨by omega,⟨by rw [Y,s],by rw [Z,F],by rw [ac,P],trivial⟩,rfl,xl1,?_⟩;exact ⟨by rw [ad,IntWalk.i64_in _ (by omega)];rfl,(),fun a ha => by rw [take_snoc hkx,List.mem_append] at ha;rcases ha with ha | ha;exact hq.choose_spec a ha;obtain rfl : a = xs[k] := (by simpa using ha);rw [hxe.choose_spec.2];simpa using hp1⟩
  ·refine cFf ?_;have hkn : k = n := by omega
   refine Wp.exit ?_;refine tEx ?_;refine tEx ?_;refine blockK_here ?_;refine tNo ?_;refine sRg fun K' gd hK => ?_;go_simp;apply hK;clear hK K' gd;refine Wp.keep [4] ?_;rintro r14 ⟨aa,-⟩;simp [go_sem,d,e,f,g,i] at aa;clear d e f g i;refine Wp.ret ?_;refine endK_tmp Tryz.results159 (by decide) ?_;rw [aa];exact ⟨-1,rfl,fun _ a ha => hq.choose_spec a (by rw [hkn,List.take_of_length_le (by have := hn.choose_spec;omega)];exact ha),fun q => absurd rfl q,xw⟩
theorem deleteJ_c (b n c : Nat) (al : List Int) (p : Int → Bool) (gf : Nat) (lb : Array Value) (w : World) (hx : RowJ w b al) (hn : al.length = n) (hnc : n ≤ c) (hl : n ≤ 1000000000)
  (heg : ∀ args w,(callFunc gf args).run Tryz.prog w = .ok (.enter gf args) w)
  (hp : ∀ a ∈ al,∀ W,Chg [b] w W → CallsV Tryz.prog gf (#[.int .i64 a] ++ lb) W fun v W' => v = .bool (p a) ∧ Ext W W') :
  CallsV Tryz.prog 89 #[.slice (some ⟨b,0,none⟩) n c,.func (.func gf) #[] lb] w fun v w' =>
   (v = .slice (some ⟨b,0,none⟩) (filI p al).length c ∧ ∀ i,i < (filI p al).length → w'.cell? ⟨b,i,none⟩ = some (.int .i64 (gI (filI p al) i))) ∧ Chg [b] w w' := by
 refine Wp.fn Tryz.func89 rfl Tryz.ntmps89 (by simp) ?_;have xw := Ext.refl w;refine Wp.keep [0,1] ?_;rintro r1 ⟨o,O,-⟩;simp [go_sem] at o O;have xq := Chg.refl [b] w;refine sRg fun K' gd hK => ?_;go_simp;apply hK;clear hK K' gd;refine Wp.keep [0,1] ?_;rintro r2 ⟨D,Y,-⟩;simp [go_sem,o,O] at D Y;clear o O;refine sRg fun K' gd hK => ?_;refine cu3 fun K1 hK1 => ?_;go_simp;refine Wcall (.inl rfl) (indexJ_c b n c al p gf lb _ (hx.ext xw) hn hl heg (fun a ha W hW => hp a ha W (xq.ext hW))) ?_;rintro v w2 ⟨r,rfl,hI1,hI2,hE⟩;go_simp;apply hK1;clear hK1 K1;replace xw := xw.trans hE;replace xq := Chg.ext xq hE;clear hE;go_simp;apply hK;clear hK K' gd;refine Wp.keep [0,1,5] ?_;rintro r4 ⟨f,g,h,-⟩;simp [go_sem,D,Y] at f g h;clear D Y
 by_cases hr : r = -1
 ·skip;have hall := filI_all (hI1 hr);have hxr := hx.ext xw;subst hr;refine Wp.seq ?_;refine sRg fun K' gd hK => ?_;go_simp;apply hK;clear hK K' gd;refine Wp.keep [0,1,5,12] ?_;rintro r5 ⟨H,ab,aq,J,-⟩;simp [go_sem,f,g,h] at H ab aq J;clear f g h;refine cTt ?_;refine sRg fun K' gd hK => ?_;go_simp;apply hK;clear hK K' gd;refine Wp.keep [4] ?_;rintro r6 ⟨aM,-⟩;simp [go_sem,H,ab,aq,J] at aM;clear H ab aq J;refine Wp.ret ?_;refine tRe ?_;refine endK_tmp Tryz.results89 (by decide) ?_;rw [aM];refine ⟨⟨by rw [hall,hn],?_⟩,xq⟩;rw [hall];exact hxr.c
 ·skip;obtain ⟨k,hk,rfl,hpk,hbef⟩ := hI2 hr;have hwk : IntKind.i64.wrap ((k : Int) + 1) = ((k + 1 : Nat) : Int) := by rw [IntWalk.i64_in _ (by omega)];omega
  obtain ⟨k5,hk5⟩ : ∃ k5 : Nat,∃ _u : Unit,k + 1 = k5 := ⟨_,(),rfl⟩;rw [hk5.choose_spec] at hwk;have hf0 : ∃ _u : Unit,filI p (al.take k5) = al.take k ∧ al.take k ++ [al[k]] ++ al.drop k5 = al := ⟨(),by rw [← hk5.choose_spec,filI_T hk hpk];exact filI_all hbef,by rw [← hk5.choose_spec,← take_snoc hk,List.take_append_drop]⟩;clear hI1 hI2;refine Wp.seq ?_;refine sRg fun K' gd hK => ?_;go_simp;apply hK;clear hK K' gd;refine Wp.keep [0,1,5,12] ?_;rintro r7 ⟨I,ac,ar,K,-⟩;simp [go_sem,f,g,h] at I ac ar K;clear f g h;refine cFf ?_;refine skN ?_;refine Wp.seq ?_;refine sRg fun K' gd hK => ?_;go_simp;apply hK;clear hK K' gd;refine Wp.keep [0,1,5,6] ?_;rintro r8 ⟨l,m,aP,aS,-⟩;simp [go_sem,I,ac,ar,K] at l m aP aS;clear I ac ar K;refine Wp.block ?_;refine Wp.loop (fun u ρ ds wu => AllEq [0,1] ρ r8 ∧ ds = [] ∧ (Chg [b] w2 wu) ∧ (∃ (j : Nat) (Fj mid R : List Int),ρ 5 = .int .i64 (Fj.length : Int) ∧ ρ 6 = .int .i64 (j : Int) ∧ RowJ wu b (Fj ++ mid ++ R) ∧ (∃ _u : Unit,j = k5 + u ∧ Fj = filI p (al.take j) ∧ R = al.drop j ∧ mid.length + Fj.length = j ∧ mid ≠ []))) (n - k5) ?_ ?_
  ·refine ⟨AllEq.refl _ _,rfl,Chg.refl _ _,?_⟩;exact ⟨k5,al.take k,[al[k]],al.drop k5,by rw [aP,List.length_take];congr 1;omega,by rw [aS],by rw [hf0.choose_spec.2];exact hx.ext xw,(),rfl,hf0.choose_spec.1.symm,rfl,by have := hk5.choose_spec;simp;omega,by simp⟩
  ·rintro u r9 _ wu hu ⟨hA,rfl,xo,⟨j,Fj,mid,R,e5,e6,hR,hI⟩⟩;obtain ⟨d,e,-⟩ := hA;rw [l] at d;rw [m] at e;clear xw;replace xq := Chg.more xq xo (by intro b hm;simp only [List.mem_cons,List.not_mem_nil,or_false] at hm;first | (left;omega) | (right;simp [hm];done) | (rcases hm with hm | hm <;> first | (left;omega) | (right;simp [hm])));have hjn : j ≤ n := by obtain ⟨h1,h2,h3,h4,h5⟩ := hI.choose_spec;have := hk5.choose_spec;omega
   have hFj : Fj.length < j := by obtain ⟨h1,h2,h3,h4,h5⟩ := hI.choose_spec;have := List.length_pos_iff.2 h5;omega
   by_cases hju : (j : Int) < (n : Int)
   ·skip;obtain ⟨x,R2,hxR,hxe⟩ : ∃ x R2,R = x :: R2 ∧ ∃ _u : Unit,al[j]? = some x ∧ R2 = al.drop (j + 1) := by obtain ⟨h1,h2,h3,h4,h5⟩ := hI.choose_spec;exact ⟨al[j]'(by omega),al.drop (j + 1),h3.trans (drop_cons (by omega)),(),List.getElem?_eq_getElem _,rfl⟩
    subst hxR;obtain ⟨m0,mt,hm0⟩ : ∃ m0 mt,mid = m0 :: mt := by obtain ⟨h1,h2,h3,h4,h5⟩ := hI.choose_spec;exact List.exists_cons_of_ne_nil h5
    subst hm0;have hml : ∃ _u : Unit,(Fj ++ m0 :: mt).length = j := ⟨(),by obtain ⟨h1,h2,h3,h4,h5⟩ := hI.choose_spec;rw [List.length_append];omega⟩;have hcl : j < (Fj ++ m0 :: mt ++ x :: R2).length := by have := hml.choose_spec;rw [List.length_append];simp at this ⊢;omega
    have hcx : ∃ _u : Unit,gI (Fj ++ m0 :: mt ++ x :: R2) j = x := ⟨(),by rw [gI_lt hcl,List.getElem_append_right (by have := hml.choose_spec;omega)];simp [hml.choose_spec]⟩;have y0 := hR.c j hcl;rw [hcx.choose_spec] at y0;have hxm : x ∈ al := List.mem_of_getElem? hxe.choose_spec.1;have hjp : j < al.length := by omega
    have hxg : ∃ _u : Unit,al[j] = x := ⟨(),by have := hxe.choose_spec.1;rw [List.getElem?_eq_getElem hjp] at this;injection this⟩
    by_cases hq : p x = true
    ·skip;refine Wp.seq ?_;refine sRg fun K' gd hK => ?_;go_simp;apply hK;clear hK K' gd;refine Wp.keep [0,1,5,6,19] ?_;rintro r10 ⟨s,P,af,au,L,-⟩;simp [go_sem,d,e,e5,e6] at s P af au L;clear d e e5 e6;refine cTt ?_;refine skN ?_;refine sBk ?_;refine sRg fun K' gd hK => ?_;go_simp;apply hK;clear hK K' gd;refine Wp.keep [0,1,5,6,7] ?_;rintro r11 ⟨t,Q,ag,av,aD,-⟩;simp [go_sem,s,P,af,au,L] at t Q ag av aD;clear s P af au L;refine sRg fun K' gd hK => ?_;refine cu3 fun K1 hK1 => ?_;go_simp;refine Wcall (.inl rfl) (hp x hxm _ xq) ?_;rintro v w3 ⟨rfl,hE⟩;go_simp;apply hK1;clear hK1 K1;replace hR := hR.ext hE;replace xq := Chg.ext xq hE;replace xo := Chg.ext xo hE;clear hE;go_simp;apply hK;clear hK K' gd;refine Wp.keep [0,1,5,6,7,29] ?_;rintro r13 ⟨y,S,ah,aw,aE,ad,-⟩;simp [go_sem,t,Q,ag,av,aD] at y S ah aw aE ad
     clear t Q ag av aD;refine cFf ?_;refine Wp.skip ?_;refine bNo ?_;refine tNo ?_;refine lRg fun K' gd hK => ?_;go_simp;apply hK;clear hK K' gd;refine Ends.keep [0,1,5,6] ?_;rintro r14 ⟨aH,aJ,aN,aQ,-⟩;simp [go_sem,y,S,ah,aw,aE,ad] at aH aJ aN aQ;clear y S ah aw aE ad;refine Ends.mk ?_;refine thenK_normal ⟨by omega,⟨by rw [aH,l],by rw [aJ,m],trivial⟩,rfl,xo,?_⟩;exact ⟨j + 1,Fj,(m0 :: mt) ++ [x],R2,by rw [aN],by rw [aQ,IntWalk.i64_in _ (by omega)];rfl,by simpa using hR,(),by have := hI.choose_spec.1;omega,by rw [filI_T hjp (by rw [hxg.choose_spec];exact hq)];exact hI.choose_spec.2.1,hxe.choose_spec.2,by have := hI.choose_spec.2.2.2.1;rw [List.length_append];simp;simp at this;omega,by simp⟩
    ·skip;refine Wp.seq ?_;refine sRg fun K' gd hK => ?_;go_simp;apply hK;clear hK K' gd;refine Wp.keep [0,1,5,6,19] ?_;rintro r15 ⟨z,T,ai,ax,M,-⟩;simp [go_sem,d,e,e5,e6] at z T ai ax M;clear d e e5 e6;refine cTt ?_;refine skN ?_;refine sBk ?_;refine sRg fun K' gd hK => ?_;go_simp;apply hK;clear hK K' gd;refine Wp.keep [0,1,5,6,7] ?_;rintro r16 ⟨A,U,aj,ay,aF,-⟩;simp [go_sem,z,T,ai,ax,M] at A U aj ay aF;clear z T ai ax M;refine sRg fun K' gd hK => ?_;refine cu3 fun K1 hK1 => ?_;go_simp;refine Wcall (.inl rfl) (hp x hxm _ xq) ?_;rintro v w3 ⟨rfl,hE⟩;go_simp;apply hK1;clear hK1 K1;replace hR := hR.ext hE;replace xq := Chg.ext xq hE;replace xo := Chg.ext xo hE;clear hE;go_simp;apply hK;clear hK K' gd;refine Wp.keep [0,1,5,6,7,29] ?_;rintro r18 ⟨B,V,ak,az,aG,ae,-⟩;simp [go_sem,A,U,aj,ay,aF] at B V ak az aG ae
     clear A U aj ay aF;refine cTt ?_;have hFl : Fj.length < (Fj ++ m0 :: mt ++ x :: R2).length := by rw [List.length_append,List.length_append];simp;omega
     have hFn : (Fj.length : Int) < (n : Int) := by omega
     have hwF : IntKind.i64.wrap ((Fj.length : Int) + 1) = ((Fj.length + 1 : Nat) : Int) := by rw [IntWalk.i64_in _ (by omega)];omega
     have fb := hR.fz;have z0 := hR.c Fj.length hFl;refine sRg fun K' gd hK => ?_;refine cu5 fun K1 hK1 => ?_;go_simp;apply hK1;clear hK1 K1;refine Wops.absS (b := b) (i := Fj.length) [_] (some1 z0) fun P9 hP9 => ?_;replace xq := Put.more xq hP9 (.inr (by simp));replace xo := Put.more xo hP9 (.inr (by simp));try simp only [Wops_nil,updO_some,updO_none]
     apply hK;clear hK K' gd;refine Wp.keep [0,1,5,6] ?_;rintro r19 ⟨C,X,am,aA,-⟩;simp [go_sem,B,V,ak,az,aG,ae] at C X am aA;clear B V ak az aG ae;have hR2 := hR.store hP9 hFl;rw [set_mid] at hR2;refine lRg fun K' gd hK => ?_;go_simp;apply hK;clear hK K' gd;refine Ends.keep [0,1,5,6] ?_;rintro r20 ⟨E,Z,an,aB,-⟩;simp [go_sem,C,X,am,aA] at E Z an aB;clear C X am aA;refine Ends.mk ?_;refine bNo ?_;refine tNo ?_;refine lRg fun K' gd hK => ?_;go_simp;apply hK;clear hK K' gd;refine Ends.keep [0,1,5,6] ?_;rintro r21 ⟨aI,aK,aO,aR,-⟩;simp [go_sem,E,Z,an,aB] at aI aK aO aR;clear E Z an aB;refine Ends.mk ?_;refine thenK_normal ⟨by omega,⟨by rw [aI,l],by rw [aK,m],trivial⟩,rfl,xo,?_⟩;exact ⟨j + 1,Fj ++ [x],mt ++ [x],R2,by rw [aO];congr 1;simp,by rw [aR,IntWalk.i64_in _ (by omega)];rfl,hR2,(),by have := hI.choose_spec.1;omega,by rw [filI_F hjp (by rw [hxg.choose_spec];simpa using hq),hxg.choose_spec,← hI.choose_spec.2.1],hxe.choose_spec.2,by have := hI.choose_spec.2.2.2.1;simp at this ⊢;omega,by simp⟩
   ·skip;have hje : j = n := by omega
    have hfin : ∃ _u : Unit,Fj = filI p al ∧ (Fj ++ mid ++ R).length = n := ⟨(),by obtain ⟨h1,h2,h3,h4,h5⟩ := hI.choose_spec;exact ⟨by rw [h2,List.take_of_length_le (by omega)],by rw [List.length_append,List.length_append,h3,List.length_drop];omega⟩⟩;have hFc : (Fj.length : Int) ≤ (n : Int) := by omega
    have hcF : ¬ c = Fj.length := by omega
    have hFc2 : (Fj.length : Int) ≤ (c : Int) := by omega
    refine Wp.seq ?_;refine sRg fun K' gd hK => ?_;go_simp;apply hK;clear hK K' gd;refine Wp.keep [0,1,5,6,19] ?_;rintro r22 ⟨F,aa,ao,aC,N,-⟩;simp [go_sem,d,e,e5,e6] at F aa ao aC N;clear d e e5 e6;refine cFf ?_;refine Wp.exit ?_;refine tEx ?_;refine tEx ?_;refine blockK_here ?_;refine tNo ?_;refine sRg fun K' gd hK => ?_;refine cu4 fun K1 hK1 => ?_;refine Wops.cut 3 fun K2 hK2 => ?_;simp only [tSC,tZ];go_simp;refine hK2 _ _ ?_;clear hK2 K2;simp only [dSC,dZ];obtain hrun := run_clearI wu 22 b Fj.length (n - Fj.length) (c - Fj.length) (by omega) (hR.someZ (by rw [hfin.choose_spec.2];omega)) (fun j _ => hR.fz _);refine Wops.law rfl (exec_clear rfl hrun (by go_simp)) ?_;simp only [updO_some,Wops_nil];apply hK1;clear hK1 K1;refine Wops.absS (b := b) (i := Fj.length) (zerosI (n - Fj.length)) (by unfold zerosI;rw [List.length_replicate];exact hR.someZ (by rw [hfin.choose_spec.2];omega)) fun Pc hPc => ?_;replace xq := Put.more xq hPc (.inr (by simp));replace xo := Put.more xo hPc (.inr (by simp));try simp only [Wops_nil,updO_some,updO_none]
    apply hK;clear hK K' gd;refine Wp.keep [0,5] ?_;rintro r23 ⟨G,ap,-⟩;simp [go_sem,F,aa,ao,aC,N] at G ap;clear F aa ao aC N;refine sRg fun K' gd hK => ?_;go_simp;apply hK;clear hK K' gd;refine Wp.keep [4] ?_;rintro r24 ⟨aL,-⟩;simp [go_sem,G,ap] at aL;clear G ap;refine Wp.ret ?_;refine endK_tmp Tryz.results89 (by decide) ?_;rw [aL];refine ⟨⟨by rw [← hfin.choose_spec.1],?_⟩,xq⟩;rw [← hfin.choose_spec.1];intro i hi;rw [hPc.old i (.inl (by omega))];have q := hR.c i (by rw [List.append_assoc,List.length_append];omega);rw [gI_lt (by rw [List.append_assoc,List.length_append];omega)] at q;rw [gI_lt hi,q]
    congr 2
    simp only [List.append_assoc];rw [List.getElem_append_left hi]
end Go.Proofs.YtnklbepeoicgpaaGreat
