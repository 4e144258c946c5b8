/- Flaws in rows of our own; a tour in which a day is closed, or some flaws are left out. A tour without some flaws. Best, Merit, Close, Lost. Plans of days: how many days each flaw has, and what closed sets of days prove of the worth. What the search for a day does: it gives the new flaw a day, or shows a closed set of days. Adding flaws to a plan, one after the other: what is left out has a closed set of days; a best plan has one for each flaw that is left out. Spans of days: closed days fill a span; what cannot be planned makes a jam. What a best mending is worth with a flaw on a day; the days -/
import Derived.Test.YtnklbepeoicgpaaGreatW2
import Derived.Test.YtnklbepeoicgpaaGreatW1
set_option linter.all false
namespace Go.Proofs.YtnklbepeoicgpaaGreat
open Go.RowKit Go.Wk Go.Proofs
attribute [local irreducible] Go.Wk.Wops Go.Wk.Wp Go.Wk.Mtree Go.Wk.Mops
set_option maxHeartbeats 8000000
set_option maxRecDepth 20000
theorem flaws_T : ElemT Tryz.prog 23 47 4 := elemT_of (by kernel_rfl)
def encFs (l : List Fl) : List Value := l.flatMap encF
theorem encFs_len (l : List Fl) : (encFs l).length = l.length * 4 := by
 induction l with
 | nil => rfl
 | cons a l ih =>
   have e : encFs (a :: l) = encF a ++ encFs l := rfl;rw [e,List.length_append,List.length_cons,ih];have : (encF a).length = 4 := rfl;omega
theorem encF_one {f : Fl} : ∀ u ∈ encF f,u.oneCell' = true := by
 intro u hx;simp [encF] at hx
 rcases hx with rfl | rfl | rfl | rfl <;> rfl
theorem encFs_one {l : List Fl} : ∀ u ∈ encFs l,u.oneCell' = true := by
 intro u hu;unfold encFs at hu;rw [List.mem_flatMap] at hu;obtain ⟨x,-,hx⟩ := hu;exact encF_one u hx
theorem encFs_add (l : List Fl) (a : Fl) : encFs (l ++ [a]) = encFs l ++ encF a := by unfold encFs;rw [List.flatMap_append];simp
theorem four_get (l : List Fl) : ∀ (i : Nat) (h : i < l.length) (r : Nat) (u : Value),(encF l[i])[r]? = some u → (encFs l)[i * 4 + r]? = some u := by
 induction l with
 | nil => intro i h;cases h
 | cons a l ih =>
   intro i h r u hu;rw [show encFs (a :: l) = encF a ++ encFs l from rfl]
   cases i with
   | zero =>
     have hr : r < (encF a).length := (List.getElem?_eq_some_iff.1 hu).1;rw [Nat.zero_mul,Nat.zero_add,List.getElem?_append_left hr];exact hu
   | succ i =>
     have hl : (encF a).length = 4 := rfl;rw [List.getElem?_append_right (by rw [hl];omega),hl,show (i + 1) * 4 + r - 4 = i * 4 + r by omega];exact ih i (by simpa using h) r u hu
theorem newsF_of {w : World} {b o : Nat} {xs : List Fl} (h : ∀ i (h : i < xs.length) r u,(encF xs[i])[r]? = some u → w.cell? ⟨b,o + i * 4 + r,none⟩ = some u) :
  ∀ j u,(encFs xs)[j]? = some u → w.cell? ((⟨b,o,none⟩ : Addr).add j) = some u := by
 intro j u hu;rw [Addr.add_lit];have hl := encFs_len xs;have hj : j < xs.length * 4 := by have := (List.getElem?_eq_some_iff.1 hu).1;omega
 have hm : j % 4 < 4 := Nat.mod_lt _ (by omega);have hd := Nat.div_add_mod j 4;have hi : j / 4 < xs.length := by omega
 have hr : j % 4 < (encF xs[j / 4]).length := hm;have e := four_get xs (j / 4) hi (j % 4) _ (List.getElem?_eq_getElem hr);rw [show j / 4 * 4 + j % 4 = j by omega,hu] at e
 injection e with e
 have := h (j / 4) hi (j % 4) u (by rw [e];exact List.getElem?_eq_getElem hr);rw [show o + j / 4 * 4 + j % 4 = o + j by omega] at this;exact this
def OwnF (w : World) (base : Nat) (v : Value) (l : List Fl) : Prop := w.ownsRow base 47 4 v l.length (encFs l)
theorem OwnF.ext {w w' : World} {base : Nat} {v : Value} {l : List Fl} (h : OwnF w base v l) (hE : Ext w w') : OwnF w' base v l := ownsRow_ext h hE
theorem OwnF.less {w : World} {base b2 : Nat} {v : Value} {l : List Fl} (h : OwnF w base v l) (hb : b2 ≤ base) : OwnF w b2 v l := ownsRow_less h hb
theorem OwnF.put {w w' : World} {base b i : Nat} {v : Value} {l : List Fl} {vs : List Value} (h : OwnF w base v l) (p : Put w w' b i vs) (hb : b < base) : OwnF w' base v l := World.ownsRow.put h p hb
theorem OwnF.slice {w : World} {base : Nat} {v : Value} {l : List Fl} (h : OwnF w base v l) : ∃ A c,v = .slice A l.length c := by
 rcases h.2 with ⟨rfl,hn⟩ | ⟨g,cap,cur,rfl,-⟩
 ·exact ⟨none,0,by rw [hn]⟩
 ·exact ⟨_,_,rfl⟩
structure RowG (W : World) (b : Nat) (l : List Fl) : Prop where
 c : ∀ i (h : i < l.length) r u,(encF l[i])[r]? = some u → W.cell? ⟨b,i * 4 + r,none⟩ = some u
 fz : ∀ j,W.frozen? ⟨b,j,none⟩ = false
 ne : l ≠ []
theorem RowG.len {W : World} {b : Nat} {xs : List Fl} (h : RowG W b xs) : b < W.heap.size := cell_lt (h.c 0 (List.length_pos_iff.2 h.ne) 0 _ rfl)
theorem OwnF.rowG {w : World} {base : Nat} {v : Value} {xs : List Fl} (h : OwnF w base v xs) (hne : xs ≠ []) : ∃ b c,v = .slice (some ⟨b,0,none⟩) xs.length c ∧ base ≤ b ∧ xs.length ≤ c ∧ RowG w b xs := by
 rcases h.2 with ⟨rfl,hn⟩ | ⟨g,cap,cur,rfl,hb,hg,hnc,hcm,hcs,htake⟩
 ·exact absurd (List.eq_nil_of_length_eq_zero hn) hne
 ·refine ⟨g,cap,rfl,hb,hnc,fun i hi r u hu => ?_,own_fz h,hne⟩;have := World.ownsRow.cells h (g := g) rfl _ _ (four_get xs i hi r u hu);rw [Addr.add_lit,Nat.zero_add] at this;exact this
theorem OwnF.flawsV {w : World} {base : Nat} {v : Value} {xs : List Fl} (h : OwnF w base v xs) : FlawsV w w.heap.size v xs := by
 by_cases hne : xs = []
 ·subst hne;obtain ⟨A,c,rfl⟩ := OwnF.slice h;exact ⟨A,c,rfl,fun h => absurd rfl h,Nat.zero_le _⟩
 ·obtain ⟨b,c,rfl,-,hc,hR⟩ := h.rowG hne;exact ⟨_,c,rfl,fun _ => ⟨b,0,rfl,hR.len,fun i hi r u hu => by rw [Nat.zero_add];exact hR.c i hi r u hu⟩,hc⟩
abbrev FlawsB := RowsB 4 encF
theorem OwnF.flawsB {w : World} {base : Nat} {v : Value} {xs : List Fl} (h : OwnF w base v xs) : FlawsB w base v xs := by
 by_cases hne : xs = []
 ·subst hne;obtain ⟨A,c,rfl⟩ := OwnF.slice h;exact ⟨A,c,rfl,fun h => absurd rfl h,Nat.zero_le _⟩
 ·obtain ⟨b,c,rfl,hb,hc,hR⟩ := h.rowG hne;exact ⟨_,c,rfl,fun _ => ⟨b,0,rfl,hb,hR.len,fun i hi r u hu => by rw [Nat.zero_add];exact hR.c i hi r u hu⟩,hc⟩
structure TourB (w : World) (base : Nat) (v : Value) (t : Tr) : Prop where
 ex : ∃ cv fv,v = .agg #[.int .i64 t.n,cv,fv] ∧ IntsB w base cv t.cl ∧ FlawsB w base fv t.fl
section
variable {w w' : World} {base b2 : Nat} {v : Value} {t : Tr}
theorem TourB.ext (h : TourB w base v t) (hE : Ext w w') : TourB w' base v t := by obtain ⟨x,z,h1,h2,h3⟩ := h.ex;exact ⟨x,z,h1,h2.ext hE,h3.ext hE⟩
theorem TourB.chg {L : List Nat} (h : TourB w base v t) (hC : Chg L w w') (hL : ∀ b ∈ L,b < base) : TourB w' base v t := by obtain ⟨x,z,h1,h2,h3⟩ := h.ex;exact ⟨x,z,h1,h2.chg hC hL,h3.chg hC hL⟩
theorem TourB.put {k i : Nat} {vs : List Value} (h : TourB w base v t) (p : Put w w' k i vs) (hb : k < base) : TourB w' base v t := h.chg p.chg (by simpa using hb)
theorem TourB.less (h : TourB w base v t) (hb : b2 ≤ base) : TourB w b2 v t := by obtain ⟨x,z,h1,h2,h3⟩ := h.ex;exact ⟨x,z,h1,h2.less hb,h3.less hb⟩
theorem TourB.shut {m0 : Nat} (h : TourB w base v t) (hS : Shut m0 w w') : TourB w' base v t := by obtain ⟨x,z,h1,h2,h3⟩ := h.ex;exact ⟨x,z,h1,h2.shut hS,h3.shut hS⟩
theorem TourB.tourV (h : TourB w base v t) : TourV w w.heap.size v t := by obtain ⟨x,z,h1,h2,h3⟩ := h.ex;exact ⟨x,z,h1,h2.ints,h3.rowsV⟩
theorem TourB.open' (h : TourB w base v t) : ∃ A c A2 c2,v = .agg #[.int .i64 t.n,.slice A t.cl.length c,.slice A2 t.fl.length c2] := by
 obtain ⟨x,z,rfl,h2,h3⟩ := h.ex;obtain ⟨A,c,rfl⟩ := h2.slice;obtain ⟨A2,c2,rfl⟩ := h3.slice;exact ⟨A,c,A2,c2,rfl⟩
end
@[go_sem] theorem eql_nilF (w : World) (a : Option Addr) (n c n' c' : Nat) : (binOp .eql 23 (.slice a n c) (.slice none n' c')).run Tryz.prog w = .ok (.bool a.isNone) w :=
 Lib.run_eql_slice_nil w _ 47 a n c n' c' (by kernel_rfl)
theorem cloneF_c (v : Value) (xs : List Fl) (w : World) (hx : FlawsV w w.heap.size v xs) (hl : xs.length ≤ 1000000000) :
  CallsV Tryz.prog 176 #[v] w fun v' w' => OwnF w' w.heap.size v' xs ∧ Ext w w' := by
 obtain ⟨A,c,rfl,hx,hcap⟩ := hx
 have hA : (∃ b o,A = some ⟨b,o,none⟩ ∧ b < w.heap.size ∧ ∀ i (h : i < xs.length) r u,(encF xs[i])[r]? = some u → w.cell? ⟨b,o + i * 4 + r,none⟩ = some u) ∨ (xs = [] ∧ A = none) ∨ (xs = [] ∧ ∃ a,A = some a) := by
  by_cases h : xs = []
  ·cases A with
   | none => exact .inr (.inl ⟨h,rfl⟩)
   | some a => exact .inr (.inr ⟨h,a,rfl⟩)
  ·exact .inl (hx h)
 rcases hA with ⟨b,o,rfl,hb,hc⟩ | ⟨rfl,rfl⟩ | ⟨rfl,a,rfl⟩
 ·skip;refine Wp.fn Tryz.func176 rfl Tryz.ntmps176 (by simp) ?_;refine Wp.keep [0] ?_;rintro r1 ⟨d,-⟩;simp [go_sem] at d;refine sRg fun K' gd hK => ?_;go_simp;apply hK;clear hK K' gd;refine Wp.keep [0] ?_;rintro r2 ⟨e,-⟩;simp [go_sem,d] at e;clear d;refine Wp.seq ?_;refine sRg fun K' gd hK => ?_;go_simp;apply hK;clear hK K' gd;refine Wp.keep [0,4] ?_;rintro r3 ⟨f,g,-⟩;simp [go_sem,e] at f g;clear e;refine cFf ?_;refine skN ?_;refine sRg fun K' gd hK => ?_;refine cu2 fun K1 hK1 => ?_;go_simp;apply hK1;clear hK1 K1;obtain ⟨v',w',hrun,hown,hg,-⟩ := app_run flaws_T (own0 w 47 4) ⟨b,o,none⟩ xs.length c (encFs xs) 23 (encFs_len xs) (newsF_of fun i h r u hu => cell_al _ (hc i h r u hu)) encFs_one (by omega) (by simp);refine Wops.law rfl (exec_append2 rfl hrun (by go_simp) (by go_simp)) ?_;go_simp;apply hK;clear hK K' gd;refine Wp.keep [2] ?_;rintro r4 ⟨j,-⟩;simp [go_sem,f,g] at j;clear f g;refine Wp.ret ?_;refine endK_tmp Tryz.results176 (by decide) ?_;rw [j];exact ⟨by simpa [OwnF] using hown,Below.grown ((Ext.refl w).alloc _) (own0 w 47 4) hg (Nat.le_refl _) (Nat.le_refl _)⟩
 ·skip;refine Wp.fn Tryz.func176 rfl Tryz.ntmps176 (by simp) ?_;refine Wp.keep [0] ?_;rintro r1 ⟨d,-⟩;simp [go_sem] at d;refine sRg fun K' gd hK => ?_;go_simp;apply hK;clear hK K' gd;refine Wp.keep [0] ?_;rintro r2 ⟨e,-⟩;simp [go_sem,d] at e;clear d;refine Wp.seq ?_;refine sRg fun K' gd hK => ?_;go_simp;apply hK;clear hK K' gd;refine Wp.keep [0,4] ?_;rintro r3 ⟨f,g,-⟩;simp [go_sem,e] at f g;clear e;refine cTt ?_;refine sRg fun K' gd hK => ?_;go_simp;apply hK;clear hK K' gd;refine Wp.keep [2] ?_;rintro r4 ⟨j,-⟩;simp [go_sem,f,g] at j;clear f g;refine Wp.ret ?_;refine tRe ?_;refine endK_tmp Tryz.results176 (by decide) ?_;rw [j];exact ⟨World.ownsRow_nil _ _ _ _,Ext.refl _⟩
 ·skip;refine Wp.fn Tryz.func176 rfl Tryz.ntmps176 (by simp) ?_;refine Wp.keep [0] ?_;rintro r1 ⟨d,-⟩;simp [go_sem] at d;refine sRg fun K' gd hK => ?_;go_simp;apply hK;clear hK K' gd;refine Wp.keep [0] ?_;rintro r2 ⟨e,-⟩;simp [go_sem,d] at e;clear d;refine Wp.seq ?_;refine sRg fun K' gd hK => ?_;go_simp;apply hK;clear hK K' gd;refine Wp.keep [0,4] ?_;rintro r3 ⟨f,g,-⟩;simp [go_sem,e] at f g;clear e;refine cFf ?_;refine skN ?_;refine sRg fun K' gd hK => ?_;refine cu2 fun K1 hK1 => ?_;go_simp;apply hK1;clear hK1 K1;obtain - := trivial;refine Wops.law rfl (exec_append rfl (by go_simp;exact ⟨rfl,rfl⟩)) ?_;go_simp;apply hK;clear hK K' gd;refine Wp.keep [2] ?_;rintro r4 ⟨j,-⟩;simp [go_sem,f,g] at j;clear f g;refine Wp.ret ?_;refine endK_tmp Tryz.results176 (by decide) ?_;rw [j];exact ⟨own0 w 47 4,(Ext.refl w).alloc _⟩
def closedT (t : Tr) (d : Int) : Tr := ⟨t.n,closeL t.cl d,t.fl⟩
theorem closed_c (t : Tr) (d : Int) (v : Value) (w : World) (hV : TourV w w.heap.size v t) (hr : Rising t.cl) (hcl : t.cl.length ≤ 1000) (hfl : t.fl.length ≤ 1000) :
  CallsV Tryz.prog 115 #[v,.int .i64 d] w fun v' w' => TourB w' w.heap.size v' (closedT t d) ∧ Ext w w' := by
 obtain ⟨A,c,A2,c2,rfl,hI,hF⟩ := hV.open';have hIS : IntsS w w.heap.size (.slice A t.cl.length c) t.cl := ⟨hI⟩;have hFS : FlawsS w w.heap.size (.slice A2 t.fl.length c2) t.fl := ⟨hF⟩;obtain ⟨n,hn⟩ : ∃ n,∃ _u : Unit,t.n = n := ⟨_,(),rfl⟩;clear hV hI hF;rw [hn.choose_spec];replace hr : ∃ _u : Unit,_ := ⟨(),hr⟩;have hcl9 : t.cl.length ≤ 1000000000 := by omega
 have hfl9 : t.fl.length ≤ 1000000000 := by omega
 refine Wp.fn Tryz.func115 rfl Tryz.ntmps115 (by simp) ?_;have xw := Ext.refl w;refine Wp.keep [0,1] ?_;rintro r1 ⟨I,J,-⟩;simp [go_sem] at I J;refine sRg fun K' gd hK => ?_;refine cu1 fun K1 hK1 => ?_;go_simp;apply hK1;clear hK1 K1;refine Wops.absT fun av n2 y R2 => ?_;obtain ⟨q2,y,s2,F,f2,r2⟩ := y;try simp only [q2] at F f2 r2 ⊢
 replace R2 := (show RowC _ _ _ _ from R2);replace hIS := hIS.ext y;replace hFS := hFS.ext y;replace xw := xw.trans y;have e := F 0 _ rfl;have o := F 1 _ rfl;have p := F 2 _ rfl;clear F y;clear r2;refine cu1 fun K1 hK1 => ?_;go_simp;apply hK1;clear hK1 K1;refine Wops.absT fun aw n4 u R4 => ?_;obtain ⟨q4,u,s4,G,f4,r4⟩ := u;try simp only [q4] at G f4 r4 ⊢
 replace R4 := (show RowC _ _ _ _ from R4);replace f2 := u.fz e f2;replace hIS := hIS.ext u;replace hFS := hFS.ext u;replace xw := xw.trans u;replace e := u.cell e;replace o := u.cell o;replace p := u.cell p;have a := G 0 _ rfl;have f := G 1 _ rfl;have h := G 2 _ rfl;clear G u;clear r4;try simp only [Wops_nil,updO_some,updO_none]
 apply hK;clear hK K' gd;refine Wp.keep [1,2,4] ?_;rintro r2 ⟨L,T,ab,-⟩;simp [go_sem,I,J] at L T ab;clear I J;refine sRg fun K' gd hK => ?_;refine cu3 fun K1 hK1 => ?_;go_simp;apply hK1;clear hK1 K1;refine Wops.absT fun ap n5 s R5 => ?_;obtain ⟨q5,s,s5,H,f5,r5⟩ := s;try simp only [q5] at H f5 r5 ⊢
 replace R5 := (show RowC _ _ _ _ from R5);replace f2 := s.fz e f2;replace f4 := s.fz a f4;replace hIS := hIS.ext s;replace hFS := hFS.ext s;replace xw := xw.trans s;replace e := s.cell e;replace o := s.cell o;replace p := s.cell p;replace a := s.cell a;replace f := s.cell f;replace h := s.cell h;have k := H 0 _ rfl;have l := H 1 _ rfl;have m := H 2 _ rfl;clear H s;clear r5;try simp only [Wops_nil,updO_some,updO_none]
 apply hK;clear hK K' gd;refine Wp.keep [1,2,4,5] ?_;rintro r3 ⟨M,U,ac,aj,-⟩;simp [go_sem,L,T,ab] at M U ac aj;clear L T ab;obtain ⟨B0,hB0,hB1⟩ : ∃ B0 : Nat,B0 ≤ ap.heap.size ∧ ap.heap.size ≤ B0 := ⟨_,Nat.le_refl _,Nat.le_refl _⟩;refine sRg fun K' gd hK => ?_;refine cu3 fun K1 hK1 => ?_;go_simp;refine Wcall (.inl rfl) (cloneI_c (.slice A t.cl.length c) t.cl _ (hIS.v.more (Below.size (XE))) hcl9) ?_;rintro v w2 ⟨hO0,hE⟩;have hO := OwnI.less hO0 hB0;clear hO0;obtain ⟨A3,c3,rfl⟩ := OwnI.slice hO;go_simp;apply hK1;clear hK1 K1;have z4 := Below.size hE;replace f2 := hE.fz e f2;replace f4 := hE.fz a f4;replace f5 := hE.fz k f5;replace hIS := hIS.ext hE;replace hFS := hFS.ext hE;replace xw := xw.trans hE;replace e := hE.cell e;replace o := hE.cell o;replace p := hE.cell p;replace a := hE.cell a;replace f := hE.cell f;replace h := hE.cell h;replace k := hE.cell k;replace l := hE.cell l;replace m := hE.cell m;clear hE;refine cu2 fun K1 hK1 => ?_;go_simp;apply hK1;clear hK1 K1;refine Wops.absS (b := n5) (i := 1) [_] (somes [cellVal l] (by simp) (by intro j v hj;match j,hj with | 0,hj => (simp at hj;subst hj;exact l))) fun P4 hP4 => ?_
 have zP4 := hP4.same;replace f2 := hP4.frz f2;replace f4 := hP4.frz f4;replace f5 := hP4.frz f5;replace hIS := hIS.put hP4 (by omega);replace hFS := hFS.put hP4 (by omega);replace hO := hO.put hP4 (by omega);replace xw := Put.to xw hP4 (by omega);replace e := hP4.cell e (by omega);replace o := hP4.cell o (by omega);replace p := hP4.cell p (by omega);replace a := hP4.cell a (by omega);replace f := hP4.cell f (by omega);replace h := hP4.cell h (by omega);replace k := Put.cellOff hP4 k (by simp);clear l;replace m := Put.cellOff hP4 m (by simp);have l := hP4.new 0 _ rfl;try simp only [Nat.reduceAdd,Nat.zero_add,Nat.add_zero] at l
 clear hP4;try simp only [Wops_nil,updO_some,updO_none]
 apply hK;clear hK K' gd;refine Wp.keep [1,2,4,5] ?_;rintro r5 ⟨N,V,ad,ak,-⟩;simp [go_sem,M,U,ac,aj] at N V ad ak;clear M U ac aj;refine Wp.seq ?_;refine sRg fun K' gd hK => ?_;refine cu4 fun K1 hK1 => ?_;go_simp;refine Wcall (.inl rfl) (bsearch_c (.slice A3 t.cl.length c3) t.cl d _ hO.intsV hcl9 hr.choose_spec) ?_;rintro v w4 ⟨rfl,hE⟩;go_simp;apply hK1;clear hK1 K1;have z6 := Below.size hE;replace f2 := hE.fz e f2;replace f4 := hE.fz a f4;replace f5 := hE.fz k f5;replace hIS := hIS.ext hE;replace hFS := hFS.ext hE;replace hO := hO.ext hE;replace xw := xw.trans hE;replace e := hE.cell e;replace o := hE.cell o;replace p := hE.cell p;replace a := hE.cell a;replace f := hE.cell f;replace h := hE.cell h;replace k := hE.cell k;replace m := hE.cell m;replace l := hE.cell l;clear hE;go_simp;apply hK;clear hK K' gd;refine Wp.keep [1,2,4,5,6,7] ?_;rintro r7 ⟨z,B,C,D,E,x,-⟩;simp [go_sem,N,V,ad,ak] at z B C D E x;clear N V ad ak
 by_cases hd : d ∈ t.cl
 ·skip;rw [decide_eq_true hd] at x;have hcd : ∃ _u : Unit,closeL t.cl d = t.cl := ⟨(),if_pos hd⟩;refine sRg fun K' gd hK => ?_;go_simp;apply hK;clear hK K' gd;refine Wp.keep [1,2,4,5,6,21] ?_;rintro r8 ⟨O,W,ae,al,an,Q,-⟩;simp [go_sem,z,B,C,D,E,x] at O W ae al an Q;clear z B C D E x;refine cFf ?_;refine skN ?_;refine sRg fun K' gd hK => ?_;refine cu3 fun K1 hK1 => ?_;go_simp;refine Wcall (.inl rfl) (cloneF_c (.slice A2 t.fl.length c2) t.fl _ (hFS.v.more (Below.size (XE))) hfl9) ?_;rintro v w6 ⟨hO6,hE⟩;have hG := OwnF.less (b2 := B0) hO6 (by omega);clear hO6;obtain ⟨A7,c7,rfl⟩ := OwnF.slice hG;go_simp;apply hK1;clear hK1 K1;have z9 := Below.size hE;replace f2 := hE.fz e f2;replace f4 := hE.fz a f4;replace f5 := hE.fz k f5;replace hIS := hIS.ext hE;replace hFS := hFS.ext hE;replace hO := hO.ext hE;replace xw := xw.trans hE;replace e := hE.cell e;replace o := hE.cell o;replace p := hE.cell p;replace a := hE.cell a;replace f := hE.cell f;replace h := hE.cell h;replace k := hE.cell k
  replace m := hE.cell m;replace l := hE.cell l;clear hE;refine cu2 fun K1 hK1 => ?_;go_simp;apply hK1;clear hK1 K1;refine Wops.absS (b := n5) (i := 2) [_] (somes [cellVal m] (by simp) (by intro j v hj;match j,hj with | 0,hj => (simp at hj;subst hj;exact m))) fun P5 hP5 => ?_;have zP5 := hP5.same;replace f2 := hP5.frz f2;replace f4 := hP5.frz f4;replace f5 := hP5.frz f5;replace hIS := hIS.put hP5 (by omega);replace hFS := hFS.put hP5 (by omega);replace hO := hO.put hP5 (by omega);replace hG := hG.put hP5 (by omega);replace xw := Put.to xw hP5 (by omega);replace e := hP5.cell e (by omega);replace o := hP5.cell o (by omega);replace p := hP5.cell p (by omega);replace a := hP5.cell a (by omega);replace f := hP5.cell f (by omega);replace h := hP5.cell h (by omega);replace k := Put.cellOff hP5 k (by simp);clear m;replace l := Put.cellOff hP5 l (by simp);have m := hP5.new 0 _ rfl;try simp only [Nat.reduceAdd,Nat.zero_add,Nat.add_zero] at m
  clear hP5;try simp only [Wops_nil,updO_some,updO_none]
  apply hK;clear hK K' gd;refine Wp.keep [4,5] ?_;rintro r10 ⟨X,af,-⟩;simp [go_sem,O,W,ae,al,an,Q] at X af;clear O W ae al an Q;refine sRg fun K' gd hK => ?_;refine cu2 fun K1 hK1 => ?_;go_simp;apply hK1;clear hK1 K1;refine Wops.absS (b := n4) (i := 0) [_,_,_] (somes [cellVal a,cellVal f,cellVal h] (by simp) (by intro j v hj;match j,hj with | 0,hj => (simp at hj;subst hj;exact a) | 1,hj => (simp at hj;subst hj;exact f) | 2,hj => (simp at hj;subst hj;exact h))) fun P6 hP6 => ?_;have zP6 := hP6.same;replace f2 := hP6.frz f2;replace f4 := hP6.frz f4;replace f5 := hP6.frz f5;replace hIS := hIS.put hP6 (by omega);replace hFS := hFS.put hP6 (by omega);replace hO := hO.put hP6 (by omega);replace hG := hG.put hP6 (by omega);replace xw := Put.to xw hP6 (by omega);replace e := hP6.cell e (by omega);replace o := hP6.cell o (by omega);replace p := hP6.cell p (by omega);clear a;clear f;clear h;replace k := hP6.cell k (by omega);replace l := hP6.cell l (by omega);replace m := hP6.cell m (by omega);have a := hP6.new 0 _ rfl;try simp only [Nat.reduceAdd,Nat.zero_add,Nat.add_zero] at a
  have f := hP6.new 1 _ rfl;try simp only [Nat.reduceAdd,Nat.zero_add,Nat.add_zero] at f
  have h := hP6.new 2 _ rfl;try simp only [Nat.reduceAdd,Nat.zero_add,Nat.add_zero] at h
  clear hP6;try simp only [Wops_nil,updO_some,updO_none]
  apply hK;clear hK K' gd;refine Wp.keep [4] ?_;rintro r11 ⟨aq,-⟩;simp [go_sem,X,af] at aq;clear X af;refine Wp.ret ?_;refine endK_cell (v := .agg #[cellVal a,cellVal f,cellVal h]) Tryz.results115 (by decide) aq (by dsimp only [cellVal];go_simp) ?_
  dsimp only [cellVal]
  exact ⟨⟨_,_,by rw [show (closedT t d).n = n from hn.choose_spec],by unfold closedT;rw [hcd.choose_spec];exact hO.intsB.less (by omega),hG.flawsB.less (by omega)⟩,xw⟩
 ·skip;rw [decide_eq_false hd] at x;have hcd : ∃ _u : Unit,closeL t.cl d = insAt t.cl (posL t.cl d) d := ⟨(),if_neg hd⟩;obtain ⟨g,hg1,hg3,hg2⟩ := own_blk hO (by omega);refine sRg fun K' gd hK => ?_;go_simp;apply hK;clear hK K' gd;refine Wp.keep [1,2,4,5,6,21] ?_;rintro r12 ⟨K,R,Y,ag,am,P,-⟩;simp [go_sem,z,B,C,D,E,x] at K R Y ag am P;clear z B C D E x;refine cTt ?_;refine lRg fun K' gd hK => ?_;refine cu5 fun K1 hK1 => ?_;go_simp;apply hK1;clear hK1 K1;refine Wops.absT fun au n26 r R26 => ?_;obtain ⟨q26,r,s26,ao,f26,r26⟩ := r;try simp only [q26] at ao f26 r26 ⊢
  replace R26 := (show RowC _ _ _ _ from R26);replace f2 := r.fz e f2;replace f4 := r.fz a f4;replace f5 := r.fz k f5;replace hIS := hIS.ext r;replace hFS := hFS.ext r;replace hO := hO.ext r;replace xw := xw.trans r;replace e := r.cell e;replace o := r.cell o;replace p := r.cell p;replace a := r.cell a;replace f := r.cell f;replace h := r.cell h;replace k := r.cell k;replace m := r.cell m;replace l := r.cell l;clear r f26;have ax := ao 0 _ rfl;clear ao;refine cu1 fun K1 hK1 => ?_;go_simp;refine Wcall (.inl rfl) (insert_g (.slice A3 t.cl.length c3) t.cl d (posL t.cl d) n26 1 B0 g _ hO (by omega) hg2 R26 (by omega) (posL_le _ _) hcl) ?_;rintro v w6 ⟨hO5,hC⟩;obtain ⟨A4,c4,rfl⟩ := OwnI.slice hO5;rw [insAt_len] at hO5;go_simp;apply hK1;clear hK1 K1;have z13 := Chg.size hC;replace f2 := Chg.fz hC e f2 XN;replace f4 := Chg.fz hC a f4 XN;replace f5 := Chg.fz hC k f5 XN;replace hIS := hIS.chg hC XB;replace hFS := hFS.chg hC XB;replace xw := Chg.to xw hC XL;replace e := Chg.cell hC e XN;replace o := Chg.cell hC o XN;replace p := Chg.cell hC p XN;replace a := Chg.cell hC a XN;replace f := Chg.cell hC f XN
  replace h := Chg.cell hC h XN;replace k := Chg.cell hC k XN;replace m := Chg.cell hC m XN;replace l := Chg.cell hC l XN;refine cu2 fun K1 hK1 => ?_;go_simp;apply hK1;clear hK1 K1;refine Wops.absS (b := n5) (i := 1) [_] (somes [cellVal l] (by simp) (by intro j v hj;match j,hj with | 0,hj => (simp at hj;subst hj;exact l))) fun P9 hP9 => ?_;have zP9 := hP9.same;replace f2 := hP9.frz f2;replace f4 := hP9.frz f4;replace f5 := hP9.frz f5;replace hIS := hIS.put hP9 (by omega);replace hFS := hFS.put hP9 (by omega);replace hO5 := hO5.put hP9 (by omega);replace xw := Put.to xw hP9 (by omega);replace e := hP9.cell e (by omega);replace o := hP9.cell o (by omega);replace p := hP9.cell p (by omega);replace a := hP9.cell a (by omega);replace f := hP9.cell f (by omega);replace h := hP9.cell h (by omega);replace k := Put.cellOff hP9 k (by simp);replace m := Put.cellOff hP9 m (by simp);clear l;have l := hP9.new 0 _ rfl;try simp only [Nat.reduceAdd,Nat.zero_add,Nat.add_zero] at l
  clear hP9;try simp only [Wops_nil,updO_some,updO_none]
  apply hK;clear hK K' gd;refine Ends.keep [2,4,5] ?_;rintro r14 ⟨S,Z,ah,-⟩;simp [go_sem,K,R,Y,ag,am,P] at S Z ah;clear K R Y ag am P;refine Ends.mk ?_;refine tNo ?_;refine sRg fun K' gd hK => ?_;refine cu3 fun K1 hK1 => ?_;go_simp;refine Wcall (.inl rfl) (cloneF_c (.slice A2 t.fl.length c2) t.fl _ (hFS.v.more (Below.size (XE))) hfl9) ?_;rintro v w7 ⟨hO6,hE⟩;have hG := OwnF.less (b2 := B0) hO6 (by omega);clear hO6;obtain ⟨A7,c7,rfl⟩ := OwnF.slice hG;go_simp;apply hK1;clear hK1 K1;have z15 := Below.size hE;replace f2 := hE.fz e f2;replace f4 := hE.fz a f4;replace f5 := hE.fz k f5;replace hIS := hIS.ext hE;replace hFS := hFS.ext hE;replace hO5 := hO5.ext hE;replace xw := xw.trans hE;replace e := hE.cell e;replace o := hE.cell o;replace p := hE.cell p;replace a := hE.cell a;replace f := hE.cell f;replace h := hE.cell h;replace k := hE.cell k;replace m := hE.cell m;replace l := hE.cell l;clear hE;refine cu2 fun K1 hK1 => ?_;go_simp;apply hK1;clear hK1 K1
  refine Wops.absS (b := n5) (i := 2) [_] (somes [cellVal m] (by simp) (by intro j v hj;match j,hj with | 0,hj => (simp at hj;subst hj;exact m))) fun P10 hP10 => ?_;have zP10 := hP10.same;replace f2 := hP10.frz f2;replace f4 := hP10.frz f4;replace f5 := hP10.frz f5;replace hIS := hIS.put hP10 (by omega);replace hFS := hFS.put hP10 (by omega);replace hO5 := hO5.put hP10 (by omega);replace hG := hG.put hP10 (by omega);replace xw := Put.to xw hP10 (by omega);replace e := hP10.cell e (by omega);replace o := hP10.cell o (by omega);replace p := hP10.cell p (by omega);replace a := hP10.cell a (by omega);replace f := hP10.cell f (by omega);replace h := hP10.cell h (by omega);replace k := Put.cellOff hP10 k (by simp);clear m;replace l := Put.cellOff hP10 l (by simp);have m := hP10.new 0 _ rfl;try simp only [Nat.reduceAdd,Nat.zero_add,Nat.add_zero] at m
  clear hP10;try simp only [Wops_nil,updO_some,updO_none]
  apply hK;clear hK K' gd;refine Wp.keep [4,5] ?_;rintro r16 ⟨aa,ai,-⟩;simp [go_sem,S,Z,ah] at aa ai;clear S Z ah;refine sRg fun K' gd hK => ?_;refine cu2 fun K1 hK1 => ?_;go_simp;apply hK1;clear hK1 K1;refine Wops.absS (b := n4) (i := 0) [_,_,_] (somes [cellVal a,cellVal f,cellVal h] (by simp) (by intro j v hj;match j,hj with | 0,hj => (simp at hj;subst hj;exact a) | 1,hj => (simp at hj;subst hj;exact f) | 2,hj => (simp at hj;subst hj;exact h))) fun P11 hP11 => ?_;have zP11 := hP11.same;replace f2 := hP11.frz f2;replace f4 := hP11.frz f4;replace f5 := hP11.frz f5;replace hIS := hIS.put hP11 (by omega);replace hFS := hFS.put hP11 (by omega);replace hO5 := hO5.put hP11 (by omega);replace hG := hG.put hP11 (by omega);replace xw := Put.to xw hP11 (by omega);replace e := hP11.cell e (by omega);replace o := hP11.cell o (by omega);replace p := hP11.cell p (by omega);clear a;clear f;clear h;replace k := hP11.cell k (by omega);replace l := hP11.cell l (by omega);replace m := hP11.cell m (by omega);have a := hP11.new 0 _ rfl;try simp only [Nat.reduceAdd,Nat.zero_add,Nat.add_zero] at a
  have f := hP11.new 1 _ rfl;try simp only [Nat.reduceAdd,Nat.zero_add,Nat.add_zero] at f
  have h := hP11.new 2 _ rfl;try simp only [Nat.reduceAdd,Nat.zero_add,Nat.add_zero] at h
  clear hP11;try simp only [Wops_nil,updO_some,updO_none]
  apply hK;clear hK K' gd;refine Wp.keep [4] ?_;rintro r17 ⟨ar,-⟩;simp [go_sem,aa,ai] at ar;clear aa ai;refine Wp.ret ?_;refine endK_cell (v := .agg #[cellVal a,cellVal f,cellVal h]) Tryz.results115 (by decide) ar (by dsimp only [cellVal];go_simp) ?_
  dsimp only [cellVal]
  exact ⟨⟨_,_,by rw [show (closedT t d).n = n from hn.choose_spec],by unfold closedT;rw [hcd.choose_spec];have q := (OwnI.intsB hO5).less (b2 := w.heap.size) (by omega);rw [insAt_len];exact q,hG.flawsB.less (by omega)⟩,xw⟩
def keepN (l : List Int) (fl : List Fl) : Nat → List Fl
 | 0 => []
 | k + 1 => if (k : Int) ∈ l then keepN l fl k else keepN l fl k ++ (fl[k]?).toList
theorem keepN_in {l : List Int} {fl : List Fl} {k : Nat} (h : (k : Int) ∈ l) : keepN l fl (k + 1) = keepN l fl k := if_pos h
theorem keepN_out {l : List Int} {fl : List Fl} {k : Nat} (h : ¬ (k : Int) ∈ l) (hk : k < fl.length) : keepN l fl (k + 1) = keepN l fl k ++ [fl[k]] := by
 rw [keepN,if_neg h,List.getElem?_eq_getElem hk];rfl
theorem keepN_len {l : List Int} {fl : List Fl} : ∀ k,(keepN l fl k).length ≤ k
 | 0 => Nat.le_refl _
 | k + 1 => by
   have := keepN_len (l := l) (fl := fl) k;unfold keepN
   split
   ·omega
   ·rw [List.length_append];have : (fl[k]?).toList.length ≤ 1 := by cases fl[k]? <;> simp
    omega
def withoutT (t : Tr) (l : List Int) : Tr := ⟨t.n,t.cl,keepN l t.fl t.fl.length⟩
theorem newsG {w : World} {b : Nat} {f : Fl} (x0 : w.cell? ⟨b,0,none⟩ = some (.int .i64 f.id)) (x1 : w.cell? ⟨b,1,none⟩ = some (.int .i64 f.lo)) (x2 : w.cell? ⟨b,2,none⟩ = some (.int .i64 f.hi)) (x3 : w.cell? ⟨b,3,none⟩ = some (.int .i64 f.m)) :
  ∀ j u,(encF f)[j]? = some u → w.cell? ((⟨b,0,none⟩ : Addr).add j) = some u := by
 intro j u hu;rw [Addr.add_lit,Nat.zero_add]
 match j,hu with
 | 0,hu => injection hu with hu;subst hu;exact x0
 | 1,hu => injection hu with hu;subst hu;exact x1
 | 2,hu => injection hu with hu;subst hu;exact x2
 | 3,hu => injection hu with hu;subst hu;exact x3
 | j + 4,hu => exact absurd hu (by simp [encF])
structure IntsW (w : World) (lo hi : Nat) (v : Value) (xs : List Int) : Prop where
 ex : ∃ (A : Option Addr) (c : Nat),v = .slice A xs.length c ∧ (xs ≠ [] → ∃ b o,A = some ⟨b,o,none⟩ ∧ lo ≤ b ∧ b < hi ∧ ∀ k (h : k < xs.length),w.cell? ⟨b,o + k,none⟩ = some (.int .i64 xs[k])) ∧ xs.length ≤ c
theorem IntsW.chg {w w' : World} {lo hi : Nat} {v : Value} {xs : List Int} {L : List Nat} (h : IntsW w lo hi v xs) (hC : Chg L w w') (hL : ∀ b,lo ≤ b ∧ b < hi → b ∉ L) : IntsW w' lo hi v xs := by
 obtain ⟨A,c,hv,hx,hcap⟩ := h.ex
 exact ⟨A,c,hv,fun hne => by
  obtain ⟨b,o,hA,h1,h2,hc⟩ := hx hne
  exact ⟨b,o,hA,h1,h2,fun k hk => Chg.cell hC (hc k hk) (hL b ⟨h1,h2⟩)⟩,hcap⟩
theorem IntsW.ext {w w' : World} {lo hi : Nat} {v : Value} {xs : List Int} (h : IntsW w lo hi v xs) (hE : Ext w w') : IntsW w' lo hi v xs := h.chg ((Chg.refl [] w).ext hE) (by simp)
theorem IntsW.put {w w' : World} {lo hi k i : Nat} {v : Value} {xs : List Int} {vs : List Value} (h : IntsW w lo hi v xs) (p : Put w w' k i vs) (hb : k < lo ∨ hi ≤ k) : IntsW w' lo hi v xs := h.chg p.chg (by intro b hb2 hm;simp at hm;omega)
theorem IntsW.of {w : World} {base hi : Nat} {v : Value} {xs : List Int} (h : IntsB w base v xs) (hh : w.heap.size ≤ hi) : IntsW w base hi v xs := by
 obtain ⟨A,c,hv,hx,hcap⟩ := h
 exact ⟨A,c,hv,fun hne => by
  obtain ⟨b,o,hA,h1,h2,hc⟩ := hx hne
  exact ⟨b,o,hA,h1,by omega,hc⟩,hcap⟩
theorem IntsW.intsB {w : World} {lo hi : Nat} {v : Value} {xs : List Int} (h : IntsW w lo hi v xs) : IntsB w lo v xs := by
 obtain ⟨A,c,hv,hx,hcap⟩ := h.ex
 exact ⟨A,c,hv,fun hne => by
  obtain ⟨b,o,hA,h1,h2,hc⟩ := hx hne
  exact ⟨b,o,hA,h1,cell_lt (hc 0 (List.length_pos_iff.2 hne)),hc⟩,hcap⟩
theorem IntsW.lo {w : World} {lo lo2 hi : Nat} {v : Value} {xs : List Int} (h : IntsW w lo hi v xs) (hl : lo2 ≤ lo) : IntsW w lo2 hi v xs := by
 obtain ⟨A,c,hv,hx,hcap⟩ := h.ex
 exact ⟨A,c,hv,fun hne => by
  obtain ⟨b,o,hA,h1,h2,hc⟩ := hx hne
  exact ⟨b,o,hA,by omega,h2,hc⟩,hcap⟩
theorem without2_c (t : Tr) (l : List Int) (v lv : Value) (w : World) (hV : TourV w w.heap.size v t) (hL : IntsV w w.heap.size lv l) (hl : l.length ≤ 1000) (hcl : t.cl.length ≤ 1000) (hfl : t.fl.length ≤ 1000) :
  CallsV Tryz.prog 103 #[v,lv] w fun v' w' => (∃ cv fv B0,v' = .agg #[.int .i64 t.n,cv,fv] ∧ IntsW w' w.heap.size B0 cv t.cl ∧ OwnF w' B0 fv (withoutT t l).fl ∧ w.heap.size ≤ B0) ∧ Ext w w' := by
 obtain ⟨A,c,A2,c2,rfl,hI,hF⟩ := hV.open';obtain ⟨A1,c1,rfl,-,-⟩ := id hL;have hIS : IntsS w w.heap.size (.slice A t.cl.length c) t.cl := ⟨hI⟩;have hFS : FlawsS w w.heap.size (.slice A2 t.fl.length c2) t.fl := ⟨hF⟩;have hLS : IntsS w w.heap.size (.slice A1 l.length c1) l := ⟨hL⟩;obtain ⟨n,hn⟩ : ∃ n,∃ _u : Unit,t.n = n := ⟨_,(),rfl⟩;clear hV hI hF hL;rw [hn.choose_spec];have hcl9 : t.cl.length ≤ 1000000000 := by omega
 have hl9 : l.length ≤ 1000000000000000 := by omega
 refine Wp.fn Tryz.func103 rfl Tryz.ntmps103 (by simp) ?_;have xw := Ext.refl w;refine Wp.keep [0,1] ?_;rintro r1 ⟨ad,ap,-⟩;simp [go_sem] at ad ap;refine sRg fun K' gd hK => ?_;refine cu1 fun K1 hK1 => ?_;go_simp;apply hK1;clear hK1 K1;refine Wops.absA fun bf n2 D => ?_;obtain ⟨q2,D,s2,V,f2,r2⟩ := D;try simp only [q2] at V f2 r2 ⊢
 replace hIS := hIS.ext D;replace hFS := hFS.ext D;replace hLS := hLS.ext D;replace xw := xw.trans D;have d := V 0 _ rfl;have p := V 1 _ rfl;have q := V 2 _ rfl;clear V D;clear r2;refine cu1 fun K1 hK1 => ?_;go_simp;apply hK1;clear hK1 K1;refine Wops.absA fun bg n4 C => ?_;obtain ⟨q4,C,s4,W,f4,r4⟩ := C;try simp only [q4] at W f4 r4 ⊢
 replace f2 := C.fz d f2;replace hIS := hIS.ext C;replace hFS := hFS.ext C;replace hLS := hLS.ext C;replace xw := xw.trans C;replace d := C.cell d;replace p := C.cell p;replace q := C.cell q;have a := W 0 _ rfl;have h := W 1 _ rfl;have m := W 2 _ rfl;clear W C;clear r4;try simp only [Wops_nil,updO_some,updO_none]
 apply hK;clear hK K' gd;refine Wp.keep [1,2,4] ?_;rintro r2 ⟨av,aB,aH,-⟩;simp [go_sem,ad,ap] at av aB aH;clear ad ap;refine sRg fun K' gd hK => ?_;refine cu3 fun K1 hK1 => ?_;go_simp;apply hK1;clear hK1 K1;refine Wops.absA fun bh n5 s => ?_;obtain ⟨q5,s,s5,X,f5,r5⟩ := s;try simp only [q5] at X f5 r5 ⊢
 replace f2 := s.fz d f2;replace f4 := s.fz a f4;replace hIS := hIS.ext s;replace hFS := hFS.ext s;replace hLS := hLS.ext s;replace xw := xw.trans s;replace d := s.cell d;replace p := s.cell p;replace q := s.cell q;replace a := s.cell a;replace h := s.cell h;replace m := s.cell m;have e := X 0 _ rfl;have o := X 1 _ rfl;have f := X 2 _ rfl;clear X s;clear r5;try simp only [Wops_nil,updO_some,updO_none]
 apply hK;clear hK K' gd;refine Wp.keep [1,2,4,5] ?_;rintro r3 ⟨aw,aC,aI,aO,-⟩;simp [go_sem,av,aB,aH] at aw aC aI aO;clear av aB aH;refine sRg fun K' gd hK => ?_;refine cu3 fun K1 hK1 => ?_;go_simp;refine Wcall (.inl rfl) (cloneI_c (.slice A t.cl.length c) t.cl _ (hIS.v.more (Below.size (XE))) hcl9) ?_;rintro v w2 ⟨hO0,hE⟩;have hO := (OwnI.intsB hO0).less (b2 := n5 + 1) (by omega);clear hO0;obtain ⟨A3,c3,rfl⟩ := hO.slice;go_simp;apply hK1;clear hK1 K1;have z4 := Below.size hE;replace f2 := hE.fz d f2;replace f4 := hE.fz a f4;replace f5 := hE.fz e f5;replace hIS := hIS.ext hE;replace hFS := hFS.ext hE;replace hLS := hLS.ext hE;replace xw := xw.trans hE;replace d := hE.cell d;replace p := hE.cell p;replace q := hE.cell q;replace a := hE.cell a;replace h := hE.cell h;replace m := hE.cell m;replace e := hE.cell e;replace o := hE.cell o;replace f := hE.cell f;clear hE;refine cu2 fun K1 hK1 => ?_;go_simp;apply hK1;clear hK1 K1;refine Wops.absS (b := n5) (i := 1) [_] (somes [cellVal o] (by simp) (by intro j v hj;match j,hj with | 0,hj => (simp at hj;subst hj;exact o))) fun P4 hP4 => ?_
 have zP4 := hP4.same;replace f2 := hP4.frz f2;replace f4 := hP4.frz f4;replace f5 := hP4.frz f5;replace hIS := hIS.put hP4 (by omega);replace hFS := hFS.put hP4 (by omega);replace hLS := hLS.put hP4 (by omega);replace hO := hO.put hP4 (by omega);replace xw := Put.to xw hP4 (by omega);replace d := hP4.cell d (by omega);replace p := hP4.cell p (by omega);replace q := hP4.cell q (by omega);replace a := hP4.cell a (by omega);replace h := hP4.cell h (by omega);replace m := hP4.cell m (by omega);replace e := Put.cellOff hP4 e (by simp);clear o;replace f := Put.cellOff hP4 f (by simp);have o := hP4.new 0 _ rfl;try simp only [Nat.reduceAdd,Nat.zero_add,Nat.add_zero] at o
 clear hP4;refine cu2 fun K1 hK1 => ?_;go_simp;apply hK1;clear hK1 K1;refine Wops.absS (b := n5) (i := 2) [_] (somes [cellVal f] (by simp) (by intro j v hj;match j,hj with | 0,hj => (simp at hj;subst hj;exact f))) fun P5 hP5 => ?_;have zP5 := hP5.same;replace f2 := hP5.frz f2;replace f4 := hP5.frz f4;replace f5 := hP5.frz f5;replace hIS := hIS.put hP5 (by omega);replace hFS := hFS.put hP5 (by omega);replace hLS := hLS.put hP5 (by omega);replace hO := hO.put hP5 (by omega);replace xw := Put.to xw hP5 (by omega);replace d := hP5.cell d (by omega);replace p := hP5.cell p (by omega);replace q := hP5.cell q (by omega);replace a := hP5.cell a (by omega);replace h := hP5.cell h (by omega);replace m := hP5.cell m (by omega);replace e := Put.cellOff hP5 e (by simp);clear f;replace o := Put.cellOff hP5 o (by simp);have f := hP5.new 0 _ rfl;try simp only [Nat.reduceAdd,Nat.zero_add,Nat.add_zero] at f
 clear hP5;try simp only [Wops_nil,updO_some,updO_none]
 apply hK;clear hK K' gd;refine Wp.keep [1,2,4,5] ?_;rintro r5 ⟨ax,aD,aJ,aP,-⟩;simp [go_sem,aw,aC,aI,aO] at ax aD aJ aP;clear aw aC aI aO;obtain ⟨B0,hB0,hB1,hB2⟩ : ∃ B,n5 < B ∧ B ≤ P5.heap.size ∧ P5.heap.size ≤ B := ⟨P5.heap.size,cell_lt e,Nat.le_refl _,Nat.le_refl _⟩;replace hO := IntsW.of (hi := B0) hO hB2;refine Wp.seq ?_;refine sRg fun K' gd hK => ?_;go_simp;apply hK;clear hK K' gd;refine Wp.keep [1,4,5,15,16,17] ?_;rintro r6 ⟨aa,ab,ac,Y,Z,aZ,-⟩;simp [go_sem,ax,aD,aJ,aP] at aa ab ac Y Z aZ;clear ax aD aJ aP;refine Wp.block ?_;refine Wp.loop (fun k ρ ds wk => AllEq [1,4,5,15,16] ρ r6 ∧ ds = [] ∧ (Chg [n5] P5 wk ∧ (∀ i,wk.frozen? ⟨n5,i,none⟩ = false)) ∧ (∃ v,ρ 17 = .int .i64 (k : Int) ∧ wk.cell? ⟨n5,0,none⟩ = some (.int .i64 n) ∧ wk.cell? ⟨n5,1,none⟩ = some (.slice A3 t.cl.length c3) ∧ wk.cell? ⟨n5,2,none⟩ = some v ∧ OwnF wk B0 v (keepN l t.fl k))) (t.fl.length) ?_ ?_
 ·refine ⟨AllEq.refl _ _,rfl,⟨Chg.refl _ _,f5⟩,?_⟩;exact ⟨_,by rw [aZ];rfl,e,o,f,World.ownsRow_nil _ _ _ _⟩
 ·rintro k r7 _ wk hk ⟨hA,rfl,⟨xo,gf5⟩,⟨v5,e17,a7,a8,a9,hO9⟩⟩;obtain ⟨ay,aK,aQ,ah,al,-⟩ := hA;rw [aa] at ay;rw [ab] at aK;rw [ac] at aQ;rw [Y] at ah;rw [Z] at al;have zxo := Chg.size xo;replace f2 := Chg.fz xo d f2 XN;replace f4 := Chg.fz xo a f4 XN;clear f5;replace hIS := hIS.chg xo XB;replace hFS := hFS.chg xo XB;replace hLS := hLS.chg xo XB;replace hO := hO.chg xo XB;replace xw := Chg.to xw xo XL;replace d := Chg.cell xo d XN;replace p := Chg.cell xo p XN;replace q := Chg.cell xo q XN;replace a := Chg.cell xo a XN;replace h := Chg.cell xo h XN;replace m := Chg.cell xo m XN;clear e;clear o;clear f;have f5 := gf5;clear gf5;have e := a7;clear a7;have o := a8;clear a8;have f := a9;clear a9;have q8 := keepN_len (l := l) (fl := t.fl) k;obtain ⟨A5,c5,rfl⟩ := OwnF.slice hO9;refine sRg fun K' gd hK => ?_;go_simp;apply hK;clear hK K' gd;refine Wp.keep [1,4,5,15,16,17,18] ?_;rintro r8 ⟨N,P,R,G,I,K,M,-⟩;simp [go_sem,ay,aK,aQ,ah,al,e17] at N P R G I K M;clear ay aK aQ ah al e17;refine Wp.seq ?_
  by_cases hk2 : k < t.fl.length
  ·refine cTt ?_;have hkl : (k : Int) < (t.fl.length : Int) := by omega
   obtain ⟨b2,o2,eA,hb2,x0,x1,x2,x3⟩ := FlawsV.at hFS.v hk2;subst eA;have xv := Ext.refl wk;refine skN ?_;refine sBk ?_;refine sRg fun K' gd hK => ?_;refine cu4 fun K1 hK1 => ?_;go_simp;apply hK1;clear hK1 K1;refine Wops.absA fun bi n7 r => ?_;obtain ⟨q7,r,s7,F,f7,r7⟩ := r;try simp only [q7] at F f7 r7 ⊢
   replace f2 := r.fz d f2;replace f4 := r.fz a f4;replace f5 := r.fz e f5;replace hIS := hIS.ext r;replace hFS := hFS.ext r;replace hLS := hLS.ext r;replace hO := hO.ext r;replace xw := xw.trans r;replace xo := Chg.ext xo r;replace xv := xv.trans r;replace d := r.cell d;replace p := r.cell p;replace q := r.cell q;replace a := r.cell a;replace h := r.cell h;replace m := r.cell m;replace e := r.cell e;replace o := r.cell o;replace f := r.cell f;replace x0 := r.cell x0;replace x1 := r.cell x1;replace x2 := r.cell x2;replace x3 := r.cell x3;have u := F 0 _ rfl;have x := F 1 _ rfl;have y := F 2 _ rfl;have z := F 3 _ rfl;clear F r;clear r7;refine cu2 fun K1 hK1 => ?_;go_simp;apply hK1;clear hK1 K1;refine Wops.absS (b := n7) (i := 0) [_,_,_,_] (somes [cellVal u,cellVal x,cellVal y,cellVal z] (by simp) (by intro j v hj;match j,hj with | 0,hj => (simp at hj;subst hj;exact u) | 1,hj => (simp at hj;subst hj;exact x) | 2,hj => (simp at hj;subst hj;exact y) | 3,hj => (simp at hj;subst hj;exact z))) fun P9 hP9 => ?_;have zP9 := hP9.same;replace f2 := hP9.frz f2
   replace f4 := hP9.frz f4;replace f5 := hP9.frz f5;replace f7 := hP9.frz f7;replace hIS := hIS.put hP9 (by omega);replace hFS := hFS.put hP9 (by omega);replace hLS := hLS.put hP9 (by omega);replace hO := hO.put hP9 (by omega);replace xw := Put.to xw hP9 (by omega);replace xo := Put.more xo hP9 (.inl (by omega));replace xv := Put.to xv hP9 (by omega);replace d := hP9.cell d (by omega);replace p := hP9.cell p (by omega);replace q := hP9.cell q (by omega);replace a := hP9.cell a (by omega);replace h := hP9.cell h (by omega);replace m := hP9.cell m (by omega);replace e := hP9.cell e (by omega);replace o := hP9.cell o (by omega);replace f := hP9.cell f (by omega);replace x0 := hP9.cell x0 (by omega);replace x1 := hP9.cell x1 (by omega);replace x2 := hP9.cell x2 (by omega);replace x3 := hP9.cell x3 (by omega);clear u;clear x;clear y;clear z;have u := hP9.new 0 _ rfl;try simp only [Nat.reduceAdd,Nat.zero_add,Nat.add_zero] at u
   have x := hP9.new 1 _ rfl;try simp only [Nat.reduceAdd,Nat.zero_add,Nat.add_zero] at x
   have y := hP9.new 2 _ rfl;try simp only [Nat.reduceAdd,Nat.zero_add,Nat.add_zero] at y
   have z := hP9.new 3 _ rfl;try simp only [Nat.reduceAdd,Nat.zero_add,Nat.add_zero] at z
   clear hP9;try simp only [Wops_nil,updO_some,updO_none]
   apply hK;clear hK K' gd;refine Wp.keep [1,4,5,6,7,15,16,17] ?_;rintro r9 ⟨O,Q,S,T,U,H,J,L,-⟩;simp [go_sem,N,P,R,G,I,K,M] at O Q S T U H J L;clear N P R G I K M;replace hO9 := OwnF.ext hO9 xv
   by_cases hin : (k : Int) ∈ l
   ·skip;refine sRg fun K' gd hK => ?_;refine cu3 fun K1 hK1 => ?_;go_simp;refine Wcall (.inl rfl) (contains_c (.slice A1 l.length c1) l (k : Int) _ (hLS.v.more (Below.size (XE))) hl9) ?_;rintro v w3 ⟨hv,hE⟩;rw [decide_eq_true hin] at hv;subst hv;go_simp;apply hK1;clear hK1 K1;have z10 := Below.size hE;replace f2 := hE.fz d f2;replace f4 := hE.fz a f4;replace f5 := hE.fz e f5;replace f7 := hE.fz u f7;replace hIS := hIS.ext hE;replace hFS := hFS.ext hE;replace hLS := hLS.ext hE;replace hO := hO.ext hE;replace hO9 := hO9.ext hE;replace xw := xw.trans hE;replace xo := Chg.ext xo hE;replace d := hE.cell d;replace p := hE.cell p;replace q := hE.cell q;replace a := hE.cell a;replace h := hE.cell h;replace m := hE.cell m;replace e := hE.cell e;replace o := hE.cell o;replace f := hE.cell f;replace x0 := hE.cell x0;replace x1 := hE.cell x1;replace x2 := hE.cell x2;replace x3 := hE.cell x3;replace u := hE.cell u;replace x := hE.cell x;replace y := hE.cell y;replace z := hE.cell z;clear hE;go_simp;apply hK;clear hK K' gd;refine Wp.keep [1,4,5,7,15,16,17,25] ?_;rintro r11 ⟨aq,aE,aL,aR,ae,ai,am,az,-⟩
    simp [go_sem,O,Q,S,T,U,H,J,L] at aq aE aL aR ae ai am az;clear O Q S T U H J L;refine cFf ?_;refine Wp.skip ?_;refine bNo ?_;refine tNo ?_;refine lRg fun K' gd hK => ?_;go_simp;apply hK;clear hK K' gd;refine Ends.keep [1,4,5,15,16,17] ?_;rintro r12 ⟨a0,a2,a5,aT,aV,aX,-⟩;simp [go_sem,aq,aE,aL,aR,ae,ai,am,az] at a0 a2 a5 aT aV aX;clear aq aE aL aR ae ai am az;refine Ends.mk ?_;refine thenK_normal ⟨by omega,⟨by rw [a0,aa],by rw [a2,ab],by rw [a5,ac],by rw [aT,Y],by rw [aV,Z],trivial⟩,rfl,⟨xo,f5⟩,?_⟩;exact ⟨_,by rw [aX,IntWalk.i64_in _ (by omega)];rfl,e,o,f,by rw [keepN_in hin];exact hO9⟩
   ·skip;refine sRg fun K' gd hK => ?_;refine cu3 fun K1 hK1 => ?_;go_simp;refine Wcall (.inl rfl) (contains_c (.slice A1 l.length c1) l (k : Int) _ (hLS.v.more (Below.size (XE))) hl9) ?_;rintro v w3 ⟨hv,hE⟩;rw [decide_eq_false hin] at hv;subst hv;go_simp;apply hK1;clear hK1 K1;have z13 := Below.size hE;replace f2 := hE.fz d f2;replace f4 := hE.fz a f4;replace f5 := hE.fz e f5;replace f7 := hE.fz u f7;replace hIS := hIS.ext hE;replace hFS := hFS.ext hE;replace hLS := hLS.ext hE;replace hO := hO.ext hE;replace hO9 := hO9.ext hE;replace xw := xw.trans hE;replace xo := Chg.ext xo hE;replace d := hE.cell d;replace p := hE.cell p;replace q := hE.cell q;replace a := hE.cell a;replace h := hE.cell h;replace m := hE.cell m;replace e := hE.cell e;replace o := hE.cell o;replace f := hE.cell f;replace x0 := hE.cell x0;replace x1 := hE.cell x1;replace x2 := hE.cell x2;replace x3 := hE.cell x3;replace u := hE.cell u;replace x := hE.cell x;replace y := hE.cell y;replace z := hE.cell z;clear hE;go_simp;apply hK;clear hK K' gd;refine Wp.keep [1,4,5,7,15,16,17,25] ?_;rintro r14 ⟨ar,aF,aM,aS,af,aj,an,aA,-⟩
    simp [go_sem,O,Q,S,T,U,H,J,L] at ar aF aM aS af aj an aA;clear O Q S T U H J L;refine cTt ?_;refine lRg fun K' gd hK => ?_;refine cu4 fun K1 hK1 => ?_;go_simp;apply hK1;clear hK1 K1;refine Wops.absA fun be n29 g => ?_;obtain ⟨q29,g,s29,E,f29,r29⟩ := g;try simp only [q29] at E f29 r29 ⊢
    replace f2 := g.fz d f2;replace f4 := g.fz a f4;replace f5 := g.fz e f5;replace f7 := g.fz u f7;replace hIS := hIS.ext g;replace hFS := hFS.ext g;replace hLS := hLS.ext g;replace hO := hO.ext g;replace hO9 := hO9.ext g;replace xw := xw.trans g;replace xo := Chg.ext xo g;replace d := g.cell d;replace p := g.cell p;replace q := g.cell q;replace a := g.cell a;replace h := g.cell h;replace m := g.cell m;replace e := g.cell e;replace o := g.cell o;replace f := g.cell f;replace x0 := g.cell x0;replace x1 := g.cell x1;replace x2 := g.cell x2;replace x3 := g.cell x3;replace u := g.cell u;replace x := g.cell x;replace y := g.cell y;replace z := g.cell z;clear g f29;have ba := E 0 _ rfl;have bb := E 1 _ rfl;have bc := E 2 _ rfl;have bd := E 3 _ rfl;clear E;refine cu1 fun K1 hK1 => ?_;obtain ⟨v',w7,hrun,hO2,hgr,-⟩ := app_run flaws_T hO9 ⟨n29,0,none⟩ 1 1 (encF t.fl[k]) 23 rfl (newsG ba bb bc bd) encF_one (by omega) (by omega);refine Wops.law rfl (exec_append2 rfl hrun (by go_simp) (by go_simp)) ?_
    simp only [updO_some,Wops_nil];apply hK1;clear hK1 K1;have z15 := World.grownBy.size hgr;replace f2 := Chg.fz (grown_chg hgr) d f2 (lt_off (World.ownsRow.lt hO9) (by omega));replace f4 := Chg.fz (grown_chg hgr) a f4 (lt_off (World.ownsRow.lt hO9) (by omega));replace f5 := Chg.fz (grown_chg hgr) e f5 (lt_off (World.ownsRow.lt hO9) (by omega));replace hIS := hIS.chg (grown_chg hgr) (by first | (intro b hb;exact lt_off (World.ownsRow.lt hO9) (by omega)) | exact lt_off (World.ownsRow.lt hO9) (by omega) | exact lt_ge (World.ownsRow.lt hO9) (by omega) | exact fun b hb => .inr (lt_ge (World.ownsRow.lt hO9) (by omega) b hb));replace hFS := hFS.chg (grown_chg hgr) (by first | (intro b hb;exact lt_off (World.ownsRow.lt hO9) (by omega)) | exact lt_off (World.ownsRow.lt hO9) (by omega) | exact lt_ge (World.ownsRow.lt hO9) (by omega) | exact fun b hb => .inr (lt_ge (World.ownsRow.lt hO9) (by omega) b hb));replace hLS := hLS.chg (grown_chg hgr) (by first | (intro b hb;exact lt_off (World.ownsRow.lt hO9) (by omega)) | exact lt_off (World.ownsRow.lt hO9) (by omega) | exact lt_ge (World.ownsRow.lt hO9) (by omega) | exact fun b hb => .inr (lt_ge (World.ownsRow.lt hO9) (by omega) b hb));replace hO := hO.chg (grown_chg hgr) (by first | (intro b hb;exact lt_off (World.ownsRow.lt hO9) (by omega)) | exact lt_off (World.ownsRow.lt hO9) (by omega) | exact lt_ge (World.ownsRow.lt hO9) (by omega) | exact fun b hb => .inr (lt_ge (World.ownsRow.lt hO9) (by omega) b hb))
    replace xw := Chg.to xw (grown_chg hgr) (lt_ge (World.ownsRow.lt hO9) (by omega));replace xo := Chg.more xo (grown_chg hgr) (by first | exact lt_gm (World.ownsRow.lt hO9) (by omega) | simp);replace d := Chg.cell (grown_chg hgr) d (lt_off (World.ownsRow.lt hO9) (by omega));replace p := Chg.cell (grown_chg hgr) p (lt_off (World.ownsRow.lt hO9) (by omega));replace q := Chg.cell (grown_chg hgr) q (lt_off (World.ownsRow.lt hO9) (by omega));replace a := Chg.cell (grown_chg hgr) a (lt_off (World.ownsRow.lt hO9) (by omega));replace h := Chg.cell (grown_chg hgr) h (lt_off (World.ownsRow.lt hO9) (by omega));replace m := Chg.cell (grown_chg hgr) m (lt_off (World.ownsRow.lt hO9) (by omega));replace e := Chg.cell (grown_chg hgr) e (lt_off (World.ownsRow.lt hO9) (by omega));replace o := Chg.cell (grown_chg hgr) o (lt_off (World.ownsRow.lt hO9) (by omega));replace f := Chg.cell (grown_chg hgr) f (lt_off (World.ownsRow.lt hO9) (by omega));replace x0 := Chg.cell (grown_chg hgr) x0 (lt_off (World.ownsRow.lt hO9) (by omega));replace x1 := Chg.cell (grown_chg hgr) x1 (lt_off (World.ownsRow.lt hO9) (by omega));replace x2 := Chg.cell (grown_chg hgr) x2 (lt_off (World.ownsRow.lt hO9) (by omega));replace x3 := Chg.cell (grown_chg hgr) x3 (lt_off (World.ownsRow.lt hO9) (by omega));have hO3 : OwnF w7 B0 v' (keepN l t.fl (k + 1)) := by rw [keepN_out hin hk2];unfold OwnF;rw [encFs_add,List.length_append];exact hO2
    clear hO2;obtain ⟨A6,c6,rfl⟩ := OwnF.slice hO3;refine cu2 fun K1 hK1 => ?_;go_simp;apply hK1;clear hK1 K1;refine Wops.absS (b := n5) (i := 2) [_] (somes [cellVal f] (by simp) (by intro j v hj;match j,hj with | 0,hj => (simp at hj;subst hj;exact f))) fun P11 hP11 => ?_;have zP11 := hP11.same;replace f2 := hP11.frz f2;replace f4 := hP11.frz f4;replace f5 := hP11.frz f5;replace hIS := hIS.put hP11 (by omega);replace hFS := hFS.put hP11 (by omega);replace hLS := hLS.put hP11 (by omega);replace hO := hO.put hP11 (by omega);replace hO3 := hO3.put hP11 (by omega);replace xw := Put.to xw hP11 (by omega);replace xo := Put.more xo hP11 (.inr (by simp));replace d := hP11.cell d (by omega);replace p := hP11.cell p (by omega);replace q := hP11.cell q (by omega);replace a := hP11.cell a (by omega);replace h := hP11.cell h (by omega);replace m := hP11.cell m (by omega);replace e := Put.cellOff hP11 e (by simp);replace o := Put.cellOff hP11 o (by simp);clear f;replace x0 := hP11.cell x0 (by omega);replace x1 := hP11.cell x1 (by omega);replace x2 := hP11.cell x2 (by omega);replace x3 := hP11.cell x3 (by omega);have f := hP11.new 0 _ rfl;try simp only [Nat.reduceAdd,Nat.zero_add,Nat.add_zero] at f
    clear hP11;try simp only [Wops_nil,updO_some,updO_none]
    apply hK;clear hK K' gd;refine Ends.keep [1,4,5,15,16,17] ?_;rintro r16 ⟨au,aG,aN,ag,ak,ao,-⟩;simp [go_sem,ar,aF,aM,aS,af,aj,an,aA] at au aG aN ag ak ao;clear ar aF aM aS af aj an aA;refine Ends.mk ?_;refine bNo ?_;refine tNo ?_;refine lRg fun K' gd hK => ?_;go_simp;apply hK;clear hK K' gd;refine Ends.keep [1,4,5,15,16,17] ?_;rintro r17 ⟨a1,a3,a6,aU,aW,aY,-⟩;simp [go_sem,au,aG,aN,ag,ak,ao] at a1 a3 a6 aU aW aY;clear au aG aN ag ak ao;refine Ends.mk ?_;refine thenK_normal ⟨by omega,⟨by rw [a1,aa],by rw [a3,ab],by rw [a6,ac],by rw [aU,Y],by rw [aW,Z],trivial⟩,rfl,⟨xo,f5⟩,?_⟩;exact ⟨_,by rw [aY,IntWalk.i64_in _ (by omega)];rfl,e,o,f,hO3⟩
  ·refine cFf ?_;obtain rfl : k = t.fl.length := by omega
   refine Wp.exit ?_;refine tEx ?_;refine tEx ?_;refine blockK_here ?_;refine tNo ?_;refine sRg fun K' gd hK => ?_;refine cu2 fun K1 hK1 => ?_;go_simp;apply hK1;clear hK1 K1;refine Wops.absS (b := n4) (i := 0) [_,_,_] (somes [cellVal a,cellVal h,cellVal m] (by simp) (by intro j v hj;match j,hj with | 0,hj => (simp at hj;subst hj;exact a) | 1,hj => (simp at hj;subst hj;exact h) | 2,hj => (simp at hj;subst hj;exact m))) fun P12 hP12 => ?_;have zP12 := hP12.same;replace f2 := hP12.frz f2;replace f4 := hP12.frz f4;replace f5 := hP12.frz f5;replace hIS := hIS.put hP12 (by omega);replace hFS := hFS.put hP12 (by omega);replace hLS := hLS.put hP12 (by omega);replace hO := hO.put hP12 (by omega);replace hO9 := hO9.put hP12 (by omega);replace xw := Put.to xw hP12 (by omega);clear xo;replace d := hP12.cell d (by omega);replace p := hP12.cell p (by omega);replace q := hP12.cell q (by omega);clear a;clear h;clear m;replace e := hP12.cell e (by omega);replace o := hP12.cell o (by omega);replace f := hP12.cell f (by omega);have a := hP12.new 0 _ rfl;try simp only [Nat.reduceAdd,Nat.zero_add,Nat.add_zero] at a
   have h := hP12.new 1 _ rfl;try simp only [Nat.reduceAdd,Nat.zero_add,Nat.add_zero] at h
   have m := hP12.new 2 _ rfl;try simp only [Nat.reduceAdd,Nat.zero_add,Nat.add_zero] at m
   clear hP12;try simp only [Wops_nil,updO_some,updO_none]
   apply hK;clear hK K' gd;refine Wp.keep [4] ?_;rintro r18 ⟨a4,-⟩;simp [go_sem,N,P,R,G,I,K,M] at a4;clear N P R G I K M;refine Wp.ret ?_;refine endK_cell (v := .agg #[cellVal a,cellVal h,cellVal m]) Tryz.results103 (by decide) a4 (by dsimp only [cellVal];go_simp) ?_
   dsimp only [cellVal]
   exact ⟨⟨_,_,B0,rfl,hO.lo (by omega),hO9,by omega⟩,xw⟩
theorem without_c (t : Tr) (l : List Int) (v lv : Value) (w : World) (hV : TourV w w.heap.size v t) (hL : IntsV w w.heap.size lv l) (hl : l.length ≤ 1000) (hcl : t.cl.length ≤ 1000) (hfl : t.fl.length ≤ 1000) :
  CallsV Tryz.prog 103 #[v,lv] w fun v' w' => (∃ cv fv,v' = .agg #[.int .i64 t.n,cv,fv] ∧ IntsB w' w.heap.size cv t.cl ∧ OwnF w' w.heap.size fv (withoutT t l).fl) ∧ Ext w w' :=
 (without2_c t l v lv w hV hL hl hcl hfl).mono fun _ _ ⟨⟨cv,fv,_,h1,h2,h3,h4⟩,hE⟩ => ⟨⟨cv,fv,h1,h2.intsB,h3.less h4⟩,hE⟩
theorem chkFl_zero {n : Int} : ∀ {l : List Fl} {ids : List Int},chkFl n ids l = 0 ↔ (∀ f ∈ l,FlOk n f) ∧ (∀ f ∈ l,f.id ∉ ids) ∧ l.Pairwise fun f g => f.id ≠ g.id
 | [],ids => by simp [chkFl]
 | f :: l,ids => by
   unfold chkFl
   by_cases h1 : FlOk n f
   ·rw [if_neg (not_not_intro h1)]
    by_cases h2 : f.id ∈ ids
    ·rw [if_pos h2]
     constructor
     ·intro h;cases h
     ·rintro ⟨-,h,-⟩;exact absurd h2 (h f List.mem_cons_self)
    ·rw [if_neg h2,chkFl_zero];simp only [List.mem_cons,List.pairwise_cons,forall_eq_or_imp]
     constructor
     ·rintro ⟨a,b,c⟩;exact ⟨⟨h1,a⟩,⟨h2,fun g hg hi => b g hg (.inr hi)⟩,fun g hg e => b g hg (.inl e.symm),c⟩
     ·rintro ⟨⟨-,a⟩,⟨-,b⟩,c,d⟩;exact ⟨a,fun g hg h => h.elim (fun e => c g hg e.symm) (b g hg),d⟩
   ·rw [if_pos h1]
    constructor
    ·intro h;cases h
    ·rintro ⟨h,-⟩;exact absurd (h f List.mem_cons_self) h1
structure GoodT (t : Tr) : Prop where
 n : 1 ≤ t.n ∧ t.n ≤ 60
 cl : ClOk t.n t.cl
 fl : t.fl.length ≤ 40
 ok : ∀ f ∈ t.fl,FlOk t.n f
 ids : t.fl.Pairwise fun f g => f.id ≠ g.id
theorem checkT_zero {t : Tr} : checkT t = 0 ↔ GoodT t := by
 unfold checkT
 by_cases h1 : 1 ≤ t.n ∧ t.n ≤ 60
 ·rw [if_neg (not_not_intro h1)]
  by_cases h2 : ClOk t.n t.cl
  ·rw [if_neg (not_not_intro h2)]
   by_cases h3 : 40 < t.fl.length
   ·rw [if_pos h3];exact ⟨(fun h => by cases h),fun h => absurd h.fl (by omega)⟩
   ·rw [if_neg h3,chkFl_zero];exact ⟨fun ⟨a,_,b⟩ => ⟨h1,h2,by omega,a,b⟩,fun h => ⟨h.ok,(fun _ _ h => by cases h),h.ids⟩⟩
  ·rw [if_pos h2];exact ⟨(fun h => by cases h),fun h => absurd h.cl h2⟩
 ·rw [if_pos h1];exact ⟨(fun h => by cases h),fun h => absurd h.n h1⟩
theorem ClOk.ge {n : Int} {cl : List Int} (h : ClOk n cl) : ∀ k,k < cl.length → (k : Int) ≤ gI cl k
 | 0,hk => (h 0 hk).1.1
 | k + 1,hk => by
   have := ClOk.ge h k (by omega);have := (h (k + 1) hk).2 (by omega);rw [Nat.add_sub_cancel] at this;omega
theorem ClOk.len {n : Int} {cl : List Int} (h : ClOk n cl) (hn : 0 ≤ n) : (cl.length : Int) ≤ n := by
 by_cases e : cl.length = 0
 ·omega
 ·have h1 := ClOk.ge h (cl.length - 1) (by omega);have h2 := (h (cl.length - 1) (by omega)).1.2;omega
theorem GoodT.len {t : Tr} (h : GoodT t) : t.cl.length ≤ 60 := by have := h.cl.len (by have := h.n;omega);have := h.n;omega
theorem GoodT.plan {t : Tr} (h : GoodT t) (hl : t.fl.length ≤ 12) : PlanT t t.n.toNat :=
 ⟨by have := h.n;omega,by have := h.n;omega,by have := h.n;omega,by have := h.len;omega,hl,fun k hk => by have := h.ok _ (List.getElem_mem hk);unfold FlOk at this;have := h.n;omega,fun k hk => by have := h.ok _ (List.getElem_mem hk);unfold FlOk at this;omega⟩
theorem meritF_le {t : Tr} {n : Nat} (h : PlanT t n) : 0 ≤ meritF t n ∧ meritF t n ≤ 60000 := by
 have := worthN_le h.mr (bestF t n) n;have := h.n2;unfold meritF;omega
theorem Best_c (t : Tr) (v : Value) (w : World) (hV : TourV w w.heap.size v t) (hf : FitT t) (hl : checkT t = 0 → t.fl.length ≤ 12) :
  CallsV Tryz.prog 17 #[v] w fun v' w' => (∃ mv,v' = .tuple #[mv,.int .i64 (checkT t)] ∧ (checkT t = 0 → MendB w' w.heap.size mv (wholeF t t.n.toNat (bestF t t.n.toNat))) ∧ (checkT t ≠ 0 → mv = .agg #[.slice none 0 0,.int .i64 0,.slice none 0 0])) ∧ Ext w w' := by
 obtain ⟨A,c,A2,c2,rfl,hI,hF⟩ := hV.open';have hIS : IntsS w w.heap.size (.slice A t.cl.length c) t.cl := ⟨hI⟩;have hFS : FlawsS w w.heap.size (.slice A2 t.fl.length c2) t.fl := ⟨hF⟩;have hTS : TourS w w.heap.size (.agg #[.int .i64 t.n,.slice A t.cl.length c,.slice A2 t.fl.length c2]) t := ⟨hV⟩;clear hV hI hF;obtain ⟨n,hn⟩ : ∃ n,∃ _u : Unit,t.n.toNat = n := ⟨_,(),rfl⟩;rw [hn.choose_spec];refine Wp.fn Tryz.func17 rfl Tryz.ntmps17 (by simp) ?_;have xw := Ext.refl w;refine Wp.keep [0] ?_;rintro r1 ⟨x,-⟩;simp [go_sem] at x;refine sRg fun K' gd hK => ?_;refine cu1 fun K1 hK1 => ?_;go_simp;apply hK1;clear hK1 K1;refine Wops.absA fun N n1 o => ?_;obtain ⟨q1,o,s1,s,f1,r1⟩ := o;try simp only [q1] at s f1 r1 ⊢
 replace hIS := hIS.ext o;replace hFS := hFS.ext o;replace hTS := hTS.ext o;replace xw := xw.trans o;have f := s 0 _ rfl;have k := s 1 _ rfl;have l := s 2 _ rfl;clear s o;clear r1;refine cu1 fun K1 hK1 => ?_;go_simp;apply hK1;clear hK1 K1;refine Wops.absA fun O n2 m => ?_;obtain ⟨q2,m,s2,u,f2,r2⟩ := m;try simp only [q2] at u f2 r2 ⊢
 replace f1 := m.fz f f1;replace hIS := hIS.ext m;replace hFS := hFS.ext m;replace hTS := hTS.ext m;replace xw := xw.trans m;replace f := m.cell f;replace k := m.cell k;replace l := m.cell l;have a := u 0 _ rfl;have d := u 1 _ rfl;have e := u 2 _ rfl;clear u m;clear r2;go_simp;apply hK;clear hK K' gd;refine Wp.keep [1,2] ?_;rintro r2 ⟨y,C,-⟩;simp [go_sem,x] at y C;clear x;refine Wp.seq ?_;refine sRg fun K' gd hK => ?_;refine cu2 fun K1 hK1 => ?_;go_simp;refine Wcall (.inl rfl) (check_c t _ _ (hTS.v.more (Below.size (XE))) hf) ?_;rintro v w2 ⟨rfl,hE⟩;go_simp;apply hK1;clear hK1 K1;have z3 := Below.size hE;replace f1 := hE.fz f f1;replace f2 := hE.fz a f2;replace hIS := hIS.ext hE;replace hFS := hFS.ext hE;replace hTS := hTS.ext hE;replace xw := xw.trans hE;replace f := hE.cell f;replace k := hE.cell k;replace l := hE.cell l;replace a := hE.cell a;replace d := hE.cell d;replace e := hE.cell e;clear hE;go_simp;apply hK;clear hK K' gd;refine Wp.keep [1,2,4] ?_;rintro r4 ⟨p,q,r,-⟩;simp [go_sem,y,C] at p q r
 clear y C
 by_cases h0 : checkT t = 0
 ·skip;have hP : PlanT t n := by rw [← hn.choose_spec];exact (checkT_zero.1 h0).plan (hl h0)
  refine sRg fun K' gd hK => ?_;go_simp;apply hK;clear hK K' gd;refine Wp.keep [1,2,4,8] ?_;rintro r5 ⟨z,D,F,H,-⟩;simp [go_sem,p,q,r] at z D F H;clear p q r;refine cFf ?_;refine skN ?_;refine sRg fun K' gd hK => ?_;refine cu2 fun K1 hK1 => ?_;go_simp;refine Wcall (.inl rfl) (best_c t n _ _ hP (hTS.v.more (Below.size (XE)))) ?_;rintro v w4 ⟨⟨A',c',A2',c2',g,rfl,eV,hH,hg2⟩,hE⟩;obtain ⟨-,e2,e3⟩ := agg3_inj eV;obtain ⟨rfl,rfl⟩ := slice_inj e2;obtain ⟨rfl,rfl⟩ := slice_inj e3;clear e2 e3 eV;go_simp;apply hK1;clear hK1 K1;have z6 := Below.size hE;replace f1 := hE.fz f f1;replace f2 := hE.fz a f2;replace hIS := hIS.ext hE;replace hFS := hFS.ext hE;replace hTS := hTS.ext hE;replace xw := xw.trans hE;replace f := hE.cell f;replace k := hE.cell k;replace l := hE.cell l;replace a := hE.cell a;replace d := hE.cell d;replace e := hE.cell e;clear hE;refine cu1 fun K1 hK1 => ?_;go_simp;refine Wcall (.inl rfl) (whole_c t n g A c A2 c2 (bestF t n) _ hP (hTS.v.more (Below.size (XE))) hH (hIS.v.more (Below.size (XE))) (hFS.v.more (Below.size (XE))) bestF_lt) ?_
  rintro v w5 ⟨hM0,hE⟩;have hM := MendB.less (b2 := n2 + 1) hM0 (by omega);clear hM0;obtain ⟨A8,c8,A9,c9,rfl⟩ := hM.open';go_simp;apply hK1;clear hK1 K1;have z7 := Below.size hE;replace f1 := hE.fz f f1;replace f2 := hE.fz a f2;replace hIS := hIS.ext hE;replace hFS := hFS.ext hE;replace hTS := hTS.ext hE;replace hH := hH.ext hE;replace xw := xw.trans hE;replace f := hE.cell f;replace k := hE.cell k;replace l := hE.cell l;replace a := hE.cell a;replace d := hE.cell d;replace e := hE.cell e;clear hE;refine cu1 fun K1 hK1 => ?_;go_simp;apply hK1;clear hK1 K1;refine Wops.absS (b := n2) (i := 0) [_,_,_] (somes [cellVal a,cellVal d,cellVal e] (by simp) (by intro j v hj;match j,hj with | 0,hj => (simp at hj;subst hj;exact a) | 1,hj => (simp at hj;subst hj;exact d) | 2,hj => (simp at hj;subst hj;exact e))) fun P3 hP3 => ?_;have zP3 := hP3.same;replace f1 := hP3.frz f1;replace f2 := hP3.frz f2;replace hIS := hIS.put hP3 (by omega);replace hFS := hFS.put hP3 (by omega);replace hTS := hTS.put hP3 (by omega);replace hH := hH.put hP3 (by omega);replace hM := hM.put hP3 (by omega);replace xw := Put.to xw hP3 (by omega);replace f := hP3.cell f (by omega);replace k := hP3.cell k (by omega)
  replace l := hP3.cell l (by omega);clear a;clear d;clear e;have a := hP3.new 0 _ rfl;try simp only [Nat.reduceAdd,Nat.zero_add,Nat.add_zero] at a
  have d := hP3.new 1 _ rfl;try simp only [Nat.reduceAdd,Nat.zero_add,Nat.add_zero] at d
  have e := hP3.new 2 _ rfl;try simp only [Nat.reduceAdd,Nat.zero_add,Nat.add_zero] at e
  clear hP3;go_simp;apply hK;clear hK K' gd;refine Wp.keep [2,3] ?_;rintro r8 ⟨K,M,-⟩;simp [go_sem,z,D,F,H] at K M;clear z D F H;refine Wp.ret ?_;refine endK_cell_tmp (v := .agg #[cellVal a,cellVal d,cellVal e]) Tryz.results17 (by decide) (by decide) K (by dsimp only [cellVal];go_simp) ?_;rw [M]
  dsimp only [cellVal]
  exact ⟨⟨_,by rw [h0],fun _ => hM.less (by omega),fun h => absurd h0 h⟩,xw⟩
 ·skip;refine sRg fun K' gd hK => ?_;go_simp;apply hK;clear hK K' gd;refine Wp.keep [1,2,4,8] ?_;rintro r9 ⟨B,E,G,I,-⟩;simp [go_sem,p,q,r] at B E G I;clear p q r;refine cTt ?_;refine sRg fun K' gd hK => ?_;refine cu3 fun K1 hK1 => ?_;go_simp;apply hK1;clear hK1 K1;refine Wops.absS (b := n2) (i := 0) [_,_,_] (somes [cellVal a,cellVal d,cellVal e] (by simp) (by intro j v hj;match j,hj with | 0,hj => (simp at hj;subst hj;exact a) | 1,hj => (simp at hj;subst hj;exact d) | 2,hj => (simp at hj;subst hj;exact e))) fun P4 hP4 => ?_;have zP4 := hP4.same;replace f1 := hP4.frz f1;replace f2 := hP4.frz f2;replace hIS := hIS.put hP4 (by omega);replace hFS := hFS.put hP4 (by omega);replace hTS := hTS.put hP4 (by omega);replace xw := Put.to xw hP4 (by omega);replace f := hP4.cell f (by omega);replace k := hP4.cell k (by omega);replace l := hP4.cell l (by omega);clear a;clear d;clear e;have a := hP4.new 0 _ rfl;try simp only [Nat.reduceAdd,Nat.zero_add,Nat.add_zero] at a
  have d := hP4.new 1 _ rfl;try simp only [Nat.reduceAdd,Nat.zero_add,Nat.add_zero] at d
  have e := hP4.new 2 _ rfl;try simp only [Nat.reduceAdd,Nat.zero_add,Nat.add_zero] at e
  clear hP4;go_simp;apply hK;clear hK K' gd;refine Wp.keep [2,3] ?_;rintro r10 ⟨J,L,-⟩;simp [go_sem,B,E,G,I] at J L;clear B E G I;refine Wp.ret ?_;refine tRe ?_;refine endK_cell_tmp (v := .agg #[cellVal a,cellVal d,cellVal e]) Tryz.results17 (by decide) (by decide) J (by dsimp only [cellVal];go_simp) ?_;rw [L]
  dsimp only [cellVal]
  exact ⟨⟨_,rfl,fun h => absurd h h0,fun _ => rfl⟩,xw⟩
theorem Merit_c (t : Tr) (v : Value) (w : World) (hV : TourV w w.heap.size v t) (hf : FitT t) (hl : checkT t = 0 → t.fl.length ≤ 12) :
  CallsV Tryz.prog 56 #[v] w fun v' w' => v' = .tuple #[.int .i64 (if checkT t = 0 then meritF t t.n.toNat else 0),.int .i64 (checkT t)] ∧ Ext w w' := by
 obtain ⟨A,c,A2,c2,rfl,hI,hF⟩ := hV.open';have hTS : TourS w w.heap.size (.agg #[.int .i64 t.n,.slice A t.cl.length c,.slice A2 t.fl.length c2]) t := ⟨hV⟩;clear hV hI hF;obtain ⟨n,hn⟩ : ∃ n,∃ _u : Unit,t.n.toNat = n := ⟨_,(),rfl⟩;rw [hn.choose_spec];refine Wp.fn Tryz.func56 rfl Tryz.ntmps56 (by simp) ?_;have xw := Ext.refl w;refine Wp.keep [0] ?_;rintro r1 ⟨i,-⟩;simp [go_sem] at i;refine sRg fun K' gd hK => ?_;refine cu1 fun K1 hK1 => ?_;go_simp;apply hK1;clear hK1 K1;refine Wops.absA fun y n1 e => ?_;obtain ⟨q1,e,s1,f,f1,r1⟩ := e;try simp only [q1] at f f1 r1 ⊢
 replace hTS := hTS.ext e;replace xw := xw.trans e;have a := f 0 _ rfl;have g := f 1 _ rfl;have h := f 2 _ rfl;clear f e;clear r1;go_simp;apply hK;clear hK K' gd;refine Wp.keep [1] ?_;rintro r2 ⟨j,-⟩;simp [go_sem,i] at j;clear i;refine Wp.seq ?_;refine sRg fun K' gd hK => ?_;refine cu2 fun K1 hK1 => ?_;go_simp;refine Wcall (.inl rfl) (check_c t _ _ (hTS.v.more (Below.size (XE))) hf) ?_;rintro v w2 ⟨rfl,hE⟩;go_simp;apply hK1;clear hK1 K1;have z3 := Below.size hE;replace f1 := hE.fz a f1;replace hTS := hTS.ext hE;replace xw := xw.trans hE;replace a := hE.cell a;replace g := hE.cell g;replace h := hE.cell h;clear hE;go_simp;apply hK;clear hK K' gd;refine Wp.keep [1,4] ?_;rintro r4 ⟨b,d,-⟩;simp [go_sem,j] at b d;clear j
 by_cases h0 : checkT t = 0
 ·skip;have hP : PlanT t n := by rw [← hn.choose_spec];exact (checkT_zero.1 h0).plan (hl h0)
  refine sRg fun K' gd hK => ?_;go_simp;apply hK;clear hK K' gd;refine Wp.keep [1,4,8] ?_;rintro r5 ⟨k,m,p,-⟩;simp [go_sem,b,d] at k m p;clear b d;refine cFf ?_;refine skN ?_;refine sRg fun K' gd hK => ?_;refine cu2 fun K1 hK1 => ?_;go_simp;refine Wcall (.inl rfl) (mendMerit_c t n _ _ hP (hTS.v.more (Below.size (XE)))) ?_;rintro v w4 ⟨rfl,hE⟩;go_simp;apply hK1;clear hK1 K1;have z6 := Below.size hE;replace f1 := hE.fz a f1;replace hTS := hTS.ext hE;replace xw := xw.trans hE;replace a := hE.cell a;replace g := hE.cell g;replace h := hE.cell h;clear hE;go_simp;apply hK;clear hK K' gd;refine Wp.keep [2,3] ?_;rintro r7 ⟨r,u,-⟩;simp [go_sem,k,m,p] at r u;clear k m p;refine Wp.ret ?_;refine endK_tmp2 Tryz.results56 (by decide) (by decide) ?_;rw [r,u];exact ⟨by rw [if_pos h0,h0],xw⟩
 ·skip;refine sRg fun K' gd hK => ?_;go_simp;apply hK;clear hK K' gd;refine Wp.keep [1,4,8] ?_;rintro r8 ⟨l,o,q,-⟩;simp [go_sem,b,d] at l o q;clear b d;refine cTt ?_;refine sRg fun K' gd hK => ?_;go_simp;apply hK;clear hK K' gd;refine Wp.keep [2,3] ?_;rintro r9 ⟨s,x,-⟩;simp [go_sem,l,o,q] at s x;clear l o q;refine Wp.ret ?_;refine tRe ?_;refine endK_tmp2 Tryz.results56 (by decide) (by decide) ?_;rw [s,x];exact ⟨by rw [if_neg h0],xw⟩
def dayE (t : Tr) (d : Int) : Int := if checkT t ≠ 0 then checkT t else if 0 ≤ d ∧ d ≤ t.n - 1 then 0 else 1
theorem dayOf_c (t : Tr) (d : Int) (v : Value) (w : World) (hV : TourV w w.heap.size v t) (hf : FitT t) :
  CallsV Tryz.prog 116 #[v,.int .i64 d] w fun v' w' => v' = .int .i64 (dayE t d) ∧ Ext w w' := by
 obtain ⟨A,c,A2,c2,rfl,hI,hF⟩ := hV.open';have hTS : TourS w w.heap.size (.agg #[.int .i64 t.n,.slice A t.cl.length c,.slice A2 t.fl.length c2]) t := ⟨hV⟩;clear hV hI hF;refine Wp.fn Tryz.func116 rfl Tryz.ntmps116 (by simp) ?_;have xw := Ext.refl w;refine Wp.keep [0,1] ?_;rintro r1 ⟨p,s,-⟩;simp [go_sem] at p s;refine sRg fun K' gd hK => ?_;refine cu1 fun K1 hK1 => ?_;go_simp;apply hK1;clear hK1 K1;refine Wops.absA fun G n2 m => ?_;obtain ⟨q2,m,s2,o,f2,r2⟩ := m;try simp only [q2] at o f2 r2 ⊢
 replace hTS := hTS.ext m;replace xw := xw.trans m;have a := o 0 _ rfl;have b := o 1 _ rfl;have e := o 2 _ rfl;clear o m;clear r2;go_simp;apply hK;clear hK K' gd;refine Wp.keep [1,2] ?_;rintro r2 ⟨x,z,-⟩;simp [go_sem,p,s] at x z;clear p s;refine Wp.seq ?_;refine sRg fun K' gd hK => ?_;refine cu2 fun K1 hK1 => ?_;go_simp;refine Wcall (.inl rfl) (check_c t _ _ (hTS.v.more (Below.size (XE))) hf) ?_;rintro v w2 ⟨rfl,hE⟩;go_simp;apply hK1;clear hK1 K1;have z3 := Below.size hE;replace f2 := hE.fz a f2;replace hTS := hTS.ext hE;replace xw := xw.trans hE;replace a := hE.cell a;replace b := hE.cell b;replace e := hE.cell e;clear hE;go_simp;apply hK;clear hK K' gd;refine Wp.keep [1,2,5] ?_;rintro r4 ⟨f,h,j,-⟩;simp [go_sem,x,z] at f h j;clear x z
 by_cases h0 : checkT t = 0
 ·skip;have hw : IntKind.i64.wrap (t.n - 1) = t.n - 1 := IntWalk.i64_in _ (by have := (checkT_zero.1 h0).n;omega);refine sRg fun K' gd hK => ?_;go_simp;apply hK;clear hK K' gd;refine Wp.keep [1,2,5,9] ?_;rintro r5 ⟨g,i,k,l,-⟩;simp [go_sem,f,h,j] at g i k l;clear f h j;refine cFf ?_
  by_cases h1 : 0 ≤ d ∧ d ≤ t.n - 1
  ·skip;refine skN ?_;refine Wp.seq ?_;refine sRg fun K' gd hK => ?_;refine cu5 fun K1 hK1 => ?_;go_simp;refine Wcall (.inl rfl) (within_T h1 _) ?_;rintro v w3 ⟨rfl,hE⟩;go_simp;apply hK1;clear hK1 K1;have z6 := Below.size hE;replace f2 := hE.fz a f2;replace hTS := hTS.ext hE;replace xw := xw.trans hE;replace a := hE.cell a;replace b := hE.cell b;replace e := hE.cell e;clear hE;go_simp;apply hK;clear hK K' gd;refine Wp.keep [16] ?_;rintro r7 ⟨r,-⟩;simp [go_sem,g,i,k,l] at r;clear g i k l;refine cFf ?_;refine skN ?_;refine sRg fun K' gd hK => ?_;go_simp;apply hK;clear hK K' gd;refine Wp.keep [4] ?_;rintro r8 ⟨F,-⟩;simp [go_sem,r] at F;clear r;refine Wp.ret ?_;refine endK_tmp Tryz.results116 (by decide) ?_;rw [F];exact ⟨by unfold dayE;rw [if_neg (not_not_intro h0),if_pos h1],xw⟩
  ·skip;refine skN ?_;refine Wp.seq ?_;refine sRg fun K' gd hK => ?_;refine cu5 fun K1 hK1 => ?_;go_simp;refine Wcall (.inl rfl) (within_F h1 _) ?_;rintro v w3 ⟨rfl,hE⟩;go_simp;apply hK1;clear hK1 K1;have z9 := Below.size hE;replace f2 := hE.fz a f2;replace hTS := hTS.ext hE;replace xw := xw.trans hE;replace a := hE.cell a;replace b := hE.cell b;replace e := hE.cell e;clear hE;go_simp;apply hK;clear hK K' gd;refine Wp.keep [16] ?_;rintro r10 ⟨q,-⟩;simp [go_sem,g,i,k,l] at q;clear g i k l;refine cTt ?_;refine sRg fun K' gd hK => ?_;go_simp;apply hK;clear hK K' gd;refine Wp.keep [4] ?_;rintro r11 ⟨D,-⟩;simp [go_sem,q] at D;clear q;refine Wp.ret ?_;refine tRe ?_;refine endK_tmp Tryz.results116 (by decide) ?_;rw [D];exact ⟨by unfold dayE;rw [if_neg (not_not_intro h0),if_neg h1],xw⟩
 ·skip;refine sRg fun K' gd hK => ?_;go_simp;apply hK;clear hK K' gd;refine Wp.keep [1,2,5,9] ?_;rintro r12 ⟨u,y,B,C,-⟩;simp [go_sem,f,h,j] at u y B C;clear f h j;refine cTt ?_;refine sRg fun K' gd hK => ?_;go_simp;apply hK;clear hK K' gd;refine Wp.keep [4] ?_;rintro r13 ⟨E,-⟩;simp [go_sem,u,y,B,C] at E;clear u y B C;refine Wp.ret ?_;refine tRe ?_;refine endK_tmp Tryz.results116 (by decide) ?_;rw [E];exact ⟨by unfold dayE;rw [if_pos h0],xw⟩
theorem dayE_zero {t : Tr} {d : Int} : dayE t d = 0 ↔ checkT t = 0 ∧ 0 ≤ d ∧ d ≤ t.n - 1 := by
 unfold dayE
 by_cases h0 : checkT t = 0
 ·rw [if_neg (not_not_intro h0)]
  by_cases h1 : 0 ≤ d ∧ d ≤ t.n - 1
  ·rw [if_pos h1];exact ⟨fun _ => ⟨h0,h1⟩,fun _ => rfl⟩
  ·rw [if_neg h1];exact ⟨(fun h => by cases h),fun h => absurd h.2 h1⟩
 ·rw [if_pos h0];exact ⟨fun h => absurd h h0,fun h => absurd h.1 h0⟩
theorem closeL_len (cl : List Int) (d : Int) : (closeL cl d).length ≤ cl.length + 1 := by
 unfold closeL
 split
 ·omega
 ·rw [insAt_len];exact Nat.le_refl _
theorem PlanT.closed {t : Tr} {n : Nat} (h : PlanT t n) (hl : t.cl.length ≤ 1000) (d : Int) : PlanT (closedT t d) n :=
 ⟨h.tn,h.n1,h.n2,by have := closeL_len t.cl d;show (closeL t.cl d).length ≤ _;omega,h.fl,h.sp,h.mr⟩
def lostF (t : Tr) (d : Int) : Int := if dayE t d = 0 then meritF t t.n.toNat - meritF (closedT t d) t.n.toNat else 0
theorem Lost_c (t : Tr) (d : Int) (v : Value) (w : World) (hV : TourV w w.heap.size v t) (hf : FitT t) (hl : checkT t = 0 → t.fl.length ≤ 12) :
  CallsV Tryz.prog 39 #[v,.int .i64 d] w fun v' w' => v' = .tuple #[.int .i64 (lostF t d),.int .i64 (dayE t d)] ∧ Ext w w' := by
 obtain ⟨A,c,A2,c2,rfl,hI,hF⟩ := hV.open';have hTS : TourS w w.heap.size (.agg #[.int .i64 t.n,.slice A t.cl.length c,.slice A2 t.fl.length c2]) t := ⟨hV⟩;clear hV hI hF;unfold lostF;obtain ⟨n,hn⟩ : ∃ n,∃ _u : Unit,t.n.toNat = n := ⟨_,(),rfl⟩;rw [hn.choose_spec];refine Wp.fn Tryz.func39 rfl Tryz.ntmps39 (by simp) ?_;have xw := Ext.refl w;refine Wp.keep [0,1] ?_;rintro r1 ⟨k,o,-⟩;simp [go_sem] at k o;refine sRg fun K' gd hK => ?_;refine cu1 fun K1 hK1 => ?_;go_simp;apply hK1;clear hK1 K1;refine Wops.absA fun F n2 i => ?_;obtain ⟨q2,i,s2,j,f2,r2⟩ := i;try simp only [q2] at j f2 r2 ⊢
 replace hTS := hTS.ext i;replace xw := xw.trans i;have a := j 0 _ rfl;have b := j 1 _ rfl;have e := j 2 _ rfl;clear j i;clear r2;go_simp;apply hK;clear hK K' gd;refine Wp.keep [1,2] ?_;rintro r2 ⟨q,u,-⟩;simp [go_sem,k,o] at q u;clear k o;refine Wp.seq ?_;refine sRg fun K' gd hK => ?_;refine cu3 fun K1 hK1 => ?_;go_simp;refine Wcall (.inl rfl) (dayOf_c t d _ _ (hTS.v.more (Below.size (XE))) hf) ?_;rintro v w2 ⟨rfl,hE⟩;go_simp;apply hK1;clear hK1 K1;have z3 := Below.size hE;replace f2 := hE.fz a f2;replace hTS := hTS.ext hE;replace xw := xw.trans hE;replace a := hE.cell a;replace b := hE.cell b;replace e := hE.cell e;clear hE;go_simp;apply hK;clear hK K' gd;refine Wp.keep [1,2,6] ?_;rintro r4 ⟨f,g,h,-⟩;simp [go_sem,q,u] at f g h;clear q u
 by_cases h0 : dayE t d = 0
 ·skip;have hg := checkT_zero.1 (dayE_zero.1 h0).1;have hP : PlanT t n := by rw [← hn.choose_spec];exact hg.plan (hl (dayE_zero.1 h0).1)
  refine sRg fun K' gd hK => ?_;go_simp;apply hK;clear hK K' gd;refine Wp.keep [1,2,6,11] ?_;rintro r5 ⟨r,x,z,m,-⟩;simp [go_sem,f,g,h] at r x z m;clear f g h;refine cFf ?_;refine skN ?_;refine Wp.seqDraw (.inl rfl) mixed [([0,2,3],some (1,false)),([],some (4,false)),([],some (5,false)),([6,7,8],none)] (by kernel_rfl) fun K' gd hK hg => ?_;clear hg;simp only [pick,nth,List.map_cons,List.map_nil,Option.map_none,Option.map_some];refine Mops.absD fun D2 hD2 zD2 => ?_;replace f2 := hD2.fz a f2;replace hTS := hTS.ext hD2;replace xw := xw.trans hD2;replace a := hD2.cell a;replace b := hD2.cell b;replace e := hD2.cell e;clear hD2;refine mAc ?_
  intro K1 hK1;go_simp;refine Wcall (.inl rfl) (mendMerit_c t n _ _ hP (hTS.v.more (Below.size (XE)))) ?_;rintro v w3 ⟨rfl,hE⟩;go_simp;refine hK1 _ _ (by assumption) ?_;clear hK1 K1;have z6 := Below.size hE;replace f2 := hE.fz a f2;replace hTS := hTS.ext hE;replace xw := xw.trans hE;replace a := hE.cell a;replace b := hE.cell b;replace e := hE.cell e;clear hE;apply Mops.act
  ·exact fun _ _ => Rops_done
  intro K1 hK1;go_simp;refine Wcall (.inl rfl) (closed_c t d _ _ (hTS.v.more (Below.size (XE))) hg.cl.rising (by have := hg.len;omega) (by have := hg.fl;omega)) ?_;rintro v w4 ⟨hM,hE⟩;go_simp;refine hK1 _ _ (by assumption) ?_;clear hK1 K1;have z7 := Below.size hE;replace f2 := hE.fz a f2;replace hTS := hTS.ext hE;replace xw := xw.trans hE;replace a := hE.cell a;replace b := hE.cell b;replace e := hE.cell e;clear hE;apply Mops.act
  ·exact fun _ _ => Rops_done
  intro K1 hK1;go_simp;refine Wcall (.inl rfl) (mendMerit_c (closedT t d) n _ _ (hP.closed (by have := hg.len;omega) d) hM.tourV) ?_;rintro v w5 ⟨rfl,hE⟩;go_simp;refine hK1 _ _ (by assumption) ?_;clear hK1 K1;have z8 := Below.size hE;replace f2 := hE.fz a f2;replace hTS := hTS.ext hE;replace xw := xw.trans hE;replace a := hE.cell a;replace b := hE.cell b;replace e := hE.cell e;clear hE;refine mNo ?_
  refine Mops.done ?_;apply hK;clear hK K' gd;refine Wp.keep [4,5] ?_;rintro r9 ⟨C,E,-⟩;simp [go_sem,r,x,z,m] at C E;clear r x z m;refine Wp.ret ?_;refine endK_tmp2 Tryz.results39 (by decide) (by decide) ?_;rw [C,E];exact ⟨by rw [if_pos h0,h0,IntWalk.i64_in _ (by have := meritF_le hP;have := meritF_le (hP.closed (by have := hg.len;omega) d);omega)],xw⟩
 ·skip;refine sRg fun K' gd hK => ?_;go_simp;apply hK;clear hK K' gd;refine Wp.keep [1,2,6,11] ?_;rintro r10 ⟨p,s,y,l,-⟩;simp [go_sem,f,g,h] at p s y l;clear f g h;refine cTt ?_;refine sRg fun K' gd hK => ?_;go_simp;apply hK;clear hK K' gd;refine Wp.keep [4,5] ?_;rintro r11 ⟨B,D,-⟩;simp [go_sem,p,s,y,l] at B D;clear p s y l;refine Wp.ret ?_;refine tRe ?_;refine endK_tmp2 Tryz.results39 (by decide) (by decide) ?_;rw [B,D];exact ⟨by rw [if_neg h0],xw⟩
end Go.Proofs.YtnklbepeoicgpaaGreat
namespace Go.Proofs.YtnklbepeoicgpaaGreat
def sumN (f : Nat → Int) : Nat → Int
 | 0 => 0
 | n + 1 => sumN f n + f n
theorem sumN_le {f g : Nat → Int} : ∀ n,(∀ d,d < n → f d ≤ g d) → sumN f n ≤ sumN g n
 | 0,_ => Int.le_refl _
 | n + 1,h => Int.add_le_add (sumN_le n fun d hd => h d (by omega)) (h n (by omega))
theorem sumN_eq {f g : Nat → Int} : ∀ n,(∀ d,d < n → f d = g d) → sumN f n = sumN g n
 | 0,_ => rfl
 | n + 1,h => by unfold sumN;rw [sumN_eq n fun d hd => h d (by omega),h n (by omega)]
theorem sumN_add {f g : Nat → Int} : ∀ n,sumN (fun d => f d + g d) n = sumN f n + sumN g n
 | 0 => rfl
 | n + 1 => by unfold sumN;rw [sumN_add n];omega
theorem sumN_zero : ∀ n,sumN (fun _ => 0) n = 0
 | 0 => rfl
 | n + 1 => by unfold sumN;rw [sumN_zero n];rfl
theorem sumN_pos {f : Nat → Int} (n : Nat) (h : ∀ d,d < n → 0 ≤ f d) : 0 ≤ sumN f n := by rw [← sumN_zero n];exact sumN_le n h
theorem sumN_one {F : Nat → Int} {k : Nat} : ∀ n,sumN (fun j => if j = k then F j else 0) n = if k < n then F k else 0
 | 0 => by rw [if_neg (Nat.not_lt_zero _)];rfl
 | n + 1 => by
   unfold sumN;rw [sumN_one n]
   by_cases e : n = k
   ·subst e;rw [if_neg (Nat.lt_irrefl _),if_pos rfl,if_pos (Nat.lt_succ_self _)];omega
   ·rw [if_neg e]
    by_cases h : k < n
    ·rw [if_pos h,if_pos (by omega)];omega
    ·rw [if_neg h,if_neg (by omega)];omega
def cntN (h : Nat → Int) (j : Int) (n : Nat) : Int := sumN (fun d => if h d = j then 1 else 0) n
theorem cntN_pos {h : Nat → Int} {j : Int} {n : Nat} : 0 ≤ cntN h j n := sumN_pos n fun d _ => by split <;> decide
theorem cntN_S {h : Nat → Int} {j : Int} {n : Nat} : cntN h j (n + 1) = cntN h j n + if h n = j then 1 else 0 := rfl
theorem cntN_zero {h : Nat → Int} {j : Int} : ∀ {n : Nat},cntN h j n = 0 → ∀ d,d < n → h d ≠ j
 | 0,_,d,hd => absurd hd (Nat.not_lt_zero _)
 | n + 1,hc,d,hd => by
   rw [cntN_S] at hc;have := cntN_pos (h := h) (j := j) (n := n);have hn : h n ≠ j := by intro e;rw [if_pos e] at hc;omega
   rw [if_neg hn] at hc
   by_cases e : d = n
   ·rw [e];exact hn
   ·exact cntN_zero (n := n) (by omega) d (by omega)
theorem cntN_of_zero {h : Nat → Int} {j : Int} {n : Nat} (hd : ∀ d,d < n → h d ≠ j) : cntN h j n = 0 := by
 unfold cntN;rw [sumN_eq n (g := fun _ => 0) fun d hdn => if_neg (hd d hdn)];exact sumN_zero n
theorem cntN_some {h : Nat → Int} {j : Int} : ∀ {n : Nat},cntN h j n ≠ 0 → ∃ d,d < n ∧ h d = j
 | 0,hc => absurd rfl hc
 | n + 1,hc => by
   by_cases e : h n = j
   ·exact ⟨n,Nat.lt_succ_self _,e⟩
   ·rw [cntN_S,if_neg e,Int.add_zero] at hc;obtain ⟨d,hd,he⟩ := cntN_some hc;exact ⟨d,by omega,he⟩
theorem cntN_ge {h : Nat → Int} {j : Int} {n d : Nat} (hd : d < n) (e : h d = j) : 1 ≤ cntN h j n := by
 have := cntN_pos (h := h) (j := j) (n := n)
 by_cases h0 : cntN h j n = 0
 ·exact absurd e (cntN_zero h0 d hd)
 ·omega
theorem cntN_two {h : Nat → Int} {j : Int} : ∀ {n d e : Nat},cntN h j n ≤ 1 → d < n → e < n → h d = j → h e = j → d = e
 | 0,d,_,_,hd,_,_,_ => absurd hd (Nat.not_lt_zero _)
 | n + 1,d,e,hc,hd,he,h1,h2 => by
   rw [cntN_S] at hc
   by_cases a : d = n
   ·by_cases b : e = n
    ·omega
    ·rw [← a,if_pos h1] at hc;have := cntN_ge (n := d) (d := e) (by omega) h2;omega
   ·have q := cntN_ge (n := n) (d := d) (by omega) h1
    by_cases b : e = n
    ·rw [← b,if_pos h2] at hc;rw [← b] at q;omega
    ·have : 0 ≤ (if h n = j then (1 : Int) else 0) := by split <;> decide
     exact cntN_two (n := n) (by omega) (by omega) (by omega) h1 h2
theorem cntN_upd {h : Nat → Int} {i j : Int} {d : Nat} : ∀ {n : Nat},d < n → cntN (updI h d i) j n = cntN h j n - (if h d = j then 1 else 0) + if i = j then 1 else 0
 | 0,hd => absurd hd (Nat.not_lt_zero _)
 | n + 1,hd => by
   rw [cntN_S,cntN_S]
   by_cases e : n = d
   ·subst e;have : cntN (updI h n i) j n = cntN h j n := by unfold cntN;exact sumN_eq n fun d hd => by have e : updI h n i d = h d := if_neg (show ¬ d = n by omega);rw [e]
    rw [this];unfold updI;rw [if_pos rfl];omega
   ·rw [cntN_upd (n := n) (by omega)];unfold updI;rw [if_neg e];omega
def worthW (W : Int → Int) (h : Nat → Int) (n : Nat) : Int := sumN (fun d => if 0 ≤ h d then W (h d) else 0) n
theorem worth_cnt {W : Int → Int} {h : Nat → Int} {m : Nat} : ∀ n,(∀ d,d < n → h d < m) → worthW W h n = sumN (fun j => cntN h (j : Int) n * W (j : Int)) m
 | 0,_ => by
   rw [sumN_eq m (g := fun _ => 0) fun d _ => by show (0 : Int) * _ = 0;rw [Int.zero_mul],sumN_zero];rfl
 | n + 1,hm => by
   have ih := worth_cnt (W := W) (h := h) n fun d hd => hm d (by omega)
   show worthW W h n + _ = _
   have e : sumN (fun j => cntN h (j : Int) (n + 1) * W (j : Int)) m = sumN (fun j => cntN h (j : Int) n * W (j : Int)) m + sumN (fun j => if h n = (j : Int) then W (j : Int) else 0) m := by
    rw [← sumN_add];refine sumN_eq m fun d _ => ?_;rw [cntN_S,Int.add_mul];congr 1;split <;> simp
   rw [ih,e]
   congr 1
   show (if 0 ≤ h n then W (h n) else 0) = _
   by_cases h0 : 0 ≤ h n
   ·rw [if_pos h0];obtain ⟨k,hk⟩ : ∃ k : Nat,h n = (k : Int) := ⟨(h n).toNat,by omega⟩;have := hm n (by omega)
    rw [hk,sumN_eq m (g := fun j => if j = k then W (j : Int) else 0) fun d _ => by
     by_cases e : d = k
     ·rw [if_pos e,if_pos (by omega)]
     ·rw [if_neg e,if_neg (by omega)],sumN_one,if_pos (by omega)]
   ·rw [if_neg h0,sumN_eq m (g := fun _ => 0) fun d _ => if_neg (by omega),sumN_zero]
structure OkP (N : Int → List Nat) (n m : Nat) (h : Nat → Int) : Prop where
 lt : ∀ d,-1 ≤ h d ∧ h d < m
 day : ∀ d,d < n → 0 ≤ h d → d ∈ N (h d)
 one : ∀ j : Nat,cntN h (j : Int) n ≤ 1
def Clo (N : Int → List Nat) (n : Nat) (h : Nat → Int) (X : Nat → Prop) : Prop := ∀ d,X d → d < n ∧ 0 ≤ h d ∧ ∀ e ∈ N (h d),X e
section
open Classical
noncomputable def maxP (P : Nat → Prop) (W : Int → Int) : Nat → Int
 | 0 => 0
 | m + 1 => if P m then max (maxP P W m) (W m) else maxP P W m
theorem maxP_pos {P : Nat → Prop} {W : Int → Int} : ∀ m,0 ≤ maxP P W m
 | 0 => Int.le_refl _
 | m + 1 => by have := maxP_pos (P := P) (W := W) m;unfold maxP;split <;> omega
theorem maxP_ge {P : Nat → Prop} {W : Int → Int} {i : Nat} (hP : P i) : ∀ m,i < m → W i ≤ maxP P W m
 | 0,h => absurd h (Nat.not_lt_zero _)
 | m + 1,h => by
   unfold maxP
   by_cases e : i = m
   ·subst e;rw [if_pos hP];omega
   ·have := maxP_ge (W := W) hP m (by omega);split <;> omega
theorem maxP_cases {P : Nat → Prop} {W : Int → Int} : ∀ m,maxP P W m = 0 ∨ ∃ i,i < m ∧ P i ∧ maxP P W m = W i
 | 0 => .inl rfl
 | m + 1 => by
   unfold maxP
   by_cases h : P m
   ·rw [if_pos h]
    by_cases hm : maxP P W m ≤ W m
    ·exact .inr ⟨m,Nat.lt_succ_self _,h,by omega⟩
    ·rcases maxP_cases (P := P) (W := W) m with e | ⟨i,h1,h2,h3⟩
     ·exact .inl (by omega)
     ·exact .inr ⟨i,by omega,h2,by omega⟩
   ·rw [if_neg h]
    rcases maxP_cases (P := P) (W := W) m with e | ⟨i,h1,h2,h3⟩
    ·exact .inl e
    ·exact .inr ⟨i,by omega,h2,h3⟩
def CertI (N : Int → List Nat) (n : Nat) (W : Int → Int) (h : Nat → Int) (i : Int) (X : Nat → Prop) : Prop := Clo N n h X ∧ (∀ d ∈ N i,X d) ∧ ∀ d,X d → W i ≤ W (h d)
theorem dual_max {N : Int → List Nat} {n m : Nat} {W : Int → Int} {h g : Nat → Int} {S : Int → Prop} (hh : OkP N n m h) (hg : OkP N n m g) (hS : ∀ d,d < n → 0 ≤ g d → S (g d) ∨ W (g d) = 0)
  (hW : ∀ j,0 ≤ W j) (hc : ∀ i : Nat,i < m → S i → cntN h i n = 0 → ∃ X,CertI N n W h i X) : worthW W g n ≤ worthW W h n := by
 let P : Nat → Nat → Prop := fun d i => ∃ X,CertI N n W h i X ∧ X d
 let y : Nat → Int := fun d => maxP (P d) W m
 let u : Int → Int := fun j => sumN (fun e => if h e = j then W j - y e else 0) n
 have y0 : ∀ d,0 ≤ y d := fun d => maxP_pos m
 have ylo : ∀ d,d < n → 0 ≤ h d → y d ≤ W (h d) := fun d _ h0 => by
  rcases maxP_cases (P := P d) (W := W) m with e | ⟨i,-,⟨X,⟨hX,-,hX3⟩,hX2⟩,e⟩
  ·show maxP _ _ _ ≤ _;rw [e];exact hW _
  ·show maxP _ _ _ ≤ _;rw [e];exact hX3 d hX2
 have yno : ∀ d,h d < 0 → y d = 0 := fun d h0 => by
  rcases maxP_cases (P := P d) (W := W) m with e | ⟨i,-,⟨X,⟨hX,-,-⟩,hX2⟩,e⟩
  ·exact e
  ·have := (hX d hX2).2.1;omega
 have u0 : ∀ j : Int,0 ≤ j → 0 ≤ u j := fun j hj => sumN_pos n fun e he => by
  split
  ·rename_i q;have := ylo e he (by omega);rw [q] at this;omega
  ·exact Int.le_refl _
 have key : ∀ d,d < n → 0 ≤ g d → W (g d) ≤ u (g d) + y d := fun d hd h0 => by
  have hdN := hg.day d hd h0;obtain ⟨j,hj⟩ : ∃ j : Nat,g d = (j : Int) := ⟨(g d).toNat,by omega⟩;have hjm : j < m := by have := (hg.lt d).2;omega
  rw [hj] at hdN ⊢
  by_cases hz : cntN h (j : Int) n = 0
  ·have hS1 := hS d hd h0;rw [hj] at hS1
   by_cases hw0 : W (j : Int) = 0
   ·rw [hw0];have := y0 d;have := u0 (j : Int) (by omega);omega
   obtain ⟨X,hX⟩ := hc j hjm (hS1.resolve_right hw0) hz;have : W (j : Int) ≤ y d := maxP_ge (P := P d) ⟨X,hX,hX.2.1 d hdN⟩ m hjm;have := u0 j (by omega);omega
  ·obtain ⟨e,he,hej⟩ := cntN_some hz
   have hu : u (j : Int) = W (j : Int) - y e := by
    show sumN _ n = _
    rw [sumN_eq n (g := fun k => if k = e then W (j : Int) - y k else 0) fun k hk => by
     by_cases q : k = e
     ·rw [if_pos q,q,if_pos hej]
     ·rw [if_neg q,if_neg fun q2 => q (cntN_two (hh.one j) hk he q2 hej)],sumN_one,if_pos he]
   have : y e ≤ y d := by
    rcases maxP_cases (P := P e) (W := W) m with e0 | ⟨i,him,⟨X,hX,hX2⟩,e0⟩
    ·show maxP _ _ _ ≤ _;rw [e0];exact y0 d
    ·show maxP _ _ _ ≤ _;rw [e0]
     refine maxP_ge (P := P d) ⟨X,hX,(hX.1 e hX2).2.2 d (by rw [hej];exact hdN)⟩ m him
   omega
 -- what h is worth
 have eh : worthW W h n = sumN (fun j => u (j : Int)) m + sumN y n := by
  have e1 : sumN (fun j => u (j : Int)) m = worthW (fun _ => 1) h n * 0 + sumN (fun e => if 0 ≤ h e then W (h e) - y e else 0) n := by
   rw [Int.mul_zero,Int.zero_add]
   have : ∀ k,k ≤ n → sumN (fun j => sumN (fun e => if h e = (j : Int) then W (j : Int) - y e else 0) k) m = sumN (fun e => if 0 ≤ h e then W (h e) - y e else 0) k := by
    intro k
    induction k with
    | zero => intro _;exact sumN_zero m
    | succ k ih =>
      intro hk
      show sumN (fun j => sumN (fun e => if h e = (j : Int) then W (j : Int) - y e else 0) k + if h k = (j : Int) then W (j : Int) - y k else 0) m = _
      rw [sumN_add,ih (by omega)]
      show _ = sumN (fun e => if 0 ≤ h e then W (h e) - y e else 0) k + (if 0 ≤ h k then W (h k) - y k else 0)
      congr 1
      by_cases h0 : 0 ≤ h k
      ·obtain ⟨q,hq⟩ : ∃ q : Nat,h k = (q : Int) := ⟨(h k).toNat,by omega⟩;have := (hh.lt k).2
       rw [if_pos h0,hq,sumN_eq m (g := fun j => if j = q then W (j : Int) - y k else 0) fun d _ => by
        by_cases e : d = q
        ·rw [if_pos e,if_pos (by omega)]
        ·rw [if_neg e,if_neg (by omega)],sumN_one,if_pos (by omega)]
      ·rw [if_neg h0,sumN_eq m (g := fun _ => 0) fun d _ => if_neg (by omega),sumN_zero]
   exact this n (Nat.le_refl _)
  rw [e1,Int.mul_zero,Int.zero_add,← sumN_add];refine sumN_eq n fun d _ => ?_
  split
  ·omega
  ·rw [yno d (by omega)];rfl
 have eg : worthW W g n ≤ worthW u g n + sumN y n := by
  unfold worthW;rw [← sumN_add];refine sumN_le n fun d hd => ?_
  split
  ·rename_i h0;exact key d hd h0
  ·have := y0 d;omega
 have eu : worthW u g n ≤ sumN (fun j => u (j : Int)) m := by
  rw [worth_cnt n fun d _ => (hg.lt d).2];refine sumN_le m fun j _ => ?_;have h1 := hg.one j;have h2 := cntN_pos (h := g) (j := (j : Int)) (n := n);have h3 := u0 (j : Int) (by omega)
  by_cases e : cntN g (j : Int) n = 0
  ·rw [e,Int.zero_mul];exact h3
  ·rw [show cntN g (j : Int) n = 1 by omega,Int.one_mul];exact Int.le_refl _
 omega
end
theorem updI_at {h : Nat → Int} {d : Nat} {i : Int} : updI h d i d = i := if_pos rfl
theorem updI_ne {h : Nat → Int} {d e : Nat} {i : Int} (q : e ≠ d) : updI h d i e = h e := if_neg q
theorem markT_at {t : Nat → Bool} {d : Nat} : markT t d d = true := if_pos rfl
theorem markT_ne {t : Nat → Bool} {d e : Nat} (q : e ≠ d) : markT t d e = t e := if_neg q
theorem markT_true {t : Nat → Bool} {d e : Nat} : markT t d e = true ↔ e = d ∨ t e = true := by
 by_cases q : e = d
 ·subst q;rw [markT_at];simp
 ·rw [markT_ne q];simp [q]
def OneMore (N : Int → List Nat) (n : Nat) (h g : Nat → Int) (i : Int) (Y : Nat → Prop) : Prop :=
 (∀ j : Nat,cntN g (j : Int) n = cntN h (j : Int) n + if i = (j : Int) then 1 else 0) ∧ ∀ d,g d ≠ h d → Y d ∧ 0 ≤ g d ∧ (g d = i ∨ ∃ e,g d = h e) ∧ d ∈ N (g d)
def Swap (N : Int → List Nat) (n : Nat) (h g : Nat → Int) (i : Int) (d : Nat) (Y : Nat → Prop) : Prop :=
 (∀ j : Nat,cntN g (j : Int) n = cntN h (j : Int) n - (if h d = (j : Int) then 1 else 0) + if i = (j : Int) then 1 else 0) ∧ ∀ d,g d ≠ h d → Y d ∧ 0 ≤ g d ∧ (g d = i ∨ ∃ e,g d = h e) ∧ d ∈ N (g d)
structure GiveR (N : Int → List Nat) (L : List Nat) (n : Nat) (i : Int) (h : Nat → Int) (t : Nat → Bool) (r : Gv) : Prop where
 mono : ∀ d,t d = true → r.2.2 d = true
 lt : ∀ d,r.2.2 d = true → t d = true ∨ d < n
 same : r.1 = false → r.2.1 = h
 all : r.1 = false → ∀ d ∈ L,r.2.2 d = true
 clo : r.1 = false → ∀ d,r.2.2 d = true → t d = false → 0 ≤ h d ∧ (∀ e ∈ N (h d),r.2.2 e = true) ∧ ∃ g,Swap N n h g i d fun e => r.2.2 e = true ∧ t e = false
 more : r.1 = true → OneMore N n h r.2.1 i fun e => r.2.2 e = true ∧ t e = false
theorem loopF_R {N : Int → List Nat} {n f : Nat} {g : Int → (Nat → Int) → (Nat → Bool) → Gv}
  (hg : ∀ i h t,0 ≤ i → untr n t < f → (∀ d,-1 ≤ h d) → GiveR N (N i) n i h t (g i h t)) {i : Int} (hi : 0 ≤ i) : ∀ (L : List Nat) h t,untr n t < f + 1 → (∀ d ∈ L,d < n ∧ d ∈ N i) → (∀ d,-1 ≤ h d) →
  GiveR N L n i h t (loopF g i L h t)
 | [],h,t,_,_,_ => ⟨fun d hd => hd,fun d hd => .inl hd,fun _ => rfl,fun _ d hd => absurd hd List.not_mem_nil,(fun _ d h1 h2 => by rw [show (loopF g i [] h t).2.2 d = t d from rfl,h2] at h1;cases h1),(fun e => by cases e)⟩
 | d :: L,h,t,hf,hL,hh => by
   have hdn := (hL d List.mem_cons_self).1;have hdN := (hL d List.mem_cons_self).2;have hL2 : ∀ d ∈ L,d < n ∧ d ∈ N i := fun e he => hL e (List.mem_cons_of_mem _ he);unfold loopF
   by_cases ht : t d = true
   ·rw [if_pos ht];have q := loopF_R hg hi L h t hf hL2 hh
    exact ⟨q.mono,q.lt,q.same,fun e x hx => by
     rcases List.mem_cons.1 hx with rfl | hx
     ·exact q.mono _ ht
     ·exact q.all e x hx,q.clo,q.more⟩
   ·have ht : t d = false := by simpa using ht
    rw [if_neg (by rw [ht];decide)];have hf2 := untr_mark hdn ht
    by_cases h0 : h d < 0
    ·rw [if_pos h0];refine ⟨fun e he => markT_true.2 (.inr he),fun e he => ?_,(fun e => by cases e),(fun e => by cases e),(fun e => by cases e),fun _ => ⟨fun j => ?_,fun e he => ?_⟩⟩
     ·rcases markT_true.1 he with rfl | he
      ·exact .inr hdn
      ·exact .inl he
     ·show cntN (updI h d i) _ n = _
      rw [cntN_upd hdn,if_neg (by omega)];omega
     ·have hed : e = d := by
       by_cases q : e = d
       ·exact q
       ·exact absurd (updI_ne q) he
      subst hed;refine ⟨⟨markT_at,ht⟩,?_,.inl updI_at,?_⟩
      ·show 0 ≤ updI h e i e;rw [updI_at];exact hi
      ·show e ∈ N (updI h e i e);rw [updI_at];exact hdN
    ·rw [if_neg h0];have q := hg (h d) h (markT t d) (by omega) (by omega) hh
     dsimp only
     generalize g (h d) h (markT t d) = r at q
     have hr0 : ∀ e,t e = true → r.2.2 e = true := fun e he => q.mono e (markT_true.2 (.inr he));have hrd : r.2.2 d = true := q.mono d markT_at
     have hrlt : ∀ e,r.2.2 e = true → t e = true ∨ e < n := fun e he => by
      rcases q.lt e he with he | he
      ·rcases markT_true.1 he with rfl | he
       ·exact .inr hdn
       ·exact .inl he
      ·exact .inr he
     by_cases hr : r.1 = true
     ·rw [if_pos hr];have ⟨m1,m2⟩ := q.more hr
      have hsd : r.2.1 d = h d := by
       by_cases e : r.2.1 d = h d
       ·exact e
       ·have := (m2 d e).1.2;rw [markT_at] at this;cases this
      refine ⟨hr0,hrlt,(fun e => by cases e),(fun e => by cases e),(fun e => by cases e),fun _ => ⟨fun j => ?_,fun e he => ?_⟩⟩
      ·show cntN (updI r.2.1 d i) _ n = _
       rw [cntN_upd hdn,m1,hsd];omega
      ·by_cases hed : e = d
       ·subst hed;refine ⟨⟨hrd,ht⟩,?_,.inl updI_at,?_⟩
        ·show 0 ≤ updI r.2.1 e i e;rw [updI_at];exact hi
        ·show e ∈ N (updI r.2.1 e i e);rw [updI_at];exact hdN
       ·have he2 : r.2.1 e ≠ h e := fun x => he ((updI_ne hed).trans x);have ⟨⟨a1,a2⟩,a3,a4,a5⟩ := m2 e he2;have ex : updI r.2.1 d i e = r.2.1 e := updI_ne hed;refine ⟨⟨a1,?_⟩,?_,?_,?_⟩
        ·rw [markT_ne hed] at a2;exact a2
        ·show 0 ≤ updI r.2.1 d i e;rw [ex];exact a3
        ·show updI r.2.1 d i e = i ∨ ∃ e',updI r.2.1 d i e = h e'
         rw [ex]
         rcases a4 with a4 | ⟨e',a4⟩
         ·exact .inr ⟨d,a4⟩
         ·exact .inr ⟨e',a4⟩
        ·show e ∈ N (updI r.2.1 d i e);rw [ex];exact a5
     ·rw [if_neg hr];have hr : r.1 = false := by simpa using hr
      have hs := q.same hr;rw [hs];have q2 := loopF_R hg hi L h r.2.2 (by have := untr_le (n := n) hr0;omega) hL2 hh;refine ⟨fun e he => q2.mono e (hr0 e he),fun e he => (q2.lt e he).elim (hrlt e) .inr,q2.same,fun e x hx => ?_,fun e x hx hx2 => ?_,fun e => ⟨(q2.more e).1,fun x hx => ?_⟩⟩
      ·rcases List.mem_cons.1 hx with rfl | hx
       ·exact q2.mono _ hrd
       ·exact q2.all e x hx
      ·by_cases hx3 : r.2.2 x = true
       ·by_cases hxd : x = d
        ·subst hxd;refine ⟨by omega,fun y hy => q2.mono y (q.all hr y hy),updI h x i,fun j => ?_,fun y hy => ?_⟩
         ·rw [cntN_upd hdn]
         ·have hyd : y = x := by
           by_cases q : y = x
           ·exact q
           ·exact absurd (updI_ne q) hy
          subst hyd;exact ⟨⟨q2.mono _ hrd,ht⟩,by rw [updI_at];exact hi,.inl updI_at,by rw [updI_at];exact hdN⟩
        ·obtain ⟨a1,a2,g',a3,a4⟩ := q.clo hr x hx3 (by rw [markT_ne hxd];exact hx2)
         have hgd : g' d = h d := by
          by_cases e : g' d = h d
          ·exact e
          ·have := (a4 d e).1.2;rw [markT_at] at this;cases this
         refine ⟨a1,fun y hy => q2.mono y (a2 y hy),updI g' d i,fun j => ?_,fun y hy => ?_⟩
         ·rw [cntN_upd hdn,a3,hgd];omega
         ·by_cases hyd : y = d
          ·subst hyd;exact ⟨⟨q2.mono _ hrd,ht⟩,by rw [updI_at];exact hi,.inl updI_at,by rw [updI_at];exact hdN⟩
          ·have ⟨⟨b1,b2⟩,b3,b4,b5⟩ := a4 y fun x => hy ((updI_ne hyd).trans x);rw [markT_ne hyd] at b2;rw [updI_ne hyd];refine ⟨⟨q2.mono _ b1,b2⟩,b3,?_,b5⟩
           rcases b4 with b4 | ⟨e',b4⟩
           ·exact .inr ⟨d,b4⟩
           ·exact .inr ⟨e',b4⟩
       ·obtain ⟨a1,a2,g',a3,a4⟩ := q2.clo e x hx (by simpa using hx3);refine ⟨a1,a2,g',a3,fun y hy => ?_⟩;have ⟨⟨b1,b2⟩,b3⟩ := a4 y hy;refine ⟨⟨b1,?_⟩,b3⟩
        by_cases ty : t y = true
        ·rw [hr0 y ty] at b2;cases b2
        ·simpa using ty
      ·have ⟨⟨b1,b2⟩,b3⟩ := (q2.more e).2 x hx;refine ⟨⟨b1,?_⟩,b3⟩
       by_cases ty : t x = true
       ·rw [hr0 x ty] at b2;cases b2
       ·simpa using ty
theorem giveF_R {N : Int → List Nat} {n : Nat} (hN : ∀ i,∀ d ∈ N i,d < n) : ∀ f i h t,0 ≤ i → untr n t < f → (∀ d,-1 ≤ h d) → GiveR N (N i) n i h t (giveF N f i h t)
 | 0,_,_,_,_,hf,_ => absurd hf (Nat.not_lt_zero _)
 | f + 1,i,h,t,hi,hf,hh => loopF_R (fun i h t hi hf hh => giveF_R hN f i h t hi hf hh) hi (N i) h t hf (fun d hd => ⟨hN i d hd,hd⟩) hh
theorem loopF_clo {N : Int → List Nat} {n : Nat} {X : Nat → Prop} {g : Int → (Nat → Int) → (Nat → Bool) → Gv} (hs : ∀ i h t,(g i h t).1 = false → (g i h t).2.1 = h)
  (hg : ∀ i h t,Clo N n h X → ((∀ d ∈ N i,X d) → (g i h t).1 = false) ∧ ∀ d,X d → (g i h t).2.1 d = h d) (i : Int) : ∀ (L : List Nat) h t,Clo N n h X → ((∀ d ∈ L,X d) → (loopF g i L h t).1 = false) ∧ ∀ d,X d → (loopF g i L h t).2.1 d = h d
 | [],_,_,_ => ⟨fun _ => rfl,fun _ _ => rfl⟩
 | d :: L,h,t,hX => by
   unfold loopF
   by_cases ht : t d = true
   ·rw [if_pos ht];have q := loopF_clo hs hg i L h t hX;exact ⟨fun h => q.1 fun e he => h e (List.mem_cons_of_mem _ he),q.2⟩
   ·rw [if_neg ht]
    by_cases h0 : h d < 0
    ·rw [if_pos h0];have hn : ¬ X d := fun x => by have := (hX d x).2.1;omega
     exact ⟨fun h => absurd (h d List.mem_cons_self) hn,fun e he => updI_ne fun (x : e = d) => hn (x ▸ he)⟩
    ·rw [if_neg h0]
     dsimp only
     have q := hg (h d) h (markT t d) hX;have hs2 := hs (h d) h (markT t d)
     generalize g (h d) h (markT t d) = r at q hs2
     by_cases hr : r.1 = true
     ·rw [if_pos hr];have hn : ¬ X d := fun x => by have := q.1 (hX d x).2.2;rw [hr] at this;cases this
      exact ⟨fun h => absurd (h d List.mem_cons_self) hn,fun e he => (updI_ne fun (x : e = d) => hn (x ▸ he)).trans (q.2 e he)⟩
     ·rw [if_neg hr,hs2 (by simpa using hr)];have q2 := loopF_clo hs hg i L h r.2.2 hX;exact ⟨fun h => q2.1 fun e he => h e (List.mem_cons_of_mem _ he),q2.2⟩
theorem loopF_same {g : Int → (Nat → Int) → (Nat → Bool) → Gv} (hs : ∀ i h t,(g i h t).1 = false → (g i h t).2.1 = h) (i : Int) : ∀ (L : List Nat) h t,(loopF g i L h t).1 = false → (loopF g i L h t).2.1 = h
 | [],_,_,_ => rfl
 | d :: L,h,t,e => by
   unfold loopF at e ⊢
   by_cases ht : t d = true
   ·rw [if_pos ht] at e ⊢;exact loopF_same hs i L h t e
   ·rw [if_neg ht] at e ⊢
    by_cases h0 : h d < 0
    ·rw [if_pos h0] at e;cases e
    ·rw [if_neg h0] at e ⊢
     dsimp only at e ⊢
     have hs2 := hs (h d) h (markT t d)
     generalize g (h d) h (markT t d) = r at e hs2 ⊢
     by_cases hr : r.1 = true
     ·rw [if_pos hr] at e;cases e
     ·rw [if_neg hr] at e ⊢;rw [hs2 (by simpa using hr)] at e ⊢;exact loopF_same hs i L h _ e
theorem giveF_same {N : Int → List Nat} : ∀ f i h t,(giveF N f i h t).1 = false → (giveF N f i h t).2.1 = h
 | 0,_,_,_,_ => rfl
 | f + 1,i,h,t,e => loopF_same (fun i h t e => giveF_same f i h t e) i (N i) h t e
theorem giveF_clo {N : Int → List Nat} {n : Nat} {X : Nat → Prop} : ∀ f i h t,Clo N n h X → ((∀ d ∈ N i,X d) → (giveF N f i h t).1 = false) ∧ ∀ d,X d → (giveF N f i h t).2.1 d = h d
 | 0,_,_,_,_ => ⟨fun _ => rfl,fun _ _ => rfl⟩
 | f + 1,i,h,t,hX => loopF_clo (fun i h t e => giveF_same f i h t e) (fun i h t hX => giveF_clo f i h t hX) i (N i) h t hX
theorem addR_R {N : Int → List Nat} {n m : Nat} {h : Nat → Int} {i : Nat} (hN : ∀ i,∀ d ∈ N i,d < n) (hh : OkP N n m h) : GiveR N (N i) n i h (fun _ => false) (addR N n h i) :=
 giveF_R hN (n + 1) i h _ (by omega) (by have := untr_none n;omega) fun d => (hh.lt d).1
theorem OkP.more {N : Int → List Nat} {n m : Nat} {h g : Nat → Int} {i : Nat} {Y : Nat → Prop} (hh : OkP N n m h) (hi : i < m) (hg : ∀ d,g d ≠ h d → Y d ∧ 0 ≤ g d ∧ (g d = i ∨ ∃ e,g d = h e) ∧ d ∈ N (g d)) (hc : ∀ j : Nat,cntN g (j : Int) n ≤ 1) : OkP N n m g := by
 refine ⟨fun d => ?_,fun d hd h0 => ?_,hc⟩
 ·by_cases e : g d = h d
  ·rw [e];exact hh.lt d
  ·have ⟨_,h1,h2,_⟩ := hg d e
   rcases h2 with h2 | ⟨e,h2⟩
   ·omega
   ·rw [h2];exact hh.lt e
 ·by_cases e : g d = h d
  ·rw [e] at h0 ⊢;exact hh.day d hd h0
  ·exact (hg d e).2.2.2
theorem add_true {N : Int → List Nat} {n m : Nat} {h : Nat → Int} {i : Nat} (hN : ∀ i,∀ d ∈ N i,d < n) (hh : OkP N n m h) (hi : i < m) (h0 : cntN h (i : Int) n = 0) (hb : addB N n h i = true) :
  OkP N n m (addF N n h i) ∧ ∀ j : Nat,cntN (addF N n h i) (j : Int) n = cntN h (j : Int) n + if i = j then 1 else 0 := by
 have q := (addR_R (i := i) hN hh).more hb;have e : addF N n h i = (addR N n h i).2.1 := if_pos hb
 have hc : ∀ j : Nat,cntN (addF N n h i) (j : Int) n = cntN h (j : Int) n + if i = j then 1 else 0 := fun j => by
  rw [e,q.1 j];congr 1
  by_cases x : i = j
  ·rw [if_pos x,if_pos (by omega)]
  ·rw [if_neg x,if_neg (by omega)]
 refine ⟨hh.more hi (Y := fun _ => True) (fun d hd => ?_) fun j => ?_,hc⟩
 ·rw [e] at hd ⊢;exact ⟨trivial,(q.2 d hd).2⟩
 ·rw [hc];have := hh.one j
  split
  ·rename_i x;subst x;omega
  ·omega
theorem add_false {N : Int → List Nat} {n m : Nat} {h : Nat → Int} {i : Nat} (hN : ∀ i,∀ d ∈ N i,d < n) (hh : OkP N n m h) (hi : i < m) (h0 : cntN h (i : Int) n = 0) (hb : addB N n h i = false) :
  addF N n h i = h ∧ ∃ X,Clo N n h X ∧ (∀ d ∈ N i,X d) ∧ ∀ d,X d → ∃ g,OkP N n m g ∧ ∀ j : Nat,cntN g (j : Int) n = cntN h (j : Int) n - (if h d = (j : Int) then 1 else 0) + if i = j then 1 else 0 := by
 have q := addR_R (i := i) hN hh;refine ⟨if_neg (by show ¬ addB N n h i = true;rw [hb];decide),fun d => (addR N n h i).2.2 d = true,fun d hd => ?_,q.all hb,fun d hd => ?_⟩
 ·have := q.clo hb d hd rfl;exact ⟨(q.lt d hd).resolve_left (by decide),this.1,this.2.1⟩
 ·obtain ⟨a1,-,g,a2,a3⟩ := q.clo hb d hd rfl;have hd := (q.lt d hd).resolve_left (by decide)
  have hc : ∀ j : Nat,cntN g (j : Int) n = cntN h (j : Int) n - (if h d = (j : Int) then 1 else 0) + if i = j then 1 else 0 := fun j => by
   rw [a2 j];congr 1
   by_cases x : i = j
   ·rw [if_pos x,if_pos (by omega)]
   ·rw [if_neg x,if_neg (by omega)]
  refine ⟨g,hh.more hi a3 fun j => ?_,hc⟩;rw [hc];have := hh.one j
  split
  ·split
   ·omega
   ·omega
  ·split
   ·rename_i x;subst x;omega
   ·omega
theorem add_clo {N : Int → List Nat} {n : Nat} {h : Nat → Int} {i : Int} {X : Nat → Prop} (hX : Clo N n h X) (d : Nat) (hd : X d) : addF N n h i d = h d := by
 unfold addF
 split
 ·exact (giveF_clo (n + 1) i h (fun _ => false) hX).2 d hd
 ·rfl
theorem Clo.of_same {N : Int → List Nat} {n : Nat} {h g : Nat → Int} {X : Nat → Prop} (hX : Clo N n h X) (e : ∀ d,X d → g d = h d) : Clo N n g X := fun d hd => by
 rw [e d hd];exact hX d hd
structure PlanC (N : Int → List Nat) (n m : Nat) (R : Int → Int → Prop) (p : List Int) (h : Nat → Int) : Prop where
 ok : OkP N n m h
 only : ∀ j : Nat,cntN h (j : Int) n ≠ 0 → (j : Int) ∈ p
 cert : ∀ i ∈ p,cntN h i n = 0 → ∃ X,Clo N n h X ∧ (∀ d ∈ N i,X d) ∧ ∀ d,X d → R (h d) i
theorem noPlan_ok {N : Int → List Nat} {n m : Nat} : OkP N n m noPlan := by
 have hc : ∀ j : Nat,cntN noPlan (j : Int) n = 0 := fun j => cntN_of_zero fun d _ => by show (-1 : Int) ≠ _;omega
 exact ⟨fun d => ⟨Int.le_refl _,by show (-1 : Int) < _;omega⟩,fun d _ h => absurd h (by show ¬ (0 : Int) ≤ -1;omega),fun j => by rw [hc];decide⟩
theorem noPlan_cnt {n j : Nat} : cntN noPlan (j : Int) n = 0 := cntN_of_zero fun d _ => by show (-1 : Int) ≠ _;omega
theorem foldl_C {N : Int → List Nat} {n m : Nat} {R : Int → Int → Prop} (hN : ∀ i,∀ d ∈ N i,d < n) : ∀ (l p : List Int) (h : Nat → Int),(p ++ l).Nodup → (p ++ l).Pairwise R → (∀ x ∈ p ++ l,∃ k : Nat,x = (k : Int) ∧ k < m) → PlanC N n m R p h → PlanC N n m R (p ++ l) (l.foldl (addF N n) h)
 | [],p,h,_,_,_,hp => by rw [List.append_nil];exact hp
 | i :: l,p,h,hd,hR,hm,hp => by
   rw [List.foldl_cons,show p ++ i :: l = (p ++ [i]) ++ l by simp];rw [show p ++ i :: l = (p ++ [i]) ++ l by simp] at hd hR hm;refine foldl_C hN l (p ++ [i]) _ hd hR hm ?_;obtain ⟨k,rfl,hk⟩ := hm i (by simp);have hd1 := (List.nodup_append.1 hd).1;have hR1 := (List.pairwise_append.1 hR).1
   have hnp : ∀ x ∈ p,x ≠ (k : Int) := fun x hx e => by
    have := (List.nodup_append.1 hd1).2.2 x hx _ (List.mem_singleton.2 rfl);exact this e
   have hRk : ∀ x ∈ p,R x (k : Int) := fun x hx => (List.pairwise_append.1 hR1).2.2 x hx _ (List.mem_singleton.2 rfl)
   have h0 : cntN h (k : Int) n = 0 := by
    by_cases e : cntN h (k : Int) n = 0
    ·exact e
    ·exact absurd rfl (hnp _ (hp.only k e))
   have hin : ∀ d,d < n → 0 ≤ h d → h d ∈ p := fun d hd h1 => by
    obtain ⟨j,hj⟩ : ∃ j : Nat,h d = (j : Int) := ⟨(h d).toNat,by omega⟩;rw [hj];exact hp.only j (by have := cntN_ge hd hj;omega)
   have hold : ∀ i ∈ p,cntN h i n = 0 → ∃ X,Clo N n (addF N n h k) X ∧ (∀ d ∈ N i,X d) ∧ ∀ d,X d → R (addF N n h k d) i := fun i hi hz => by
    obtain ⟨X,h1,h2,h3⟩ := hp.cert i hi hz;exact ⟨X,h1.of_same (add_clo h1),h2,fun d hd => by rw [add_clo h1 d hd];exact h3 d hd⟩
   by_cases hb : addB N n h k = true
   ·obtain ⟨h1,h2⟩ := add_true hN hp.ok hk h0 hb;refine ⟨h1,fun j hj => ?_,fun i hi hz => ?_⟩
    ·rw [h2] at hj
     by_cases e : k = j
     ·subst e;simp
     ·rw [if_neg e,Int.add_zero] at hj;exact List.mem_append_left _ (hp.only j hj)
    ·obtain ⟨q,rfl,hq⟩ := hm i (List.mem_append_left _ hi);rw [h2] at hz;have := cntN_pos (h := h) (j := (q : Int)) (n := n)
     by_cases e : k = q
     ·rw [if_pos e] at hz;omega
     ·rw [if_neg e,Int.add_zero] at hz
      rcases List.mem_append.1 hi with hi | hi
      ·exact hold _ hi hz
      ·rw [List.mem_singleton] at hi;omega
   ·have hb : addB N n h k = false := by simpa using hb
    obtain ⟨h1,X,h2,h3,-⟩ := add_false hN hp.ok hk h0 hb;refine ⟨by rw [h1];exact hp.ok,fun j hj => ?_,fun i hi hz => ?_⟩
    ·rw [h1] at hj;exact List.mem_append_left _ (hp.only j hj)
    ·rcases List.mem_append.1 hi with hi | hi
     ·rw [h1] at hz;exact hold i hi hz
     ·rw [List.mem_singleton] at hi;subst hi;rw [h1];exact ⟨X,h2,h3,fun d hd => hRk _ (hin d (h2 d hd).1 (h2 d hd).2.1)⟩
theorem planF_C {N : Int → List Nat} {n m : Nat} {R : Int → Int → Prop} {l : List Int} (hN : ∀ i,∀ d ∈ N i,d < n) (hd : l.Nodup) (hR : l.Pairwise R) (hm : ∀ x ∈ l,∃ k : Nat,x = (k : Int) ∧ k < m) : PlanC N n m R l (planF N n l) := by
 have q := foldl_C hN l [] noPlan hd hR hm ⟨noPlan_ok,fun j hj => absurd noPlan_cnt hj,fun i hi => absurd hi List.not_mem_nil⟩;exact q
structure SpanT (t : Tr) (n : Nat) : Prop where
 sp : ∀ k (h : k < t.fl.length),0 ≤ t.fl[k].lo ∧ t.fl[k].hi < n
theorem openN_in {cl : List Int} {lo hi : Int} {d : Nat} (h0 : 0 ≤ lo) : d ∈ openN cl lo hi ↔ lo ≤ (d : Int) ∧ (d : Int) ≤ hi ∧ (d : Int) ∉ cl := by
 unfold openN;rw [List.mem_filter,List.mem_range'_1];simp only [Bool.not_eq_true',decide_eq_false_iff_not]
 constructor
 ·rintro ⟨h1,h2⟩;exact ⟨by omega,by omega,h2⟩
 ·rintro ⟨h1,h2,h3⟩;exact ⟨by omega,h3⟩
theorem trN_at {t : Tr} {i : Nat} (hi : i < t.fl.length) : t.N (i : Int) = openN t.cl t.fl[i].lo t.fl[i].hi := by
 unfold Tr.N;rw [Int.toNat_natCast,List.getElem?_eq_getElem hi]
theorem trN_lt {t : Tr} {n : Nat} (hT : SpanT t n) (i : Int) (d : Nat) (hd : d ∈ t.N i) : d < n := by
 unfold Tr.N at hd
 cases e : t.fl[i.toNat]? with
 | none => rw [e] at hd;cases hd
 | some f =>
   rw [e] at hd;obtain ⟨hk,rfl⟩ := List.getElem?_eq_some_iff.1 e;have := hT.sp _ hk;have := (openN_in this.1).1 hd;omega
def inA (fl : List Fl) (a b x : Int) : Bool := match fl[x.toNat]? with | some f => decide (a ≤ f.lo ∧ f.hi ≤ b) | none => false
theorem inA_at {fl : List Fl} {a b : Int} {i : Nat} (hi : i < fl.length) : inA fl a b (i : Int) = decide (a ≤ fl[i].lo ∧ fl[i].hi ≤ b) := by
 unfold inA;rw [Int.toNat_natCast,List.getElem?_eq_getElem hi]
def jamN (fl : List Fl) (a b : Int) (l : List Int) : Int := ((l.filter (inA fl a b)).length : Int)
end Go.Proofs.YtnklbepeoicgpaaGreat
namespace Go.Proofs.YtnklbepeoicgpaaGreat
open Go.RowKit Go.Wk Go.Proofs
attribute [local irreducible] Go.Wk.Wops Go.Wk.Wp Go.Wk.Mtree Go.Wk.Mops
set_option maxHeartbeats 8000000
set_option maxRecDepth 20000
theorem FlawsS.adm {w V : World} {S m : Nat} {v : Value} {fl : List Fl} (h : FlawsS w S v fl) (hA : Adm m w V) : FlawsS V S v fl := ⟨h.v.cells fun _ _ _ _ hc => hA.cell hc⟩
theorem OwnI.adm {w V : World} {base m : Nat} {v : Value} {l : List Int} (h : OwnI w base v l) (hA : Adm m w V) : OwnI V base v l := ownsRow_adm h hA
theorem keepN_mem {l : List Int} {fl : List Fl} {f : Fl} : ∀ {k : Nat},f ∈ keepN l fl k → f ∈ fl
 | 0,h => by cases h
 | k + 1,h => by
   unfold keepN at h
   split at h
   ·exact keepN_mem h
   ·rcases List.mem_append.1 h with h | h
    ·exact keepN_mem h
    ·cases e : fl[k]? with
     | none => rw [e] at h;cases h
     | some g => rw [e] at h;obtain rfl : f = g := by simpa using h
                 exact List.mem_of_getElem? e
theorem PlanT.without {t : Tr} {n : Nat} (h : PlanT t n) (l : List Int) : PlanT (withoutT t l) n :=
 ⟨h.tn,h.n1,h.n2,h.cl,by have := keepN_len (l := l) (fl := t.fl) t.fl.length;have := h.fl;show (keepN l t.fl t.fl.length).length ≤ 12;omega,
  fun k hk => by obtain ⟨j,hj,e⟩ := List.mem_iff_getElem.1 (keepN_mem (List.getElem_mem hk));rw [← e];exact h.sp j hj,
  fun k hk => by obtain ⟨j,hj,e⟩ := List.mem_iff_getElem.1 (keepN_mem (List.getElem_mem hk));rw [← e];exact h.mr j hj⟩
def onF (t : Tr) (n i d : Nat) : Int := mAt t.fl (i : Int) + meritF (closedT (withoutT t [(i : Int)]) (d : Int)) n
theorem onF_le {t : Tr} {n : Nat} (h : PlanT t n) (hl : t.cl.length ≤ 1000) (i d : Nat) : 0 ≤ onF t n i d ∧ onF t n i d ≤ 61000 := by
 have h1 := mAt_le h.mr (i : Int);have h2 := meritF_le ((h.without [(i : Int)]).closed hl (d : Int));unfold onF;omega
theorem dayOn_c (t : Tr) (n i d : Nat) (v : Value) (w : World) (hP : PlanT t n) (hcl : t.cl.length ≤ 900) (hr : Rising t.cl) (hi : i < t.fl.length) (hV : TourV w w.heap.size v t) :
  CallsV Tryz.prog 114 #[v,.int .i64 (i : Int),.int .i64 (d : Int)] w fun v' w' => v' = .int .i64 (onF t n i d) ∧ Ext w w' := by
 obtain ⟨A,c,A2,c2,rfl,hI,hF⟩ := hV.open';have hFS : FlawsS w w.heap.size (.slice A2 t.fl.length c2) t.fl := ⟨hF⟩;have hTS : TourS w w.heap.size (.agg #[.int .i64 t.n,.slice A t.cl.length c,.slice A2 t.fl.length c2]) t := ⟨hV⟩;have hif2 : (i : Int) < (t.fl.length : Int) := by omega
 obtain ⟨b2,o2,eA,hb2,x0,x1,x2,x3⟩ := FlawsV.at hF hi;subst eA;have hm : ∃ _u : Unit,mAt t.fl (i : Int) = t.fl[i].m := ⟨(),mAt_at hi⟩;have ho := onF_le hP (by omega) i d;have hP2 := (hP.without [(i : Int)]).closed (d := (d : Int)) (by show t.cl.length ≤ _;omega);have hpf := hP.fl;clear hV hI hF;refine Wp.fn Tryz.func114 rfl Tryz.ntmps114 (by simp) ?_;have xw := Ext.refl w;refine Wp.keep [0,1,2] ?_;rintro r1 ⟨o,p,r,-⟩;simp [go_sem] at o p r;refine sRg fun K' gd hK => ?_;refine cu1 fun K1 hK1 => ?_;go_simp;apply hK1;clear hK1 K1;refine Wops.absT fun B n3 h R3 => ?_;obtain ⟨q3,h,s3,l,f3,r3⟩ := h;try simp only [q3] at l f3 r3 ⊢
 replace R3 := (show RowC _ _ _ _ from R3);replace hFS := hFS.ext h;replace hTS := hTS.ext h;replace xw := xw.trans h;replace x0 := h.cell x0;replace x1 := h.cell x1;replace x2 := h.cell x2;replace x3 := h.cell x3;have a := l 0 _ rfl;have f := l 1 _ rfl;have g := l 2 _ rfl;clear l h;clear r3;go_simp;apply hK;clear hK K' gd;refine Wp.keep [1,2,3] ?_;rintro r2 ⟨q,s,u,-⟩;simp [go_sem,o,p,r] at q s u;clear o p r;refine Wp.seqDraw (.inl rfl) mixed [([0,1,2,3,4],none),([5,6,7,10],some (8,false)),([],some (9,false)),([],some (11,false)),([],some (12,false)),([13,14],none)] (by kernel_rfl) fun K' gd hK hg => ?_;clear hg;simp only [pick,nth,List.map_cons,List.map_nil,Option.map_none,Option.map_some];refine Mops.absD fun D2 hD2 zD2 => ?_;replace f3 := hD2.fz a f3;replace hFS := hFS.ext hD2;replace hTS := hTS.ext hD2;replace xw := xw.trans hD2;replace x0 := hD2.cell x0;replace x1 := hD2.cell x1;replace x2 := hD2.cell x2;replace x3 := hD2.cell x3;replace a := hD2.cell a;replace f := hD2.cell f;replace g := hD2.cell g;clear hD2;refine mNo ?_
 refine mAc ?_
 intro K1 hK1;go_simp;refine hK1 _ _ (XA) ?_;clear hK1 K1;refine Mops.absT fun z n15 b R15 => ?_;obtain ⟨q15,b,s15,x,f15,r15⟩ := b;try simp only [q15] at x f15 r15 ⊢
 replace R15 := (show RowC _ _ _ _ from R15);replace f3 := b.fz a f3;replace hFS := hFS.ext b;replace hTS := hTS.ext b;replace xw := xw.trans b;replace x0 := b.cell x0;replace x1 := b.cell x1;replace x2 := b.cell x2;replace x3 := b.cell x3;replace a := b.cell a;replace f := b.cell f;replace g := b.cell g;clear b f15;have j := x 0 _ rfl;clear x;apply Mops.act
 ·exact fun _ _ => Rops_done
 intro K1 hK1;go_simp;refine Wcall (.inl rfl) (without_c t [(i : Int)] _ (.slice (some ⟨n15,0,none⟩) 1 1) _ (hTS.v.more (Below.size (XE))) ⟨_,1,rfl,fun _ => ⟨n15,0,rfl,cell_lt j,fun k hk => by obtain rfl : k = 0 := (by simpa using hk);exact j⟩,Nat.le_refl _⟩ (by simp) (by omega) (by omega)) ?_;rintro v w3 ⟨hW,hE⟩;obtain ⟨cv,fv,rfl,w1,w2⟩ := hW;go_simp;refine hK1 _ _ (by assumption) ?_;clear hK1 K1;have z3 := Below.size hE;replace f3 := hE.fz a f3;replace hFS := hFS.ext hE;replace hTS := hTS.ext hE;replace R15 := R15.ext hE;replace xw := xw.trans hE;replace x0 := hE.cell x0;replace x1 := hE.cell x1;replace x2 := hE.cell x2;replace x3 := hE.cell x3;replace a := hE.cell a;replace f := hE.cell f;replace g := hE.cell g;replace j := hE.cell j;clear hE;apply Mops.act
 ·exact fun _ _ => Rops_done
 intro K1 hK1;go_simp;refine Wcall (.inl rfl) (closed_c (withoutT t [(i : Int)]) (d : Int) _ _ ⟨cv,fv,rfl,w1.ints,w2.flawsV⟩ hr (by show t.cl.length ≤ _;omega) (by have := hP2.fl;show _ ≤ 1000;have e : (closedT (withoutT t [(i : Int)]) (d : Int)).fl = (withoutT t [(i : Int)]).fl := rfl;rw [e] at this;omega)) ?_;rintro v w4 ⟨hM,hE⟩;go_simp;refine hK1 _ _ (by assumption) ?_;clear hK1 K1;have z4 := Below.size hE;replace f3 := hE.fz a f3;replace hFS := hFS.ext hE;replace hTS := hTS.ext hE;replace R15 := R15.ext hE;replace xw := xw.trans hE;replace x0 := hE.cell x0;replace x1 := hE.cell x1;replace x2 := hE.cell x2;replace x3 := hE.cell x3;replace a := hE.cell a;replace f := hE.cell f;replace g := hE.cell g;replace j := hE.cell j;clear hE;apply Mops.act
 ·exact fun _ _ => Rops_done
 intro K1 hK1;go_simp;refine Wcall (.inl rfl) (mendMerit_c (closedT (withoutT t [(i : Int)]) (d : Int)) n _ _ hP2 hM.tourV) ?_;rintro v w5 ⟨rfl,hE⟩;go_simp;refine hK1 _ _ (by assumption) ?_;clear hK1 K1;have z5 := Below.size hE;replace f3 := hE.fz a f3;replace hFS := hFS.ext hE;replace hTS := hTS.ext hE;replace R15 := R15.ext hE;replace xw := xw.trans hE;replace x0 := hE.cell x0;replace x1 := hE.cell x1;replace x2 := hE.cell x2;replace x3 := hE.cell x3;replace a := hE.cell a;replace f := hE.cell f;replace g := hE.cell g;replace j := hE.cell j;clear hE;refine mNo ?_
 refine Mops.done ?_;apply hK;clear hK K' gd;refine Wp.keep [6] ?_;rintro r6 ⟨y,-⟩;simp [go_sem,q,s,u] at y;clear q s u;refine Wp.ret ?_;refine endK_tmp Tryz.results114 (by decide) ?_;rw [y];exact ⟨by rw [show t.fl[i].m + meritF (closedT (withoutT t [(i : Int)]) (d : Int)) n = onF t n i d by unfold onF;rw [hm.choose_spec],IntWalk.i64_in _ (by omega)],xw⟩
def daysP (t : Tr) (n i d : Nat) : Bool := decide (onF t n i d = meritF t n)
def daysL (t : Tr) (n i : Nat) : List Int := ((t.N (i : Int)).filter (daysP t n i)).map fun d : Nat => (d : Int)
theorem openN_len60 {cl : List Int} {lo hi : Int} {n : Nat} (h0 : 0 ≤ lo) (hh : hi < n) (hn : n ≤ 60) : (openN cl lo hi).length ≤ 60 := by
 have := openN_le cl lo hi;omega
theorem daysOf_c (t : Tr) (n i : Nat) (v : Value) (w : World) (hP : PlanT t n) (hcl : t.cl.length ≤ 900) (hr : Rising t.cl) (hi : i < t.fl.length) (hV : TourV w w.heap.size v t) :
  CallsV Tryz.prog 104 #[v,.int .i64 (i : Int)] w fun v' w' => IntsB w' w.heap.size v' (daysL t n i) ∧ Ext w w' := by
 obtain ⟨A,c,A2,c2,rfl,hI,hF⟩ := hV.open';have hIS : IntsS w w.heap.size (.slice A t.cl.length c) t.cl := ⟨hI⟩;have hTS : TourS w w.heap.size (.agg #[.int .i64 t.n,.slice A t.cl.length c,.slice A2 t.fl.length c2]) t := ⟨hV⟩;have hif2 : (i : Int) < (t.fl.length : Int) := by omega
 obtain ⟨b2,o2,eA,hb2,x0,x1,x2,x3⟩ := FlawsV.at hF hi;subst eA;obtain ⟨F,hFe⟩ : ∃ F,∃ _u : Unit,t.fl[i] = F := ⟨_,(),rfl⟩;rw [hFe.choose_spec] at x0 x1 x2 x3;have hsp : ∃ _u : Unit,0 ≤ F.lo ∧ F.hi < n := ⟨(),by rw [← hFe.choose_spec];exact hP.sp i hi⟩;obtain ⟨lo,hlo⟩ : ∃ lo : Nat,∃ _u : Unit,F.lo = (lo : Int) := ⟨F.lo.toNat,(),by have := hsp.choose_spec;omega⟩;rw [hlo.choose_spec] at x1;obtain ⟨hi9,hhi⟩ : ∃ h,∃ _u : Unit,F.hi = h := ⟨_,(),rfl⟩;rw [hhi.choose_spec] at x2;obtain ⟨L,hL⟩ : ∃ L,∃ _u : Unit,openN t.cl (lo : Int) hi9 = L ∧ t.N (i : Int) = L ∧ L.length ≤ 60 := ⟨_,(),rfl,by rw [trN_at hi,hFe.choose_spec,hlo.choose_spec,hhi.choose_spec],openN_len60 (by omega) (by rw [← hhi.choose_spec];exact hsp.choose_spec.2) hP.n2⟩;have hdl : ∃ _u : Unit,daysL t n i = (L.filter (daysP t n i)).map fun d : Nat => (d : Int) := ⟨(),by unfold daysL;rw [hL.choose_spec.2.1]⟩;have hit := open_it;have hh9 : hi9 ≤ 1000000 := by have := hsp.choose_spec;have := hhi.choose_spec;have := hP.n2;omega
 clear hV hI hF;refine Wp.fnM Tryz.func104 rfl Tryz.ntmps104 (by simp) ?_;have xw := Ext.refl w;refine Wp.keep [0,1] ?_;rintro r1 ⟨O,Q,-⟩;simp [go_sem] at O Q;refine sRg fun K' gd hK => ?_;refine cu1 fun K1 hK1 => ?_;go_simp;apply hK1;clear hK1 K1;refine Wops.absA fun aw n2 u => ?_;obtain ⟨q2,u,s2,G,f2,r2⟩ := u;try simp only [q2] at G f2 r2 ⊢
 replace hIS := hIS.ext u;replace hTS := hTS.ext u;replace xw := xw.trans u;replace x0 := u.cell x0;replace x1 := u.cell x1;replace x2 := u.cell x2;replace x3 := u.cell x3;have a := G 0 _ rfl;have m := G 1 _ rfl;have o := G 2 _ rfl;clear G u;clear r2;refine cu1 fun K1 hK1 => ?_;go_simp;apply hK1;clear hK1 K1;refine Wops.absA fun ax n3 s => ?_;obtain ⟨q3,s,s3,ai,f3,r3⟩ := s;try simp only [q3] at ai f3 r3 ⊢
 replace f2 := s.fz a f2;replace hIS := hIS.ext s;replace hTS := hTS.ext s;replace xw := xw.trans s;replace x0 := s.cell x0;replace x1 := s.cell x1;replace x2 := s.cell x2;replace x3 := s.cell x3;replace a := s.cell a;replace m := s.cell m;replace o := s.cell o;have e := ai 0 _ rfl;clear ai s;clear r3;go_simp;apply hK;clear hK K' gd;refine Wp.keep [2,3] ?_;rintro r2 ⟨R,V,-⟩;simp [go_sem,O,Q] at R V;clear O Q;refine sRg fun K' gd hK => ?_;refine cu2 fun K1 hK1 => ?_;go_simp;refine Wcall (.inl rfl) (mendMerit_c t n _ _ hP (hTS.v.more (Below.size (XE)))) ?_;rintro v w2 ⟨rfl,hE⟩;go_simp;apply hK1;clear hK1 K1;have z3 := Below.size hE;replace f2 := hE.fz a f2;replace f3 := hE.fz e f3;replace hIS := hIS.ext hE;replace hTS := hTS.ext hE;replace xw := xw.trans hE;replace x0 := hE.cell x0;replace x1 := hE.cell x1;replace x2 := hE.cell x2;replace x3 := hE.cell x3;replace a := hE.cell a;replace m := hE.cell m;replace o := hE.cell o;replace e := hE.cell e;clear hE;refine cu2 fun K1 hK1 => ?_
 go_simp;apply hK1;clear hK1 K1;refine Wops.absA fun ay n5 r => ?_;obtain ⟨q5,r,s5,aj,f5,r5⟩ := r;try simp only [q5] at aj f5 r5 ⊢
 replace f2 := r.fz a f2;replace f3 := r.fz e f3;replace hIS := hIS.ext r;replace hTS := hTS.ext r;replace xw := xw.trans r;replace x0 := r.cell x0;replace x1 := r.cell x1;replace x2 := r.cell x2;replace x3 := r.cell x3;replace a := r.cell a;replace m := r.cell m;replace o := r.cell o;replace e := r.cell e;have g := aj 0 _ rfl;clear aj r;clear r5;try simp only [Wops_nil,updO_some,updO_none]
 apply hK;clear hK K' gd;refine Wp.keep [2,3,5] ?_;rintro r4 ⟨S,X,ac,-⟩;simp [go_sem,R,V] at S X ac;clear R V;refine sRg fun K' gd hK => ?_;refine cu1 fun K1 hK1 => ?_;go_simp;apply hK1;clear hK1 K1;refine Wops.absA fun az n6 q => ?_;obtain ⟨q6,q,s6,ak,f6,r6⟩ := q;try simp only [q6] at ak f6 r6 ⊢
 replace f2 := q.fz a f2;replace f3 := q.fz e f3;replace f5 := q.fz g f5;replace hIS := hIS.ext q;replace hTS := hTS.ext q;replace xw := xw.trans q;replace x0 := q.cell x0;replace x1 := q.cell x1;replace x2 := q.cell x2;replace x3 := q.cell x3;replace a := q.cell a;replace m := q.cell m;replace o := q.cell o;replace e := q.cell e;replace g := q.cell g;have f := ak 0 _ rfl;clear ak q;clear r6;try simp only [Wops_nil,updO_some,updO_none]
 apply hK;clear hK K' gd;refine Wp.keep [2,3,5,6] ?_;rintro r5 ⟨T,aa,ad,af,-⟩;simp [go_sem,S,X,ac] at T aa ad af;clear S X ac;refine Wp.seq ?_;refine Wp.seqDraw (.inl rfl) mixed [([0,1,2,3,4],none),([5,6],some (7,false))] (by kernel_rfl) fun K' gd hK hg => ?_;clear hg;simp only [pick,nth,List.map_cons,List.map_nil,Option.map_none,Option.map_some];refine Mops.absD fun D5 hD5 zD5 => ?_;replace f2 := hD5.fz a f2;replace f3 := hD5.fz e f3;replace f5 := hD5.fz g f5;replace f6 := hD5.fz f f6;replace hIS := hIS.ext hD5;replace hTS := hTS.ext hD5;replace xw := xw.trans hD5;replace x0 := hD5.cell x0;replace x1 := hD5.cell x1;replace x2 := hD5.cell x2;replace x3 := hD5.cell x3;replace a := hD5.cell a;replace m := hD5.cell m;replace o := hD5.cell o;replace e := hD5.cell e;replace g := hD5.cell g;replace f := hD5.cell f;clear hD5;refine mNo ?_
 refine mAc ?_
 intro K1 hK1;go_simp;refine Wcall (.inl rfl) (open_c (.slice A t.cl.length c) (.slice (some ⟨b2,o2,none⟩) t.fl.length c2) t.n (lo : Int) hi9 _) ?_;rintro v w3 ⟨bs,bt,rfl,hE,z0,z1,zt,hz1,hz2⟩;go_simp;refine hK1 _ _ (by assumption) ?_;clear hK1 K1;have z6 := Below.size hE;replace f2 := hE.fz a f2;replace f3 := hE.fz e f3;replace f5 := hE.fz g f5;replace f6 := hE.fz f f6;replace hIS := hIS.ext hE;replace hTS := hTS.ext hE;replace xw := xw.trans hE;replace x0 := hE.cell x0;replace x1 := hE.cell x1;replace x2 := hE.cell x2;replace x3 := hE.cell x3;replace a := hE.cell a;replace m := hE.cell m;replace o := hE.cell o;replace e := hE.cell e;replace g := hE.cell g;replace f := hE.cell f;clear hE;refine Mops.done ?_;apply hK;clear hK K' gd;refine Wp.keep [2,3,5,6,17] ?_;rintro r7 ⟨I,J,K,M,H,-⟩;simp [go_sem,T,aa,ad,af] at I J K M H;clear T aa ad af;have hOD : OpenD w3 bs bt w.heap.size lo hi9 (.slice A t.cl.length c) t.cl := ⟨z0,z1,zt,hIS,Below.size xw⟩;clear z0 z1 zt;obtain ⟨B0,hB0,hB1⟩ : ∃ B0,B0 ≤ w3.heap.size ∧ w3.heap.size ≤ B0 := ⟨_,Nat.le_refl _,Nat.le_refl _⟩;refine Wp.block ?_;refine Wp.range (hit bs bt w.heap.size lo hi9 A c t.cl (by omega) hh9) (by go_simp) (enters_of Tryz.func173 (by kernel_rfl) rfl) (fun _ => rfl) (fun k W => (Chg [n6] w3 W ∧ (∀ i,W.frozen? ⟨n6,i,none⟩ = false)) ∧ (∃ v Z,W.cell? ⟨n6,0,none⟩ = some v ∧ OwnI W B0 v Z ∧ (∃ _u : Unit,Z = ((L.take k).filter (daysP t n i)).map fun d : Nat => (d : Int)))) (fun _ _ => False) ?_ ?_ ?_ ?_ ?_ ?_ ?_
 ·rintro k W ⟨⟨xr,gf6⟩,⟨v6,Z,y,hO,hZ⟩⟩;exact hOD.chg xr (by simp;omega) (by simp;omega) (by simp;omega)
 ·rintro k W W' hA ⟨⟨xr,gf6⟩,⟨v6,Z,y,hO,hZ⟩⟩;refine ⟨⟨Adm.chg hA xr (Nat.le_refl _),Adm.fz hA y gf6⟩,?_⟩;exact ⟨_,_,hA.cell y,ownsRow_adm hO hA,hZ⟩
 ·skip;exact fun _ _ _ _ h => h
 ·refine ⟨⟨Chg.refl _ _,f6⟩,?_⟩;exact ⟨_,[],f,World.ownsRow_nil _ _ _ _,(),rfl⟩
 ·rintro l k x W hx ⟨⟨xr,gf6⟩,⟨v6,Z,y,hO,hZ⟩⟩ hl;have zxr := Chg.size xr;have hTS_b := hTS;replace f2 := Chg.fz xr a f2 XN;replace f3 := Chg.fz xr e f3 XN;replace f5 := Chg.fz xr g f5 XN;clear f6;replace hTS := hTS.chg xr XB;replace xw := Chg.to xw xr XL;replace a := Chg.cell xr a XN;replace m := Chg.cell xr m XN;replace o := Chg.cell xr o XN;replace e := Chg.cell xr e XN;replace g := Chg.cell xr g XN;clear f;have f6 := gf6;clear gf6;have f := y;clear y;have xb := Ext.refl W;simp only [encD,List.zip_toArray,List.zip_cons_cons,List.zip_nil_left,putL_cons,putL_nil];refine Wp.keep [2,3,5,6,18] ?_;rintro r8 ⟨U,ab,ae,ag,P,-⟩;simp [go_sem,I,J,K,M,H] at U ab ae ag P;refine Wp.loneRegion (.inr ⟨_,rfl⟩) (by kernel_rfl) fun K' gd hK hg => ?_;clear hg;go_simp;apply hK;clear hK K' gd;refine Ends.keep [2,3,5,6,7] ?_;rintro r9 ⟨z,B,C,D,E,-⟩;simp [go_sem,U,ab,ae,ag,P] at z B C D E;clear U ab ae ag P;refine Ends.mk ?_;refine tNo ?_;refine ⟨KeepsOthers.of_ext xb,fun W2 hA2 hl2 => ?_⟩;replace f2 := Adm.fz hA2 a f2;replace f3 := Adm.fz hA2 e f3;replace f5 := Adm.fz hA2 g f5;replace f6 := Adm.fz hA2 f f6;replace xw := Adm.toE hA2 xw (by omega);replace xr := Adm.chg hA2 xr (by omega);clear xb
  replace hTS := hTS_b.chg xr XB;replace hO := hO.adm hA2;replace a := Adm.cell hA2 a;replace m := Adm.cell hA2 m;replace o := Adm.cell hA2 o;replace e := Adm.cell hA2 e;replace g := Adm.cell hA2 g;replace f := Adm.cell hA2 f;obtain ⟨lr,hl2⟩ := hl2;have xk := Chg.refl [n6] W2;have kb_n6 := IsC.of f;rw [hL.choose_spec.1] at hx;have hkL : k < L.length := (List.getElem?_eq_some_iff.1 hx).1;have hst := filter_take (daysP t n i) L hx;have hfl : Z.length ≤ 60 := by rw [hZ.choose_spec,List.length_map];have q1 := List.length_filter_le (daysP t n i) (L.take k);rw [List.length_take] at q1;have := hL.choose_spec.2.2;omega
  obtain ⟨A9,c9,rfl⟩ := OwnI.slice hO;replace hst : ∃ _u : Unit,_ := ⟨(),hst⟩;have hKp : KeepR W2 W2 := ⟨KeepsOthers.of_ext (Ext.refl _)⟩;have zA2 := hA2.size
  by_cases hd : onF t n i x = meritF t n
  ·skip;refine Wp.block ?_;refine Wp.seqDraw (.inr ⟨_,rfl⟩) mixed [([0,1,2,4],some (3,false)),([5],none)] (by kernel_rfl) fun K' gd hK hg => ?_;clear hg;simp only [pick,nth,List.map_cons,List.map_nil,Option.map_none,Option.map_some];refine Mops.absD fun D9 hD9 zD9 => ?_;replace f2 := hD9.fz a f2;replace f3 := hD9.fz e f3;replace f5 := hD9.fz g f5;replace f6 := hD9.fz f f6;replace hTS := hTS.ext hD9;replace hO := hO.ext hD9;replace hKp := hKp.ext hD9;replace xw := xw.trans hD9;replace xr := Chg.ext xr hD9;replace xk := Chg.ext xk hD9;replace a := hD9.cell a;replace m := hD9.cell m;replace o := hD9.cell o;replace e := hD9.cell e;replace g := hD9.cell g;replace f := hD9.cell f;clear hD9;refine mAc ?_
   intro K1 hK1;go_simp;refine Wcall (.inr ⟨_,rfl⟩) (dayOn_c t n i x _ _ hP hcl hr hi (hTS.v.more (Below.size (XE)))) ?_;rintro v w5 ⟨rfl,hE⟩;go_simp;refine hK1 _ _ (by assumption) ?_;clear hK1 K1;have z10 := Below.size hE;replace f2 := hE.fz a f2;replace f3 := hE.fz e f3;replace f5 := hE.fz g f5;replace f6 := hE.fz f f6;replace hTS := hTS.ext hE;replace hO := hO.ext hE;replace hKp := hKp.ext hE;replace xw := xw.trans hE;replace xr := Chg.ext xr hE;replace xk := Chg.ext xk hE;replace a := hE.cell a;replace m := hE.cell m;replace o := hE.cell o;replace e := hE.cell e;replace g := hE.cell g;replace f := hE.cell f;clear hE;refine mNo ?_
   refine Mops.done ?_;apply hK;clear hK K' gd;refine Wp.keep [6,7,24] ?_;rintro r11 ⟨an,ao,al,-⟩;simp [go_sem,z,B,C,D,E] at an ao al;clear z B C D E;refine cTt ?_;refine Wp.loneRegion (.inr ⟨_,rfl⟩) (by kernel_rfl) fun K' gd hK hg => ?_;clear hg;refine cu3 fun K1 hK1 => ?_;go_simp;apply hK1;clear hK1 K1;refine Wops.absA fun av n27 p => ?_;obtain ⟨q27,p,s27,ah,f27,r27⟩ := p;try simp only [q27] at ah f27 r27 ⊢
   replace f2 := p.fz a f2;replace f3 := p.fz e f3;replace f5 := p.fz g f5;replace f6 := p.fz f f6;replace hTS := hTS.ext p;replace hO := hO.ext p;replace hKp := hKp.ext p;replace xw := xw.trans p;replace xr := Chg.ext xr p;replace xk := Chg.ext xk p;replace a := p.cell a;replace m := p.cell m;replace o := p.cell o;replace e := p.cell e;replace g := p.cell g;replace f := p.cell f;clear p f27;have ap := ah 0 _ rfl;clear ah;refine cu1 fun K1 hK1 => ?_;obtain ⟨v',w7,hrun,hO2,hgr,-⟩ := app_run ints_T hO ⟨n27,0,none⟩ 1 1 [.int .i64 (x : Int)] 22 rfl (news_one ap) (one_one rfl) (by omega) (by omega);refine Wops.law rfl (exec_append2 rfl hrun (by go_simp) (by go_simp)) ?_;simp only [updO_some,Wops_nil];apply hK1;clear hK1 K1;have z12 := World.grownBy.size hgr;replace f2 := Chg.fz (grown_chg hgr) a f2 (lt_off (World.ownsRow.lt hO) (by omega));replace f3 := Chg.fz (grown_chg hgr) e f3 (lt_off (World.ownsRow.lt hO) (by omega));replace f5 := Chg.fz (grown_chg hgr) g f5 (lt_off (World.ownsRow.lt hO) (by omega));replace f6 := Chg.fz (grown_chg hgr) f f6 (lt_off (World.ownsRow.lt hO) (by omega));replace hTS := hTS.chg (grown_chg hgr) (by first | (intro b hb;exact lt_off (World.ownsRow.lt hO) (by omega)) | exact lt_off (World.ownsRow.lt hO) (by omega) | exact lt_ge (World.ownsRow.lt hO) (by omega) | exact fun b hb => .inr (lt_ge (World.ownsRow.lt hO) (by omega) b hb))
   replace xw := Chg.to xw (grown_chg hgr) (lt_ge (World.ownsRow.lt hO) (by omega));replace xr := Chg.more xr (grown_chg hgr) (by first | exact lt_gm (World.ownsRow.lt hO) (by omega) | simp);replace a := Chg.cell (grown_chg hgr) a (lt_off (World.ownsRow.lt hO) (by omega));replace m := Chg.cell (grown_chg hgr) m (lt_off (World.ownsRow.lt hO) (by omega));replace o := Chg.cell (grown_chg hgr) o (lt_off (World.ownsRow.lt hO) (by omega));replace e := Chg.cell (grown_chg hgr) e (lt_off (World.ownsRow.lt hO) (by omega));replace g := Chg.cell (grown_chg hgr) g (lt_off (World.ownsRow.lt hO) (by omega));replace f := Chg.cell (grown_chg hgr) f (lt_off (World.ownsRow.lt hO) (by omega));have hO3 : OwnI w7 B0 v' (Z ++ [(x : Int)]) := by unfold OwnI;rw [encI_add,List.length_append];exact hO2
   replace hKp := hKp.grown hO hgr;clear hO hO2;obtain ⟨Y,hY⟩ : ∃ Y,∃ _u : Unit,Z ++ [(x : Int)] = Y := ⟨_,(),rfl⟩;rw [hY.choose_spec] at hO3;obtain ⟨A8,c8,rfl⟩ := OwnI.slice hO3;refine cu1 fun K1 hK1 => ?_;go_simp;apply hK1;clear hK1 K1;refine Wops.absS (b := n6) (i := 0) [_] (somes [cellVal f] (by simp) (by intro j v hj;match j,hj with | 0,hj => (simp at hj;subst hj;exact f))) fun P11 hP11 => ?_;have zP11 := hP11.same;replace f2 := hP11.frz f2;replace f3 := hP11.frz f3;replace f5 := hP11.frz f5;replace f6 := hP11.frz f6;replace hTS := hTS.put hP11 (by omega);replace hO3 := hO3.put hP11 (by omega);replace hKp := hKp.put hP11 (by omega);replace xw := Put.to xw hP11 (by omega);replace xr := Put.more xr hP11 (.inr (by simp));replace a := hP11.cell a (by omega);replace m := hP11.cell m (by omega);replace o := hP11.cell o (by omega);replace e := hP11.cell e (by omega);replace g := hP11.cell g (by omega);clear f;have f := hP11.new 0 _ rfl;try simp only [Nat.reduceAdd,Nat.zero_add,Nat.add_zero] at f
   clear hP11;try simp only [Wops_nil,updO_some,updO_none]
   apply hK;clear hK K' gd;refine Ends.keep [] fun r13 hkeep => ?_;clear hkeep;clear an ao al;refine Ends.mk ?_;refine bNo ?_;refine ⟨hKp.k,⟨xr,f6⟩,?_⟩;exact ⟨_,_,f,hO3,(),by rw [← hY.choose_spec,hst.choose_spec,if_pos (by unfold daysP;exact decide_eq_true hd),List.map_append,hZ.choose_spec];rfl⟩
  ·skip;refine Wp.block ?_;refine Wp.seqDraw (.inr ⟨_,rfl⟩) mixed [([0,1,2,4],some (3,false)),([5],none)] (by kernel_rfl) fun K' gd hK hg => ?_;clear hg;simp only [pick,nth,List.map_cons,List.map_nil,Option.map_none,Option.map_some];refine Mops.absD fun D12 hD12 zD12 => ?_;replace f2 := hD12.fz a f2;replace f3 := hD12.fz e f3;replace f5 := hD12.fz g f5;replace f6 := hD12.fz f f6;replace hTS := hTS.ext hD12;replace hO := hO.ext hD12;replace hKp := hKp.ext hD12;replace xw := xw.trans hD12;replace xr := Chg.ext xr hD12;replace xk := Chg.ext xk hD12;replace a := hD12.cell a;replace m := hD12.cell m;replace o := hD12.cell o;replace e := hD12.cell e;replace g := hD12.cell g;replace f := hD12.cell f;clear hD12;refine mAc ?_
   intro K1 hK1;go_simp;refine Wcall (.inr ⟨_,rfl⟩) (dayOn_c t n i x _ _ hP hcl hr hi (hTS.v.more (Below.size (XE)))) ?_;rintro v w5 ⟨rfl,hE⟩;go_simp;refine hK1 _ _ (by assumption) ?_;clear hK1 K1;have z14 := Below.size hE;replace f2 := hE.fz a f2;replace f3 := hE.fz e f3;replace f5 := hE.fz g f5;replace f6 := hE.fz f f6;replace hTS := hTS.ext hE;replace hO := hO.ext hE;replace hKp := hKp.ext hE;replace xw := xw.trans hE;replace xr := Chg.ext xr hE;replace xk := Chg.ext xk hE;replace a := hE.cell a;replace m := hE.cell m;replace o := hE.cell o;replace e := hE.cell e;replace g := hE.cell g;replace f := hE.cell f;clear hE;refine mNo ?_
   refine Mops.done ?_;apply hK;clear hK K' gd;refine Wp.keep [6,7,24] ?_;rintro r15 ⟨ar,au,aq,-⟩;simp [go_sem,z,B,C,D,E] at ar au aq;clear z B C D E;refine cFf ?_;refine Wp.skip ?_;refine bNo ?_;refine ⟨hKp.k,⟨xr,f6⟩,?_⟩;exact ⟨_,_,f,hO,(),by rw [hst.choose_spec,if_neg (by unfold daysP;simpa using hd),List.append_nil];exact hZ.choose_spec⟩
 ·rintro rm W hrm ⟨⟨xr,gf6⟩,⟨v6,Z,y,hO,hZ⟩⟩ hmk;have zxr := Chg.size xr;replace f2 := Chg.fz xr a f2 XN;replace f3 := Chg.fz xr e f3 XN;replace f5 := Chg.fz xr g f5 XN;clear f6;replace hTS := hTS.chg xr XB;replace xw := Chg.to xw xr XL;replace a := Chg.cell xr a XN;replace m := Chg.cell xr m XN;replace o := Chg.cell xr o XN;replace e := Chg.cell xr e XN;replace g := Chg.cell xr g XN;clear f;have f6 := gf6;clear gf6;have f := y;clear y;refine bNo ?_;refine tNo ?_;replace hZ : ∃ _u : Unit,daysL t n i = Z := ⟨(),by rw [hdl.choose_spec,hZ.choose_spec,hL.choose_spec.1,List.take_length]⟩;obtain ⟨A8,c8,rfl⟩ := OwnI.slice hO;refine sRg fun K' gd hK => ?_;go_simp;apply hK;clear hK K' gd;refine Wp.keep [4] ?_;rintro r16 ⟨am,-⟩;simp [go_sem,I,J,K,M,H] at am;clear I J K M H;refine Wp.ret ?_;refine endM_tmp Tryz.results104 (by decide) ((Marks.one (by first | omega | (simp at hrm;omega)) hmk)) fun wz hS => ?_;rw [am];exact ⟨by rw [hZ.choose_spec];exact (OwnI.intsB (OwnI.shut hO hS)).less (b2 := w.heap.size) (by omega),Shut.ext xw hS⟩
 ·rintro rm c W hrm hf hmk;exact hf.elim
def posF (fl : List Fl) (id : Int) : Int := match fl.findIdx? fun f => decide (f.id = id) with | some i => (i : Int) | none => -1
theorem FindP.eq {fl : List Fl} {id r : Int} (h : FindP fl id r) : r = posF fl id := by
 unfold posF
 rcases h with ⟨i,rfl,hi,he,hn⟩ | ⟨rfl,hn⟩
 ·have : fl.findIdx? (fun f => decide (f.id = id)) = some i := by
   rw [List.findIdx?_eq_some_iff_getElem];exact ⟨hi,decide_eq_true he,fun j hj => by simpa using hn j hj⟩
  rw [this]
 ·have : fl.findIdx? (fun f => decide (f.id = id)) = none := by
   rw [List.findIdx?_eq_none_iff];intro x hx;obtain ⟨j,hj,rfl⟩ := List.mem_iff_getElem.1 hx;exact decide_eq_false (hn j hj)
  rw [this]
theorem posF_cases (fl : List Fl) (id : Int) : (∃ i : Nat,∃ h : i < fl.length,posF fl id = (i : Int) ∧ fl[i].id = id) ∨ (posF fl id = -1 ∧ ∀ f ∈ fl,f.id ≠ id) := by
 unfold posF
 cases e : fl.findIdx? fun f => decide (f.id = id) with
 | none =>
   rw [List.findIdx?_eq_none_iff] at e;exact .inr ⟨rfl,fun f hf => by have := e f hf;simpa using this⟩
 | some i =>
   rw [List.findIdx?_eq_some_iff_getElem] at e;obtain ⟨hi,h1,-⟩ := e;exact .inl ⟨i,hi,rfl,by simpa using h1⟩
def daysE (t : Tr) (id : Int) : Int := if checkT t ≠ 0 then checkT t else if posF t.fl id < 0 then 5 else 0
def daysR (t : Tr) (id : Int) : List Int := if daysE t id = 0 then daysL t t.n.toNat (posF t.fl id).toNat else []
theorem Days_c (t : Tr) (id : Int) (v : Value) (w : World) (hV : TourV w w.heap.size v t) (hf : FitT t) (hl : checkT t = 0 → t.fl.length ≤ 12) :
  CallsV Tryz.prog 32 #[v,.int .i64 id] w fun v' w' => (∃ lv,v' = .tuple #[lv,.int .i64 (daysE t id)] ∧ IntsB w' w.heap.size lv (daysR t id)) ∧ Ext w w' := by
 obtain ⟨A,c,A2,c2,rfl,hI,hF⟩ := hV.open';have hTS : TourS w w.heap.size (.agg #[.int .i64 t.n,.slice A t.cl.length c,.slice A2 t.fl.length c2]) t := ⟨hV⟩;clear hV hI hF;unfold daysR daysE;obtain ⟨n,hn⟩ : ∃ n,∃ _u : Unit,t.n.toNat = n := ⟨_,(),rfl⟩;rw [hn.choose_spec];have hff := hf.fl;refine Wp.fn Tryz.func32 rfl Tryz.ntmps32 (by simp) ?_;have xw := Ext.refl w;refine Wp.keep [0,1] ?_;rintro r1 ⟨m,u,-⟩;simp [go_sem] at m u;refine sRg fun K' gd hK => ?_;refine cu1 fun K1 hK1 => ?_;go_simp;apply hK1;clear hK1 K1;refine Wops.absA fun Q n2 k => ?_;obtain ⟨q2,k,s2,l,f2,r2⟩ := k;try simp only [q2] at l f2 r2 ⊢
 replace hTS := hTS.ext k;replace xw := xw.trans k;have a := l 0 _ rfl;have b := l 1 _ rfl;have d := l 2 _ rfl;clear l k;clear r2;go_simp;apply hK;clear hK K' gd;refine Wp.keep [1,2] ?_;rintro r2 ⟨y,D,-⟩;simp [go_sem,m,u] at y D;clear m u;refine Wp.seq ?_;refine sRg fun K' gd hK => ?_;refine cu2 fun K1 hK1 => ?_;go_simp;refine Wcall (.inl rfl) (check_c t _ _ (hTS.v.more (Below.size (XE))) hf) ?_;rintro v w2 ⟨rfl,hE⟩;go_simp;apply hK1;clear hK1 K1;have z3 := Below.size hE;replace f2 := hE.fz a f2;replace hTS := hTS.ext hE;replace xw := xw.trans hE;replace a := hE.cell a;replace b := hE.cell b;replace d := hE.cell d;clear hE;go_simp;apply hK;clear hK K' gd;refine Wp.keep [1,2,6] ?_;rintro r4 ⟨e,f,h,-⟩;simp [go_sem,y,D] at e f h;clear y D
 by_cases h0 : checkT t = 0
 ·skip;have hg := checkT_zero.1 h0;have hP : PlanT t n := by rw [← hn.choose_spec];exact hg.plan (hl h0)
  refine sRg fun K' gd hK => ?_;go_simp;apply hK;clear hK K' gd;refine Wp.keep [1,2,6,11] ?_;rintro r5 ⟨z,E,H,p,-⟩;simp [go_sem,e,f,h] at z E H p;clear e f h;refine cFf ?_;refine skN ?_;refine sRg fun K' gd hK => ?_;refine cu3 fun K1 hK1 => ?_;go_simp;refine Wcall (.inl rfl) (find_c t id _ _ (hTS.v.more (Below.size (XE))) (by omega)) ?_;rintro v w3 ⟨⟨r,rfl,hr⟩,hE⟩;replace hr : ∃ _u : Unit,_ := ⟨(),hr.eq⟩;go_simp;apply hK1;clear hK1 K1;have z6 := Below.size hE;replace f2 := hE.fz a f2;replace hTS := hTS.ext hE;replace xw := xw.trans hE;replace a := hE.cell a;replace b := hE.cell b;replace d := hE.cell d;clear hE;go_simp;apply hK;clear hK K' gd;refine Wp.keep [2,7] ?_;rintro r7 ⟨g,j,-⟩;simp [go_sem,z,E,H,p] at g j;clear z E H p
  by_cases h1 : r < 0
  ·skip;refine Wp.seq ?_;refine sRg fun K' gd hK => ?_;go_simp;apply hK;clear hK K' gd;refine Wp.keep [2,7,17] ?_;rintro r8 ⟨F,J,s,-⟩;simp [go_sem,g,j] at F J s;clear g j;refine cTt ?_;refine sRg fun K' gd hK => ?_;go_simp;apply hK;clear hK K' gd;refine Wp.keep [4,5] ?_;rintro r9 ⟨M,P,-⟩;simp [go_sem,F,J,s] at M P;clear F J s;refine Wp.ret ?_;refine tRe ?_;refine endK_tmp2 Tryz.results32 (by decide) (by decide) ?_;rw [M,P];exact ⟨⟨_,by rw [if_neg (not_not_intro h0),if_pos (by have := hr.choose_spec;omega)],by rw [if_neg (by rw [if_neg (not_not_intro h0),if_pos (by have := hr.choose_spec;omega)];decide)];exact IntsB.nil _ _⟩,xw⟩
  ·skip;obtain ⟨i,hi⟩ : ∃ i : Nat,∃ _u : Unit,r = (i : Int) ∧ i < t.fl.length ∧ (posF t.fl id).toNat = i := (by rcases posF_cases t.fl id with ⟨i,h1,h2,h3⟩ | ⟨h1,-⟩;exact ⟨i,(),by have := hr.choose_spec;omega,h1,by omega⟩;exfalso;have := hr.choose_spec;omega);obtain ⟨-,hi1,hi2,hi3⟩ := hi;subst hi1;replace hi3 : ∃ _u : Unit,_ := ⟨(),hi3⟩;refine Wp.seq ?_;refine sRg fun K' gd hK => ?_;go_simp;apply hK;clear hK K' gd;refine Wp.keep [2,7,17] ?_;rintro r10 ⟨B,I,q,-⟩;simp [go_sem,g,j] at B I q;clear g j;refine cFf ?_;refine skN ?_;refine sRg fun K' gd hK => ?_;refine cu3 fun K1 hK1 => ?_;go_simp;refine Wcall (.inl rfl) (daysOf_c t n i _ _ hP (by have := hg.len;omega) hg.cl.rising hi2 (hTS.v.more (Below.size (XE)))) ?_;rintro v w4 ⟨hM,hE⟩;go_simp;apply hK1;clear hK1 K1;have z11 := Below.size hE;replace f2 := hE.fz a f2;replace hTS := hTS.ext hE;replace xw := xw.trans hE;replace a := hE.cell a;replace b := hE.cell b;replace d := hE.cell d;clear hE;go_simp;apply hK;clear hK K' gd;refine Wp.keep [4,5] ?_;rintro r12 ⟨K,N,-⟩
   simp [go_sem,B,I,q] at K N;clear B I q;refine Wp.ret ?_;refine endK_tmp2 Tryz.results32 (by decide) (by decide) ?_;rw [K,N];exact ⟨⟨_,by rw [if_neg (not_not_intro h0),if_neg (by have := hr.choose_spec;omega)],by rw [if_pos (by rw [if_neg (not_not_intro h0),if_neg (by have := hr.choose_spec;omega)]),hi3.choose_spec];exact hM.less (by omega)⟩,xw⟩
 ·skip;refine sRg fun K' gd hK => ?_;go_simp;apply hK;clear hK K' gd;refine Wp.keep [1,2,6,11] ?_;rintro r13 ⟨x,C,G,o,-⟩;simp [go_sem,e,f,h] at x C G o;clear e f h;refine cTt ?_;refine sRg fun K' gd hK => ?_;go_simp;apply hK;clear hK K' gd;refine Wp.keep [4,5] ?_;rintro r14 ⟨L,O,-⟩;simp [go_sem,x,C,G,o] at L O;clear x C G o;refine Wp.ret ?_;refine tRe ?_;refine endK_tmp2 Tryz.results32 (by decide) (by decide) ?_;rw [L,O];exact ⟨⟨_,by rw [if_pos h0],by rw [if_neg (by rw [if_pos h0];exact h0)];exact IntsB.nil _ _⟩,xw⟩
structure Own2 (W : World) (B0 : Nat) (vA : Value) (ZA : List Int) (vB : Value) (ZB : List Int) : Prop where
 a : OwnI W B0 vA ZA
 b : OwnI W B0 vB ZB
 ne : ∀ k,vA.ownBlock = some k → vB.ownBlock = some k → False
section
variable {W V : World} {B0 : Nat} {vA vB : Value} {ZA ZB : List Int}
theorem Own2.ext (h : Own2 W B0 vA ZA vB ZB) (hE : Ext W V) : Own2 V B0 vA ZA vB ZB := ⟨h.a.ext hE,h.b.ext hE,h.ne⟩
theorem Own2.swap (h : Own2 W B0 vA ZA vB ZB) : Own2 W B0 vB ZB vA ZA := ⟨h.b,h.a,fun k h1 h2 => h.ne k h2 h1⟩
theorem Own2.nil : Own2 W B0 (.slice none 0 0) [] (.slice none 0 0) [] := ⟨World.ownsRow_nil _ _ _ _,World.ownsRow_nil _ _ _ _,fun k h _ => by cases h⟩
theorem Own2.appA (h : Own2 W B0 vA ZA vB ZB) {n c : Nat} {x : Int} (ty : TypeId) (hc : W.cell? ⟨n,0,none⟩ = some (.int .i64 x)) (hl : ZA.length ≤ 1000) (hb : B0 ≤ W.heap.size) :
  ∃ v' w',(Builtin.append_ #[22,22] ty #[vA,.slice (some ⟨n,0,none⟩) 1 c]).run Tryz.prog W = .ok v' w' ∧ Own2 w' B0 v' (ZA ++ [x]) vB ZB ∧ W.grownBy w' vA.ownBlock := by
 obtain ⟨v',w',hrun,hO,hg,hbk⟩ := app_run2 ints_T h.a ⟨n,0,none⟩ 1 c [.int .i64 x] ty rfl (news_one hc) (one_one rfl) (by omega) hb;refine ⟨v',w',hrun,⟨by unfold OwnI;rw [encI_add,List.length_append];exact hO,ownsRow_chg h.b (grown_chg hg) fun b hb hm => ?_,fun k h1 h2 => ?_⟩,hg⟩
 ·cases e : vA.ownBlock with
  | none => rw [e] at hm;cases hm
  | some q => rw [e] at hm;obtain rfl : b = q := by simpa using hm
              exact h.ne b e hb
 ·rcases hbk with e | e
  ·exact h.ne k (by rw [← e];exact h1) h2
  ·rw [e] at h1;injection h1 with h1;have := (World.ownsRow.lt h.b k h2).2;omega
theorem Own2.appB (h : Own2 W B0 vA ZA vB ZB) {n c : Nat} {x : Int} (ty : TypeId) (hc : W.cell? ⟨n,0,none⟩ = some (.int .i64 x)) (hl : ZB.length ≤ 1000) (hb : B0 ≤ W.heap.size) :
  ∃ v' w',(Builtin.append_ #[22,22] ty #[vB,.slice (some ⟨n,0,none⟩) 1 c]).run Tryz.prog W = .ok v' w' ∧ Own2 w' B0 vA ZA v' (ZB ++ [x]) ∧ W.grownBy w' vB.ownBlock := by
 obtain ⟨v',w',h1,h2,h3⟩ := h.swap.appA (c := c) ty hc hl hb;exact ⟨v',w',h1,h2.swap,h3⟩
end
theorem sortO_c (v : Value) (Z : List Int) (base g : Nat) (w : World) (hO : OwnI w base v Z) (hg : ∀ k,v.ownBlock = some k → k = g) (hl : Z.length ≤ 12) :
  CallsV Tryz.prog 105 #[v] w fun _ w' => IntsB w' base v (sortI Z) ∧ Chg [g] w w' := by
 by_cases hne : Z = []
 ·subst hne;obtain ⟨A,c,rfl⟩ := OwnI.slice hO;exact (sort0_c A c w).mono fun v' w' ⟨_,hE⟩ => ⟨⟨A,c,rfl,fun h => absurd rfl h,Nat.zero_le _⟩,(Chg.refl [g] w).ext hE⟩
 ·obtain ⟨b,c,rfl,hb,hc,hR⟩ := hO.rowJ hne;obtain rfl : b = g := hg b rfl;exact (sort_c b Z.length c Z w hR rfl hl).mono fun v' w' ⟨h1,h2⟩ => ⟨by have q := h1.intsB (base := base) (c := c) hb (by rw [sortI_len];exact hc);rwa [sortI_len] at q,h2⟩
def idAt (fl : List Fl) (k : Nat) : Int := match fl[k]? with | some f => f.id | none => 0
theorem idAt_at {fl : List Fl} {k : Nat} (h : k < fl.length) : idAt fl k = fl[k].id := by unfold idAt;rw [List.getElem?_eq_getElem h]
def sureN (t : Tr) (n : Nat) : Nat → List Int
 | 0 => []
 | k + 1 => if meritF (withoutT t [(k : Int)]) n < meritF t n then sureN t n k ++ [idAt t.fl k] else sureN t n k
def someN (t : Tr) (n : Nat) : Nat → List Int
 | 0 => []
 | k + 1 => if 0 < (daysL t n k).length then someN t n k ++ [idAt t.fl k] else someN t n k
theorem sureN_len {t : Tr} {n : Nat} : ∀ k,(sureN t n k).length ≤ k
 | 0 => Nat.le_refl _
 | k + 1 => by have := sureN_len (t := t) (n := n) k;unfold sureN;split;(rw [List.length_append];simp;omega);omega
theorem someN_len {t : Tr} {n : Nat} : ∀ k,(someN t n k).length ≤ k
 | 0 => Nat.le_refl _
 | k + 1 => by have := someN_len (t := t) (n := n) k;unfold someN;split;(rw [List.length_append];simp;omega);omega
theorem IntsB.chgO {w w' : World} {base : Nat} {v : Value} {xs : List Int} {L : List Nat} (h : IntsB w base v xs) (hC : Chg L w w') (hL : ∀ b,v.ownBlock = some b → b ∉ L) : IntsB w' base v xs := by
 obtain ⟨A,c,rfl,hx,hcap⟩ := h
 exact ⟨A,c,rfl,fun hne => by
  obtain ⟨b,o,rfl,h1,h2,h3⟩ := hx hne
  exact ⟨b,o,rfl,h1,Nat.lt_of_lt_of_le h2 hC.size,fun k hk => Chg.cell hC (h3 k hk) (hL b rfl)⟩,hcap⟩
theorem Own2.blk {W : World} {B0 : Nat} {vA vB : Value} {ZA ZB : List Int} (h : Own2 W B0 vA ZA vB ZB) (hb : B0 ≤ W.heap.size) : ∃ g,B0 ≤ g ∧ (∀ k,vA.ownBlock = some k → k = g) ∧ ∀ k,vB.ownBlock = some k → k ≠ g := by
 cases e : vA.ownBlock with
 | none => exact ⟨W.heap.size + 7,by omega,fun k h => (by cases h),fun k hk => by have := (World.ownsRow.lt h.b k hk).2;omega⟩
 | some g => exact ⟨g,(World.ownsRow.lt h.a g e).1,fun k hk => by injection hk with hk;exact hk.symm,fun k hk he => h.ne k (by rw [he];exact e) hk⟩
def sureL (t : Tr) : List Int := if checkT t = 0 then sortI (sureN t t.n.toNat t.fl.length) else []
def someL (t : Tr) : List Int := if checkT t = 0 then sortI (someN t t.n.toNat t.fl.length) else []
theorem Surely_c (t : Tr) (v : Value) (w : World) (hV : TourV w w.heap.size v t) (hf : FitT t) (hl : checkT t = 0 → t.fl.length ≤ 12) :
  CallsV Tryz.prog 30 #[v] w fun v' w' => (∃ lv mv,v' = .tuple #[lv,mv,.int .i64 (checkT t)] ∧ IntsB w' w.heap.size lv (sureL t) ∧ IntsB w' w.heap.size mv (someL t)) ∧ Ext w w' := by
 obtain ⟨A,c,A2,c2,rfl,hI,hF⟩ := hV.open';have hTS : TourS w w.heap.size (.agg #[.int .i64 t.n,.slice A t.cl.length c,.slice A2 t.fl.length c2]) t := ⟨hV⟩;have hFS : FlawsS w w.heap.size (.slice A2 t.fl.length c2) t.fl := ⟨hF⟩;clear hV hI hF;obtain ⟨n,hn⟩ : ∃ n,∃ _u : Unit,t.n.toNat = n := ⟨_,(),rfl⟩;have hsu : ∃ _u : Unit,checkT t = 0 → sureL t = sortI (sureN t n t.fl.length) ∧ someL t = sortI (someN t n t.fl.length) := ⟨(),fun h => ⟨by unfold sureL;rw [if_pos h,hn.choose_spec],by unfold someL;rw [if_pos h,hn.choose_spec]⟩⟩;refine Wp.fn Tryz.func30 rfl Tryz.ntmps30 (by simp) ?_;have xw := Ext.refl w;refine Wp.keep [0] ?_;rintro r1 ⟨ay,-⟩;simp [go_sem] at ay;refine sRg fun K' gd hK => ?_;refine cu1 fun K1 hK1 => ?_;go_simp;apply hK1;clear hK1 K1;refine Wops.absA fun b9 n1 E => ?_;obtain ⟨q1,E,s1,aw,f1,r1⟩ := E;try simp only [q1] at aw f1 r1 ⊢
 replace hTS := hTS.ext E;replace hFS := hFS.ext E;replace xw := xw.trans E;have d := aw 0 _ rfl;have f := aw 1 _ rfl;have g := aw 2 _ rfl;clear aw E;clear r1;go_simp;apply hK;clear hK K' gd;refine Wp.keep [1] ?_;rintro r2 ⟨aL,-⟩;simp [go_sem,ay] at aL;clear ay;refine Wp.seq ?_;refine sRg fun K' gd hK => ?_;refine cu2 fun K1 hK1 => ?_;go_simp;refine Wcall (.inl rfl) (check_c t _ _ (hTS.v.more (Below.size (XE))) hf) ?_;rintro v w2 ⟨rfl,hE⟩;go_simp;apply hK1;clear hK1 K1;have z3 := Below.size hE;replace f1 := hE.fz d f1;replace hTS := hTS.ext hE;replace hFS := hFS.ext hE;replace xw := xw.trans hE;replace d := hE.cell d;replace f := hE.cell f;replace g := hE.cell g;clear hE;go_simp;apply hK;clear hK K' gd;refine Wp.keep [1,5] ?_;rintro r4 ⟨S,ag,-⟩;simp [go_sem,aL] at S ag;clear aL
 by_cases h0 : checkT t = 0
 ·skip;have hg := checkT_zero.1 h0;have hP : PlanT t n := by rw [← hn.choose_spec];exact hg.plan (hl h0)
  have hm12 := hP.fl;have hcl9 := hg.len;refine sRg fun K' gd hK => ?_;go_simp;apply hK;clear hK K' gd;refine Wp.keep [1,5,14] ?_;rintro r5 ⟨aP,a2,aC,-⟩;simp [go_sem,S,ag] at aP a2 aC;clear S ag;refine cFf ?_;refine skN ?_;refine sRg fun K' gd hK => ?_;refine cu2 fun K1 hK1 => ?_;go_simp;refine Wcall (.inl rfl) (mendMerit_c t n _ _ hP (hTS.v.more (Below.size (XE)))) ?_;rintro v w3 ⟨rfl,hE⟩;go_simp;apply hK1;clear hK1 K1;have z6 := Below.size hE;replace f1 := hE.fz d f1;replace hTS := hTS.ext hE;replace hFS := hFS.ext hE;replace xw := xw.trans hE;replace d := hE.cell d;replace f := hE.cell f;replace g := hE.cell g;clear hE;go_simp;apply hK;clear hK K' gd;refine Wp.keep [1,6] ?_;rintro r7 ⟨aQ,a8,-⟩;simp [go_sem,aP,a2,aC] at aQ a8;clear aP a2 aC;have f1_xa := f1;have hTS_xa := hTS;have hFS_xa := hFS;have xw_xa := xw;have c1_0_xa := d;have c1_1_xa := f;have c1_2_xa := g;have xa := Ext.refl w3;refine sRg fun K' gd hK => ?_;go_simp;apply hK;clear hK K' gd;refine Wp.keep [1,6,7,8] fun r8 hkeep => ?_
  obtain ⟨aR,a9,bg,bn,-⟩ := hkeep;simp [go_sem,aQ,a8] at aR a9 bg bn;clear aQ a8;refine Wp.seq ?_;obtain ⟨B0,hB0,hB1,hB2⟩ : ∃ B,w.heap.size ≤ B ∧ B ≤ w3.heap.size ∧ w3.heap.size ≤ B := ⟨w3.heap.size,by omega,Nat.le_refl _,Nat.le_refl _⟩;refine sRg fun K' gd hK => ?_;go_simp;apply hK;clear hK K' gd;refine Wp.keep [1,6,7,8,19,20,21] ?_;rintro r9 ⟨z,D,b0,b6,y,C,bL,-⟩;simp [go_sem,aR,a9,bg,bn] at z D b0 b6 y C bL;clear aR a9 bg bn;refine Wp.block ?_;refine Wp.loop (fun k ρ ds wk => AllEq [1,6,19,20] ρ r9 ∧ ds = [] ∧ (Ext w3 wk) ∧ (∃ vA vB ZA ZB,ρ 21 = .int .i64 (k : Int) ∧ ρ 7 = vA ∧ ρ 8 = vB ∧ Own2 wk B0 vA ZA vB ZB ∧ (∃ _u : Unit,ZA = sureN t n k ∧ ZB = someN t n k))) (t.fl.length) ?_ ?_
  ·refine ⟨AllEq.refl _ _,rfl,xa,?_⟩;exact ⟨_,_,[],[],by rw [bL];rfl,b0,b6,Own2.nil,(),rfl,rfl⟩
  ·rintro k r10 _ wk hk ⟨hA,rfl,xo,⟨vA,vB,ZA,ZB,e21,e7,e8,hO0,hZ⟩⟩;obtain ⟨aI,a3,aD,aS,-⟩ := hA;rw [z] at aI;rw [D] at a3;rw [y] at aD;rw [C] at aS;have zxo := Below.size xo;have f1 := f1_xa;have hTS := hTS_xa;have hFS := hFS_xa;have xw := xw_xa;have d := c1_0_xa;have f := c1_1_xa;have g := c1_2_xa;replace f1 := Ext.fz xo d f1;replace hTS := hTS.ext xo;replace hFS := hFS.ext xo;replace xw := Ext.trans xw xo;replace d := Ext.cell xo d;replace f := Ext.cell xo f;replace g := Ext.cell xo g;have hzl : ZA.length ≤ 12 ∧ ZB.length ≤ 12 := by have := sureN_len (t := t) (n := n) k;have := someN_len (t := t) (n := n) k;rw [hZ.choose_spec.1,hZ.choose_spec.2];omega
   obtain ⟨A5,c5,rfl⟩ := OwnI.slice hO0.a;obtain ⟨A6,c6,rfl⟩ := OwnI.slice hO0.b;refine sRg fun K' gd hK => ?_;go_simp;apply hK;clear hK K' gd;refine Wp.keep [1,6,7,8,19,20,21,22] ?_;rintro r11 ⟨O,ah,al,ap,K,T,X,ac,-⟩;simp [go_sem,aI,a3,e7,e8,aD,aS,e21] at O ah al ap K T X ac;clear aI a3 e7 e8 aD aS e21;refine Wp.seq ?_
   by_cases hk2 : k < t.fl.length
   ·refine cTt ?_;have hkl : (k : Int) < (t.fl.length : Int) := by omega
    obtain ⟨b2,o2,eA,hb2,x0,x1,x2,x3⟩ := FlawsV.at hFS.v hk2;subst eA;obtain ⟨G,hG⟩ : ∃ G,∃ _u : Unit,t.fl[k] = G ∧ idAt t.fl k = G.id := ⟨_,(),rfl,idAt_at hk2⟩;rw [hG.choose_spec.1] at x0 x1 x2 x3;have xv := Ext.refl wk;refine skN ?_;refine sBk ?_;refine sRg fun K' gd hK => ?_;refine cu4 fun K1 hK1 => ?_;go_simp;apply hK1;clear hK1 K1;refine Wops.absA fun b8 n10 u => ?_;obtain ⟨q10,u,s10,F,f10,r10⟩ := u;try simp only [q10] at F f10 r10 ⊢
    replace f1 := u.fz d f1;replace hTS := hTS.ext u;replace hFS := hFS.ext u;replace xw := xw.trans u;replace xo := xo.trans u;replace xv := xv.trans u;replace d := u.cell d;replace f := u.cell f;replace g := u.cell g;replace x0 := u.cell x0;replace x1 := u.cell x1;replace x2 := u.cell x2;replace x3 := u.cell x3;have e := F 0 _ rfl;have l := F 1 _ rfl;have m := F 2 _ rfl;have o := F 3 _ rfl;clear F u;clear r10;refine cu2 fun K1 hK1 => ?_;go_simp;apply hK1;clear hK1 K1;refine Wops.absS (b := n10) (i := 0) [_,_,_,_] (somes [cellVal e,cellVal l,cellVal m,cellVal o] (by simp) (by intro j v hj;match j,hj with | 0,hj => (simp at hj;subst hj;exact e) | 1,hj => (simp at hj;subst hj;exact l) | 2,hj => (simp at hj;subst hj;exact m) | 3,hj => (simp at hj;subst hj;exact o))) fun P6 hP6 => ?_;have zP6 := hP6.same;replace f1 := hP6.frz f1;replace f10 := hP6.frz f10;replace hTS := hTS.put hP6 (by omega);replace hFS := hFS.put hP6 (by omega);replace xw := Put.to xw hP6 (by omega);replace xo := Put.to xo hP6 (by omega);replace xv := Put.to xv hP6 (by omega);replace d := hP6.cell d (by omega);replace f := hP6.cell f (by omega)
    replace g := hP6.cell g (by omega);replace x0 := hP6.cell x0 (by omega);replace x1 := hP6.cell x1 (by omega);replace x2 := hP6.cell x2 (by omega);replace x3 := hP6.cell x3 (by omega);clear e;clear l;clear m;clear o;have e := hP6.new 0 _ rfl;try simp only [Nat.reduceAdd,Nat.zero_add,Nat.add_zero] at e
    have l := hP6.new 1 _ rfl;try simp only [Nat.reduceAdd,Nat.zero_add,Nat.add_zero] at l
    have m := hP6.new 2 _ rfl;try simp only [Nat.reduceAdd,Nat.zero_add,Nat.add_zero] at m
    have o := hP6.new 3 _ rfl;try simp only [Nat.reduceAdd,Nat.zero_add,Nat.add_zero] at o
    clear hP6;try simp only [Wops_nil,updO_some,updO_none]
    apply hK;clear hK K' gd;refine Wp.keep [1,6,7,8,9,10,19,20,21] ?_;rintro r12 ⟨aJ,a4,ba,bh,bo,az,aE,aT,aX,-⟩;simp [go_sem,O,ah,al,ap,K,T,X,ac] at aJ a4 ba bh bo az aE aT aX;clear O ah al ap K T X ac;refine Wp.seq ?_;refine sRg fun K' gd hK => ?_;refine cu3 fun K1 hK1 => ?_;go_simp;apply hK1;clear hK1 K1;refine Wops.absA fun ca n28 r => ?_;obtain ⟨q28,r,s28,bq,f28,r28⟩ := r;try simp only [q28] at bq f28 r28 ⊢
    replace f1 := r.fz d f1;replace f10 := r.fz e f10;replace hTS := hTS.ext r;replace hFS := hFS.ext r;replace xw := xw.trans r;replace xo := xo.trans r;replace xv := xv.trans r;replace d := r.cell d;replace f := r.cell f;replace g := r.cell g;replace e := r.cell e;replace l := r.cell l;replace m := r.cell m;replace o := r.cell o;clear r f28;have x := bq 0 _ rfl;clear bq;refine cu1 fun K1 hK1 => ?_;go_simp;refine Wcall (.inl rfl) (without_c t [(k : Int)] _ (.slice (some ⟨n28,0,none⟩) 1 1) _ (hTS.v.more (Below.size (XE))) ⟨_,1,rfl,fun _ => ⟨n28,0,rfl,cell_lt x,fun k hk => by obtain rfl : k = 0 := (by simpa using hk);exact x⟩,Nat.le_refl _⟩ (by simp) (by omega) (by omega)) ?_;rintro v w5 ⟨hW,hE⟩;obtain ⟨cv,fv,rfl,w1,w2⟩ := hW;go_simp;apply hK1;clear hK1 K1;have z13 := Below.size hE;replace f1 := hE.fz d f1;replace f10 := hE.fz e f10;replace hTS := hTS.ext hE;replace hFS := hFS.ext hE;replace xw := xw.trans hE;replace xo := xo.trans hE;replace xv := xv.trans hE;replace d := hE.cell d;replace f := hE.cell f;replace g := hE.cell g;replace e := hE.cell e
    replace l := hE.cell l;replace m := hE.cell m;replace o := hE.cell o;replace x := hE.cell x;clear hE;refine cu1 fun K1 hK1 => ?_;go_simp;refine Wcall (.inl rfl) (mendMerit_c (withoutT t [(k : Int)]) n _ _ (hP.without _) ⟨cv,fv,rfl,w1.ints,w2.flawsV⟩) ?_;rintro v w6 ⟨rfl,hE⟩;go_simp;apply hK1;clear hK1 K1;have z14 := Below.size hE;replace f1 := hE.fz d f1;replace f10 := hE.fz e f10;replace hTS := hTS.ext hE;replace hFS := hFS.ext hE;replace xw := xw.trans hE;replace xo := xo.trans hE;replace xv := xv.trans hE;replace d := hE.cell d;replace f := hE.cell f;replace g := hE.cell g;replace e := hE.cell e;replace l := hE.cell l;replace m := hE.cell m;replace o := hE.cell o;replace x := hE.cell x;clear hE;go_simp;apply hK;clear hK K' gd;refine Wp.keep [1,6,7,8,9,10,19,20,21,32] ?_;rintro r15 ⟨P,ai,am,aq,av,H,L,U,Z,ad,-⟩;simp [go_sem,aJ,a4,ba,bh,bo,az,aE,aT,aX] at P ai am aq av H L U Z ad;clear aJ a4 ba bh bo az aE aT aX;have hO := hO0.ext xv
    by_cases h1 : meritF (withoutT t [(k : Int)]) n < meritF t n
    ·skip;refine cTt ?_;refine lRg fun K' gd hK => ?_;refine cu4 fun K1 hK1 => ?_;go_simp;apply hK1;clear hK1 K1;refine Wops.absA fun cb n36 p => ?_;obtain ⟨q36,p,s36,br,f36,r36⟩ := p;try simp only [q36] at br f36 r36 ⊢
     replace f1 := p.fz d f1;replace f10 := p.fz e f10;replace hTS := hTS.ext p;replace hFS := hFS.ext p;replace hO := hO.ext p;replace xw := xw.trans p;replace xo := xo.trans p;replace d := p.cell d;replace f := p.cell f;replace g := p.cell g;replace e := p.cell e;replace l := p.cell l;replace m := p.cell m;replace o := p.cell o;replace x := p.cell x;clear p f36;have b7 := br 0 _ rfl;clear br;refine cu1 fun K1 hK1 => ?_;obtain ⟨v',w7,hrun,hO1,hgr⟩ := hO.appA (c := 1) 22 b7 (by omega) (by omega);refine Wops.law rfl (exec_append2 rfl hrun (by go_simp) (by go_simp)) ?_;simp only [updO_some,Wops_nil];apply hK1;clear hK1 K1;have z16 := World.grownBy.size hgr;replace f1 := Chg.fz (grown_chg hgr) d f1 (lt_off (World.ownsRow.lt hO0.a) (by omega));replace f10 := Chg.fz (grown_chg hgr) e f10 (lt_off (World.ownsRow.lt hO0.a) (by omega));replace hTS := hTS.chg (grown_chg hgr) (by first | (intro b hb;exact lt_off (World.ownsRow.lt hO0.a) (by omega)) | exact lt_off (World.ownsRow.lt hO0.a) (by omega) | exact lt_ge (World.ownsRow.lt hO0.a) (by omega) | exact fun b hb => .inr (lt_ge (World.ownsRow.lt hO0.a) (by omega) b hb));replace hFS := hFS.chg (grown_chg hgr) (by first | (intro b hb;exact lt_off (World.ownsRow.lt hO0.a) (by omega)) | exact lt_off (World.ownsRow.lt hO0.a) (by omega) | exact lt_ge (World.ownsRow.lt hO0.a) (by omega) | exact fun b hb => .inr (lt_ge (World.ownsRow.lt hO0.a) (by omega) b hb))
     replace xw := Chg.to xw (grown_chg hgr) (lt_ge (World.ownsRow.lt hO0.a) (by omega));replace xo := Chg.to xo (grown_chg hgr) (lt_ge (World.ownsRow.lt hO0.a) (by omega));replace d := Chg.cell (grown_chg hgr) d (lt_off (World.ownsRow.lt hO0.a) (by omega));replace f := Chg.cell (grown_chg hgr) f (lt_off (World.ownsRow.lt hO0.a) (by omega));replace g := Chg.cell (grown_chg hgr) g (lt_off (World.ownsRow.lt hO0.a) (by omega));replace e := Chg.cell (grown_chg hgr) e (lt_off (World.ownsRow.lt hO0.a) (by omega));replace l := Chg.cell (grown_chg hgr) l (lt_off (World.ownsRow.lt hO0.a) (by omega));replace m := Chg.cell (grown_chg hgr) m (lt_off (World.ownsRow.lt hO0.a) (by omega));replace o := Chg.cell (grown_chg hgr) o (lt_off (World.ownsRow.lt hO0.a) (by omega));replace hO := hO1;clear hO1;obtain ⟨Y,hY⟩ : ∃ Y,∃ _u : Unit,ZA ++ [G.id] = Y := ⟨_,(),rfl⟩;rw [hY.choose_spec] at hO;obtain ⟨A7,c7,rfl⟩ := OwnI.slice hO.a;go_simp;apply hK;clear hK K' gd;refine Ends.keep [1,6,7,8,9,10,19,20,21] ?_;rintro r17 ⟨aK,a5,bb,bi,bp,aA,aF,aU,aY,-⟩;simp [go_sem,P,ai,am,aq,av,H,L,U,Z,ad] at aK a5 bb bi bp aA aF aU aY;clear P ai am aq av H L U Z ad;refine Ends.mk ?_;refine tNo ?_;refine sRg fun K' gd hK => ?_;refine cu3 fun K1 hK1 => ?_;go_simp;refine Wcall (.inl rfl) (daysOf_c t n k _ _ hP (by omega) hg.cl.rising hk2 (hTS.v.more (Below.size (XE)))) ?_;rintro v w8 ⟨hM,hE⟩;obtain ⟨A8,c8,rfl⟩ := hM.slice;go_simp;apply hK1;clear hK1 K1;have z18 := Below.size hE;replace f1 := hE.fz d f1;replace f10 := hE.fz e f10;replace hTS := hTS.ext hE;replace hFS := hFS.ext hE;replace hO := hO.ext hE;replace xw := xw.trans hE;replace xo := xo.trans hE;replace d := hE.cell d;replace f := hE.cell f;replace g := hE.cell g;replace e := hE.cell e;replace l := hE.cell l;replace m := hE.cell m;replace o := hE.cell o;clear hE;go_simp;apply hK;clear hK K' gd;refine Wp.keep [1,6,7,8,10,19,20,21,42] ?_;rintro r19 ⟨Q,aj,an,ar,I,M,V,aa,ae,-⟩;simp [go_sem,aK,a5,bb,bi,bp,aA,aF,aU,aY] at Q aj an ar I M V aa ae;clear aK a5 bb bi bp aA aF aU aY
     by_cases h2 : 0 < (daysL t n k).length
     ·skip;have h3 : (0 : Int) < ((daysL t n k).length : Int) := by omega
      refine cTt ?_;refine lRg fun K' gd hK => ?_;refine cu4 fun K1 hK1 => ?_;go_simp;apply hK1;clear hK1 K1;refine Wops.absA fun cd n46 s => ?_;obtain ⟨q46,s,s46,bt,f46,r46⟩ := s;try simp only [q46] at bt f46 r46 ⊢
      replace f1 := s.fz d f1;replace f10 := s.fz e f10;replace hTS := hTS.ext s;replace hFS := hFS.ext s;replace hO := hO.ext s;replace xw := xw.trans s;replace xo := xo.trans s;replace d := s.cell d;replace f := s.cell f;replace g := s.cell g;replace e := s.cell e;replace l := s.cell l;replace m := s.cell m;replace o := s.cell o;clear s f46;have ax := bt 0 _ rfl;clear bt;refine cu1 fun K1 hK1 => ?_;obtain ⟨v',w9,hrun,hO2,hgr⟩ := hO.appB (c := 1) 22 ax (by omega) (by omega);refine Wops.law rfl (exec_append2 rfl hrun (by go_simp) (by go_simp)) ?_;simp only [updO_some,Wops_nil];apply hK1;clear hK1 K1;have z20 := World.grownBy.size hgr;replace f1 := Chg.fz (grown_chg hgr) d f1 (lt_off (World.ownsRow.lt hO0.b) (by omega));replace f10 := Chg.fz (grown_chg hgr) e f10 (lt_off (World.ownsRow.lt hO0.b) (by omega));replace hTS := hTS.chg (grown_chg hgr) (by first | (intro b hb;exact lt_off (World.ownsRow.lt hO0.b) (by omega)) | exact lt_off (World.ownsRow.lt hO0.b) (by omega) | exact lt_ge (World.ownsRow.lt hO0.b) (by omega) | exact fun b hb => .inr (lt_ge (World.ownsRow.lt hO0.b) (by omega) b hb));replace hFS := hFS.chg (grown_chg hgr) (by first | (intro b hb;exact lt_off (World.ownsRow.lt hO0.b) (by omega)) | exact lt_off (World.ownsRow.lt hO0.b) (by omega) | exact lt_ge (World.ownsRow.lt hO0.b) (by omega) | exact fun b hb => .inr (lt_ge (World.ownsRow.lt hO0.b) (by omega) b hb))
      replace xw := Chg.to xw (grown_chg hgr) (lt_ge (World.ownsRow.lt hO0.b) (by omega));replace xo := Chg.to xo (grown_chg hgr) (lt_ge (World.ownsRow.lt hO0.b) (by omega));replace d := Chg.cell (grown_chg hgr) d (lt_off (World.ownsRow.lt hO0.b) (by omega));replace f := Chg.cell (grown_chg hgr) f (lt_off (World.ownsRow.lt hO0.b) (by omega));replace g := Chg.cell (grown_chg hgr) g (lt_off (World.ownsRow.lt hO0.b) (by omega));replace e := Chg.cell (grown_chg hgr) e (lt_off (World.ownsRow.lt hO0.b) (by omega));replace l := Chg.cell (grown_chg hgr) l (lt_off (World.ownsRow.lt hO0.b) (by omega));replace m := Chg.cell (grown_chg hgr) m (lt_off (World.ownsRow.lt hO0.b) (by omega));replace o := Chg.cell (grown_chg hgr) o (lt_off (World.ownsRow.lt hO0.b) (by omega));go_simp;apply hK;clear hK K' gd;refine Ends.keep [1,6,7,8,19,20,21] ?_;rintro r21 ⟨aM,a6,bc,bj,aG,aV,aZ,-⟩;simp [go_sem,Q,aj,an,ar,I,M,V,aa,ae] at aM a6 bc bj aG aV aZ;clear Q aj an ar I M V aa ae;refine Ends.mk ?_;refine bNo ?_;refine tNo ?_;refine lRg fun K' gd hK => ?_;go_simp;apply hK;clear hK K' gd;refine Ends.keep [1,6,7,8,19,20,21] ?_;rintro r22 ⟨bz,bS,bW,b1,bu,bD,bH,-⟩
      simp [go_sem,aM,a6,bc,bj,aG,aV,aZ] at bz bS bW b1 bu bD bH;clear aM a6 bc bj aG aV aZ;refine Ends.mk ?_;refine thenK_normal ⟨by omega,⟨by rw [bz,z],by rw [bS,D],by rw [bu,y],by rw [bD,C],trivial⟩,rfl,xo,?_⟩;exact ⟨_,_,_,_,by rw [bH,IntWalk.i64_in _ (by omega)];rfl,bW,b1,hO2,(),by rw [← hY.choose_spec,sureN,if_pos h1,hG.choose_spec.2,hZ.choose_spec.1],by rw [someN,if_pos h2,hG.choose_spec.2,hZ.choose_spec.2]⟩
     ·skip;have h3 : ¬ (0 : Int) < ((daysL t n k).length : Int) := by omega
      refine cFf ?_;refine Wp.skip ?_;refine bNo ?_;refine tNo ?_;refine lRg fun K' gd hK => ?_;go_simp;apply hK;clear hK K' gd;refine Ends.keep [1,6,7,8,19,20,21] ?_;rintro r23 ⟨bA,bT,bX,b3,bv,bE,bI,-⟩;simp [go_sem,Q,aj,an,ar,I,M,V,aa,ae] at bA bT bX b3 bv bE bI;clear Q aj an ar I M V aa ae;refine Ends.mk ?_;refine thenK_normal ⟨by omega,⟨by rw [bA,z],by rw [bT,D],by rw [bv,y],by rw [bE,C],trivial⟩,rfl,xo,?_⟩;exact ⟨_,_,_,_,by rw [bI,IntWalk.i64_in _ (by omega)];rfl,bX,b3,hO,(),by rw [← hY.choose_spec,sureN,if_pos h1,hG.choose_spec.2,hZ.choose_spec.1],by rw [someN,if_neg h2];exact hZ.choose_spec.2⟩
    ·skip;refine cFf ?_;refine skN ?_;refine sRg fun K' gd hK => ?_;refine cu3 fun K1 hK1 => ?_;go_simp;refine Wcall (.inl rfl) (daysOf_c t n k _ _ hP (by omega) hg.cl.rising hk2 (hTS.v.more (Below.size (XE)))) ?_;rintro v w8 ⟨hM,hE⟩;obtain ⟨A8,c8,rfl⟩ := hM.slice;go_simp;apply hK1;clear hK1 K1;have z24 := Below.size hE;replace f1 := hE.fz d f1;replace f10 := hE.fz e f10;replace hTS := hTS.ext hE;replace hFS := hFS.ext hE;replace hO := hO.ext hE;replace xw := xw.trans hE;replace xo := xo.trans hE;replace d := hE.cell d;replace f := hE.cell f;replace g := hE.cell g;replace e := hE.cell e;replace l := hE.cell l;replace m := hE.cell m;replace o := hE.cell o;replace x := hE.cell x;clear hE;go_simp;apply hK;clear hK K' gd;refine Wp.keep [1,6,7,8,10,19,20,21,42] ?_;rintro r25 ⟨R,ak,ao,au,J,N,W,ab,af,-⟩;simp [go_sem,P,ai,am,aq,av,H,L,U,Z,ad] at R ak ao au J N W ab af;clear P ai am aq av H L U Z ad
     by_cases h2 : 0 < (daysL t n k).length
     ·skip;have h3 : (0 : Int) < ((daysL t n k).length : Int) := by omega
      refine cTt ?_;refine lRg fun K' gd hK => ?_;refine cu4 fun K1 hK1 => ?_;go_simp;apply hK1;clear hK1 K1;refine Wops.absA fun cc n46 q => ?_;obtain ⟨q46,q,s46,bs,f46,r46⟩ := q;try simp only [q46] at bs f46 r46 ⊢
      replace f1 := q.fz d f1;replace f10 := q.fz e f10;replace hTS := hTS.ext q;replace hFS := hFS.ext q;replace hO := hO.ext q;replace xw := xw.trans q;replace xo := xo.trans q;replace d := q.cell d;replace f := q.cell f;replace g := q.cell g;replace e := q.cell e;replace l := q.cell l;replace m := q.cell m;replace o := q.cell o;replace x := q.cell x;clear q f46;have ax := bs 0 _ rfl;clear bs;refine cu1 fun K1 hK1 => ?_;obtain ⟨v',w9,hrun,hO2,hgr⟩ := hO.appB (c := 1) 22 ax (by omega) (by omega);refine Wops.law rfl (exec_append2 rfl hrun (by go_simp) (by go_simp)) ?_;simp only [updO_some,Wops_nil];apply hK1;clear hK1 K1;have z26 := World.grownBy.size hgr;replace f1 := Chg.fz (grown_chg hgr) d f1 (lt_off (World.ownsRow.lt hO0.b) (by omega));replace f10 := Chg.fz (grown_chg hgr) e f10 (lt_off (World.ownsRow.lt hO0.b) (by omega));replace hTS := hTS.chg (grown_chg hgr) (by first | (intro b hb;exact lt_off (World.ownsRow.lt hO0.b) (by omega)) | exact lt_off (World.ownsRow.lt hO0.b) (by omega) | exact lt_ge (World.ownsRow.lt hO0.b) (by omega) | exact fun b hb => .inr (lt_ge (World.ownsRow.lt hO0.b) (by omega) b hb))
      replace hFS := hFS.chg (grown_chg hgr) (by first | (intro b hb;exact lt_off (World.ownsRow.lt hO0.b) (by omega)) | exact lt_off (World.ownsRow.lt hO0.b) (by omega) | exact lt_ge (World.ownsRow.lt hO0.b) (by omega) | exact fun b hb => .inr (lt_ge (World.ownsRow.lt hO0.b) (by omega) b hb));replace xw := Chg.to xw (grown_chg hgr) (lt_ge (World.ownsRow.lt hO0.b) (by omega));replace xo := Chg.to xo (grown_chg hgr) (lt_ge (World.ownsRow.lt hO0.b) (by omega));replace d := Chg.cell (grown_chg hgr) d (lt_off (World.ownsRow.lt hO0.b) (by omega));replace f := Chg.cell (grown_chg hgr) f (lt_off (World.ownsRow.lt hO0.b) (by omega));replace g := Chg.cell (grown_chg hgr) g (lt_off (World.ownsRow.lt hO0.b) (by omega));replace e := Chg.cell (grown_chg hgr) e (lt_off (World.ownsRow.lt hO0.b) (by omega));replace l := Chg.cell (grown_chg hgr) l (lt_off (World.ownsRow.lt hO0.b) (by omega));replace m := Chg.cell (grown_chg hgr) m (lt_off (World.ownsRow.lt hO0.b) (by omega));replace o := Chg.cell (grown_chg hgr) o (lt_off (World.ownsRow.lt hO0.b) (by omega));replace x := Chg.cell (grown_chg hgr) x (lt_off (World.ownsRow.lt hO0.b) (by omega));go_simp;apply hK;clear hK K' gd;refine Ends.keep [1,6,7,8,19,20,21] ?_;rintro r27 ⟨aN,a7,bd,bk,aH,aW,a0,-⟩;simp [go_sem,R,ak,ao,au,J,N,W,ab,af] at aN a7 bd bk aH aW a0
      clear R ak ao au J N W ab af;refine Ends.mk ?_;refine bNo ?_;refine tNo ?_;refine lRg fun K' gd hK => ?_;go_simp;apply hK;clear hK K' gd;refine Ends.keep [1,6,7,8,19,20,21] ?_;rintro r28 ⟨bB,bU,bY,b4,bw,bF,bJ,-⟩;simp [go_sem,aN,a7,bd,bk,aH,aW,a0] at bB bU bY b4 bw bF bJ;clear aN a7 bd bk aH aW a0;refine Ends.mk ?_;refine thenK_normal ⟨by omega,⟨by rw [bB,z],by rw [bU,D],by rw [bw,y],by rw [bF,C],trivial⟩,rfl,xo,?_⟩;exact ⟨_,_,_,_,by rw [bJ,IntWalk.i64_in _ (by omega)];rfl,bY,b4,hO2,(),by rw [sureN,if_neg h1];exact hZ.choose_spec.1,by rw [someN,if_pos h2,hG.choose_spec.2,hZ.choose_spec.2]⟩
     ·skip;have h3 : ¬ (0 : Int) < ((daysL t n k).length : Int) := by omega
      refine cFf ?_;refine Wp.skip ?_;refine bNo ?_;refine tNo ?_;refine lRg fun K' gd hK => ?_;go_simp;apply hK;clear hK K' gd;refine Ends.keep [1,6,7,8,19,20,21] ?_;rintro r29 ⟨bC,bV,bZ,b5,bx,bG,bK,-⟩;simp [go_sem,R,ak,ao,au,J,N,W,ab,af] at bC bV bZ b5 bx bG bK;clear R ak ao au J N W ab af;refine Ends.mk ?_;refine thenK_normal ⟨by omega,⟨by rw [bC,z],by rw [bV,D],by rw [bx,y],by rw [bG,C],trivial⟩,rfl,xo,?_⟩;exact ⟨_,_,_,_,by rw [bK,IntWalk.i64_in _ (by omega)];rfl,bZ,b5,hO,(),by rw [sureN,if_neg h1];exact hZ.choose_spec.1,by rw [someN,if_neg h2];exact hZ.choose_spec.2⟩
   ·refine cFf ?_;obtain rfl : k = t.fl.length := by omega
    obtain ⟨gA,hgA,hg1,hg2⟩ := hO0.blk (by omega);obtain ⟨gB,hgB,hg3,hg4⟩ := hO0.swap.blk (by omega);refine Wp.exit ?_;refine tEx ?_;refine tEx ?_;refine blockK_here ?_;refine tNo ?_;refine sRg fun K' gd hK => ?_;refine cu2 fun K1 hK1 => ?_;go_simp;refine Wcall (.inl rfl) (sortO_c _ ZA B0 gA _ hO0.a hg1 hzl.1) ?_;rintro v w8 ⟨hI8,hC⟩;have hOb : OwnI w8 B0 (.slice A6 ZB.length c6) ZB := ownsRow_chg hO0.b hC (by intro b hb hm;exact hg2 b hb (by simpa using hm));go_simp;apply hK1;clear hK1 K1;have z30 := Chg.size hC;replace f1 := Chg.fz hC d f1 XN;replace hTS := hTS.chg hC XB;replace hFS := hFS.chg hC XB;replace xw := Chg.to xw hC XL;replace xo := Chg.to xo hC XL;replace d := Chg.cell hC d XN;replace f := Chg.cell hC f XN;replace g := Chg.cell hC g XN;try simp only [Wops_nil,updO_some,updO_none]
    apply hK;clear hK K' gd;refine Wp.keep [7,8] ?_;rintro r31 ⟨be,bl,-⟩;simp [go_sem,O,ah,al,ap,K,T,X,ac] at be bl;clear O ah al ap K T X ac;refine sRg fun K' gd hK => ?_;refine cu2 fun K1 hK1 => ?_;go_simp;refine Wcall (.inl rfl) (sortO_c _ ZB B0 gB _ hOb hg3 hzl.2) ?_;rintro v w9 ⟨hI9,hC⟩;have hI7 : IntsB w9 B0 (.slice A5 ZA.length c5) (sortI ZA) := IntsB.chgO hI8 hC (by intro b hb hm;exact hg4 b hb (by simpa using hm));go_simp;apply hK1;clear hK1 K1;have z32 := Chg.size hC;replace f1 := Chg.fz hC d f1 XN;replace hTS := hTS.chg hC XB;replace hFS := hFS.chg hC XB;replace xw := Chg.to xw hC XL;replace xo := Chg.to xo hC XL;replace d := Chg.cell hC d XN;replace f := Chg.cell hC f XN;replace g := Chg.cell hC g XN;try simp only [Wops_nil,updO_some,updO_none]
    apply hK;clear hK K' gd;refine Wp.keep [7,8] ?_;rintro r33 ⟨bf,bm,-⟩;simp [go_sem,be,bl] at bf bm;clear be bl;refine sRg fun K' gd hK => ?_;go_simp;apply hK;clear hK K' gd;refine Wp.keep [2,3,4] ?_;rintro r34 ⟨bM,bO,bQ,-⟩;simp [go_sem,bf,bm] at bM bO bQ;clear bf bm;refine Wp.ret ?_;refine endK_tmp3 Tryz.results30 (by decide) (by decide) (by decide) ?_;rw [bM,bO,bQ];exact ⟨⟨_,_,by rw [h0],by rw [(hsu.choose_spec h0).1,← hZ.choose_spec.1];exact hI7.less (by omega),by rw [(hsu.choose_spec h0).2,← hZ.choose_spec.2];exact hI9.less (by omega)⟩,xw⟩
 ·skip;refine sRg fun K' gd hK => ?_;go_simp;apply hK;clear hK K' gd;refine Wp.keep [1,5,14] ?_;rintro r35 ⟨aO,a1,aB,-⟩;simp [go_sem,S,ag] at aO a1 aB;clear S ag;refine cTt ?_;refine sRg fun K' gd hK => ?_;go_simp;apply hK;clear hK K' gd;refine Wp.keep [2,3,4] ?_;rintro r36 ⟨bN,bP,bR,-⟩;simp [go_sem,aO,a1,aB] at bN bP bR;clear aO a1 aB;refine Wp.ret ?_;refine tRe ?_;refine endK_tmp3 Tryz.results30 (by decide) (by decide) (by decide) ?_;rw [bN,bP,bR];exact ⟨⟨_,_,rfl,by unfold sureL;rw [if_neg h0];exact IntsB.nil _ _,by unfold someL;rw [if_neg h0];exact IntsB.nil _ _⟩,xw⟩
def firstDay (n : Nat) (r : Tr) : Option Nat := (r.N 0).find? fun d => decide (onF r n 0 d = meritF r n)
def restT (n : Nat) (r : Tr) : Tr := match firstDay n r with | some d => closedT (withoutT r [0]) (d : Int) | none => withoutT r [0]
def dayI (n : Nat) (r : Tr) : Int := match firstDay n r with | some d => (d : Int) | none => -1
def earlF (n : Nat) : Nat → Tr → List Int
 | 0,_ => []
 | k + 1,r => dayI n r :: earlF n k (restT n r)
theorem keepN_first (fl : List Fl) : ∀ k,k ≤ fl.length → keepN [0] fl k = (fl.take k).drop 1
 | 0,_ => rfl
 | k + 1,h => by
   by_cases e : k = 0
   ·subst e;unfold keepN;rw [if_pos (by simp)];cases fl with
    | nil => rfl
    | cons a l => rfl
   ·have ih := keepN_first fl k (by omega);rw [keepN_out (by simp;omega) (by omega),ih,List.take_succ_eq_append_getElem (by omega),List.drop_append_of_le_length (by rw [List.length_take];omega)]
theorem keepN_tail (fl : List Fl) : keepN [0] fl fl.length = fl.drop 1 := by
 rw [keepN_first fl _ (Nat.le_refl _),List.take_length]
def RowsP {α : Type} (k : Nat) (enc : α → List Value) (w : World) (P : Nat → Prop) (v : Value) (xs : List α) : Prop :=
 ∃ (A : Option Addr) (c : Nat),v = .slice A xs.length c ∧ (xs ≠ [] → ∃ b o,A = some ⟨b,o,none⟩ ∧ P b ∧ b < w.heap.size ∧ ∀ i (h : i < xs.length) r u,(enc xs[i])[r]? = some u → w.cell? ⟨b,o + i * k + r,none⟩ = some u) ∧ xs.length ≤ c
def IntsP (w : World) (P : Nat → Prop) (v : Value) (xs : List Int) : Prop :=
 ∃ (A : Option Addr) (c : Nat),v = .slice A xs.length c ∧ (xs ≠ [] → ∃ b o,A = some ⟨b,o,none⟩ ∧ P b ∧ b < w.heap.size ∧ ∀ k (h : k < xs.length),w.cell? ⟨b,o + k,none⟩ = some (.int .i64 xs[k])) ∧ xs.length ≤ c
section
variable {α : Type} {k : Nat} {enc : α → List Value} {w w' : World} {P Q : Nat → Prop} {v : Value} {xs : List α} {L : List Nat}
theorem RowsP.chg (h : RowsP k enc w P v xs) (hC : Chg L w w') (hL : ∀ b,P b → b < w.heap.size → b ∉ L) : RowsP k enc w' P v xs := by
 obtain ⟨A,c,hv,hx,hcap⟩ := h
 exact ⟨A,c,hv,fun hne => by
  obtain ⟨b,o,hA,h1,h2,h3⟩ := hx hne
  exact ⟨b,o,hA,h1,Nat.lt_of_lt_of_le h2 hC.size,fun i hi r u hu => Chg.cell hC (h3 i hi r u hu) (hL b h1 h2)⟩,hcap⟩
theorem RowsP.mono (h : RowsP k enc w P v xs) (hP : ∀ b,P b → b < w.heap.size → Q b) : RowsP k enc w Q v xs := by
 obtain ⟨A,c,hv,hx,hcap⟩ := h
 exact ⟨A,c,hv,fun hne => by
  obtain ⟨b,o,hA,h1,h2,h3⟩ := hx hne
  exact ⟨b,o,hA,hP b h1 h2,h2,h3⟩,hcap⟩
theorem RowsP.rowsV (h : RowsP k enc w P v xs) : RowsV k enc w w.heap.size v xs := by
 obtain ⟨A,c,hv,hx,hcap⟩ := h
 exact ⟨A,c,hv,fun hne => by
  obtain ⟨b,o,hA,h1,h2,h3⟩ := hx hne
  exact ⟨b,o,hA,h2,h3⟩,hcap⟩
theorem RowsV.rowsP (h : RowsV k enc w w.heap.size v xs) : RowsP k enc w (fun _ => True) v xs := by
 obtain ⟨A,c,hv,hx,hcap⟩ := h
 exact ⟨A,c,hv,fun hne => by
  obtain ⟨b,o,hA,h2,h3⟩ := hx hne
  exact ⟨b,o,hA,trivial,h2,h3⟩,hcap⟩
theorem RowsB.rowsP {base : Nat} (h : RowsB k enc w base v xs) : RowsP k enc w (fun b => base ≤ b) v xs := by
 obtain ⟨A,c,hv,hx,hcap⟩ := h
 exact ⟨A,c,hv,fun hne => by
  obtain ⟨b,o,hA,h1,h2,h3⟩ := hx hne
  exact ⟨b,o,hA,h1,h2,h3⟩,hcap⟩
end
section
variable {w w' : World} {P Q : Nat → Prop} {v : Value} {xs : List Int} {L : List Nat}
theorem IntsP.chg (h : IntsP w P v xs) (hC : Chg L w w') (hL : ∀ b,P b → b < w.heap.size → b ∉ L) : IntsP w' P v xs := by
 obtain ⟨A,c,hv,hx,hcap⟩ := h
 exact ⟨A,c,hv,fun hne => by
  obtain ⟨b,o,hA,h1,h2,h3⟩ := hx hne
  exact ⟨b,o,hA,h1,Nat.lt_of_lt_of_le h2 hC.size,fun i hi => Chg.cell hC (h3 i hi) (hL b h1 h2)⟩,hcap⟩
theorem IntsP.mono (h : IntsP w P v xs) (hP : ∀ b,P b → b < w.heap.size → Q b) : IntsP w Q v xs := by
 obtain ⟨A,c,hv,hx,hcap⟩ := h
 exact ⟨A,c,hv,fun hne => by
  obtain ⟨b,o,hA,h1,h2,h3⟩ := hx hne
  exact ⟨b,o,hA,hP b h1 h2,h2,h3⟩,hcap⟩
theorem IntsP.intsV (h : IntsP w P v xs) : IntsV w w.heap.size v xs := by
 obtain ⟨A,c,hv,hx,hcap⟩ := h
 exact ⟨A,c,hv,fun hne => by
  obtain ⟨b,o,hA,h1,h2,h3⟩ := hx hne
  exact ⟨b,o,hA,h2,h3⟩,hcap⟩
theorem IntsV.intsP (h : IntsV w w.heap.size v xs) : IntsP w (fun _ => True) v xs := by
 obtain ⟨A,c,hv,hx,hcap⟩ := h
 exact ⟨A,c,hv,fun hne => by
  obtain ⟨b,o,hA,h2,h3⟩ := hx hne
  exact ⟨b,o,hA,trivial,h2,h3⟩,hcap⟩
theorem IntsB.intsP {base : Nat} (h : IntsB w base v xs) : IntsP w (fun b => base ≤ b) v xs := h
end
structure TourX (W : World) (P : Nat → Prop) (v : Value) (t : Tr) : Prop where
 ex : ∃ cv fv,v = .agg #[.int .i64 t.n,cv,fv] ∧ IntsP W P cv t.cl ∧ RowsP 4 encF W P fv t.fl
section
variable {W V : World} {P Q : Nat → Prop} {v : Value} {t : Tr} {L : List Nat}
theorem TourX.chg (h : TourX W P v t) (hC : Chg L W V) (hL : ∀ b,P b → b < W.heap.size → b ∉ L) : TourX V P v t := by obtain ⟨x,z,h1,h2,h3⟩ := h.ex;exact ⟨x,z,h1,h2.chg hC hL,h3.chg hC hL⟩
theorem TourX.ext (h : TourX W P v t) (hE : Ext W V) : TourX V P v t := h.chg ((Chg.refl [] W).ext hE) (by simp)
theorem TourX.mono (h : TourX W P v t) (hP : ∀ b,P b → b < W.heap.size → Q b) : TourX W Q v t := by obtain ⟨x,z,h1,h2,h3⟩ := h.ex;exact ⟨x,z,h1,h2.mono hP,h3.mono hP⟩
theorem TourX.tourV (h : TourX W P v t) : TourV W W.heap.size v t := by obtain ⟨x,z,h1,h2,h3⟩ := h.ex;exact ⟨x,z,h1,h2.intsV,h3.rowsV⟩
theorem TourV.tourX (h : TourV W W.heap.size v t) : TourX W (fun _ => True) v t := by obtain ⟨x,z,h1,h2,h3⟩ := h;exact ⟨x,z,h1,h2.intsP,h3.rowsP⟩
theorem TourB.tourX {base : Nat} (h : TourB W base v t) : TourX W (fun b => base ≤ b) v t := by obtain ⟨x,z,h1,h2,h3⟩ := h.ex;exact ⟨x,z,h1,h2.intsP,h3.rowsP⟩
end
theorem TourV.tourXS {W : World} {S : Nat} {v : Value} {t : Tr} (h : TourV W S v t) (hS : S ≤ W.heap.size) : TourX W (fun b => b < S) v t := by
 obtain ⟨x,z,h1,⟨A,c,hv,hx,hcap⟩,⟨A2,c2,hv2,hx2,hcap2⟩⟩ := h
 exact ⟨x,z,h1,⟨A,c,hv,fun hne => by
  obtain ⟨b,o,hA,h2,h3⟩ := hx hne
  exact ⟨b,o,hA,h2,by omega,h3⟩,hcap⟩,⟨A2,c2,hv2,fun hne => by
  obtain ⟨b,o,hA,h2,h3⟩ := hx2 hne
  exact ⟨b,o,hA,h2,by omega,h3⟩,hcap2⟩⟩
theorem some3 {w : World} {b : Nat} {x y z : Value} (h0 : w.cell? ⟨b,0,none⟩ = some x) (h1 : w.cell? ⟨b,1,none⟩ = some y) (h2 : w.cell? ⟨b,2,none⟩ = some z) {u v t : Value} : ∀ j,j < [u,v,t].length → (w.cell? ⟨b,0 + j,none⟩).isSome = true := fun j hj => by
 have hj : j < 3 := hj
 match j,hj with
 | 0,_ => rw [Nat.zero_add,h0];rfl
 | 1,_ => rw [Nat.zero_add,h1];rfl
 | 2,_ => rw [Nat.zero_add,h2];rfl
theorem own_not {v : Value} {q : Nat} (h : v.ownBlock ≠ some q) : q ∉ v.ownBlock.toList := fun hm => h (by
 cases e : v.ownBlock with
 | none => rw [e] at hm;cases hm
 | some g => rw [e] at hm;obtain rfl : q = g := by simpa using hm
             rfl)
theorem restT_none {n : Nat} {r : Tr} (h : firstDay n r = none) : restT n r = withoutT r [0] ∧ dayI n r = -1 := by unfold restT dayI;rw [h];exact ⟨rfl,rfl⟩
theorem restT_some {n d : Nat} {r : Tr} (h : firstDay n r = some d) : restT n r = closedT (withoutT r [0]) (d : Int) ∧ dayI n r = (d : Int) := by unfold restT dayI;rw [h];exact ⟨rfl,rfl⟩
theorem firstDay_none {n : Nat} {r : Tr} (h : ∀ d ∈ r.N 0,onF r n 0 d ≠ meritF r n) : firstDay n r = none := by
 unfold firstDay;rw [List.find?_eq_none];intro d hd;simpa using h d hd
theorem firstDay_some {n k x : Nat} {r : Tr} (hx : (r.N 0)[k]? = some x) (h : ∀ d ∈ (r.N 0).take k,onF r n 0 d ≠ meritF r n) (hd : onF r n 0 x = meritF r n) : firstDay n r = some x := by
 obtain ⟨hj,rfl⟩ := List.getElem?_eq_some_iff.1 hx;unfold firstDay;rw [List.find?_eq_some_iff_append];exact ⟨decide_eq_true hd,(r.N 0).take k,(r.N 0).drop (k + 1),by rw [← List.drop_eq_getElem_cons hj,List.take_append_drop],fun a ha => by simpa using h a ha⟩
end Go.Proofs.YtnklbepeoicgpaaGreat
