/- The document's Days. The document's Surely. Plain law: flaws that are fixed on a day, and worth more than all others. Plain law: what is left when flaws are fixed on days is planned as before. Plain law: one more flaw is fixed, or gone. Plain law: what the program has left (restT) is the abstract rest. Plain law: the document's tour with fixed flaws is the abstract one. Plain law: the document's test in Earliest is the program's. Plain law: fixing a flaw, or taking it away, on the lists. Plain law: the state of Earliest behind i flaws. The document's best for a tour with fixed flaws. Rows in m -/
import Derived.Test.YtnklbepeoicgpaaGreatR5
import Derived.Test.YtnklbepeoicgpaaGreatR3
import Derived.Test.YtnklbepeoicgpaaGreatR4
import Derived.Test.YtnklbepeoicgpaaGreatRw1
set_option linter.all false
namespace Go.Proofs.YtnklbepeoicgpaaGreat
open Go.RowKit Go.Wk Go.Proofs
attribute [local irreducible] Go.Wk.Wops Go.Wk.Wp Go.Wk.Mtree Go.Wk.Mops
set_option maxHeartbeats 8000000
set_option maxRecDepth 20000
theorem rbestW_c (t : Tr) (n i : Nat) (lo hi : Int) (A : Option Addr) (c b c4 : Nat) (w : World) (hP : PlanT t n) (hi' : i < t.fl.length) (hs : 0 ≤ lo ∧ hi < n) (hI : IntsV w w.heap.size (.slice A t.cl.length c) t.cl) (hR : RowG w b (withF t.fl i lo hi)) (hc : t.fl.length ≤ c4) :
  CallsV Tryz.prog 106 #[.agg #[.int .i64 t.n,.slice A t.cl.length c,.slice (some ⟨b,0,none⟩) t.fl.length c4]] w fun v' w' => v' = .int .i64 (meritF (withT t i lo hi) n) ∧ Ext w w' := by
 have key : ∀ k (h : k < (withT t i lo hi).fl.length),(0 ≤ (withT t i lo hi).fl[k].lo ∧ (withT t i lo hi).fl[k].hi < n) ∧ 0 ≤ (withT t i lo hi).fl[k].m ∧ (withT t i lo hi).fl[k].m ≤ 1000000000000 := fun k h => by
  have hk : k < t.fl.length := by have e : (withT t i lo hi).fl.length = t.fl.length := withF_len;omega
  have e := withT_get (lo := lo) (hi := hi) hi' k hk;rw [List.getElem?_eq_getElem h] at e
  injection e with e
  rw [e];have h1 := hP.sp k hk;have h2 := hP.mr k hk
  split
  ·exact ⟨hs,by show 0 ≤ t.fl[i].m % 1048576 + 1048576;omega,by show t.fl[i].m % 1048576 + 1048576 ≤ 1000000000000;omega⟩
  ·exact ⟨h1,h2.1,by omega⟩
 have hV : TourV w w.heap.size (.agg #[.int .i64 t.n,.slice A t.cl.length c,.slice (some ⟨b,0,none⟩) t.fl.length c4]) (withT t i lo hi) := ⟨_,_,rfl,hI,by have q := hR.flawsV (c := c4) (by rw [withF_len];exact hc);rw [withF_len] at q;exact q⟩;exact rbest_c (withT t i lo hi) n _ w ⟨hP.n1,hP.n2⟩ hP.tn hP.cl (by have e : (withT t i lo hi).fl.length = t.fl.length := withF_len;have := hP.fl;omega) (fun k h => (key k h).1) (fun k h => (key k h).2) hV
def dayQ (t : Tr) (n i : Nat) (lo hi : Int) (k : Nat) : List Int := natI (((List.range' 0 k).filter fun e : Nat => okDay t lo hi (e : Int)).filter (daysP t n i))
theorem dayQ_T {t : Tr} {n i k : Nat} {lo hi : Int} (h1 : okDay t lo hi (k : Int) = true) (h2 : daysP t n i k = true) : dayQ t n i lo hi (k + 1) = dayQ t n i lo hi k ++ [(k : Int)] := by
 unfold dayQ;rw [range'_snoc,List.filter_append,Nat.zero_add,List.filter_append,← natI_snoc]
 congr 2
 have e1 : List.filter (fun e : Nat => okDay t lo hi (e : Int)) [k] = [k] := List.filter_cons_of_pos h1;rw [e1,List.filter_cons_of_pos h2];rfl
theorem dayQ_F {t : Tr} {n i k : Nat} {lo hi : Int} (h : ¬ (okDay t lo hi (k : Int) = true ∧ daysP t n i k = true)) : dayQ t n i lo hi (k + 1) = dayQ t n i lo hi k := by
 unfold dayQ;rw [range'_snoc,List.filter_append,Nat.zero_add,List.filter_append]
 by_cases h1 : okDay t lo hi (k : Int) = true
 ·have e1 : List.filter (fun e : Nat => okDay t lo hi (e : Int)) [k] = [k] := List.filter_cons_of_pos h1;rw [e1,List.filter_cons_of_neg (fun q => h ⟨h1,q⟩),List.filter_nil,List.append_nil]
 ·have e1 : List.filter (fun e : Nat => okDay t lo hi (e : Int)) [k] = [] := List.filter_cons_of_neg h1;rw [e1,List.filter_nil,List.append_nil]
theorem dayQ_all {t : Tr} {n i : Nat} (h : OptT t n) (hi : i < t.fl.length) : daysL t n i = dayQ t n i t.fl[i].lo t.fl[i].hi n := by
 have hs := h.sp _ (List.getElem_mem hi);unfold daysL dayQ;rw [trN_at hi,restD_all hs.1 hs.2]
 rfl
theorem day_test {t : Tr} {n i d : Nat} (h : OptT t n) (hi : i < t.fl.length) (hm : t.fl[i].m < 1048576) (hd : d < n) (ho : okDay t t.fl[i].lo t.fl[i].hi (d : Int) = true) :
  meritF (withT t i (d : Int) (d : Int)) n = meritF t n + 1048576 ↔ daysP t n i d = true := by
 have hs := h.sp _ (List.getElem_mem hi)
 have hmem : d ∈ t.N (i : Int) := by
  rw [trN_at hi,restD_all hs.1 hs.2];unfold restD;rw [List.mem_filter,List.mem_range'_1];exact ⟨⟨Nat.zero_le _,by omega⟩,ho⟩
 rw [with_day h hi hm hmem];unfold daysL;rw [List.mem_map]
 constructor
 ·rintro ⟨e,he,q⟩;obtain rfl : e = d := by omega
  exact (List.mem_filter.1 he).2
 ·intro q;exact ⟨d,List.mem_filter.2 ⟨hmem,q⟩,rfl⟩
theorem rDays_c (t : Tr) (id : Int) (v : Value) (w : World) (hV : TourV w w.heap.size v t) (hf : FitT t) (hl : checkT t = 0 → t.fl.length ≤ 12) :
  CallsV Tryz.prog 33 #[v,.int .i64 id] w fun v' w' => (∃ lv,v' = .agg #[lv,.int .i64 (daysE t id)] ∧ IntsB w' w.heap.size lv (daysR t id)) ∧ Ext w w' := by
 obtain ⟨A,c,A2,c2,rfl,hI,hF⟩ := hV.open';have hTS : TourS w w.heap.size (.agg #[.int .i64 t.n,.slice A t.cl.length c,.slice A2 t.fl.length c2]) t := ⟨hV⟩;have hIS : IntsS w w.heap.size (.slice A t.cl.length c) t.cl := ⟨hI⟩;have hFS : FlawsS w w.heap.size (.slice A2 t.fl.length c2) t.fl := ⟨hF⟩;clear hV hI hF;unfold daysR daysE;obtain ⟨n,hn⟩ : ∃ n,∃ _u : Unit,t.n.toNat = n := ⟨_,(),rfl⟩;rw [hn.choose_spec];have hff := hf.fl;obtain ⟨e,he⟩ : ∃ e : Int,∃ _u : Unit,checkT t = e := ⟨_,(),rfl⟩;obtain ⟨r,hr⟩ : ∃ r : Int,∃ _u : Unit,posF t.fl id = r := ⟨_,(),rfl⟩;rw [he.choose_spec,hr.choose_spec];refine Wp.fn Tryz.func33 rfl Tryz.ntmps33 (by simp) ?_;have xw := Ext.refl w;refine Wp.keep [0,1] ?_;rintro r1 ⟨e0_1,e1_1,-⟩;simp [go_sem] at e0_1 e1_1;refine sRg fun K' gd hK => ?_;refine cu1 fun K1 hK1 => ?_;go_simp;refine hK1 _ _ ?_;clear hK1 K1;refine Wops.absA fun V2_1 n2 hV2_1 => ?_;obtain ⟨q2,hV2_1,s2,kV2_1,f2,r2⟩ := hV2_1;try simp only [q2] at kV2_1 f2 r2 ⊢
 replace hTS := hTS.ext hV2_1;replace hIS := hIS.ext hV2_1;replace hFS := hFS.ext hV2_1;replace xw := xw.trans hV2_1;have c2_0 := kV2_1 0 _ rfl;have c2_1 := kV2_1 1 _ rfl;have c2_2 := kV2_1 2 _ rfl;clear kV2_1 hV2_1;clear r2;refine cu1 fun K1 hK1 => ?_;go_simp;refine hK1 _ _ ?_;clear hK1 K1;refine Wops.absA fun V4_2 n4 hV4_2 => ?_;obtain ⟨q4,hV4_2,s4,kV4_2,f4,r4⟩ := hV4_2;try simp only [q4] at kV4_2 f4 r4 ⊢
 replace hTS := hTS.ext hV4_2;replace hIS := hIS.ext hV4_2;replace hFS := hFS.ext hV4_2;replace xw := xw.trans hV4_2;replace c2_0 := hV4_2.cell c2_0;replace c2_1 := hV4_2.cell c2_1;replace c2_2 := hV4_2.cell c2_2;have c4_0 := kV4_2 0 _ rfl;have c4_1 := kV4_2 1 _ rfl;clear kV4_2 hV4_2;clear r4;try simp only [Wops_nil,updO_some,updO_none]
 refine hK _ _ ?_;clear hK K' gd;refine Wp.keep [1,2,4] ?_;rintro r2 ⟨e1_2,e2_2,e4_2,-⟩;simp [go_sem,e0_1,e1_1] at e1_2 e2_2 e4_2;clear e0_1 e1_1;refine sRg fun K' gd hK => ?_;refine cu2 fun K1 hK1 => ?_;go_simp;refine Wcall (.inl rfl) (rcheck_c t _ _ (hTS.v.more (Below.size (XE))) hf) ?_;rintro v w2 ⟨hv,hE⟩;rw [he.choose_spec] at hv;subst hv;go_simp;refine hK1 _ _ ?_;clear hK1 K1;have z3 := Below.size hE;replace f4 := hE.fz c4_0 f4;replace hTS := hTS.ext hE;replace hIS := hIS.ext hE;replace hFS := hFS.ext hE;replace xw := xw.trans hE;replace c2_0 := hE.cell c2_0;replace c2_1 := hE.cell c2_1;replace c2_2 := hE.cell c2_2;replace c4_0 := hE.cell c4_0;replace c4_1 := hE.cell c4_1;clear hE;go_simp;refine hK _ _ ?_;clear hK K' gd;refine Wp.keep [1,2,4,5] ?_;rintro r4 ⟨e1_4,e2_4,e4_4,e5_4,-⟩;simp [go_sem,e1_2,e2_2,e4_2] at e1_4 e2_4 e4_4 e5_4;clear e1_2 e2_2 e4_2
 by_cases h0 : e = 0
 ·skip;have hck : checkT t = 0 := he.choose_spec.trans h0;have hg := checkT_zero.1 hck;have hP : PlanT t n := by rw [← hn.choose_spec];exact hg.plan (hl hck)
  have hcl9 := hP.cl;have hm12 := hP.fl;refine Wp.seq ?_;refine sRh fun K' gd hK hg => ?_;have g2 : gd 2 = some 14 := hg 2;clear hg;refine cu6 fun K1 hK1 => ?_;go_simp;refine Wcall (.inl rfl) (rflaw_c t id _ _ (hTS.v.more (Below.size (XE))) (by omega)) ?_;rintro v w3 ⟨hv,hE⟩;rw [hr.choose_spec] at hv;subst hv;go_simp;refine hK1 _ _ ?_;clear hK1 K1;have z5 := Below.size hE;replace f4 := hE.fz c4_0 f4;replace hTS := hTS.ext hE;replace hIS := hIS.ext hE;replace hFS := hFS.ext hE;replace xw := xw.trans hE;replace c2_0 := hE.cell c2_0;replace c2_1 := hE.cell c2_1;replace c2_2 := hE.cell c2_2;replace c4_0 := hE.cell c4_0;replace c4_1 := hE.cell c4_1;clear hE;go_simp;refine hK _ _ ?_;clear hK K' gd g2;refine Wp.keep [1,2,4,5,19] ?_;rintro r6 ⟨e1_6,e2_6,e4_6,e5_6,e19_6,-⟩;simp [go_sem,e1_4,e2_4,e4_4,e5_4] at e1_6 e2_6 e4_6 e5_6 e19_6;clear e1_4 e2_4 e4_4 e5_4
  by_cases h1 : r < 0
  ·skip;refine cTt ?_;refine lRg fun K' gd hK => ?_;go_simp;refine hK _ _ ?_;clear hK K' gd;refine Ends.keep [1,2,4,5] ?_;rintro r7 ⟨e1_7,e2_7,e4_7,e5_7,-⟩;simp [go_sem,e1_6,e2_6,e4_6,e5_6,e19_6] at e1_7 e2_7 e4_7 e5_7;clear e1_6 e2_6 e4_6 e5_6 e19_6;refine Ends.mk ?_;refine tNo ?_;refine Wp.seq ?_;refine sRg fun K' gd hK => ?_;go_simp;refine hK _ _ ?_;clear hK K' gd;refine Wp.keep [1,2,4,5,21] ?_;rintro r8 ⟨e1_8,e2_8,e4_8,e5_8,e21_8,-⟩;simp [go_sem,e1_7,e2_7,e4_7,e5_7] at e1_8 e2_8 e4_8 e5_8 e21_8;clear e1_7 e2_7 e4_7 e5_7;refine cTt ?_;refine sRg fun K' gd hK => ?_;refine cu3 fun K1 hK1 => ?_;go_simp;refine hK1 _ _ ?_;clear hK1 K1;refine Wops.absS (b := n4) (i := 0) [_,_] (somes [cellVal c4_0,cellVal c4_1] (by simp) (by intro j v hj;match j,hj with | 0,hj => (simp at hj;subst hj;exact c4_0) | 1,hj => (simp at hj;subst hj;exact c4_1))) fun P3 hP3 => ?_;replace xw := Put.to xw hP3 (by omega);clear c4_0;clear c4_1;have c4_0 := hP3.new 0 _ rfl;try simp only [Nat.reduceAdd,Nat.zero_add,Nat.add_zero] at c4_0
   have c4_1 := hP3.new 1 _ rfl;try simp only [Nat.reduceAdd,Nat.zero_add,Nat.add_zero] at c4_1
   clear hP3;try simp only [Wops_nil,updO_some,updO_none]
   refine hK _ _ ?_;clear hK K' gd;refine Wp.keep [4] ?_;rintro r9 ⟨e4_9,-⟩;simp [go_sem,e1_8,e2_8,e4_8,e5_8,e21_8] at e4_9;clear e1_8 e2_8 e4_8 e5_8 e21_8;refine Wp.ret ?_;refine tRe ?_;refine endK_cell (v := .agg #[cellVal c4_0,cellVal c4_1]) Tryz.results33 (by decide) e4_9 (by dsimp only [cellVal];go_simp) ?_
   dsimp only [cellVal]
   exact ⟨⟨_,by rw [if_neg (not_not_intro h0),if_pos h1],by rw [if_neg (not_not_intro h0),if_pos h1,if_neg (by decide)];exact IntsB.nil _ _⟩,xw⟩
  ·skip;obtain ⟨i,hi9⟩ : ∃ i : Nat,∃ _u : Unit,r = (i : Int) ∧ i < t.fl.length ∧ r.toNat = i := (by rcases posF_cases t.fl id with ⟨i,h1,h2,h3⟩ | ⟨h1,-⟩;exact ⟨i,(),by have := hr.choose_spec;omega,h1,by have := hr.choose_spec;omega⟩;exfalso;have := hr.choose_spec;omega);obtain ⟨-,hi1,hi2,hi3⟩ := hi9;subst hi1;replace hi3 : ∃ _u : Unit,_ := ⟨(),hi3⟩;refine cFf ?_;refine skN ?_;refine Wp.seq ?_;refine sRg fun K' gd hK => ?_;go_simp;refine hK _ _ ?_;clear hK K' gd;refine Wp.keep [1,2,4,5,21] ?_;rintro r10 ⟨e1_10,e2_10,e4_10,e5_10,e21_10,-⟩;simp [go_sem,e1_6,e2_6,e4_6,e5_6,e19_6] at e1_10 e2_10 e4_10 e5_10 e21_10;clear e1_6 e2_6 e4_6 e5_6 e19_6;refine cFf ?_;obtain ⟨M,hM⟩ : ∃ M : Int,∃ _u : Unit,meritF t n = M ∧ 0 ≤ M ∧ M ≤ 60000 := ⟨_,(),rfl,meritF_le hP⟩;refine skN ?_;refine sRg fun K' gd hK => ?_;refine cu2 fun K1 hK1 => ?_;go_simp;refine Wcall (.inl rfl) (rbestP_c t n _ _ hP (hTS.v.more (Below.size (XE)))) ?_;rintro v w4 ⟨hv,hE⟩;rw [hM.choose_spec.1] at hv;subst hv;go_simp;refine hK1 _ _ ?_;clear hK1 K1;have z11 := Below.size hE;replace f4 := hE.fz c4_0 f4;replace hTS := hTS.ext hE;replace hIS := hIS.ext hE
   replace hFS := hFS.ext hE;replace xw := xw.trans hE;replace c2_0 := hE.cell c2_0;replace c2_1 := hE.cell c2_1;replace c2_2 := hE.cell c2_2;replace c4_0 := hE.cell c4_0;replace c4_1 := hE.cell c4_1;clear hE;go_simp;refine hK _ _ ?_;clear hK K' gd;refine Wp.keep [1,2,4,6] ?_;rintro r12 ⟨e1_12,e2_12,e4_12,e6_12,-⟩;simp [go_sem,e1_10,e2_10,e4_10,e5_10,e21_10] at e1_12 e2_12 e4_12 e6_12;clear e1_10 e2_10 e4_10 e5_10 e21_10;refine sRg fun K' gd hK => ?_;refine cu3 fun K1 hK1 => ?_;go_simp;refine Wcall (.inl rfl) (rflaw_c t id _ _ (hTS.v.more (Below.size (XE))) (by omega)) ?_;rintro v w5 ⟨hv,hE⟩;rw [hr.choose_spec] at hv;subst hv;go_simp;refine hK1 _ _ ?_;clear hK1 K1;have z13 := Below.size hE;replace f4 := hE.fz c4_0 f4;replace hTS := hTS.ext hE;replace hIS := hIS.ext hE;replace hFS := hFS.ext hE;replace xw := xw.trans hE;replace c2_0 := hE.cell c2_0;replace c2_1 := hE.cell c2_1;replace c2_2 := hE.cell c2_2;replace c4_0 := hE.cell c4_0;replace c4_1 := hE.cell c4_1;clear hE;go_simp;refine hK _ _ ?_;clear hK K' gd;refine Wp.keep [2,4,6,7] ?_;rintro r14 ⟨e2_14,e4_14,e6_14,e7_14,-⟩;simp [go_sem,e1_12,e2_12,e4_12,e6_12] at e2_14 e4_14 e6_14 e7_14;clear e1_12 e2_12 e4_12 e6_12
   obtain ⟨b2,o2,eA,hb2,x0,x1,x2,x3⟩ := FlawsV.at hFS.v hi2;subst eA;have hii : (i : Int) < (t.fl.length : Int) := by omega
   obtain ⟨F,hF⟩ : ∃ F,∃ _u : Unit,t.fl[i] = F := ⟨_,(),rfl⟩;have hq5 : ∃ _u : Unit,daysL t n i = dayQ t n i F.lo F.hi n := ⟨(),by rw [dayQ_all hP.opt hi2,hF.choose_spec]⟩;have hfl4 : ∃ _u : Unit,flV F = .agg #[.int .i64 F.id,.int .i64 F.lo,.int .i64 F.hi,.int .i64 F.m] := ⟨(),rfl⟩;have hmr := hP.mr i hi2;rw [hF.choose_spec] at x0 x1 x2 x3;have f4_xa := f4;have hTS_xa := hTS;have hIS_xa := hIS;have hFS_xa := hFS;have xw_xa := xw;have c2_0_xa := c2_0;have c2_1_xa := c2_1;have c2_2_xa := c2_2;have c4_0_xa := c4_0;have c4_1_xa := c4_1;have x0_xa := x0;have x1_xa := x1;have x2_xa := x2;have x3_xa := x3;have xa := Ext.refl w5;refine sRg fun K' gd hK => ?_;go_simp;refine hK _ _ ?_;clear hK K' gd;refine Wp.keep [2,4,6,7,8] ?_;rintro r15 ⟨e2_15,e4_15,e6_15,e7_15,e8_15,-⟩;simp [go_sem,e2_14,e4_14,e6_14,e7_14] at e2_15 e4_15 e6_15 e7_15 e8_15;clear e2_14 e4_14 e6_14 e7_14;refine Wp.seq ?_;obtain ⟨B0,hB0,hB1,hB2⟩ : ∃ B,w.heap.size ≤ B ∧ B ≤ w5.heap.size ∧ w5.heap.size ≤ B := ⟨w5.heap.size,by omega,Nat.le_refl _,Nat.le_refl _⟩;refine sRg fun K' gd hK => ?_;go_simp;refine hK _ _ ?_;clear hK K' gd;refine Wp.keep [2,4,6,7,8,9] ?_;rintro r16 ⟨e2_16,e4_16,e6_16,e7_16,e8_16,e9_16,-⟩;simp [go_sem,e2_15,e4_15,e6_15,e7_15,e8_15] at e2_16 e4_16 e6_16 e7_16 e8_16 e9_16;clear e2_15 e4_15 e6_15 e7_15 e8_15
   refine Wp.block ?_;refine Wp.loop (fun d ρ ds wd => AllEq [2,4,6,7] ρ r16 ∧ ds = [] ∧ (Ext w5 wd) ∧ (∃ v Z,ρ 9 = .int .i64 (d : Int) ∧ ρ 8 = v ∧ OwnI wd B0 v Z ∧ (∃ _u : Unit,Z = dayQ t n i F.lo F.hi d ∧ Z.length ≤ d))) (n) ?_ ?_
   ·refine ⟨AllEq.refl _ _,rfl,xa,?_⟩;exact ⟨_,[],by rw [e9_16];rfl,e8_16,World.ownsRow_nil _ _ _ _,(),rfl,Nat.zero_le _⟩
   ·rintro d r17 _ wd hd ⟨hA,rfl,xo,⟨v8,Z,e9,e8,hO,hZ⟩⟩;obtain ⟨e2_17,e4_17,e6_17,e7_17,-⟩ := hA;rw [e2_16] at e2_17;rw [e4_16] at e4_17;rw [e6_16] at e6_17;rw [e7_16] at e7_17;have zxo := Below.size xo;have f4 := f4_xa;have hTS := hTS_xa;have hIS := hIS_xa;have hFS := hFS_xa;have xw := xw_xa;have c2_0 := c2_0_xa;have c2_1 := c2_1_xa;have c2_2 := c2_2_xa;have c4_0 := c4_0_xa;have c4_1 := c4_1_xa;have x0 := x0_xa;have x1 := x1_xa;have x2 := x2_xa;have x3 := x3_xa;replace f4 := Ext.fz xo c4_0 f4;replace hTS := hTS.ext xo;replace hIS := hIS.ext xo;replace hFS := hFS.ext xo;replace xw := Ext.trans xw xo;replace c2_0 := Ext.cell xo c2_0;replace c2_1 := Ext.cell xo c2_1;replace c2_2 := Ext.cell xo c2_2;replace c4_0 := Ext.cell xo c4_0;replace c4_1 := Ext.cell xo c4_1;replace x0 := Ext.cell xo x0;replace x1 := Ext.cell xo x1;replace x2 := Ext.cell xo x2;replace x3 := Ext.cell xo x3;obtain ⟨A6,k6,rfl⟩ := OwnI.slice hO
    by_cases hdn : d < n
    ·skip;have hdl : (d : Int) < t.n := by have := hP.tn;omega
     have hn60 := hP.n2;refine Wp.seq ?_;refine sRg fun K' gd hK => ?_;go_simp;refine hK _ _ ?_;clear hK K' gd;refine Wp.keep [2,4,6,7,8,9,32] ?_;rintro r18 ⟨e2_18,e4_18,e6_18,e7_18,e8_18,e9_18,e32_18,-⟩;simp [go_sem,e2_17,e4_17,e6_17,e7_17,e8,e9] at e2_18 e4_18 e6_18 e7_18 e8_18 e9_18 e32_18;clear e2_17 e4_17 e6_17 e7_17 e8 e9;refine cTt ?_
     by_cases ho : okDay t F.lo F.hi (d : Int) = true
     ·skip;have hdt : ∃ _u : Unit,meritF (withT t i (d : Int) (d : Int)) n = M + 1048576 ↔ daysP t n i d = true := ⟨(),by rw [← hM.choose_spec.1];exact day_test hP.opt hi2 (by omega) hdn (by rw [hF.choose_spec];exact ho)⟩;obtain ⟨X,hX⟩ : ∃ X : Int,∃ _u : Unit,meritF (withT t i (d : Int) (d : Int)) n = X := ⟨_,(),rfl⟩;rw [hX.choose_spec] at hdt;have hwM : IntKind.i64.wrap (M + 1048576) = M + 1048576 := IntWalk.i64_in _ (by omega);refine skN ?_;refine sBk ?_;refine Wp.seqDraw (.inl rfl) mixed [([0,1,2,3,4],none),([5,6],some (7,false)),([8],none),([9,10,11,12,13],none),([16,17],some (14,false)),([],some (15,false)),([18,19],none)] (by kernel_rfl) fun K' gd hK hg => ?_;have g8 : gd 8 = some 43 := hg 8;clear hg;simp only [pick,nth,List.map_cons,List.map_nil,Option.map_none,Option.map_some];refine Mops.absD fun D6 hD6 zD6 => ?_;replace hTS := hTS.ext hD6;replace hIS := hIS.ext hD6;replace hFS := hFS.ext hD6;replace hO := hO.ext hD6;replace xw := xw.trans hD6;replace xo := xo.trans hD6;replace c2_0 := hD6.cell c2_0;replace c2_1 := hD6.cell c2_1;replace c2_2 := hD6.cell c2_2;replace x0 := hD6.cell x0;replace x1 := hD6.cell x1;replace x2 := hD6.cell x2;replace x3 := hD6.cell x3;clear hD6;refine mNo ?_
      refine mAc ?_
      intro K1 hK1;go_simp;refine Wcall (.inl rfl) ((by have q := rmay_c t F (d : Int) (.agg #[.int .i64 t.n,.slice A t.cl.length c,.slice (some ⟨b2,o2,none⟩) t.fl.length c2]) _ (hTS.v.more (Below.size (XE))) hcl9;rw [hfl4.choose_spec,ho] at q;exact q)) ?_;rintro v w6 ⟨rfl,hE⟩;go_simp;refine hK1 _ _ (by assumption) ?_;clear hK1 K1;have z19 := Below.size hE;replace hIS := hIS.ext hE;replace hFS := hFS.ext hE;replace hO := hO.ext hE;replace xw := xw.trans hE;replace xo := xo.trans hE;replace c2_0 := hE.cell c2_0;replace c2_1 := hE.cell c2_1;replace c2_2 := hE.cell c2_2;clear hE;apply Mops.none
      ·intro w' hE';go_simp;with_reducible rfl
      refine mNo ?_
      apply Mops.act
      ·intro w' hE';go_simp;with_reducible rfl
      intro K1 hK1;go_simp;refine Wcall (.inl rfl) (rwith_c t i (d : Int) (d : Int) A c (some ⟨b2,o2,none⟩) c2 _ (hFS.v.more (Below.size (XE))) hi2 (by omega) (by have := hP.mr i hi2;omega)) ?_;rintro v w7 ⟨⟨b,c4,rfl,hb1,hb4,hR⟩,hE⟩;go_simp;refine hK1 _ _ (by assumption) ?_;clear hK1 K1;have z20 := Below.size hE;replace hIS := hIS.ext hE;replace hO := hO.ext hE;replace xw := xw.trans hE;replace xo := xo.trans hE;clear hE;apply Mops.act
      ·exact fun _ _ => Rops_done
      intro K1 hK1;go_simp;refine Wcall (.inl rfl) (rbestW_c t n i (d : Int) (d : Int) A c b c4 _ hP hi2 (by omega) (hIS.v.more (Below.size (XE))) hR hb4) ?_;rintro v w8 ⟨hv,hE⟩;rw [hX.choose_spec] at hv;subst hv;go_simp;refine hK1 _ _ (by assumption) ?_;clear hK1 K1;have z21 := Below.size hE;replace hO := hO.ext hE;replace xw := xw.trans hE;replace xo := xo.trans hE;clear hE;apply Mops.none
      ·intro w' hE';go_simp;with_reducible rfl
      refine Mops.done ?_;refine hK _ _ ?_;clear hK K' gd g8;refine Wp.keep [2,4,6,7,8,9,54] ?_;rintro r22 ⟨e2_22,e4_22,e6_22,e7_22,e8_22,e9_22,e54_22,-⟩;simp [go_sem,e2_18,e4_18,e6_18,e7_18,e8_18,e9_18,e32_18] at e2_22 e4_22 e6_22 e7_22 e8_22 e9_22 e54_22;clear e2_18 e4_18 e6_18 e7_18 e8_18 e9_18 e32_18
      by_cases hx : X = M + 1048576
      ·skip;refine cTt ?_;refine lRg fun K' gd hK => ?_;refine cu3 fun K1 hK1 => ?_;go_simp;refine hK1 _ _ ?_;clear hK1 K1;refine Wops.absA fun V57_7 n57 hV57_7 => ?_;obtain ⟨q57,hV57_7,s57,kV57_7,f57,r57⟩ := hV57_7;try simp only [q57] at kV57_7 f57 r57 ⊢
       replace hO := hO.ext hV57_7;replace xw := xw.trans hV57_7;replace xo := xo.trans hV57_7;clear hV57_7 f57;have c57_0 := kV57_7 0 _ rfl;clear kV57_7;refine cu1 fun K1 hK1 => ?_;obtain ⟨v',w9,hrun,hO2,hgr,-⟩ := app_run ints_T hO ⟨n57,0,none⟩ 1 1 [.int .i64 (d : Int)] 22 rfl (news_one c57_0) (one_one rfl) (by omega) (by omega);refine Wops.law rfl (exec_append2 rfl hrun (by go_simp) (by go_simp)) ?_;simp only [updO_some,Wops_nil];refine hK1 _ _ ?_;clear hK1 K1;replace xw := Chg.to xw (grown_chg hgr) (lt_ge (World.ownsRow.lt hO) (by omega));replace xo := Chg.to xo (grown_chg hgr) (lt_ge (World.ownsRow.lt hO) (by omega));have hO3 : OwnI w9 B0 v' (Z ++ [(d : Int)]) := by unfold OwnI;rw [encI_add,List.length_append];exact hO2
       clear hO2;go_simp;refine hK _ _ ?_;clear hK K' gd;refine Ends.keep [2,4,6,7,8,9] ?_;rintro r24 ⟨e2_24,e4_24,e6_24,e7_24,e8_24,e9_24,-⟩;simp [go_sem,e2_22,e4_22,e6_22,e7_22,e8_22,e9_22,e54_22] at e2_24 e4_24 e6_24 e7_24 e8_24 e9_24;clear e2_22 e4_22 e6_22 e7_22 e8_22 e9_22 e54_22;refine Ends.mk ?_;refine bNo ?_;refine tNo ?_;refine lRg fun K' gd hK => ?_;go_simp;refine hK _ _ ?_;clear hK K' gd;refine Ends.keep [2,4,6,7,8,9] ?_;rintro r25 ⟨e2_25,e4_25,e6_25,e7_25,e8_25,e9_25,-⟩;simp [go_sem,e2_24,e4_24,e6_24,e7_24,e8_24,e9_24] at e2_25 e4_25 e6_25 e7_25 e8_25 e9_25;clear e2_24 e4_24 e6_24 e7_24 e8_24 e9_24;refine Ends.mk ?_;refine thenK_normal ⟨by omega,⟨by rw [e2_25,e2_16],by rw [e4_25,e4_16],by rw [e6_25,e6_16],by rw [e7_25,e7_16],trivial⟩,rfl,xo,?_⟩;exact ⟨_,Z ++ [(d : Int)],by rw [e9_25,IntWalk.i64_in _ (by omega)];rfl,e8_25,hO3,(),by rw [dayQ_T ho (hdt.choose_spec.1 hx),hZ.choose_spec.1],by rw [List.length_append,List.length_singleton];omega⟩
      ·skip;refine cFf ?_;refine Wp.skip ?_;refine bNo ?_;refine tNo ?_;refine lRg fun K' gd hK => ?_;go_simp;refine hK _ _ ?_;clear hK K' gd;refine Ends.keep [2,4,6,7,8,9] ?_;rintro r26 ⟨e2_26,e4_26,e6_26,e7_26,e8_26,e9_26,-⟩;simp [go_sem,e2_22,e4_22,e6_22,e7_22,e8_22,e9_22,e54_22] at e2_26 e4_26 e6_26 e7_26 e8_26 e9_26;clear e2_22 e4_22 e6_22 e7_22 e8_22 e9_22 e54_22;refine Ends.mk ?_;refine thenK_normal ⟨by omega,⟨by rw [e2_26,e2_16],by rw [e4_26,e4_16],by rw [e6_26,e6_16],by rw [e7_26,e7_16],trivial⟩,rfl,xo,?_⟩;exact ⟨_,Z,by rw [e9_26,IntWalk.i64_in _ (by omega)];rfl,e8_26,hO,(),by rw [dayQ_F fun q => hx (hdt.choose_spec.2 q.2)];exact hZ.choose_spec.1,by omega⟩
     ·skip;have ho2 : okDay t F.lo F.hi (d : Int) = false := by simpa using ho
      refine skN ?_;refine sBk ?_;refine Wp.seqDraw (.inl rfl) mixed [([0,1,2,3,4],none),([5,6],some (7,false)),([8],none),([9,10,11,12,13],none),([16,17],some (14,false)),([],some (15,false)),([18,19],none)] (by kernel_rfl) fun K' gd hK hg => ?_;have g8 : gd 8 = some 43 := hg 8;clear hg;simp only [pick,nth,List.map_cons,List.map_nil,Option.map_none,Option.map_some];refine Mops.absD fun D8 hD8 zD8 => ?_;replace hTS := hTS.ext hD8;replace hO := hO.ext hD8;replace xw := xw.trans hD8;replace xo := xo.trans hD8;replace c2_0 := hD8.cell c2_0;replace c2_1 := hD8.cell c2_1;replace c2_2 := hD8.cell c2_2;replace x0 := hD8.cell x0;replace x1 := hD8.cell x1;replace x2 := hD8.cell x2;replace x3 := hD8.cell x3;clear hD8;refine mNo ?_
      refine mAc ?_
      intro K1 hK1;go_simp;refine Wcall (.inl rfl) ((by have q := rmay_c t F (d : Int) (.agg #[.int .i64 t.n,.slice A t.cl.length c,.slice (some ⟨b2,o2,none⟩) t.fl.length c2]) _ (hTS.v.more (Below.size (XE))) hcl9;rw [hfl4.choose_spec,ho2] at q;exact q)) ?_;rintro v w6 ⟨rfl,hE⟩;go_simp;refine hK1 _ _ (by assumption) ?_;clear hK1 K1;replace hO := hO.ext hE;replace xw := xw.trans hE;replace xo := xo.trans hE;clear hE;apply Mops.none
      ·intro w' hE';go_simp;with_reducible rfl
      apply Mops.none
      ·intro w' hE';go_simp;with_reducible rfl
      apply Mops.act
      ·intro w' hE';go_simp;with_reducible rfl
      intro K1 hK1;go_simp;refine hK1 _ _ (Ext.refl _) ?_;clear hK1 K1;apply Mops.act
      ·exact fun _ _ => Rops_done
      intro K1 hK1;go_simp;refine hK1 _ _ (Ext.refl _) ?_;clear hK1 K1;apply Mops.none
      ·intro w' hE';go_simp;with_reducible rfl
      refine Mops.done ?_;refine hK _ _ ?_;clear hK K' gd g8;refine Wp.keep [2,4,6,7,8,9,54] ?_;rintro r28 ⟨e2_28,e4_28,e6_28,e7_28,e8_28,e9_28,e54_28,-⟩;simp [go_sem,e2_18,e4_18,e6_18,e7_18,e8_18,e9_18,e32_18] at e2_28 e4_28 e6_28 e7_28 e8_28 e9_28 e54_28;clear e2_18 e4_18 e6_18 e7_18 e8_18 e9_18 e32_18;refine cFf ?_;refine Wp.skip ?_;refine bNo ?_;refine tNo ?_;refine lRg fun K' gd hK => ?_;go_simp;refine hK _ _ ?_;clear hK K' gd;refine Ends.keep [2,4,6,7,8,9] ?_;rintro r29 ⟨e2_29,e4_29,e6_29,e7_29,e8_29,e9_29,-⟩;simp [go_sem,e2_28,e4_28,e6_28,e7_28,e8_28,e9_28,e54_28] at e2_29 e4_29 e6_29 e7_29 e8_29 e9_29;clear e2_28 e4_28 e6_28 e7_28 e8_28 e9_28 e54_28;refine Ends.mk ?_;refine thenK_normal ⟨by omega,⟨by rw [e2_29,e2_16],by rw [e4_29,e4_16],by rw [e6_29,e6_16],by rw [e7_29,e7_16],trivial⟩,rfl,xo,?_⟩;exact ⟨_,Z,by rw [e9_29,IntWalk.i64_in _ (by omega)];rfl,e8_29,hO,(),by rw [dayQ_F fun q => ho q.1];exact hZ.choose_spec.1,by omega⟩
    ·skip;have hdl : ¬ (d : Int) < t.n := by have := hP.tn;omega
     have hdd : ∃ _u : Unit,d = n := ⟨(),by omega⟩;refine Wp.seq ?_;refine sRg fun K' gd hK => ?_;go_simp;refine hK _ _ ?_;clear hK K' gd;refine Wp.keep [2,4,6,7,8,9,32] ?_;rintro r30 ⟨e2_30,e4_30,e6_30,e7_30,e8_30,e9_30,e32_30,-⟩;simp [go_sem,e2_17,e4_17,e6_17,e7_17,e8,e9] at e2_30 e4_30 e6_30 e7_30 e8_30 e9_30 e32_30;clear e2_17 e4_17 e6_17 e7_17 e8 e9;refine cFf ?_;refine Wp.exit ?_;refine tEx ?_;refine tEx ?_;refine blockK_here ?_;refine tNo ?_;refine sRg fun K' gd hK => ?_;refine cu3 fun K1 hK1 => ?_;go_simp;refine hK1 _ _ ?_;clear hK1 K1;refine Wops.absS (b := n4) (i := 0) [_,_] (somes [cellVal c4_0,cellVal c4_1] (by simp) (by intro j v hj;match j,hj with | 0,hj => (simp at hj;subst hj;exact c4_0) | 1,hj => (simp at hj;subst hj;exact c4_1))) fun P9 hP9 => ?_;replace hO := hO.put hP9 (by omega);replace xw := Put.to xw hP9 (by omega);clear xo;clear c4_0;clear c4_1;have c4_0 := hP9.new 0 _ rfl;try simp only [Nat.reduceAdd,Nat.zero_add,Nat.add_zero] at c4_0
     have c4_1 := hP9.new 1 _ rfl;try simp only [Nat.reduceAdd,Nat.zero_add,Nat.add_zero] at c4_1
     clear hP9;try simp only [Wops_nil,updO_some,updO_none]
     refine hK _ _ ?_;clear hK K' gd;refine Wp.keep [4] ?_;rintro r31 ⟨e4_31,-⟩;simp [go_sem,e2_30,e4_30,e6_30,e7_30,e8_30,e9_30,e32_30] at e4_31;clear e2_30 e4_30 e6_30 e7_30 e8_30 e9_30 e32_30;refine Wp.ret ?_;refine endK_cell (v := .agg #[cellVal c4_0,cellVal c4_1]) Tryz.results33 (by decide) e4_31 (by dsimp only [cellVal];go_simp) ?_
     dsimp only [cellVal]
     exact ⟨⟨_,by rw [if_neg (not_not_intro h0),if_neg h1],by rw [if_neg (not_not_intro h0),if_neg h1,if_pos rfl,hi3.choose_spec,hq5.choose_spec,show dayQ t n i F.lo F.hi n = Z from by rw [hZ.choose_spec.1,hdd.choose_spec]];exact (OwnI.intsB hO).less (by omega)⟩,xw⟩
 ·skip;refine Wp.seq ?_;refine sRh fun K' gd hK hg => ?_;have g2 : gd 2 = some 14 := hg 2;clear hg;refine cu6 fun K1 hK1 => ?_;go_simp;refine hK1 _ _ ?_;clear hK1 K1;go_simp;refine hK _ _ ?_;clear hK K' gd g2;refine Wp.keep [1,2,4,5,19] ?_;rintro r32 ⟨e1_32,e2_32,e4_32,e5_32,e19_32,-⟩;simp [go_sem,e1_4,e2_4,e4_4,e5_4] at e1_32 e2_32 e4_32 e5_32 e19_32;clear e1_4 e2_4 e4_4 e5_4;refine cFf ?_;refine skN ?_;refine Wp.seq ?_;refine sRg fun K' gd hK => ?_;go_simp;refine hK _ _ ?_;clear hK K' gd;refine Wp.keep [1,2,4,5,21] ?_;rintro r33 ⟨e1_33,e2_33,e4_33,e5_33,e21_33,-⟩;simp [go_sem,e1_32,e2_32,e4_32,e5_32,e19_32] at e1_33 e2_33 e4_33 e5_33 e21_33;clear e1_32 e2_32 e4_32 e5_32 e19_32;refine cTt ?_;refine sRg fun K' gd hK => ?_;refine cu3 fun K1 hK1 => ?_;go_simp;refine hK1 _ _ ?_;clear hK1 K1;refine Wops.absS (b := n4) (i := 0) [_,_] (somes [cellVal c4_0,cellVal c4_1] (by simp) (by intro j v hj;match j,hj with | 0,hj => (simp at hj;subst hj;exact c4_0) | 1,hj => (simp at hj;subst hj;exact c4_1))) fun P10 hP10 => ?_
  replace xw := Put.to xw hP10 (by omega);clear c4_0;clear c4_1;have c4_0 := hP10.new 0 _ rfl;try simp only [Nat.reduceAdd,Nat.zero_add,Nat.add_zero] at c4_0
  have c4_1 := hP10.new 1 _ rfl;try simp only [Nat.reduceAdd,Nat.zero_add,Nat.add_zero] at c4_1
  clear hP10;try simp only [Wops_nil,updO_some,updO_none]
  refine hK _ _ ?_;clear hK K' gd;refine Wp.keep [4] ?_;rintro r34 ⟨e4_34,-⟩;simp [go_sem,e1_33,e2_33,e4_33,e5_33,e21_33] at e4_34;clear e1_33 e2_33 e4_33 e5_33 e21_33;refine Wp.ret ?_;refine tRe ?_;refine endK_cell (v := .agg #[cellVal c4_0,cellVal c4_1]) Tryz.results33 (by decide) e4_34 (by dsimp only [cellVal];go_simp) ?_
  dsimp only [cellVal]
  exact ⟨⟨_,by rw [if_pos h0],by rw [if_pos h0,if_neg h0];exact IntsB.nil _ _⟩,xw⟩
theorem one_intsV {w : World} {b : Nat} {x : Int} (h : w.cell? ⟨b,0,none⟩ = some (.int .i64 x)) : IntsV w w.heap.size (.slice (some ⟨b,0,none⟩) 1 1) [x] :=
 ⟨_,1,rfl,fun _ => ⟨b,0,rfl,cell_lt h,fun k hk => by
  obtain rfl : k = 0 := by simpa using hk
  exact h⟩,Nat.le_refl _⟩
theorem sure_len (t : Tr) (n : Nat) : ∀ k,(sortI (sureN t n k)).length ≤ k ∧ (sortI (someN t n k)).length ≤ k := fun k => by
 rw [sortI_len,sortI_len]
 constructor
 ·exact sureN_len k
 ·induction k with
  | zero => exact Nat.le_refl _
  | succ k ih => unfold someN;split;rw [List.length_append];exact Nat.succ_le_succ ih;exact Nat.le_succ_of_le ih
theorem sure_T {t : Tr} {n k : Nat} (h : meritF (withoutT t [(k : Int)]) n < meritF t n) : sortI (sureN t n (k + 1)) = insI (sortI (sureN t n k)) (idAt t.fl k) := by rw [sureN,if_pos h,sortI_snoc]
theorem sure_F {t : Tr} {n k : Nat} (h : ¬ meritF (withoutT t [(k : Int)]) n < meritF t n) : sortI (sureN t n (k + 1)) = sortI (sureN t n k) := by rw [sureN,if_neg h]
theorem some_T {t : Tr} {n k : Nat} (h : 0 < (daysL t n k).length) : sortI (someN t n (k + 1)) = insI (sortI (someN t n k)) (idAt t.fl k) := by rw [someN,if_pos h,sortI_snoc]
theorem some_F {t : Tr} {n k : Nat} (h : ¬ 0 < (daysL t n k).length) : sortI (someN t n (k + 1)) = sortI (someN t n k) := by rw [someN,if_neg h]
theorem insI_ne (l : List Int) (x : Int) : insI l x ≠ [] := fun h => by have := insI_len l x;rw [h] at this;cases this
theorem rSurely_c (t : Tr) (v : Value) (w : World) (hV : TourV w w.heap.size v t) (hf : FitT t) (hl : checkT t = 0 → t.fl.length ≤ 12) :
  CallsV Tryz.prog 31 #[v] w fun v' w' => (∃ av bv,v' = .agg #[av,bv,.int .i64 (checkT t)] ∧ IntsB w' w.heap.size av (sureL t) ∧ IntsB w' w.heap.size bv (someL t)) ∧ Ext w w' := by
 obtain ⟨A,c,A2,c2,rfl,hI,hF⟩ := hV.open';have hTS : TourS w w.heap.size (.agg #[.int .i64 t.n,.slice A t.cl.length c,.slice A2 t.fl.length c2]) t := ⟨hV⟩;have hIS : IntsS w w.heap.size (.slice A t.cl.length c) t.cl := ⟨hI⟩;have hFS : FlawsS w w.heap.size (.slice A2 t.fl.length c2) t.fl := ⟨hF⟩;clear hV hI hF;obtain ⟨n,hn⟩ : ∃ n,∃ _u : Unit,t.n.toNat = n := ⟨_,(),rfl⟩;have hff := hf.fl;obtain ⟨e,he⟩ : ∃ e : Int,∃ _u : Unit,checkT t = e := ⟨_,(),rfl⟩;obtain ⟨LA,LB,hLL⟩ : ∃ LA LB,∃ _u : Unit,sureL t = LA ∧ someL t = LB ∧ (e ≠ 0 → LA = [] ∧ LB = []) ∧ (e = 0 → LA = sortI (sureN t n t.fl.length) ∧ LB = sortI (someN t n t.fl.length)) := ⟨_,_,(),rfl,rfl,fun q => by unfold sureL someL;rw [he.choose_spec,if_neg q,if_neg q];exact ⟨rfl,rfl⟩,fun q => by unfold sureL someL;rw [he.choose_spec,if_pos q,if_pos q,hn.choose_spec];exact ⟨rfl,rfl⟩⟩;rw [he.choose_spec,hLL.choose_spec.1,hLL.choose_spec.2.1];refine Wp.fn Tryz.func31 rfl Tryz.ntmps31 (by simp) ?_;have xw := Ext.refl w;refine Wp.keep [0] ?_;rintro r1 ⟨e0_1,-⟩;simp [go_sem] at e0_1;refine sRg fun K' gd hK => ?_;refine cu1 fun K1 hK1 => ?_;go_simp;refine hK1 _ _ ?_;clear hK1 K1;refine Wops.absA fun V1_1 n1 hV1_1 => ?_;obtain ⟨q1,hV1_1,s1,kV1_1,f1,r1⟩ := hV1_1;try simp only [q1] at kV1_1 f1 r1 ⊢
 replace hTS := hTS.ext hV1_1;replace hIS := hIS.ext hV1_1;replace hFS := hFS.ext hV1_1;replace xw := xw.trans hV1_1;have c1_0 := kV1_1 0 _ rfl;have c1_1 := kV1_1 1 _ rfl;have c1_2 := kV1_1 2 _ rfl;clear kV1_1 hV1_1;clear r1;refine cu1 fun K1 hK1 => ?_;go_simp;refine hK1 _ _ ?_;clear hK1 K1;refine Wops.absA fun V2_2 n2 hV2_2 => ?_;obtain ⟨q2,hV2_2,s2,kV2_2,f2,r2⟩ := hV2_2;try simp only [q2] at kV2_2 f2 r2 ⊢
 replace hTS := hTS.ext hV2_2;replace hIS := hIS.ext hV2_2;replace hFS := hFS.ext hV2_2;replace xw := xw.trans hV2_2;replace c1_0 := hV2_2.cell c1_0;replace c1_1 := hV2_2.cell c1_1;replace c1_2 := hV2_2.cell c1_2;have c2_0 := kV2_2 0 _ rfl;have c2_1 := kV2_2 1 _ rfl;have c2_2 := kV2_2 2 _ rfl;clear kV2_2 hV2_2;clear r2;try simp only [Wops_nil,updO_some,updO_none]
 refine hK _ _ ?_;clear hK K' gd;refine Wp.keep [1,2] ?_;rintro r2 ⟨e1_2,e2_2,-⟩;simp [go_sem,e0_1] at e1_2 e2_2;clear e0_1;refine sRg fun K' gd hK => ?_;refine cu2 fun K1 hK1 => ?_;go_simp;refine Wcall (.inl rfl) (rcheck_c t _ _ (hTS.v.more (Below.size (XE))) hf) ?_;rintro v w2 ⟨hv,hE⟩;rw [he.choose_spec] at hv;subst hv;go_simp;refine hK1 _ _ ?_;clear hK1 K1;have z3 := Below.size hE;replace f2 := hE.fz c2_0 f2;replace hTS := hTS.ext hE;replace hIS := hIS.ext hE;replace hFS := hFS.ext hE;replace xw := xw.trans hE;replace c1_0 := hE.cell c1_0;replace c1_1 := hE.cell c1_1;replace c1_2 := hE.cell c1_2;replace c2_0 := hE.cell c2_0;replace c2_1 := hE.cell c2_1;replace c2_2 := hE.cell c2_2;clear hE;go_simp;refine hK _ _ ?_;clear hK K' gd;refine Wp.keep [1,2,3] ?_;rintro r4 ⟨e1_4,e2_4,e3_4,-⟩;simp [go_sem,e1_2,e2_2] at e1_4 e2_4 e3_4;clear e1_2 e2_2
 by_cases h0 : e = 0
 ·skip;have hck : checkT t = 0 := he.choose_spec.trans h0;have hg := checkT_zero.1 hck;have hP : PlanT t n := by rw [← hn.choose_spec];exact hg.plan (hl hck)
  have hm12 := hP.fl;obtain ⟨M,hM⟩ : ∃ M : Int,∃ _u : Unit,meritF t n = M ∧ 0 ≤ M ∧ M ≤ 60000 := ⟨_,(),rfl,meritF_le hP⟩;have hwM : IntKind.i64.wrap (M + 1048576) = M + 1048576 := IntWalk.i64_in _ (by omega);refine Wp.seq ?_;refine sRg fun K' gd hK => ?_;go_simp;refine hK _ _ ?_;clear hK K' gd;refine Wp.keep [1,2,3,11] ?_;rintro r5 ⟨e1_5,e2_5,e3_5,e11_5,-⟩;simp [go_sem,e1_4,e2_4,e3_4] at e1_5 e2_5 e3_5 e11_5;clear e1_4 e2_4 e3_4;refine cFf ?_;refine skN ?_;refine sRg fun K' gd hK => ?_;refine cu2 fun K1 hK1 => ?_;go_simp;refine Wcall (.inl rfl) (rbestP_c t n _ _ hP (hTS.v.more (Below.size (XE)))) ?_;rintro v w4 ⟨hv,hE⟩;rw [hM.choose_spec.1] at hv;subst hv;go_simp;refine hK1 _ _ ?_;clear hK1 K1;have z6 := Below.size hE;replace f2 := hE.fz c2_0 f2;replace hTS := hTS.ext hE;replace hIS := hIS.ext hE;replace hFS := hFS.ext hE;replace xw := xw.trans hE;replace c1_0 := hE.cell c1_0;replace c1_1 := hE.cell c1_1;replace c1_2 := hE.cell c1_2;replace c2_0 := hE.cell c2_0;replace c2_1 := hE.cell c2_1;replace c2_2 := hE.cell c2_2;clear hE;go_simp;refine hK _ _ ?_;clear hK K' gd;refine Wp.keep [1,2,4] ?_;rintro r7 ⟨e1_7,e2_7,e4_7,-⟩
  simp [go_sem,e1_5,e2_5,e3_5,e11_5] at e1_7 e2_7 e4_7;clear e1_5 e2_5 e3_5 e11_5;refine sRg fun K' gd hK => ?_;refine cu1 fun K1 hK1 => ?_;go_simp;refine hK1 _ _ ?_;clear hK1 K1;refine Wops.absA fun V5_3 n5 hV5_3 => ?_;obtain ⟨q5,hV5_3,s5,kV5_3,f5,r5⟩ := hV5_3;try simp only [q5] at kV5_3 f5 r5 ⊢
  replace f2 := hV5_3.fz c2_0 f2;replace hTS := hTS.ext hV5_3;replace hIS := hIS.ext hV5_3;replace hFS := hFS.ext hV5_3;replace xw := xw.trans hV5_3;replace c1_0 := hV5_3.cell c1_0;replace c1_1 := hV5_3.cell c1_1;replace c1_2 := hV5_3.cell c1_2;replace c2_0 := hV5_3.cell c2_0;replace c2_1 := hV5_3.cell c2_1;replace c2_2 := hV5_3.cell c2_2;have c5_0 := kV5_3 0 _ rfl;have c5_1 := kV5_3 1 _ rfl;have c5_2 := kV5_3 2 _ rfl;clear kV5_3 hV5_3;clear r5;try simp only [Wops_nil,updO_some,updO_none]
  refine hK _ _ ?_;clear hK K' gd;refine Wp.keep [1,2,4,5] ?_;rintro r8 ⟨e1_8,e2_8,e4_8,e5_8,-⟩;simp [go_sem,e1_7,e2_7,e4_7] at e1_8 e2_8 e4_8 e5_8;clear e1_7 e2_7 e4_7;refine Wp.seq ?_;obtain ⟨B0,hB0,hB1,hB2⟩ : ∃ B,n5 < B ∧ B ≤ V5_3.heap.size ∧ V5_3.heap.size ≤ B := ⟨V5_3.heap.size,cell_lt c5_0,Nat.le_refl _,Nat.le_refl _⟩;refine sRg fun K' gd hK => ?_;go_simp;refine hK _ _ ?_;clear hK K' gd;refine Wp.keep [1,2,4,5,6] ?_;rintro r9 ⟨e1_9,e2_9,e4_9,e5_9,e6_9,-⟩;simp [go_sem,e1_8,e2_8,e4_8,e5_8] at e1_9 e2_9 e4_9 e5_9 e6_9;clear e1_8 e2_8 e4_8 e5_8;refine Wp.block ?_;refine Wp.loop (fun k ρ ds wk => AllEq [1,2,4,5] ρ r9 ∧ ds = [] ∧ (Chg [n5] V5_3 wk ∧ (∀ i,wk.frozen? ⟨n5,i,none⟩ = false)) ∧ (∃ va vb ZA ZB,ρ 6 = .int .i64 (k : Int) ∧ wk.cell? ⟨n5,0,none⟩ = some va ∧ wk.cell? ⟨n5,1,none⟩ = some vb ∧ wk.cell? ⟨n5,2,none⟩ = some (.int .i64 0) ∧ IntsB wk B0 va ZA ∧ IntsB wk B0 vb ZB ∧ (∃ _u : Unit,ZA = sortI (sureN t n k) ∧ ZB = sortI (someN t n k) ∧ (ZA = [] → va = .slice none 0 0) ∧ (ZB = [] → vb = .slice none 0 0) ∧ ZA.length ≤ k ∧ ZB.length ≤ k))) (t.fl.length) ?_ ?_
  ·refine ⟨AllEq.refl _ _,rfl,⟨Chg.refl _ _,f5⟩,?_⟩;exact ⟨_,_,[],[],by rw [e6_9];rfl,c5_0,c5_1,c5_2,IntsB.nil _ _,IntsB.nil _ _,(),rfl,rfl,fun _ => rfl,fun _ => rfl,Nat.zero_le _,Nat.zero_le _⟩
  ·rintro k r10 _ wk hk ⟨hA,rfl,⟨xo,gf5⟩,⟨va,vb,ZA,ZB,e6,gc5_0,gc5_1,gc5_2,hIA,hIB,hZ⟩⟩;obtain ⟨e1_10,e2_10,e4_10,e5_10,-⟩ := hA;rw [e1_9] at e1_10;rw [e2_9] at e2_10;rw [e4_9] at e4_10;rw [e5_9] at e5_10;have zxo := Chg.size xo;replace f2 := Chg.fz xo c2_0 f2 XN;clear f5;replace hTS := hTS.chg xo XB;replace hIS := hIS.chg xo XB;replace hFS := hFS.chg xo XB;replace xw := Chg.to xw xo XL;replace c1_0 := Chg.cell xo c1_0 XN;replace c1_1 := Chg.cell xo c1_1 XN;replace c1_2 := Chg.cell xo c1_2 XN;replace c2_0 := Chg.cell xo c2_0 XN;replace c2_1 := Chg.cell xo c2_1 XN;replace c2_2 := Chg.cell xo c2_2 XN;clear c5_0;clear c5_1;clear c5_2;have f5 := gf5;clear gf5;have c5_0 := gc5_0;clear gc5_0;have c5_1 := gc5_1;clear gc5_1;have c5_2 := gc5_2;clear gc5_2;obtain ⟨A5,k5,rfl⟩ := IntsB.slice hIA;obtain ⟨A6,k6,rfl⟩ := IntsB.slice hIB
   by_cases hk : k < t.fl.length
   ·skip;have hkl : (k : Int) < (t.fl.length : Int) := by omega
    obtain ⟨b2,o2,eA,hb2,x0,x1,x2,x3⟩ := FlawsV.at hFS.v hk;subst eA;have hid : ∃ _u : Unit,idAt t.fl k = t.fl[k].id := ⟨(),idAt_at hk⟩;have hlw : ∃ _u : Unit,lessF [t.fl[k].id] t.fl = (withoutT t [(k : Int)]).fl := ⟨(),less_without hg hk⟩;have hwt : ∃ _u : Unit,meritF (withT t k t.fl[k].lo t.fl[k].hi) n = M + 1048576 ↔ 0 < (daysL t n k).length := ⟨(),by rw [← hM.choose_spec.1];exact with_some hP.opt hk (by have := hP.mr k hk;omega)⟩;have hsk := hP.sp k hk;obtain ⟨F,hF⟩ : ∃ F,∃ _u : Unit,t.fl[k] = F := ⟨_,(),rfl⟩;rw [hF.choose_spec] at x0 x1 x2 x3 hid hlw hwt hsk;obtain ⟨X,hX⟩ : ∃ X : Int,∃ _u : Unit,meritF (withT t k F.lo F.hi) n = X := ⟨_,(),rfl⟩;rw [hX.choose_spec] at hwt;obtain ⟨Y,hY⟩ : ∃ Y : Int,∃ _u : Unit,meritF (withoutT t [(k : Int)]) n = Y := ⟨_,(),rfl⟩;refine Wp.seq ?_;refine sRg fun K' gd hK => ?_;go_simp;refine hK _ _ ?_;clear hK K' gd;refine Wp.keep [1,2,4,5,6,20] ?_;rintro r11 ⟨e1_11,e2_11,e4_11,e5_11,e6_11,e20_11,-⟩;simp [go_sem,e1_10,e2_10,e4_10,e5_10,e6] at e1_11 e2_11 e4_11 e5_11 e6_11 e20_11;clear e1_10 e2_10 e4_10 e5_10 e6;refine cTt ?_;refine skN ?_;refine sBk ?_;refine sRg fun K' gd hK => ?_;go_simp;refine hK _ _ ?_;clear hK K' gd;refine Wp.keep [1,2,4,5,6,7] ?_;rintro r12 ⟨e1_12,e2_12,e4_12,e5_12,e6_12,e7_12,-⟩
    simp [go_sem,e1_11,e2_11,e4_11,e5_11,e6_11,e20_11] at e1_12 e2_12 e4_12 e5_12 e6_12 e7_12;clear e1_11 e2_11 e4_11 e5_11 e6_11 e20_11;refine Wp.seq ?_;refine Wp.cut (fun ρ ds W => AllEq [1,2,4,5,6,7] ρ r12 ∧ ds = [] ∧ (Chg [n5] wk W ∧ (∀ i,W.frozen? ⟨n5,i,none⟩ = false)) ∧ (∃ va ZA,W.cell? ⟨n5,0,none⟩ = some va ∧ W.cell? ⟨n5,1,none⟩ = some (.slice A6 ZB.length k6) ∧ W.cell? ⟨n5,2,none⟩ = some (.int .i64 0) ∧ IntsB W B0 va ZA ∧ (∃ _u : Unit,ZA = sortI (sureN t n (k + 1)) ∧ (ZA = [] → va = .slice none 0 0) ∧ ZA.length ≤ k + 1))) ?_ ?_
    ·have xq5 := Chg.refl [n5] wk;refine sRg fun K' gd hK => ?_;refine cu3 fun K1 hK1 => ?_;go_simp;refine hK1 _ _ ?_;clear hK1 K1;refine Wops.absA fun V31_6 n31 hV31_6 => ?_;obtain ⟨q31,hV31_6,s31,kV31_6,f31,r31⟩ := hV31_6;try simp only [q31] at kV31_6 f31 r31 ⊢
     replace f5 := hV31_6.fz c5_0 f5;replace hIS := hIS.ext hV31_6;replace hFS := hFS.ext hV31_6;replace hIA := hIA.ext hV31_6;replace xw := xw.trans hV31_6;replace xo := Chg.ext xo hV31_6;replace xq5 := Chg.ext xq5 hV31_6;replace c5_0 := hV31_6.cell c5_0;replace c5_1 := hV31_6.cell c5_1;replace c5_2 := hV31_6.cell c5_2;clear hV31_6 f31;have c31_0 := kV31_6 0 _ rfl;clear kV31_6;refine cu1 fun K1 hK1 => ?_;go_simp;refine Wcall (.inl rfl) (rless_c t [F.id] A c (some ⟨b2,o2,none⟩) c2 (.slice (some ⟨n31,0,none⟩) 1 1) _ (hFS.v.more (Below.size (XE))) (one_intsV c31_0) (by simp) (by omega)) ?_;rintro v w5 ⟨⟨fv,rfl,hO⟩,hE⟩;rw [hlw.choose_spec] at hO;obtain ⟨A7,c7,rfl⟩ := hO.slice;go_simp;refine hK1 _ _ ?_;clear hK1 K1;have z13 := Below.size hE;replace f5 := hE.fz c5_0 f5;replace hIS := hIS.ext hE;replace hIA := hIA.ext hE;replace xw := xw.trans hE;replace xo := Chg.ext xo hE;replace xq5 := Chg.ext xq5 hE;replace c5_0 := hE.cell c5_0;replace c5_1 := hE.cell c5_1;replace c5_2 := hE.cell c5_2;clear hE;refine cu1 fun K1 hK1 => ?_;go_simp;refine Wcall (.inl rfl) (rbestP_c (withoutT t [(k : Int)]) n _ _ (hP.without [(k : Int)]) ⟨_,_,rfl,hIS.v.more (Below.size (XE)),hO.flawsV⟩) ?_;rintro v w6 ⟨hv,hE⟩;rw [hY.choose_spec] at hv;subst hv;go_simp
     refine hK1 _ _ ?_;clear hK1 K1;have z14 := Below.size hE;replace f5 := hE.fz c5_0 f5;replace hIA := hIA.ext hE;replace xw := xw.trans hE;replace xo := Chg.ext xo hE;replace xq5 := Chg.ext xq5 hE;replace c5_0 := hE.cell c5_0;replace c5_1 := hE.cell c5_1;replace c5_2 := hE.cell c5_2;clear hE;go_simp;refine hK _ _ ?_;clear hK K' gd;refine Wp.keep [1,2,4,5,6,7,35] ?_;rintro r15 ⟨e1_15,e2_15,e4_15,e5_15,e6_15,e7_15,e35_15,-⟩;simp [go_sem,e1_12,e2_12,e4_12,e5_12,e6_12,e7_12] at e1_15 e2_15 e4_15 e5_15 e6_15 e7_15 e35_15
     by_cases hy : Y < M
     ·skip;refine cTt ?_;refine lRg fun K' gd hK => ?_;refine cu4 fun K1 hK1 => ?_;go_simp;refine Wcall (.inl rfl) (rinsert_c _ ZA F.id _ (hIA.ints) hZ.choose_spec.2.2.1 (by omega)) ?_;rintro v w7 ⟨hIA90,hE⟩;have hIA9 := hIA90.less (b2 := B0) (by omega);clear hIA90;obtain ⟨A9,k9,rfl⟩ := IntsB.slice hIA9;go_simp;refine hK1 _ _ ?_;clear hK1 K1;replace f5 := hE.fz c5_0 f5;replace xw := xw.trans hE;replace xo := Chg.ext xo hE;replace xq5 := Chg.ext xq5 hE;replace c5_0 := hE.cell c5_0;replace c5_1 := hE.cell c5_1;replace c5_2 := hE.cell c5_2;clear hE;refine cu2 fun K1 hK1 => ?_;go_simp;refine hK1 _ _ ?_;clear hK1 K1;refine Wops.absS (b := n5) (i := 0) [_] (somes [cellVal c5_0] (by simp) (by intro j v hj;match j,hj with | 0,hj => (simp at hj;subst hj;exact c5_0))) fun P7 hP7 => ?_;replace f5 := hP7.frz f5;replace hIA9 := hIA9.put hP7 (by omega);replace xw := Put.to xw hP7 (by omega);replace xo := Put.more xo hP7 (.inr (by simp));replace xq5 := Put.more xq5 hP7 (.inr (by simp));clear c5_0;replace c5_1 := Put.cellOff hP7 c5_1 (by simp);replace c5_2 := Put.cellOff hP7 c5_2 (by simp);have c5_0 := hP7.new 0 _ rfl;try simp only [Nat.reduceAdd,Nat.zero_add,Nat.add_zero] at c5_0
      clear hP7;try simp only [Wops_nil,updO_some,updO_none]
      refine hK _ _ ?_;clear hK K' gd;refine Ends.keep [1,2,4,5,6,7] ?_;rintro r17 ⟨e1_17,e2_17,e4_17,e5_17,e6_17,e7_17,-⟩;simp [go_sem,e1_15,e2_15,e4_15,e5_15,e6_15,e7_15,e35_15] at e1_17 e2_17 e4_17 e5_17 e6_17 e7_17;clear e1_15 e2_15 e4_15 e5_15 e6_15 e7_15 e35_15;refine Ends.mk ?_;refine cutK_normal ⟨⟨by rw [e1_17,e1_12],by rw [e2_17,e2_12],by rw [e4_17,e4_12],by rw [e5_17,e5_12],by rw [e6_17,e6_12],by rw [e7_17,e7_12],trivial⟩,rfl,⟨xq5,f5⟩,?_⟩;exact ⟨_,insI ZA F.id,c5_0,c5_1,c5_2,hIA9,(),by rw [sure_T (by rw [hY.choose_spec,hM.choose_spec.1];exact hy),hZ.choose_spec.1,hid.choose_spec],fun q => absurd q (insI_ne _ _),by rw [insI_len];omega⟩
     ·skip;refine cFf ?_;refine Wp.skip ?_;refine cutK_normal ⟨⟨by rw [e1_15,e1_12],by rw [e2_15,e2_12],by rw [e4_15,e4_12],by rw [e5_15,e5_12],by rw [e6_15,e6_12],by rw [e7_15,e7_12],trivial⟩,rfl,⟨xq5,f5⟩,?_⟩;exact ⟨_,ZA,c5_0,c5_1,c5_2,hIA,(),by rw [sure_F (by rw [hY.choose_spec,hM.choose_spec.1];exact hy)];exact hZ.choose_spec.1,hZ.choose_spec.2.2.1,by omega⟩
    ·rintro r18 _ W5 ⟨hA,rfl,⟨xq5,gf5⟩,⟨va2,ZA2,gc5_0,gc5_1,gc5_2,hIA2,hZ2⟩⟩;obtain ⟨e1_18,e2_18,e4_18,e5_18,e6_18,e7_18,-⟩ := hA;rw [e1_12] at e1_18;rw [e2_12] at e2_18;rw [e4_12] at e4_18;rw [e5_12] at e5_18;rw [e6_12] at e6_18;rw [e7_12] at e7_18;clear e1_12 e2_12 e4_12 e5_12 e6_12 e7_12;have zxq5 := Chg.size xq5;clear f5;replace hIS := hIS.chg xq5 XB;replace hFS := hFS.chg xq5 XB;replace hIB := hIB.chg xq5 XB;replace xw := Chg.to xw xq5 XL;replace xo := Chg.more xo xq5 (by intro b hm;simp only [List.mem_cons,List.not_mem_nil,or_false] at hm;first | (left;omega) | (right;simp [hm];done) | (rcases hm with hm | hm <;> first | (left;omega) | (right;simp [hm])));replace c1_0 := Chg.cell xq5 c1_0 XN;replace c1_1 := Chg.cell xq5 c1_1 XN;replace c1_2 := Chg.cell xq5 c1_2 XN;clear c5_0;clear c5_1;clear c5_2;replace x1 := Chg.cell xq5 x1 XN;replace x2 := Chg.cell xq5 x2 XN;have f5 := gf5;clear gf5;have c5_0 := gc5_0;clear gc5_0;have c5_1 := gc5_1;clear gc5_1;have c5_2 := gc5_2;clear gc5_2;refine tNo ?_;obtain ⟨A9,k9,rfl⟩ := IntsB.slice hIA2;refine Wp.seqDraw (.inl rfl) mixed [([0,1,2,3,4],none),([5,6,7,10,11],some (8,false)),([],some (9,false)),([12],none)] (by kernel_rfl) fun K' gd hK hg => ?_;clear hg;simp only [pick,nth,List.map_cons,List.map_nil,Option.map_none,Option.map_some];refine Mops.absD fun D8 hD8 zD8 => ?_;replace f5 := hD8.fz c5_0 f5;replace hIS := hIS.ext hD8;replace hFS := hFS.ext hD8
     replace hIB := hIB.ext hD8;replace hIA2 := hIA2.ext hD8;replace xw := xw.trans hD8;replace xo := Chg.ext xo hD8;replace c1_0 := hD8.cell c1_0;replace c1_1 := hD8.cell c1_1;replace c1_2 := hD8.cell c1_2;replace x1 := hD8.cell x1;replace x2 := hD8.cell x2;replace c5_0 := hD8.cell c5_0;replace c5_1 := hD8.cell c5_1;replace c5_2 := hD8.cell c5_2;clear hD8;refine mNo ?_
     refine mAc ?_
     intro K1 hK1;go_simp;refine Wcall (.inl rfl) (rwith_c t k F.lo F.hi A c (some ⟨b2,o2,none⟩) c2 _ (hFS.v.more (Below.size (XE))) hk (by omega) (by have := hP.mr k hk;omega)) ?_;rintro v w7 ⟨⟨b,c4,rfl,hb1,hb4,hR⟩,hE⟩;go_simp;refine hK1 _ _ (by assumption) ?_;clear hK1 K1;have z19 := Below.size hE;replace f5 := hE.fz c5_0 f5;replace hIS := hIS.ext hE;replace hIB := hIB.ext hE;replace hIA2 := hIA2.ext hE;replace xw := xw.trans hE;replace xo := Chg.ext xo hE;replace c5_0 := hE.cell c5_0;replace c5_1 := hE.cell c5_1;replace c5_2 := hE.cell c5_2;clear hE;apply Mops.act
     ·exact fun _ _ => Rops_done
     intro K1 hK1;go_simp;refine Wcall (.inl rfl) (rbestW_c t n k F.lo F.hi A c b c4 _ hP hk hsk (hIS.v.more (Below.size (XE))) hR hb4) ?_;rintro v w8 ⟨hv,hE⟩;rw [hX.choose_spec] at hv;subst hv;go_simp;refine hK1 _ _ (by assumption) ?_;clear hK1 K1;have z20 := Below.size hE;replace f5 := hE.fz c5_0 f5;replace hIB := hIB.ext hE;replace hIA2 := hIA2.ext hE;replace xw := xw.trans hE;replace xo := Chg.ext xo hE;replace c5_0 := hE.cell c5_0;replace c5_1 := hE.cell c5_1;replace c5_2 := hE.cell c5_2;clear hE;apply Mops.none
     ·intro w' hE';go_simp;with_reducible rfl
     refine Mops.done ?_;refine hK _ _ ?_;clear hK K' gd;refine Wp.keep [1,2,4,5,6,7,53] ?_;rintro r21 ⟨e1_21,e2_21,e4_21,e5_21,e6_21,e7_21,e53_21,-⟩;simp [go_sem,e1_18,e2_18,e4_18,e5_18,e6_18,e7_18] at e1_21 e2_21 e4_21 e5_21 e6_21 e7_21 e53_21;clear e1_18 e2_18 e4_18 e5_18 e6_18 e7_18
     by_cases hx : X = M + 1048576
     ·skip;refine cTt ?_;refine lRg fun K' gd hK => ?_;refine cu4 fun K1 hK1 => ?_;go_simp;refine Wcall (.inl rfl) (rinsert_c _ ZB F.id _ (hIB.ints) hZ.choose_spec.2.2.2.1 (by omega)) ?_;rintro v w7 ⟨hIB90,hE⟩;have hIB9 := hIB90.less (b2 := B0) (by omega);clear hIB90;obtain ⟨A8,k8,rfl⟩ := IntsB.slice hIB9;go_simp;refine hK1 _ _ ?_;clear hK1 K1;replace f5 := hE.fz c5_0 f5;replace hIA2 := hIA2.ext hE;replace xw := xw.trans hE;replace xo := Chg.ext xo hE;replace c5_0 := hE.cell c5_0;replace c5_1 := hE.cell c5_1;replace c5_2 := hE.cell c5_2;clear hE;refine cu2 fun K1 hK1 => ?_;go_simp;refine hK1 _ _ ?_;clear hK1 K1;refine Wops.absS (b := n5) (i := 1) [_] (somes [cellVal c5_1] (by simp) (by intro j v hj;match j,hj with | 0,hj => (simp at hj;subst hj;exact c5_1))) fun P9 hP9 => ?_;replace f5 := hP9.frz f5;replace hIA2 := hIA2.put hP9 (by omega);replace hIB9 := hIB9.put hP9 (by omega);replace xw := Put.to xw hP9 (by omega);replace xo := Put.more xo hP9 (.inr (by simp));replace c5_0 := Put.cellOff hP9 c5_0 (by simp);clear c5_1;replace c5_2 := Put.cellOff hP9 c5_2 (by simp);have c5_1 := hP9.new 0 _ rfl;try simp only [Nat.reduceAdd,Nat.zero_add,Nat.add_zero] at c5_1
      clear hP9;try simp only [Wops_nil,updO_some,updO_none]
      refine hK _ _ ?_;clear hK K' gd;refine Ends.keep [1,2,4,5,6] ?_;rintro r23 ⟨e1_23,e2_23,e4_23,e5_23,e6_23,-⟩;simp [go_sem,e1_21,e2_21,e4_21,e5_21,e6_21,e7_21,e53_21] at e1_23 e2_23 e4_23 e5_23 e6_23;clear e1_21 e2_21 e4_21 e5_21 e6_21 e7_21 e53_21;refine Ends.mk ?_;refine bNo ?_;refine tNo ?_;refine lRg fun K' gd hK => ?_;go_simp;refine hK _ _ ?_;clear hK K' gd;refine Ends.keep [1,2,4,5,6] ?_;rintro r24 ⟨e1_24,e2_24,e4_24,e5_24,e6_24,-⟩;simp [go_sem,e1_23,e2_23,e4_23,e5_23,e6_23] at e1_24 e2_24 e4_24 e5_24 e6_24;clear e1_23 e2_23 e4_23 e5_23 e6_23;refine Ends.mk ?_;refine thenK_normal ⟨by omega,⟨by rw [e1_24,e1_9],by rw [e2_24,e2_9],by rw [e4_24,e4_9],by rw [e5_24,e5_9],trivial⟩,rfl,⟨xo,f5⟩,?_⟩;exact ⟨_,_,ZA2,insI ZB F.id,by rw [e6_24,IntWalk.i64_in _ (by omega)];rfl,c5_0,c5_1,c5_2,hIA2,hIB9,(),hZ2.choose_spec.1,by rw [some_T (hwt.choose_spec.1 hx),hZ.choose_spec.2.1,hid.choose_spec],hZ2.choose_spec.2.1,fun q => absurd q (insI_ne _ _),hZ2.choose_spec.2.2,by rw [insI_len];omega⟩
     ·skip;refine cFf ?_;refine Wp.skip ?_;refine bNo ?_;refine tNo ?_;refine lRg fun K' gd hK => ?_;go_simp;refine hK _ _ ?_;clear hK K' gd;refine Ends.keep [1,2,4,5,6] ?_;rintro r25 ⟨e1_25,e2_25,e4_25,e5_25,e6_25,-⟩;simp [go_sem,e1_21,e2_21,e4_21,e5_21,e6_21,e7_21,e53_21] at e1_25 e2_25 e4_25 e5_25 e6_25;clear e1_21 e2_21 e4_21 e5_21 e6_21 e7_21 e53_21;refine Ends.mk ?_;refine thenK_normal ⟨by omega,⟨by rw [e1_25,e1_9],by rw [e2_25,e2_9],by rw [e4_25,e4_9],by rw [e5_25,e5_9],trivial⟩,rfl,⟨xo,f5⟩,?_⟩;exact ⟨_,_,ZA2,ZB,by rw [e6_25,IntWalk.i64_in _ (by omega)];rfl,c5_0,c5_1,c5_2,hIA2,hIB,(),hZ2.choose_spec.1,by rw [some_F fun q => hx (hwt.choose_spec.2 q)];exact hZ.choose_spec.2.1,hZ2.choose_spec.2.1,hZ.choose_spec.2.2.2.1,hZ2.choose_spec.2.2,by omega⟩
   ·skip;have hkl : ¬ (k : Int) < (t.fl.length : Int) := by omega
    have hkk : ∃ _u : Unit,k = t.fl.length := ⟨(),by omega⟩;have hLA : ∃ _u : Unit,LA = ZA ∧ LB = ZB := ⟨(),by rw [(hLL.choose_spec.2.2.2 h0).1,(hLL.choose_spec.2.2.2 h0).2,hZ.choose_spec.1,hZ.choose_spec.2.1,hkk.choose_spec];exact ⟨rfl,rfl⟩⟩;refine Wp.seq ?_;refine sRg fun K' gd hK => ?_;go_simp;refine hK _ _ ?_;clear hK K' gd;refine Wp.keep [1,2,4,5,6,20] ?_;rintro r26 ⟨e1_26,e2_26,e4_26,e5_26,e6_26,e20_26,-⟩;simp [go_sem,e1_10,e2_10,e4_10,e5_10,e6] at e1_26 e2_26 e4_26 e5_26 e6_26 e20_26;clear e1_10 e2_10 e4_10 e5_10 e6;refine cFf ?_;refine Wp.exit ?_;refine tEx ?_;refine tEx ?_;refine blockK_here ?_;refine tNo ?_;refine sRg fun K' gd hK => ?_;refine cu2 fun K1 hK1 => ?_;go_simp;refine hK1 _ _ ?_;clear hK1 K1;refine Wops.absS (b := n2) (i := 0) [_,_,_] (somes [cellVal c2_0,cellVal c2_1,cellVal c2_2] (by simp) (by intro j v hj;match j,hj with | 0,hj => (simp at hj;subst hj;exact c2_0) | 1,hj => (simp at hj;subst hj;exact c2_1) | 2,hj => (simp at hj;subst hj;exact c2_2))) fun P10 hP10 => ?_;replace hIA := hIA.put hP10 (by omega);replace hIB := hIB.put hP10 (by omega);replace xw := Put.to xw hP10 (by omega);clear xo;clear c2_0;clear c2_1;clear c2_2
    have c2_0 := hP10.new 0 _ rfl;try simp only [Nat.reduceAdd,Nat.zero_add,Nat.add_zero] at c2_0
    have c2_1 := hP10.new 1 _ rfl;try simp only [Nat.reduceAdd,Nat.zero_add,Nat.add_zero] at c2_1
    have c2_2 := hP10.new 2 _ rfl;try simp only [Nat.reduceAdd,Nat.zero_add,Nat.add_zero] at c2_2
    clear hP10;try simp only [Wops_nil,updO_some,updO_none]
    refine hK _ _ ?_;clear hK K' gd;refine Wp.keep [2] ?_;rintro r27 ⟨e2_27,-⟩;simp [go_sem,e1_26,e2_26,e4_26,e5_26,e6_26,e20_26] at e2_27;clear e1_26 e2_26 e4_26 e5_26 e6_26 e20_26;refine Wp.ret ?_;refine endK_cell (v := .agg #[cellVal c2_0,cellVal c2_1,cellVal c2_2]) Tryz.results31 (by decide) e2_27 (by dsimp only [cellVal];go_simp) ?_
    dsimp only [cellVal]
    exact ⟨⟨_,_,by rw [h0],by rw [hLA.choose_spec.1];exact hIA.less (by omega),by rw [hLA.choose_spec.2];exact hIB.less (by omega)⟩,xw⟩
 ·skip;refine Wp.seq ?_;refine sRg fun K' gd hK => ?_;go_simp;refine hK _ _ ?_;clear hK K' gd;refine Wp.keep [1,2,3,11] ?_;rintro r28 ⟨e1_28,e2_28,e3_28,e11_28,-⟩;simp [go_sem,e1_4,e2_4,e3_4] at e1_28 e2_28 e3_28 e11_28;clear e1_4 e2_4 e3_4;refine cTt ?_;refine sRg fun K' gd hK => ?_;refine cu3 fun K1 hK1 => ?_;go_simp;refine hK1 _ _ ?_;clear hK1 K1;refine Wops.absS (b := n2) (i := 0) [_,_,_] (somes [cellVal c2_0,cellVal c2_1,cellVal c2_2] (by simp) (by intro j v hj;match j,hj with | 0,hj => (simp at hj;subst hj;exact c2_0) | 1,hj => (simp at hj;subst hj;exact c2_1) | 2,hj => (simp at hj;subst hj;exact c2_2))) fun P11 hP11 => ?_;replace xw := Put.to xw hP11 (by omega);clear c2_0;clear c2_1;clear c2_2;have c2_0 := hP11.new 0 _ rfl;try simp only [Nat.reduceAdd,Nat.zero_add,Nat.add_zero] at c2_0
  have c2_1 := hP11.new 1 _ rfl;try simp only [Nat.reduceAdd,Nat.zero_add,Nat.add_zero] at c2_1
  have c2_2 := hP11.new 2 _ rfl;try simp only [Nat.reduceAdd,Nat.zero_add,Nat.add_zero] at c2_2
  clear hP11;try simp only [Wops_nil,updO_some,updO_none]
  refine hK _ _ ?_;clear hK K' gd;refine Wp.keep [2] ?_;rintro r29 ⟨e2_29,-⟩;simp [go_sem,e1_28,e2_28,e3_28,e11_28] at e2_29;clear e1_28 e2_28 e3_28 e11_28;refine Wp.ret ?_;refine tRe ?_;refine endK_cell (v := .agg #[cellVal c2_0,cellVal c2_1,cellVal c2_2]) Tryz.results31 (by decide) e2_29 (by dsimp only [cellVal];go_simp) ?_
  dsimp only [cellVal]
  exact ⟨⟨_,_,rfl,by rw [(hLL.choose_spec.2.2.1 h0).1];exact IntsB.nil _ _,by rw [(hLL.choose_spec.2.2.1 h0).2];exact IntsB.nil _ _⟩,xw⟩
end Go.Proofs.YtnklbepeoicgpaaGreat
namespace Go.Proofs.YtnklbepeoicgpaaGreat
open Go.Wk Go.Proofs
set_option maxHeartbeats 8000000
section
variable {N : Int → List Nat} {W : Int → Int} {n m i : Nat} {at' : Nat → Int} {E v1 v2 : Int}
def Fxd (i : Nat) (at' : Nat → Int) (j : Nat) : Prop := j < i ∧ 0 ≤ at' j
instance {i : Nat} {at' : Nat → Int} {j : Nat} : Decidable (Fxd i at' j) := by unfold Fxd;infer_instance
def fixN (N : Int → List Nat) (i : Nat) (at' : Nat → Int) (x : Int) : List Nat := if x.toNat < i then (if 0 ≤ at' x.toNat then [(at' x.toNat).toNat] else []) else N x
def fixW (W : Int → Int) (E : Int) (i : Nat) (at' : Nat → Int) (x : Int) : Int := W x + if Fxd i at' x.toNat then E else 0
def restN (N : Int → List Nat) (i : Nat) (at' : Nat → Int) (x : Int) : List Nat := if x.toNat < i then [] else (N x).filter fun d => decide (∀ j,j < i → at' j ≠ (d : Int))
def fixK (W : Int → Int) (E : Int) (m i : Nat) (at' : Nat → Int) : Int := sumN (fun j => if Fxd i at' j then W (j : Int) + E else 0) m
def fixE (E : Int) (m i : Nat) (at' : Nat → Int) : Int := sumN (fun j => if Fxd i at' j then E else 0) m
theorem fix_miss (hW : ∀ j : Nat,j < m → 0 ≤ W j) (hE0 : 0 ≤ E) {g : Nat → Int} (hg : OkP (fixN N i at') n m g) {j0 : Nat} (hj : j0 < m) (hf : Fxd i at' j0) (h0 : cntN g (j0 : Int) n = 0) :
  worthW (fixW W E i at') g n ≤ sumN (fun j => W (j : Int)) m + fixE E m i at' - E := by
 rw [worth_cnt (m := m) n fun d _ => (hg.lt d).2]
 have e : sumN (fun j => W (j : Int)) m + fixE E m i at' - E = sumN (fun j => W (j : Int) + (if Fxd i at' j then E else 0) + (if j0 = j then -E else 0)) m := by
  rw [sumN_add,sumN_add,sumN_at (i := j0) (W := fun _ => -E),if_pos hj];unfold fixE;omega
 rw [e];refine sumN_le m fun j hj => ?_;have h1 := hg.one j;have h2 := cntN_pos (h := g) (j := (j : Int)) (n := n);have h3 := hW j hj;unfold fixW;rw [Int.toNat_natCast]
 by_cases q : j0 = j
 ·subst q;rw [h0,if_pos rfl,if_pos hf,Int.zero_mul];omega
 ·rw [if_neg q]
  rcases (show cntN g (j : Int) n = 0 ∨ cntN g (j : Int) n = 1 by omega) with z | z
  ·rw [z,Int.zero_mul];split <;> omega
  ·rw [z,Int.one_mul];omega
theorem fix_gone {g : Nat → Int} (hg : OkP (fixN N i at') n m g) {j : Nat} (hj : j < i) (hn : ¬ 0 ≤ at' j) : cntN g (j : Int) n = 0 := Decidable.byContradiction fun q => by
 obtain ⟨d,hd,e⟩ := cntN_some q;have := hg.day d hd (by omega);rw [e] at this;unfold fixN at this;rw [Int.toNat_natCast,if_pos hj,if_neg hn] at this;exact List.not_mem_nil this
theorem fix_day {g : Nat → Int} (hg : OkP (fixN N i at') n m g) {j : Nat} (hf : Fxd i at' j) (hc : cntN g (j : Int) n ≠ 0) : (at' j).toNat < n ∧ g (at' j).toNat = (j : Int) := by
 obtain ⟨d,hd,e⟩ := cntN_some hc;have := hg.day d hd (by omega);rw [e] at this;unfold fixN at this;rw [Int.toNat_natCast,if_pos hf.1,if_pos hf.2,List.mem_singleton] at this;subst this;exact ⟨hd,e⟩
def cutG (i : Nat) (g : Nat → Int) (d : Nat) : Int := if g d < (i : Int) then -1 else g d
theorem cut_cnt {g : Nat → Int} {j : Nat} (k : Nat) : cntN (cutG i g) (j : Int) k = if j < i then 0 else cntN g (j : Int) k := by
 induction k with
 | zero => split <;> rfl
 | succ k ih =>
   rw [cntN_S,cntN_S,ih];unfold cutG
   by_cases h : j < i
   ·rw [if_pos h,if_pos h]
    split <;> (rw [if_neg (by omega)];rfl)
   ·rw [if_neg h,if_neg h]
    congr 1
    by_cases q : g k < (i : Int)
    ·rw [if_pos q,if_neg (by omega),if_neg (by omega)]
    ·rw [if_neg q]
theorem fix_all {g : Nat → Int} (hg : OkP (fixN N i at') n m g) (hall : ∀ j,j < m → Fxd i at' j → cntN g (j : Int) n ≠ 0) (him : i ≤ m) :
  OkP (restN N i at') n m (cutG i g) ∧ worthW (fixW W E i at') g n = fixK W E m i at' + worthW W (cutG i g) n := by
 constructor
 ·refine ⟨fun d => ?_,fun d hd h0 => ?_,fun j => ?_⟩
  ·have := hg.lt d;unfold cutG;split <;> omega
  ·have hi : ¬ g d < (i : Int) := fun q => by unfold cutG at h0;rw [if_pos q] at h0;omega
   have hm := hg.day d hd (by omega);have e : cutG i g d = g d := if_neg hi;rw [e];unfold restN;unfold fixN at hm;rw [if_neg (by omega)] at hm ⊢;rw [List.mem_filter,decide_eq_true_iff];refine ⟨hm,fun j hj q => ?_⟩;have hf : Fxd i at' j := ⟨hj,by omega⟩;have := (fix_day hg hf (hall j (by omega) hf)).2;rw [q,Int.toNat_natCast] at this;omega
  ·rw [cut_cnt];have := hg.one j
   split <;> omega
 ·rw [worth_cnt (m := m) n fun d _ => (hg.lt d).2,worth_cnt (m := m) n fun d _ => by have := (hg.lt d).2;unfold cutG;split <;> omega];unfold fixK;rw [← sumN_add];refine sumN_eq m fun j hj => ?_;rw [cut_cnt];unfold fixW;rw [Int.toNat_natCast]
  by_cases h : j < i
  ·rw [if_pos h,Int.zero_mul,Int.add_zero]
   by_cases z : 0 ≤ at' j
   ·have hf : Fxd i at' j := ⟨h,z⟩;have h1 := hg.one j;have h2 := cntN_pos (h := g) (j := (j : Int)) (n := n);have h3 := hall j hj hf;rw [if_pos hf,if_pos hf,show cntN g (j : Int) n = 1 by omega,Int.one_mul]
   ·have hf : ¬ Fxd i at' j := fun q => z q.2;rw [fix_gone hg h z,Int.zero_mul,if_neg hf]
  ·have hf : ¬ Fxd i at' j := fun q => h q.1;rw [if_neg h,if_neg hf,if_neg hf,Int.add_zero];omega
end
section
variable {N : Int → List Nat} {W : Int → Int} {n m i : Nat} {at' : Nat → Int} {E v1 v2 : Int}
structure FixS (n i : Nat) (at' : Nat → Int) : Prop where
 lt : ∀ j,j < i → at' j < n
 inj : ∀ j k,j < i → k < i → 0 ≤ at' j → at' j = at' k → j = k
def putG (i : Nat) (at' : Nat → Int) (h : Nat → Int) (d : Nat) : Int := match (List.range i).find? fun j => decide (at' j = (d : Int)) with | some j => (j : Int) | none => h d
theorem putG_some {h : Nat → Int} {d j : Nat} (hS : FixS n i at') (hj : j < i) (e : at' j = (d : Int)) : putG i at' h d = (j : Int) := by
 unfold putG
 cases q : (List.range i).find? fun j => decide (at' j = (d : Int)) with
 | none =>
   rw [List.find?_eq_none] at q;have := q j (List.mem_range.2 hj);rw [decide_eq_true_iff] at this;exact absurd e this
 | some k =>
   have h1 := List.find?_some q;have h2 := List.mem_range.1 (List.mem_of_find?_eq_some q);rw [decide_eq_true_iff] at h1
   show (k : Int) = (j : Int)
   rw [hS.inj k j h2 hj (by omega) (h1.trans e.symm)]
theorem putG_none {h : Nat → Int} {d : Nat} (e : ∀ j,j < i → at' j ≠ (d : Int)) : putG i at' h d = h d := by
 unfold putG
 have : ((List.range i).find? fun j => decide (at' j = (d : Int))) = none := by
  rw [List.find?_eq_none];intro j hj;rw [decide_eq_true_iff];exact e j (List.mem_range.1 hj)
 rw [this]
theorem rest_ge {h : Nat → Int} (hh : OkP (restN N i at') n m h) {d : Nat} (hd : d < n) (h0 : 0 ≤ h d) : (i : Int) ≤ h d ∧ d ∈ N (h d) ∧ ∀ j,j < i → at' j ≠ (d : Int) := by
 have hm := hh.day d hd h0;unfold restN at hm
 by_cases q : (h d).toNat < i
 ·rw [if_pos q] at hm;exact absurd hm List.not_mem_nil
 ·rw [if_neg q,List.mem_filter,decide_eq_true_iff] at hm;exact ⟨by omega,hm⟩
theorem fix_back (hS : FixS n i at') (him : i ≤ m) {h : Nat → Int} (hh : OkP (restN N i at') n m h) :
  OkP (fixN N i at') n m (putG i at' h) ∧ (∀ j,j < m → Fxd i at' j → cntN (putG i at' h) (j : Int) n ≠ 0) ∧ ∀ d,d < n → cutG i (putG i at' h) d = h d := by
 have cases' : ∀ d,(∃ j,j < i ∧ at' j = (d : Int)) ∨ ∀ j,j < i → at' j ≠ (d : Int) := fun d => by
  by_cases q : ∃ j,j < i ∧ at' j = (d : Int)
  ·exact .inl q
  ·exact .inr fun j hj e => q ⟨j,hj,e⟩
 refine ⟨OkP.of (fun d => ?_) (fun d hd h0 => ?_) (fun d e hd he h0 q => ?_),fun j hj hf => ?_,fun d hd => ?_⟩
 ·rcases cases' d with ⟨j,hj,e⟩ | q
  ·rw [putG_some hS hj e];omega
  ·rw [putG_none q];exact hh.lt d
 ·rcases cases' d with ⟨j,hj,e⟩ | q
  ·rw [putG_some hS hj e];unfold fixN;rw [Int.toNat_natCast,if_pos hj,if_pos (by omega),e,Int.toNat_natCast];exact List.mem_singleton.2 rfl
  ·rw [putG_none q] at h0 ⊢;obtain ⟨g1,g2,-⟩ := rest_ge hh hd h0;unfold fixN;rw [if_neg (by omega)];exact g2
 ·rcases cases' d with ⟨j,hj,e1⟩ | q1
  ·rw [putG_some hS hj e1] at q h0
   rcases cases' e with ⟨k,hk,e2⟩ | q2
   ·rw [putG_some hS hk e2] at q;have : j = k := by omega
    subst this;omega
   ·rw [putG_none q2] at q;have := (rest_ge hh he (by omega)).1;omega
  ·rw [putG_none q1] at q h0
   rcases cases' e with ⟨k,hk,e2⟩ | q2
   ·rw [putG_some hS hk e2] at q;have := (rest_ge hh hd h0).1;omega
   ·rw [putG_none q2] at q;exact hh.inj hd he h0 q
 ·have hl := hS.lt j hf.1;have h0 := hf.2;have := cntN_ge (h := putG i at' h) (j := (j : Int)) (n := n) (d := (at' j).toNat) (by omega) (putG_some hS hf.1 (by omega));omega
 ·unfold cutG
  rcases cases' d with ⟨j,hj,e⟩ | q
  ·rw [putG_some hS hj e,if_pos (by omega)];have hd1 := hh.lt d
   by_cases h0 : 0 ≤ h d
   ·exact absurd e ((rest_ge hh hd h0).2.2 j hj)
   ·omega
  ·rw [putG_none q];have hd1 := hh.lt d
   by_cases h0 : 0 ≤ h d
   ·rw [if_neg (by have := (rest_ge hh hd h0).1;omega)]
   ·rw [if_pos (by omega)];omega
theorem fixE_le (hW : ∀ j : Nat,j < m → 0 ≤ W j) : fixE E m i at' ≤ fixK W E m i at' := sumN_le m fun j hj => by
 have := hW j hj
 split <;> omega
theorem fix_opt (hS : FixS n i at') (him : i ≤ m) (hW : ∀ j : Nat,j < m → 0 ≤ W j) (hE : sumN (fun j => W (j : Int)) m < E)
  (h1 : IsOpt (fixN N i at') n m (fixW W E i at') v1) (h2 : IsOpt (restN N i at') n m W v2) : v1 = fixK W E m i at' + v2 := by
 have hs0 : 0 ≤ sumN (fun j => W (j : Int)) m := sumN_pos m fun j hj => hW j hj
 have hle : v1 ≤ fixK W E m i at' + v2 := by
  obtain ⟨g,hg,hw⟩ := h1.ex
  by_cases hall : ∀ j,j < m → Fxd i at' j → cntN g (j : Int) n ≠ 0
  ·obtain ⟨a,b⟩ := fix_all (W := W) (E := E) hg hall him;have := h2.le _ a;omega
  ·have : ∃ j,j < m ∧ Fxd i at' j ∧ cntN g (j : Int) n = 0 := Decidable.byContradiction fun q => hall fun j hj hf hc => q ⟨j,hj,hf,hc⟩;obtain ⟨j,hj,hf,hc⟩ := this;have a := fix_miss (E := E) hW (by omega) hg hj hf hc;have b := fixE_le (E := E) (i := i) (at' := at') hW;have c := h2.pos;omega
 obtain ⟨h,hh,hw⟩ := h2.ex;obtain ⟨a,b,c⟩ := fix_back hS him hh;have d := (fix_all (W := W) (E := E) a b him).2
 have e : worthW W (cutG i (putG i at' h)) n = worthW W h n := sumN_eq n fun x hx => by
  show (if 0 ≤ cutG i (putG i at' h) x then W (cutG i (putG i at' h) x) else 0) = _
  rw [c x hx]
 have f := h1.le _ a;omega
theorem fix_clash (hW : ∀ j : Nat,j < m → 0 ≤ W j) (hE : 0 ≤ E) (him : i ≤ m) {j k : Nat} (hj : Fxd i at' j) (hk : Fxd i at' k) (hjk : j ≠ k) (e : at' j = at' k)
  (h1 : IsOpt (fixN N i at') n m (fixW W E i at') v1) : v1 ≤ sumN (fun j => W (j : Int)) m + fixE E m i at' - E := by
 obtain ⟨g,hg,hw⟩ := h1.ex;rw [← hw];have l1 := hj.1;have l2 := hk.1
 by_cases c1 : cntN g (j : Int) n = 0
 ·exact fix_miss hW hE hg (by omega) hj c1
 ·by_cases c2 : cntN g (k : Int) n = 0
  ·exact fix_miss hW hE hg (by omega) hk c2
  ·have a := (fix_day hg hj c1).2;have b := (fix_day hg hk c2).2;rw [e] at a;omega
end
section
variable {N : Int → List Nat} {W : Int → Int} {n m i : Nat} {at' : Nat → Int} {E v1 v2 w1 w2 : Int}
def putA (at' : Nat → Int) (i : Nat) (x : Int) (j : Nat) : Int := if j = i then x else at' j
theorem fxd_put {x : Int} {j : Nat} : Fxd (i + 1) (putA at' i x) j ↔ Fxd i at' j ∨ (j = i ∧ 0 ≤ x) := by
 unfold Fxd putA
 by_cases e : j = i
 ·subst e;rw [if_pos rfl]
  constructor
  ·rintro ⟨-,h⟩;exact .inr ⟨rfl,h⟩
  ·rintro (⟨h,-⟩ | ⟨-,h⟩)
   ·omega
   ·exact ⟨by omega,h⟩
 ·rw [if_neg e]
  constructor
  ·rintro ⟨h1,h2⟩;exact .inl ⟨by omega,h2⟩
  ·rintro (⟨h1,h2⟩ | ⟨h,-⟩)
   ·exact ⟨by omega,h2⟩
   ·exact absurd h e
theorem fixK_put {x : Int} (hx : 0 ≤ x) (him : i < m) : fixK W E m (i + 1) (putA at' i x) = fixK W E m i at' + (W (i : Int) + E) := by
 have e : fixK W E m (i + 1) (putA at' i x) = sumN (fun j => (if Fxd i at' j then W (j : Int) + E else 0) + (if i = j then W (j : Int) + E else 0)) m := sumN_eq m fun j _ => by
  by_cases q : i = j
  ·subst q;rw [if_pos (fxd_put.2 (.inr ⟨rfl,hx⟩)),if_neg (fun h => by have := h.1;omega),if_pos rfl];omega
  ·rw [if_neg q]
   by_cases h : Fxd i at' j
   ·rw [if_pos (fxd_put.2 (.inl h)),if_pos h];omega
   ·rw [if_neg (fun z => (fxd_put.1 z).elim h fun z => q z.1.symm),if_neg h];rfl
 rw [e,sumN_add,sumN_at (i := i) (W := fun j => W (j : Int) + E),if_pos him]
 rfl
theorem fixE_put {x : Int} (hx : 0 ≤ x) (him : i < m) : fixE E m (i + 1) (putA at' i x) = fixE E m i at' + E := by
 have e : fixE E m (i + 1) (putA at' i x) = sumN (fun j => (if Fxd i at' j then E else 0) + (if i = j then E else 0)) m := sumN_eq m fun j _ => by
  by_cases q : i = j
  ·subst q;rw [if_pos (fxd_put.2 (.inr ⟨rfl,hx⟩)),if_neg (fun h => by have := h.1;omega),if_pos rfl];omega
  ·rw [if_neg q]
   by_cases h : Fxd i at' j
   ·rw [if_pos (fxd_put.2 (.inl h)),if_pos h];omega
   ·rw [if_neg (fun z => (fxd_put.1 z).elim h fun z => q z.1.symm),if_neg h];rfl
 rw [e,sumN_add,sumN_at (i := i) (W := fun _ => E),if_pos him]
 rfl
theorem fixK_gone {x : Int} (hx : x < 0) : fixK W E m (i + 1) (putA at' i x) = fixK W E m i at' := sumN_eq m fun j _ => by
 by_cases h : Fxd i at' j
 ·rw [if_pos (fxd_put.2 (.inl h)),if_pos h]
 ·rw [if_neg (fun z => (fxd_put.1 z).elim h fun z => by omega),if_neg h]
theorem FixS.put (hS : FixS n i at') {d : Nat} (hd : d < n) (hne : ∀ j,j < i → at' j ≠ (d : Int)) : FixS n (i + 1) (putA at' i (d : Int)) := by
 refine ⟨fun j hj => ?_,fun j k hj hk h0 e => ?_⟩
 ·unfold putA
  split
  ·omega
  ·exact hS.lt j (by omega)
 ·unfold putA at h0 e
  by_cases q1 : j = i
  ·by_cases q2 : k = i
   ·omega
   ·rw [if_pos q1,if_neg q2] at e;exact absurd e.symm (hne k (by omega))
  ·by_cases q2 : k = i
   ·rw [if_neg q1,if_pos q2] at e;exact absurd e (hne j (by omega))
   ·rw [if_neg q1,if_neg q2] at e;rw [if_neg q1] at h0;exact hS.inj j k (by omega) (by omega) h0 e
theorem FixS.gone (hS : FixS n i at') : FixS n (i + 1) (putA at' i (-1)) := by
 refine ⟨fun j hj => ?_,fun j k hj hk h0 e => ?_⟩
 ·unfold putA
  split
  ·omega
  ·exact hS.lt j (by omega)
 ·unfold putA at h0 e
  by_cases q1 : j = i
  ·rw [if_pos q1] at h0;omega
  ·rw [if_neg q1] at h0 e
   by_cases q2 : k = i
   ·rw [if_pos q2] at e;omega
   ·rw [if_neg q2] at e;exact hS.inj j k (by omega) (by omega) h0 e
theorem fix_step (hS : FixS n i at') (him : i < m) (hW : ∀ j : Nat,j < m → 0 ≤ W j) (hE : sumN (fun j => W (j : Int)) m < E) {d : Nat} (hd : d < n)
  (h1 : IsOpt (fixN N i at') n m (fixW W E i at') v1) (h2 : IsOpt (restN N i at') n m W v2)
  (g1 : IsOpt (fixN N (i + 1) (putA at' i (d : Int))) n m (fixW W E (i + 1) (putA at' i (d : Int))) w1) (g2 : IsOpt (restN N (i + 1) (putA at' i (d : Int))) n m W w2) :
  w1 = v1 + E ↔ (∀ j,j < i → at' j ≠ (d : Int)) ∧ W (i : Int) + w2 = v2 := by
 have e1 := fix_opt hS (by omega) hW hE h1 h2;have hs0 : 0 ≤ sumN (fun j => W (j : Int)) m := sumN_pos m fun j hj => hW j hj
 by_cases hne : ∀ j,j < i → at' j ≠ (d : Int)
 ·have e2 := fix_opt (hS.put hd hne) (by omega) hW hE g1 g2;rw [fixK_put (by omega) him] at e2
  constructor
  ·intro q;exact ⟨hne,by omega⟩
  ·rintro ⟨-,q⟩;omega
 ·have : ∃ j,j < i ∧ at' j = (d : Int) := Decidable.byContradiction fun q => hne fun j hj e => q ⟨j,hj,e⟩;obtain ⟨j,hj,e⟩ := this
  have c := fix_clash (at' := putA at' i (d : Int)) (i := i + 1) (E := E) hW (by omega) (by omega) (j := j) (k := i) (fxd_put.2 (.inl ⟨hj,by omega⟩)) (fxd_put.2 (.inr ⟨rfl,by omega⟩)) (by omega)
   (by unfold putA;rw [if_neg (by omega),if_pos rfl];exact e) g1
  rw [fixE_put (by omega) him] at c;have f := fixE_le (E := E) (i := i) (at' := at') hW;have p := h2.pos
  constructor
  ·intro q;omega
  ·rintro ⟨q,-⟩;exact absurd e (q j hj)
theorem gone_step (hS : FixS n i at') (him : i < m) (hW : ∀ j : Nat,j < m → 0 ≤ W j) (hE : sumN (fun j => W (j : Int)) m < E)
  (h1 : IsOpt (fixN N i at') n m (fixW W E i at') v1) (h2 : IsOpt (restN N i at') n m W v2)
  (g1 : IsOpt (fixN N (i + 1) (putA at' i (-1))) n m (fixW W E (i + 1) (putA at' i (-1))) w1) (g2 : IsOpt (restN N (i + 1) (putA at' i (-1))) n m W w2) :
  w1 + v2 = v1 + w2 := by
 have e1 := fix_opt hS (by omega) hW hE h1 h2;have e2 := fix_opt hS.gone (by omega) hW hE g1 g2;rw [fixK_gone (by decide)] at e2;omega
end
structure RestR (t r : Tr) (i : Nat) (at' : Nat → Int) : Prop where
 n : r.n = t.n
 fl : r.fl = t.fl.drop i
 cl : ∀ x : Int,x ∈ r.cl ↔ x ∈ t.cl ∨ ∃ j,j < i ∧ 0 ≤ at' j ∧ at' j = x
theorem RestR.zero (t : Tr) (at' : Nat → Int) : RestR t t 0 at' := ⟨rfl,rfl,fun x => ⟨.inl,fun h => h.elim id fun ⟨j,hj,_⟩ => absurd hj (Nat.not_lt_zero _)⟩⟩
theorem put_ex {at' : Nat → Int} {i : Nat} {y x : Int} : (∃ j,j < i + 1 ∧ 0 ≤ putA at' i y j ∧ putA at' i y j = x) ↔ (∃ j,j < i ∧ 0 ≤ at' j ∧ at' j = x) ∨ (0 ≤ y ∧ y = x) := by
 constructor
 ·rintro ⟨j,hj,h0,e⟩;unfold putA at h0 e
  by_cases q : j = i
  ·rw [if_pos q] at h0 e;exact .inr ⟨h0,e⟩
  ·rw [if_neg q] at h0 e;exact .inl ⟨j,by omega,h0,e⟩
 ·rintro (⟨j,hj,h0,e⟩ | ⟨h0,e⟩)
  ·exact ⟨j,by omega,by unfold putA;rw [if_neg (by omega)];exact h0,by unfold putA;rw [if_neg (by omega)];exact e⟩
  ·exact ⟨i,by omega,by unfold putA;rw [if_pos rfl];exact h0,by unfold putA;rw [if_pos rfl];exact e⟩
theorem without0_fl (r : Tr) : (withoutT r [0]).fl = r.fl.drop 1 := keepN_tail r.fl
theorem RestR.put {t r : Tr} {i : Nat} {at' : Nat → Int} (h : RestR t r i at') (d : Nat) : RestR t (closedT (withoutT r [0]) (d : Int)) (i + 1) (putA at' i (d : Int)) := by
 refine ⟨h.n,?_,fun x => ?_⟩
 ·show (withoutT r [0]).fl = _
  rw [without0_fl,h.fl,List.drop_drop]
 ·show x ∈ closeL r.cl (d : Int) ↔ _
  rw [mem_closeL,h.cl,put_ex]
  constructor
  ·rintro (q | q | q)
   ·exact .inr (.inr ⟨by omega,q.symm⟩)
   ·exact .inl q
   ·exact .inr (.inl q)
  ·rintro (q | q | q)
   ·exact .inr (.inl q)
   ·exact .inr (.inr q)
   ·exact .inl q.2.symm
theorem RestR.gone {t r : Tr} {i : Nat} {at' : Nat → Int} (h : RestR t r i at') : RestR t (withoutT r [0]) (i + 1) (putA at' i (-1)) := by
 refine ⟨h.n,?_,fun x => ?_⟩
 ·rw [without0_fl,h.fl,List.drop_drop]
 ·show x ∈ r.cl ↔ _
  rw [h.cl,put_ex];exact ⟨fun q => q.elim .inl fun q => .inr (.inl q),fun q => q.elim .inl fun q => q.elim .inr fun q => absurd q.1 (by decide)⟩
theorem RestR.optT {t r : Tr} {n i : Nat} {at' : Nat → Int} (h : RestR t r i at') (hT : OptT t n) : OptT r n :=
 ⟨fun f hf => hT.sp f (by rw [h.fl] at hf;exact List.mem_of_mem_drop hf),fun f hf => hT.mr f (by rw [h.fl] at hf;exact List.mem_of_mem_drop hf)⟩
theorem RestR.opt {t r : Tr} {n i : Nat} {at' : Nat → Int} (h : RestR t r i at') (hT : OptT t n) (hi : i ≤ t.fl.length) : IsOpt (restN t.N i at') n t.fl.length (mAt t.fl) (meritF r n) := by
 have hl : r.fl.length = t.fl.length - i := by rw [h.fl,List.length_drop]
 have hg : ∀ a (ha : a < r.fl.length),∃ hb : i + a < t.fl.length,r.fl[a] = t.fl[i + a] := fun a ha => by
  have hb : i + a < t.fl.length := by omega
  refine ⟨hb,?_⟩;have e : r.fl[a]? = t.fl[i + a]? := by rw [h.fl,List.getElem?_drop]
  rw [List.getElem?_eq_getElem ha,List.getElem?_eq_getElem hb] at e
  injection e
 refine IsOpt.emb (f := fun a => i + a) (fun a b _ _ e => by omega) (fun a ha => by omega) (fun a ha d hd => ?_) (fun a ha => ?_) (fun j hj hout => ?_) (meritF_opt (h.optT hT))
 ·obtain ⟨hb,e⟩ := hg a ha;have hs := hT.sp _ (List.getElem_mem hb)
  show d ∈ r.N (a : Int) ↔ d ∈ restN t.N i at' (((i + a : Nat)) : Int)
  unfold restN;rw [Int.toNat_natCast,if_neg (by omega),List.mem_filter,decide_eq_true_iff,trN_at ha,trN_at hb,e,openN_in hs.1,openN_in hs.1,h.cl]
  constructor
  ·rintro ⟨q1,q2,q3⟩;exact ⟨⟨q1,q2,fun q => q3 (.inl q)⟩,fun j hj q => q3 (.inr ⟨j,hj,by omega,q⟩)⟩
  ·rintro ⟨⟨q1,q2,q3⟩,q4⟩;exact ⟨q1,q2,fun q => q.elim q3 fun ⟨j,hj,_,e⟩ => q4 j hj e⟩
 ·obtain ⟨hb,e⟩ := hg a ha
  show mAt r.fl (a : Int) = mAt t.fl (((i + a : Nat)) : Int)
  rw [mAt_at ha,mAt_at hb,e]
 ·have : j < i := Decidable.byContradiction fun q => hout (j - i) (by omega) (by show i + (j - i) = j;omega);unfold restN;rw [Int.toNat_natCast,if_pos this]
def keepP (i : Nat) (at' : Nat → Int) (j : Nat) : Bool := decide (i ≤ j ∨ 0 ≤ at' j)
def flX (t : Tr) (i : Nat) (at' : Nat → Int) (j : Nat) : Fl := match t.fl[j]? with | some f => if Fxd i at' j then ⟨f.id,at' j,at' j,f.m % 1048576 + 1048576⟩ else f | none => ⟨0,0,0,0⟩
def ixL (t : Tr) (i : Nat) (at' : Nat → Int) : List Nat := (List.range t.fl.length).filter (keepP i at')
def nowT (t : Tr) (i : Nat) (at' : Nat → Int) : Tr := ⟨t.n,t.cl,(ixL t i at').map (flX t i at')⟩
theorem flX_at {t : Tr} {i j : Nat} {at' : Nat → Int} (hj : j < t.fl.length) : flX t i at' j = if Fxd i at' j then ⟨t.fl[j].id,at' j,at' j,t.fl[j].m % 1048576 + 1048576⟩ else t.fl[j] := by unfold flX;rw [List.getElem?_eq_getElem hj]
theorem ixL_mem {t : Tr} {i j : Nat} {at' : Nat → Int} : j ∈ ixL t i at' ↔ j < t.fl.length ∧ (i ≤ j ∨ 0 ≤ at' j) := by
 unfold ixL keepP;rw [List.mem_filter,List.mem_range,decide_eq_true_iff]
theorem ixL_nodup (t : Tr) (i : Nat) (at' : Nat → Int) : (ixL t i at').Nodup := List.Nodup.sublist List.filter_sublist List.nodup_range
theorem nowT_len {t : Tr} {i : Nat} {at' : Nat → Int} : (nowT t i at').fl.length = (ixL t i at').length := List.length_map _
theorem nowT_get {t : Tr} {i a : Nat} {at' : Nat → Int} (ha : a < (nowT t i at').fl.length) (hb : a < (ixL t i at').length) : (nowT t i at').fl[a] = flX t i at' (ixL t i at')[a] := List.getElem_map _
structure FixO (t : Tr) (n i : Nat) (at' : Nat → Int) : Prop where
 op : ∀ j,j < i → 0 ≤ at' j → at' j < n ∧ at' j ∉ t.cl
theorem nowT_opt {t : Tr} {n i : Nat} {at' : Nat → Int} (h : OptT t n) (hO : FixO t n i at') : OptT (nowT t i at') n := by
 have key : ∀ f ∈ (nowT t i at').fl,∃ j,∃ hj : j < t.fl.length,f = if Fxd i at' j then ⟨t.fl[j].id,at' j,at' j,t.fl[j].m % 1048576 + 1048576⟩ else t.fl[j] := fun f hf => by
  obtain ⟨j,hj,rfl⟩ := List.mem_map.1 hf;exact ⟨j,(ixL_mem.1 hj).1,flX_at (ixL_mem.1 hj).1⟩
 refine ⟨fun f hf => ?_,fun f hf => ?_⟩
 ·obtain ⟨j,hj,rfl⟩ := key f hf
  split
  ·rename_i q;exact ⟨q.2,(hO.op j q.1 q.2).1⟩
  ·exact h.sp _ (List.getElem_mem hj)
 ·obtain ⟨j,hj,rfl⟩ := key f hf;have := h.mr _ (List.getElem_mem hj)
  split
  ·show 0 ≤ t.fl[j].m % 1048576 + 1048576;omega
  ·exact this
theorem now_opt {t : Tr} {n i : Nat} {at' : Nat → Int} (h : OptT t n) (hO : FixO t n i at') (hm : ∀ k (hk : k < t.fl.length),t.fl[k].m < 1048576) :
  IsOpt (fixN t.N i at') n t.fl.length (fixW (mAt t.fl) 1048576 i at') (meritF (nowT t i at') n) := by
 let f : Nat → Nat := fun a => (ixL t i at')[a]?.getD 0
 have hf : ∀ a (ha : a < (nowT t i at').fl.length),∃ hb : a < (ixL t i at').length,f a = (ixL t i at')[a] ∧ (ixL t i at')[a] < t.fl.length ∧ (i ≤ (ixL t i at')[a] ∨ 0 ≤ at' (ixL t i at')[a]) := fun a ha => by
  have hb : a < (ixL t i at').length := by rw [← nowT_len];exact ha
  refine ⟨hb,?_,ixL_mem.1 (List.getElem_mem hb)⟩
  show (ixL t i at')[a]?.getD 0 = _
  rw [List.getElem?_eq_getElem hb];rfl
 refine IsOpt.emb (f := f) (fun a b ha hb e => ?_) (fun a ha => ?_) (fun a ha d hd => ?_) (fun a ha => ?_) (fun j hj hout => ?_) (meritF_opt (nowT_opt h hO))
 ·obtain ⟨a1,a2,-⟩ := hf a ha;obtain ⟨b1,b2,-⟩ := hf b hb;rw [a2,b2] at e;have q := List.pairwise_iff_getElem.1 (ixL_nodup t i at')
  rcases Nat.lt_trichotomy a b with z | z | z
  ·exact absurd e (q a b a1 b1 z)
  ·exact z
  ·exact absurd e.symm (q b a b1 a1 z)
 ·obtain ⟨a1,a2,a3,-⟩ := hf a ha;rw [a2];exact a3
 ·obtain ⟨a1,a2,a3,a4⟩ := hf a ha;rw [trN_at ha,nowT_get ha a1,a2]
  generalize (ixL t i at')[a] = j at a3 a4
  rw [flX_at a3];unfold fixN;rw [Int.toNat_natCast]
  by_cases q : j < i
  ·have z : 0 ≤ at' j := by omega
   have hx : Fxd i at' j := ⟨q,z⟩;rw [if_pos hx,if_pos q,if_pos z,List.mem_singleton]
   show d ∈ openN t.cl (at' j) (at' j) ↔ _
   rw [openN_in z]
   constructor
   ·rintro ⟨q1,q2,-⟩;omega
   ·intro e;have e2 : (d : Int) = at' j := by omega
    rw [e2];exact ⟨Int.le_refl _,Int.le_refl _,(hO.op j q z).2⟩
  ·rw [if_neg (fun x => q x.1),if_neg q,trN_at a3]
   rfl
 ·obtain ⟨a1,a2,a3,a4⟩ := hf a ha;rw [mAt_at ha,nowT_get ha a1,a2]
  generalize (ixL t i at')[a] = j at a3 a4
  rw [flX_at a3];unfold fixW;rw [Int.toNat_natCast,mAt_at a3];have := h.mr _ (List.getElem_mem a3);have := hm j a3
  by_cases q : Fxd i at' j
  ·rw [if_pos q,if_pos q]
   show t.fl[j].m % 1048576 + 1048576 = _
   omega
  ·rw [if_neg q,if_neg q];omega
 ·have : ¬ (i ≤ j ∨ 0 ≤ at' j) := fun q => by
   obtain ⟨a,ha,e⟩ := List.getElem_of_mem (ixL_mem.2 ⟨hj,q⟩ : j ∈ ixL t i at');exact hout a (by rw [nowT_len];exact ha) (by show (ixL t i at')[a]?.getD 0 = j;rw [List.getElem?_eq_getElem ha,e];rfl)
  unfold fixN;rw [Int.toNat_natCast,if_pos (by omega),if_neg (by omega)]
theorem FixO.put {t : Tr} {n i : Nat} {at' : Nat → Int} (hO : FixO t n i at') {d : Nat} (hd : d < n) (hc : ((d : Nat) : Int) ∉ t.cl) : FixO t n (i + 1) (putA at' i (d : Int)) := ⟨fun j hj h0 => by
 unfold putA at h0 ⊢
 by_cases q : j = i
 ·rw [if_pos q];exact ⟨by omega,hc⟩
 ·rw [if_neg q] at h0 ⊢;exact hO.op j (by omega) h0⟩
theorem FixO.gone {t : Tr} {n i : Nat} {at' : Nat → Int} (hO : FixO t n i at') : FixO t n (i + 1) (putA at' i (-1)) := ⟨fun j hj h0 => by
 unfold putA at h0 ⊢
 by_cases q : j = i
 ·rw [if_pos q] at h0;omega
 ·rw [if_neg q] at h0 ⊢;exact hO.op j (by omega) h0⟩
theorem earl_test {t r : Tr} {n i d : Nat} {at' : Nat → Int} (h : OptT t n) (hS : FixS n i at') (hO : FixO t n i at') (hR : RestR t r i at') (hi : i < t.fl.length) (hm : ∀ k (hk : k < t.fl.length),t.fl[k].m < 1048576)
  (hE : sumN (fun j => mAt t.fl (j : Int)) t.fl.length < 1048576) (hd : d < n) (ho : okDay t t.fl[i].lo t.fl[i].hi (d : Int) = true) :
  meritF (nowT t (i + 1) (putA at' i (d : Int))) n = meritF (nowT t i at') n + 1048576 ↔ d ∈ r.N 0 ∧ onF r n 0 d = meritF r n := by
 have ho2 := of_decide_eq_true ho;have hs := h.sp _ (List.getElem_mem hi);have h0r : 0 < r.fl.length := by rw [hR.fl,List.length_drop];omega
 have er : r.fl[0] = t.fl[i] := by
  have e : r.fl[0]? = t.fl[i]? := by rw [hR.fl,List.getElem?_drop,Nat.add_zero]
  rw [List.getElem?_eq_getElem h0r,List.getElem?_eq_getElem hi] at e
  injection e
 rw [fix_step hS hi (fun j _ => mAt_pos h.mr j) hE hd (now_opt h hO hm) (hR.opt h (by omega)) (now_opt h (hO.put hd ho2.2) hm) ((hR.put d).opt h (by omega))]
 have en : d ∈ r.N 0 ↔ ∀ j,j < i → at' j ≠ (d : Int) := by
  have e := trN_at (t := r) h0r;rw [show ((0 : Nat) : Int) = 0 from rfl] at e;rw [e,er,openN_in hs.1,hR.cl]
  constructor
  ·rintro ⟨-,-,q⟩ j hj z;exact q (.inr ⟨j,hj,by omega,z⟩)
  ·intro q;exact ⟨ho2.1.1,ho2.1.2,fun z => z.elim ho2.2 fun ⟨j,hj,_,e⟩ => q j hj e⟩
 have eo : onF r n 0 d = mAt t.fl (i : Int) + meritF (closedT (withoutT r [0]) (d : Int)) n := by
  unfold onF;have e1 : mAt r.fl ((0 : Nat) : Int) = mAt t.fl (i : Int) := by rw [mAt_at h0r,mAt_at hi,er]
  rw [e1]
  rfl
 rw [en,eo]
theorem earl_gone {t r : Tr} {n i : Nat} {at' : Nat → Int} (h : OptT t n) (hS : FixS n i at') (hO : FixO t n i at') (hR : RestR t r i at') (hi : i < t.fl.length) (hm : ∀ k (hk : k < t.fl.length),t.fl[k].m < 1048576)
  (hE : sumN (fun j => mAt t.fl (j : Int)) t.fl.length < 1048576) (hno : ∀ d ∈ r.N 0,onF r n 0 d ≠ meritF r n) :
  meritF (nowT t (i + 1) (putA at' i (-1))) n = meritF (nowT t i at') n := by
 have g := gone_step hS hi (fun j _ => mAt_pos h.mr j) hE (now_opt h hO hm) (hR.opt h (by omega)) (now_opt h hO.gone hm) (hR.gone.opt h (by omega));have h0r : 0 < r.fl.length := by rw [hR.fl,List.length_drop];omega
 have hr := hR.optT h
 have e : meritF (withoutT r [0]) n = meritF r n := by
  obtain ⟨s1,s2⟩ := sure_iff (i := 0) hr
  have s3 : ¬ meritF (withoutT r [((0 : Nat) : Int)]) n < meritF r n := fun q => by
   have q2 := s2.1 q _ (bestF_best hr);have q3 : 0 < (daysL r n 0).length := (some_iff hr h0r).2 ⟨_,bestF_best hr,q2⟩;obtain ⟨x,hx⟩ := List.length_pos_iff_exists_mem.1 q3;unfold daysL at hx;obtain ⟨d,hd,-⟩ := List.mem_map.1 hx;obtain ⟨hd1,hd2⟩ := List.mem_filter.1 hd;exact hno d hd1 (of_decide_eq_true hd2)
  have s1' : meritF (withoutT r [0]) n ≤ meritF r n := s1;have s3' : ¬ meritF (withoutT r [0]) n < meritF r n := s3;omega
 omega
theorem flX_id {t : Tr} {i j : Nat} {at' : Nat → Int} (hj : j < t.fl.length) : (flX t i at' j).id = t.fl[j].id := by
 rw [flX_at hj];split <;> rfl
theorem flX_put {t : Tr} {i j : Nat} {at' : Nat → Int} {x : Int} (hj : j < t.fl.length) (hn : j ≠ i) : flX t (i + 1) (putA at' i x) j = flX t i at' j := by
 rw [flX_at hj,flX_at hj];have e : putA at' i x j = at' j := by unfold putA;rw [if_neg hn]
 by_cases q : Fxd i at' j
 ·rw [if_pos (fxd_put.2 (.inl q)),if_pos q,e]
 ·rw [if_neg (fun z => (fxd_put.1 z).elim q fun z => hn z.1),if_neg q]
theorem now_ids {t : Tr} {i : Nat} {at' : Nat → Int} (h : t.fl.Pairwise fun f g => f.id ≠ g.id) : (nowT t i at').fl.Pairwise fun f g => f.id ≠ g.id := by
 show ((ixL t i at').map (flX t i at')).Pairwise _
 rw [List.pairwise_map];have hs : (ixL t i at').Pairwise (· < ·) := List.Pairwise.sublist List.filter_sublist List.pairwise_lt_range;refine hs.imp_of_mem fun {a b} ha hb hab => ?_;have h1 := (ixL_mem.1 ha).1;have h2 := (ixL_mem.1 hb).1;rw [flX_id h1,flX_id h2];exact List.pairwise_iff_getElem.1 h a b h1 h2 hab
theorem now_at {t : Tr} {i : Nat} {at' : Nat → Int} (h : t.fl.Pairwise fun f g => f.id ≠ g.id) (hi : i < t.fl.length) :
  ∃ k,∃ hk : k < (ixL t i at').length,(ixL t i at')[k] = i ∧ posF (nowT t i at').fl t.fl[i].id = (k : Int) ∧ (nowT t i at').fl[k]? = some t.fl[i] := by
 obtain ⟨k,hk,e⟩ := List.getElem_of_mem (ixL_mem.2 ⟨hi,.inl (Nat.le_refl _)⟩ : i ∈ ixL t i at');have hk2 : k < (nowT t i at').fl.length := by rw [nowT_len];exact hk
 have e2 : (nowT t i at').fl[k] = t.fl[i] := by
  rw [nowT_get hk2 hk];have : flX t i at' (ixL t i at')[k] = flX t i at' i := by rw [e]
  rw [this,flX_at hi,if_neg (fun q => absurd q.1 (Nat.lt_irrefl _))]
 refine ⟨k,hk,e,?_,by rw [List.getElem?_eq_getElem hk2,e2]⟩;have := posF_at (now_ids h (i := i) (at' := at')) hk2;rw [e2] at this;exact this
theorem now_put {t : Tr} {i k : Nat} {at' : Nat → Int} (hi : i < t.fl.length) (hk : k < (ixL t i at').length) (e : (ixL t i at')[k] = i) (d : Nat) :
  withF (nowT t i at').fl k (d : Int) (d : Int) = (nowT t (i + 1) (putA at' i (d : Int))).fl := by
 have ex : ixL t (i + 1) (putA at' i (d : Int)) = ixL t i at' := by
  unfold ixL;refine List.filter_congr fun j _ => ?_;unfold keepP putA;rw [decide_eq_decide]
  by_cases q : j = i
  ·subst q;rw [if_pos rfl];exact ⟨fun _ => .inl (Nat.le_refl _),fun _ => .inr (by omega)⟩
  ·rw [if_neg q];exact ⟨fun z => z.elim (fun z => .inl (by omega)) .inr,fun z => z.elim (fun z => .inl (by omega)) .inr⟩
 have hk2 : k < (nowT t i at').fl.length := by rw [nowT_len];exact hk
 have e2 : (nowT t i at').fl[k] = t.fl[i] := by
  rw [nowT_get hk2 hk];have : flX t i at' (ixL t i at')[k] = flX t i at' i := by rw [e]
  rw [this,flX_at hi,if_neg (fun q => absurd q.1 (Nat.lt_irrefl _))]
 rw [withF_at hk2,e2]
 have el : (nowT t (i + 1) (putA at' i (d : Int))).fl = (ixL t i at').map (flX t (i + 1) (putA at' i (d : Int))) := by
  show (ixL t (i + 1) (putA at' i (d : Int))).map _ = _
  rw [ex]
 rw [el];refine List.ext_getElem (by rw [List.length_set,nowT_len,List.length_map]) fun a h1 h2 => ?_;rw [List.length_set] at h1;have h3 : a < (ixL t i at').length := by rw [← nowT_len];exact h1
 rw [List.getElem_set,List.getElem_map]
 by_cases q : k = a
 ·subst q;rw [if_pos rfl];have : flX t (i + 1) (putA at' i (d : Int)) (ixL t i at')[k] = flX t (i + 1) (putA at' i (d : Int)) i := by rw [e]
  rw [this,flX_at hi,if_pos (fxd_put.2 (.inr ⟨rfl,by omega⟩))];have e3 : putA at' i (d : Int) i = (d : Int) := by unfold putA;rw [if_pos rfl]
  rw [e3]
 ·rw [if_neg q,nowT_get h1 h3];have hj := (ixL_mem.1 (List.getElem_mem h3)).1;refine (flX_put hj fun z => q ?_).symm;have u := List.pairwise_iff_getElem.1 (ixL_nodup t i at')
  rcases Nat.lt_trichotomy k a with z2 | z2 | z2
  ·exact absurd (e.trans z.symm) (u k a hk h3 z2)
  ·exact z2
  ·exact absurd (z.trans e.symm) (u a k h3 hk z2)
theorem now_gone {t : Tr} {i : Nat} {at' : Nat → Int} {gone : List Int} (hg : ∀ j (hj : j < t.fl.length),t.fl[j].id ∈ gone ↔ j ≤ i ∧ putA at' i (-1) j < 0) :
  lessF gone (nowT t i at').fl = (nowT t (i + 1) (putA at' i (-1))).fl := by
 show ((ixL t i at').map (flX t i at')).filter _ = (ixL t (i + 1) (putA at' i (-1))).map _
 rw [List.filter_map]
 have ex : ixL t (i + 1) (putA at' i (-1)) = (ixL t i at').filter ((fun f : Fl => !decide (f.id ∈ gone)) ∘ flX t i at') := by
  unfold ixL;rw [List.filter_filter];refine List.filter_congr fun j hj => ?_;have hj2 := List.mem_range.1 hj;rw [Bool.eq_iff_iff,Bool.and_eq_true]
  show keepP (i + 1) (putA at' i (-1)) j = true ↔ (!decide ((flX t i at' j).id ∈ gone)) = true ∧ keepP i at' j = true
  rw [flX_id hj2,Bool.not_eq_true',decide_eq_false_iff_not,hg j hj2];unfold keepP;rw [decide_eq_true_iff,decide_eq_true_iff];unfold putA
  by_cases q : j = i
  ·subst q;rw [if_pos rfl];omega
  ·rw [if_neg q];omega
 rw [ex];refine List.map_congr_left fun j hj => ?_;rw [← ex] at hj;obtain ⟨h1,h2⟩ := ixL_mem.1 hj;refine (flX_put h1 fun q => ?_).symm;subst q;unfold putA at h2;rw [if_pos rfl] at h2;omega
def restI (n : Nat) (t : Tr) : Nat → Tr
 | 0 => t
 | i + 1 => restT n (restI n t i)
def atL (n : Nat) (t : Tr) (i : Nat) : Int := dayI n (restI n t i)
theorem restI_shift (n : Nat) (t : Tr) : ∀ i,restI n (restT n t) i = restI n t (i + 1)
 | 0 => rfl
 | i + 1 => by
   show restT n (restI n (restT n t) i) = restT n (restI n t (i + 1))
   rw [restI_shift n t i]
theorem earlF_snoc (n : Nat) : ∀ (k : Nat) (t : Tr),earlF n (k + 1) t = earlF n k t ++ [atL n t k]
 | 0,_ => rfl
 | k + 1,t => by
   have ih := earlF_snoc n k (restT n t)
   show dayI n t :: earlF n (k + 1) (restT n t) = (dayI n t :: earlF n k (restT n t)) ++ [atL n t (k + 1)]
   rw [ih,List.cons_append];have e : atL n (restT n t) k = atL n t (k + 1) := by unfold atL;rw [restI_shift]
   rw [e]
theorem putA_self (n : Nat) (t : Tr) (i : Nat) : putA (atL n t) i (atL n t i) = atL n t := by
 funext j
 unfold putA
 split
 ·rename_i h;rw [h]
 ·rfl
structure Est (t : Tr) (n i : Nat) : Prop where
 s : FixS n i (atL n t)
 o : FixO t n i (atL n t)
 r : RestR t (restI n t i) i (atL n t)
theorem Est.zero (t : Tr) (n : Nat) : Est t n 0 := ⟨⟨fun _ h => absurd h (Nat.not_lt_zero _),fun _ _ h => absurd h (Nat.not_lt_zero _)⟩,⟨fun _ h => absurd h (Nat.not_lt_zero _)⟩,RestR.zero _ _⟩
theorem rest_N0 {t r : Tr} {n i : Nat} {at' : Nat → Int} (h : OptT t n) (hR : RestR t r i at') (hi : i < t.fl.length) : r.N 0 = openN r.cl t.fl[i].lo t.fl[i].hi := by
 have h0r : 0 < r.fl.length := by rw [hR.fl,List.length_drop];omega
 have er : r.fl[0] = t.fl[i] := by
  have e : r.fl[0]? = t.fl[i]? := by rw [hR.fl,List.getElem?_drop,Nat.add_zero]
  rw [List.getElem?_eq_getElem h0r,List.getElem?_eq_getElem hi] at e
  injection e
 have e := trN_at (t := r) h0r;rw [show ((0 : Nat) : Int) = 0 from rfl,er] at e;exact e
theorem rest_mem {t r : Tr} {n i d : Nat} {at' : Nat → Int} (h : OptT t n) (hR : RestR t r i at') (hi : i < t.fl.length) : d ∈ r.N 0 ↔ okDay t t.fl[i].lo t.fl[i].hi (d : Int) = true ∧ ∀ j,j < i → at' j ≠ (d : Int) := by
 have hs := h.sp _ (List.getElem_mem hi);rw [rest_N0 h hR hi,openN_in hs.1,hR.cl];unfold okDay;rw [decide_eq_true_iff]
 constructor
 ·rintro ⟨q1,q2,q3⟩;exact ⟨⟨⟨q1,q2⟩,fun q => q3 (.inl q)⟩,fun j hj z => q3 (.inr ⟨j,hj,by omega,z⟩)⟩
 ·rintro ⟨⟨⟨q1,q2⟩,q3⟩,q4⟩;exact ⟨q1,q2,fun z => z.elim q3 fun ⟨j,hj,_,e⟩ => q4 j hj e⟩
theorem Est.next {t : Tr} {n i : Nat} (h : OptT t n) (hE : Est t n i) (hi : i < t.fl.length) : Est t n (i + 1) := by
 cases q : firstDay n (restI n t i) with
 | none =>
   obtain ⟨q1,q2⟩ := restT_none q;have e : atL n t i = -1 := q2;have s := hE.s.gone;have o := hE.o.gone;have r := hE.r.gone;rw [← e,putA_self] at s o r;exact ⟨s,o,by show RestR t (restT n (restI n t i)) _ _;rw [q1];exact r⟩
 | some d =>
   obtain ⟨q1,q2⟩ := restT_some q;have e : atL n t i = (d : Int) := q2;have hm : d ∈ (restI n t i).N 0 := List.mem_of_find?_eq_some q;have hd : d < n := trN_lt (hE.r.optT h).span _ _ hm;obtain ⟨m1,m2⟩ := (rest_mem h hE.r hi).1 hm;have s := hE.s.put hd m2;have o := hE.o.put hd (of_decide_eq_true m1).2;have r := hE.r.put d;rw [← e,putA_self] at s o r;exact ⟨s,o,by show RestR t (restT n (restI n t i)) _ _;rw [q1,← e];exact r⟩
def testP (t : Tr) (n i d : Nat) : Prop := okDay t ((t.fl[i]?.map Fl.lo).getD 0) ((t.fl[i]?.map Fl.hi).getD 0) (d : Int) = true ∧ meritF (nowT t (i + 1) (putA (atL n t) i (d : Int))) n = meritF (nowT t i (atL n t)) n + 1048576
theorem testP_iff {t : Tr} {n i d : Nat} (h : OptT t n) (hE : Est t n i) (hi : i < t.fl.length) (hm : ∀ k (hk : k < t.fl.length),t.fl[k].m < 1048576) (hs : sumN (fun j => mAt t.fl (j : Int)) t.fl.length < 1048576) (hd : d < n) :
  testP t n i d ↔ d ∈ (restI n t i).N 0 ∧ onF (restI n t i) n 0 d = meritF (restI n t i) n := by
 unfold testP;rw [List.getElem?_eq_getElem hi]
 show okDay t t.fl[i].lo t.fl[i].hi (d : Int) = true ∧ _ ↔ _
 constructor
 ·rintro ⟨a,b⟩;exact (earl_test h hE.s hE.o hE.r hi hm hs hd a).1 b
 ·intro q;have a := ((rest_mem h hE.r hi).1 q.1).1;exact ⟨a,(earl_test h hE.s hE.o hE.r hi hm hs hd a).2 q⟩
theorem first_eq {n : Nat} {r : Tr} {x : Nat} (q : firstDay n r = some x) : onF r n 0 x = meritF r n := by
 unfold firstDay at q;have e := List.find?_some q;exact of_decide_eq_true e
theorem at_some {t : Tr} {n i d : Nat} (h : OptT t n) (hE : Est t n i) (hi : i < t.fl.length) (hm : ∀ k (hk : k < t.fl.length),t.fl[k].m < 1048576) (hs : sumN (fun j => mAt t.fl (j : Int)) t.fl.length < 1048576) (hd : d < n)
  (ht : testP t n i d) (hno : ∀ e,e < d → ¬ testP t n i e) : atL n t i = (d : Int) := by
 cases q : firstDay n (restI n t i) with
 | none =>
   have := (testP_iff h hE hi hm hs hd).1 ht;unfold firstDay at q;rw [List.find?_eq_none] at q;exact absurd (decide_eq_true this.2) (q d this.1)
 | some x =>
   have e : atL n t i = (x : Int) := (restT_some q).2;have hx : x ∈ (restI n t i).N 0 := List.mem_of_find?_eq_some q;have hxn : x < n := trN_lt (hE.r.optT h).span _ _ hx;have hx2 := first_eq q;have h1 : ¬ x < d := fun z => hno x z ((testP_iff h hE hi hm hs hxn).2 ⟨hx,hx2⟩)
   have h2 : ¬ d < x := fun z => by
    obtain ⟨-,l1,l2,e1,e2⟩ := List.find?_eq_some_iff_append.1 q;have hdm := (testP_iff h hE hi hm hs hd).1 ht
    have hp : ((restI n t i).N 0).Pairwise (· < ·) := by
     have hsp := h.sp _ (List.getElem_mem hi);rw [rest_N0 h hE.r hi];have := restD_all (t := restI n t i) hsp.1 hsp.2;rw [this];exact (range'_pw _ _).filter _
    rw [e1] at hp hdm
    rcases List.mem_append.1 hdm.1 with z1 | z1
    ·have := e2 d z1;rw [decide_eq_true hdm.2] at this
     cases this
    ·rcases List.mem_cons.1 z1 with z2 | z2
     ·omega
     ·have := (List.pairwise_cons.1 (List.pairwise_append.1 hp).2.1).1 d z2;omega
   rw [e];omega
theorem at_none {t : Tr} {n i : Nat} (h : OptT t n) (hE : Est t n i) (hi : i < t.fl.length) (hm : ∀ k (hk : k < t.fl.length),t.fl[k].m < 1048576) (hs : sumN (fun j => mAt t.fl (j : Int)) t.fl.length < 1048576)
  (hno : ∀ e,e < n → ¬ testP t n i e) : atL n t i = -1 ∧ meritF (nowT t (i + 1) (atL n t)) n = meritF (nowT t i (atL n t)) n := by
 cases q : firstDay n (restI n t i) with
 | some x =>
   have hx : x ∈ (restI n t i).N 0 := List.mem_of_find?_eq_some q;have hxn : x < n := trN_lt (hE.r.optT h).span _ _ hx;exact absurd ((testP_iff h hE hi hm hs hxn).2 ⟨hx,first_eq q⟩) (hno x hxn)
 | none =>
   have e : atL n t i = -1 := (restT_none q).2
   have g := earl_gone h hE.s hE.o hE.r hi hm hs (fun d hd => by
    unfold firstDay at q;rw [List.find?_eq_none] at q;have := q d hd;rw [decide_eq_true_iff] at this
    exact this)
   rw [← e,putA_self] at g;exact ⟨e,g⟩
end Go.Proofs.YtnklbepeoicgpaaGreat
namespace Go.Proofs.YtnklbepeoicgpaaGreat
open Go.RowKit Go.Wk Go.Proofs
attribute [local irreducible] Go.Wk.Wops Go.Wk.Wp Go.Wk.Mtree Go.Wk.Mops
set_option maxHeartbeats 8000000
set_option maxRecDepth 20000
theorem ixL_len (t : Tr) (i : Nat) (at' : Nat → Int) : (ixL t i at').length ≤ t.fl.length := by
 unfold ixL;exact Nat.le_trans (List.length_filter_le _ _) (by simp)
theorem nowT_m {t : Tr} {n i : Nat} {at' : Nat → Int} (hP : PlanT t n) (k : Nat) (hk : k < (nowT t i at').fl.length) : 0 ≤ (nowT t i at').fl[k].m ∧ (nowT t i at').fl[k].m ≤ 1000000000000 := by
 have hb : k < (ixL t i at').length := by rw [← nowT_len];exact hk
 rw [nowT_get hk hb];have hj := (ixL_mem.1 (List.getElem_mem hb)).1;have hm := hP.mr _ hj;rw [flX_at hj]
 split
 ·show 0 ≤ t.fl[(ixL t i at')[k]].m % 1048576 + 1048576 ∧ t.fl[(ixL t i at')[k]].m % 1048576 + 1048576 ≤ 1000000000000
  omega
 ·omega
theorem rbestN_c (t : Tr) (n i : Nat) (at' : Nat → Int) (v : Value) (w : World) (hP : PlanT t n) (hO : FixO t n i at') (hV : TourV w w.heap.size v (nowT t i at')) :
  CallsV Tryz.prog 106 #[v] w fun v' w' => v' = .int .i64 (meritF (nowT t i at') n) ∧ Ext w w' :=
 rbest_c (nowT t i at') n v w ⟨hP.n1,hP.n2⟩ hP.tn hP.cl (by rw [nowT_len];have := ixL_len t i at';have := hP.fl;omega)
  (fun k hk => (nowT_opt hP.opt hO).sp _ (List.getElem_mem hk)) (fun k hk => nowT_m hP k hk) hV
theorem sumM {t : Tr} {n : Nat} (hP : PlanT t n) : ∀ m,m ≤ t.fl.length → sumN (fun j => mAt t.fl (j : Int)) m ≤ 1000 * (m : Int)
 | 0,_ => by show (0 : Int) ≤ _;omega
 | m + 1,h => by
   have ih := sumM hP m (by omega);have := hP.mr m (by omega)
   show sumN _ m + mAt t.fl (m : Int) ≤ _
   rw [mAt_at (by omega)];omega
theorem sumM_lt {t : Tr} {n : Nat} (hP : PlanT t n) : sumN (fun j => mAt t.fl (j : Int)) t.fl.length < 1048576 := by
 have := sumM hP _ (Nat.le_refl _);have := hP.fl;omega
theorem nowT_zero (t : Tr) (at' : Nat → Int) : nowT t 0 at' = t := by
 have e : (ixL t 0 at').map (flX t 0 at') = t.fl := by
  have e1 : ixL t 0 at' = List.range t.fl.length := by
   unfold ixL;rw [List.filter_eq_self];intro j _;exact decide_eq_true (.inl (Nat.zero_le _))
  rw [e1];refine List.ext_getElem (by rw [List.length_map,List.length_range]) fun a h1 h2 => ?_;rw [List.getElem_map,List.getElem_range,flX_at h2,if_neg (fun q => absurd q.1 (Nat.not_lt_zero _))]
 unfold nowT;rw [e]
end Go.Proofs.YtnklbepeoicgpaaGreat
namespace Go.Proofs.YtnklbepeoicgpaaGreat
open Go.RowKit Go.Wk Go.Proofs
theorem RowsB.put {α : Type} {k0 : Nat} {enc : α → List Value} {w w' : World} {base k i : Nat} {v : Value} {xs : List α} {vs : List Value} (h : RowsB k0 enc w base v xs) (p : Put w w' k i vs) (hb : k < base) : RowsB k0 enc w' base v xs := h.chg p.chg (by simpa using hb)
end Go.Proofs.YtnklbepeoicgpaaGreat
namespace Go.Proofs.YtnklbepeoicgpaaGreat
open Go.RowKit Go.Wk Go.Proofs
attribute [local irreducible] Go.Wk.Wops Go.Wk.Wp Go.Wk.Mtree Go.Wk.Mops
set_option maxHeartbeats 8000000
set_option maxRecDepth 20000
structure FlX (W : World) (P : Nat → Prop) (v : Value) (l : List Fl) : Prop where
 h : RowsP 4 encF W P v l
section
variable {W V : World} {P Q : Nat → Prop} {v : Value} {l : List Fl} {L : List Nat}
theorem FlX.chg (h : FlX W P v l) (hC : Chg L W V) (hL : ∀ b,P b → b < W.heap.size → b ∉ L) : FlX V P v l := ⟨h.h.chg hC hL⟩
theorem FlX.ext (h : FlX W P v l) (hE : Ext W V) : FlX V P v l := h.chg ((Chg.refl [] W).ext hE) (by simp)
theorem FlX.mono (h : FlX W P v l) (hP : ∀ b,P b → b < W.heap.size → Q b) : FlX W Q v l := ⟨h.h.mono hP⟩
theorem FlX.flawsV (h : FlX W P v l) : FlawsV W W.heap.size v l := h.h.rowsV
end
theorem FlawsV.flX {W : World} {S : Nat} {v : Value} {l : List Fl} (h : FlawsV W S v l) (hS : S ≤ W.heap.size) : FlX W (fun b => b < S) v l := by
 obtain ⟨A2,c2,hv2,hx2,hcap2⟩ := h
 exact ⟨A2,c2,hv2,fun hne => by
  obtain ⟨b,o,hA,h2,h3⟩ := hx2 hne
  exact ⟨b,o,hA,h2,by omega,h3⟩,hcap2⟩
theorem OwnF.flX {w : World} {base : Nat} {v : Value} {l : List Fl} (h : OwnF w base v l) : FlX w (fun b => base ≤ b) v l := ⟨h.flawsB.rowsP⟩
theorem RowG.flX {W : World} {b c S : Nat} {l : List Fl} (h : RowG W b l) (hc : l.length ≤ c) (hb : S ≤ b) : FlX W (fun b' => S ≤ b') (.slice (some ⟨b,0,none⟩) l.length c) l := by
 obtain ⟨A,c',e,hx,hcap⟩ := h.flawsV hc
 injection e with e1 e2 e3
 subst e1;subst e3
 exact ⟨_,_,rfl,fun hne => by
  obtain ⟨b2,o,hA,h2,h3⟩ := hx hne;have hA2 := hA
  injection hA2 with hA2
  injection hA2 with hA2 _
  exact ⟨b2,o,hA,by omega,h2,h3⟩,hcap⟩
def flN (t : Tr) (n i : Nat) : List Fl := (nowT t i (atL n t)).fl
theorem flN_zero (t : Tr) (n : Nat) : flN t n 0 = t.fl := by unfold flN;rw [nowT_zero]
theorem flN_len (t : Tr) (n i : Nat) : (flN t n i).length ≤ t.fl.length := by unfold flN;rw [nowT_len];exact ixL_len t i _
theorem testP_of {t : Tr} {n i d : Nat} (hi : i < t.fl.length) : testP t n i d ↔ okDay t t.fl[i].lo t.fl[i].hi (d : Int) = true ∧ meritF (nowT t (i + 1) (putA (atL n t) i (d : Int))) n = meritF (nowT t i (atL n t)) n + 1048576 := by
 unfold testP;rw [List.getElem?_eq_getElem hi];rfl
theorem mlt {t : Tr} {n : Nat} (hP : PlanT t n) : ∀ k (hk : k < t.fl.length),t.fl[k].m < 1048576 := fun k hk => by have := (hP.mr k hk).2;omega
theorem rflawN_c (t : Tr) (n i k : Nat) (id : Int) (A : Option Addr) (c : Nat) (v : Value) (w : World) (hP : PlanT t n) (hk : posF (flN t n i) id = (k : Int)) (hI : IntsV w w.heap.size (.slice A t.cl.length c) t.cl) (hF : FlawsV w w.heap.size v (flN t n i)) :
  CallsV Tryz.prog 111 #[.agg #[.int .i64 t.n,.slice A t.cl.length c,v],.int .i64 id] w fun v' w' => v' = .int .i64 (k : Int) ∧ Ext w w' := by
 rw [← hk];exact rflaw_c (nowT t i (atL n t)) id _ w ⟨_,_,rfl,hI,hF⟩ (by have := flN_len t n i;have := hP.fl;show (flN t n i).length ≤ _;omega)
theorem rwithN_c (t : Tr) (n i k : Nat) (x : Int) (A : Option Addr) (c : Nat) (A6 : Option Addr) (c6 : Nat) (w : World) (hP : PlanT t n) (hi : i < t.fl.length) (hk : k < (ixL t i (atL n t)).length) (e : (ixL t i (atL n t))[k] = i) (h0 : 0 ≤ x) (hF : FlawsV w w.heap.size (.slice A6 (flN t n i).length c6) (flN t n i)) :
  CallsV Tryz.prog 109 #[.agg #[.int .i64 t.n,.slice A t.cl.length c,.slice A6 (flN t n i).length c6],.int .i64 (k : Int),.agg #[.int .i64 x,.int .i64 x]] w fun v w' =>
   (∃ b c4,v = .agg #[.int .i64 t.n,.slice A t.cl.length c,.slice (some ⟨b,0,none⟩) (nowT t (i + 1) (putA (atL n t) i x)).fl.length c4] ∧ w.heap.size ≤ b ∧ (nowT t (i + 1) (putA (atL n t) i x)).fl.length ≤ c4 ∧ RowG w' b (nowT t (i + 1) (putA (atL n t) i x)).fl) ∧ Ext w w' := by
 obtain ⟨d,rfl⟩ : ∃ d : Nat,x = (d : Int) := ⟨x.toNat,by omega⟩;have hk2 : k < (nowT t i (atL n t)).fl.length := by rw [nowT_len];exact hk
 have ek : (nowT t i (atL n t)).fl[k] = t.fl[i] := by
  rw [nowT_get hk2 hk];have : flX t i (atL n t) (ixL t i (atL n t))[k] = flX t i (atL n t) i := by rw [e]
  rw [this,flX_at hi,if_neg (fun q => absurd q.1 (Nat.lt_irrefl _))]
 have ep := now_put hi hk e d;have el : (nowT t (i + 1) (putA (atL n t) i (d : Int))).fl.length = (nowT t i (atL n t)).fl.length := by rw [← ep,withF_len]
 have q := rwith_c (nowT t i (atL n t)) k (d : Int) (d : Int) A c A6 c6 w hF hk2 (by have := flN_len t n i;have := hP.fl;show (flN t n i).length ≤ _;omega) (by rw [ek];have := hP.mr i hi;omega);rw [el,← ep];exact q
theorem rwithE_c (t : Tr) (n i k : Nat) (x : Int) (A : Option Addr) (c : Nat) (A6 : Option Addr) (c6 : Nat) (w : World) (hP : PlanT t n) (hi : i < t.fl.length) (hk : k < (ixL t i (atL n t)).length) (e : (ixL t i (atL n t))[k] = i) (h0 : 0 ≤ x) (hx : x = atL n t i) (hF : FlawsV w w.heap.size (.slice A6 (flN t n i).length c6) (flN t n i)) :
  CallsV Tryz.prog 109 #[.agg #[.int .i64 t.n,.slice A t.cl.length c,.slice A6 (flN t n i).length c6],.int .i64 (k : Int),.agg #[.int .i64 x,.int .i64 x]] w fun v w' =>
   (∃ b c4,v = .agg #[.int .i64 t.n,.slice A t.cl.length c,.slice (some ⟨b,0,none⟩) (flN t n (i + 1)).length c4] ∧ w.heap.size ≤ b ∧ (flN t n (i + 1)).length ≤ c4 ∧ RowG w' b (flN t n (i + 1))) ∧ Ext w w' := by
 have q := rwithN_c t n i k x A c A6 c6 w hP hi hk e h0 hF;have e2 : putA (atL n t) i x = atL n t := by rw [hx];exact putA_self n t i
 rw [e2] at q;exact q
theorem rbestD_c (t : Tr) (n i : Nat) (at' : Nat → Int) (A : Option Addr) (c : Nat) (b c4 : Nat) (w : World) (hP : PlanT t n) (hO : FixO t n i at') (hI : IntsV w w.heap.size (.slice A t.cl.length c) t.cl) (hR : RowG w b (nowT t i at').fl) (hc : (nowT t i at').fl.length ≤ c4) :
  CallsV Tryz.prog 106 #[.agg #[.int .i64 t.n,.slice A t.cl.length c,.slice (some ⟨b,0,none⟩) (nowT t i at').fl.length c4]] w fun v' w' => v' = .int .i64 (meritF (nowT t i at') n) ∧ Ext w w' :=
 rbestN_c t n i at' _ w hP hO ⟨_,_,rfl,hI,hR.flawsV hc⟩
theorem rlessN_c (t : Tr) (n i : Nat) (G : List Int) (A : Option Addr) (c : Nat) (A6 : Option Addr) (c6 : Nat) (iv : Value) (w : World) (hP : PlanT t n) (ha : atL n t i = -1) (hG : ∀ j (hj : j < t.fl.length),t.fl[j].id ∈ G ↔ j < i + 1 ∧ atL n t j < 0) (hl : G.length ≤ 1000)
  (hF : FlawsV w w.heap.size (.slice A6 (flN t n i).length c6) (flN t n i)) (hI : IntsV w w.heap.size iv G) :
  CallsV Tryz.prog 107 #[.agg #[.int .i64 t.n,.slice A t.cl.length c,.slice A6 (flN t n i).length c6],iv] w fun v' w' => (∃ A7 c7,v' = .agg #[.int .i64 t.n,.slice A t.cl.length c,.slice A7 (flN t n (i + 1)).length c7] ∧ FlawsB w' w.heap.size (.slice A7 (flN t n (i + 1)).length c7) (flN t n (i + 1))) ∧ Ext w w' := by
 refine (rless_c (nowT t i (atL n t)) G A c A6 c6 iv w hF hI (by omega) (by have := flN_len t n i;have := hP.fl;show (flN t n i).length ≤ _;omega)).mono fun v' w' ⟨⟨fv,h1,h2⟩,h3⟩ => ⟨?_,h3⟩;have e2 : putA (atL n t) i (-1) = atL n t := by have := putA_self n t i;rwa [ha] at this
 have e : lessF G (nowT t i (atL n t)).fl = flN t n (i + 1) := by
  have := now_gone (t := t) (i := i) (at' := atL n t) (gone := G) (fun j hj => by rw [e2,hG j hj];omega);rw [e2] at this;exact this
 rw [e] at h2;obtain ⟨A7,c7,rfl⟩ := h2.slice;exact ⟨A7,c7,h1,h2.flawsB⟩
theorem in_found {t : Tr} {n i d : Nat} (hP : PlanT t n) (hE : Est t n i) (hi : i < t.fl.length) (hd : d < n) (ht : testP t n i d) (hno : ∀ e,e < d → ¬ testP t n i e) :
  (d : Int) = atL n t i ∧ meritF (nowT t (i + 1) (atL n t)) n = meritF (nowT t i (atL n t)) n + 1048576 := by
 have e := at_some hP.opt hE hi (mlt hP) (sumM_lt hP) hd ht hno;refine ⟨e.symm,?_⟩;have := ((testP_of hi).1 ht).2
 rwa [← e,putA_self] at this
theorem in_none {t : Tr} {n i : Nat} (hP : PlanT t n) (hE : Est t n i) (hi : i < t.fl.length) (hno : ∀ e,e < n → ¬ testP t n i e) :
  atL n t i = -1 ∧ meritF (nowT t (i + 1) (atL n t)) n = meritF (nowT t i (atL n t)) n := at_none hP.opt hE hi (mlt hP) (sumM_lt hP) hno
theorem gone_more {t : Tr} {n i : Nat} {G : List Int} (hg : GoodT t) (hi : i < t.fl.length) (ha : atL n t i < 0) (hG : ∀ j (hj : j < t.fl.length),t.fl[j].id ∈ G ↔ j < i ∧ atL n t j < 0) :
  ∀ j (hj : j < t.fl.length),t.fl[j].id ∈ G ++ [t.fl[i].id] ↔ j < i + 1 ∧ atL n t j < 0 := fun j hj => by
 rw [List.mem_append,List.mem_singleton,hG j hj];have q := List.pairwise_iff_getElem.1 hg.ids
 constructor
 ·rintro (h | h)
  ·omega
  ·rcases Nat.lt_trichotomy i j with z | z | z
   ·exact absurd h.symm (q i j hi hj z)
   ·subst z;exact ⟨by omega,ha⟩
   ·exact absurd h (q j i hj hi z)
 ·rintro ⟨h1,h2⟩
  by_cases z : j = i
  ·subst z;exact .inr rfl
  ·exact .inl ⟨by omega,h2⟩
theorem gone_same {t : Tr} {n i : Nat} {G : List Int} (ha : 0 ≤ atL n t i) (hG : ∀ j (hj : j < t.fl.length),t.fl[j].id ∈ G ↔ j < i ∧ atL n t j < 0) :
  ∀ j (hj : j < t.fl.length),t.fl[j].id ∈ G ↔ j < i + 1 ∧ atL n t j < 0 := fun j hj => by
 rw [hG j hj]
 by_cases z : j = i
 ·subst z;omega
 ·omega
theorem earlF_len (n : Nat) : ∀ (k : Nat) (t : Tr),(earlF n k t).length = k
 | 0,_ => rfl
 | k + 1,t => by show (earlF n k (restT n t)).length + 1 = _;rw [earlF_len n k]
section
variable {W V : World} {vO vG v' vF : Value} {q B : Nat} {l : List Fl} {G : List Int}
theorem FlX.grow1 (h : FlX W (fun b => vO.ownBlock ≠ some b ∧ vG.ownBlock ≠ some b ∧ b ≠ q) vF l) (hgr : W.grownBy V vO.ownBlock) (hbk : v'.ownBlock = vO.ownBlock ∨ v'.ownBlock = some W.heap.size) : FlX V (fun b => v'.ownBlock ≠ some b ∧ vG.ownBlock ≠ some b ∧ b ≠ q) vF l :=
 ((h.mono (Q := fun b => vO.ownBlock ≠ some b ∧ v'.ownBlock ≠ some b ∧ vG.ownBlock ≠ some b ∧ b ≠ q) fun b hb hlt => ⟨hb.1,by
   rcases hbk with e | e
   ·rw [e];exact hb.1
   ·rw [e];intro z;injection z with z;omega,hb.2.1,hb.2.2⟩).chg (grown_chg hgr) fun b hb _ => own_not hb.1).mono fun b hb _ => hb.2
theorem FlX.grow2 (h : FlX W (fun b => vO.ownBlock ≠ some b ∧ vG.ownBlock ≠ some b ∧ b ≠ q) vF l) (hgr : W.grownBy V vG.ownBlock) (hbk : v'.ownBlock = vG.ownBlock ∨ v'.ownBlock = some W.heap.size) : FlX V (fun b => vO.ownBlock ≠ some b ∧ v'.ownBlock ≠ some b ∧ b ≠ q) vF l :=
 ((h.mono (Q := fun b => vG.ownBlock ≠ some b ∧ vO.ownBlock ≠ some b ∧ v'.ownBlock ≠ some b ∧ b ≠ q) fun b hb hlt => ⟨hb.2.1,hb.1,by
   rcases hbk with e | e
   ·rw [e];exact hb.2.1
   ·rw [e];intro z;injection z with z;omega,hb.2.2⟩).chg (grown_chg hgr) fun b hb _ => own_not hb.1).mono fun b hb _ => hb.2
theorem ap_grow (ap : ∀ b,vO.ownBlock = some b → vG.ownBlock ≠ some b) (hG : OwnI W B vG G) (hbk : v'.ownBlock = vO.ownBlock ∨ v'.ownBlock = some W.heap.size) : ∀ b,v'.ownBlock = some b → vG.ownBlock ≠ some b := fun b hb => by
 rcases hbk with e | e
 ·exact ap b (e ▸ hb)
 ·intro z;have := (World.ownsRow.lt hG b z).2;rw [e] at hb
  injection hb with hb
  omega
end
structure EarS (t : Tr) (n i : Nat) (vO vG : Value) (M : Int) (G : List Int) : Prop where
 ap : ∀ b,vO.ownBlock = some b → vG.ownBlock ≠ some b
 e : Est t n i
 m : M = meritF (nowT t i (atL n t)) n
 m0 : 0 ≤ M
 m1 : M ≤ 60000 + 1048576 * (i : Int)
 gl : G.length ≤ i
 g : ∀ j (hj : j < t.fl.length),t.fl[j].id ∈ G ↔ j < i ∧ atL n t j < 0
theorem rEarliest_c (t : Tr) (v : Value) (w : World) (hV : TourV w w.heap.size v t) (hf : FitT t) (hl : checkT t = 0 → t.fl.length ≤ 12) :
  CallsV Tryz.prog 35 #[v] w fun v' w' => (∃ lv,v' = .agg #[lv,.int .i64 (checkT t)] ∧ IntsB w' w.heap.size lv (earlL t)) ∧ Ext w w' := by
 obtain ⟨A,c,A2,c2,rfl,hI,hF⟩ := hV.open';have hTS : TourS w w.heap.size (.agg #[.int .i64 t.n,.slice A t.cl.length c,.slice A2 t.fl.length c2]) t := ⟨hV⟩;have hIS : IntsS w w.heap.size (.slice A t.cl.length c) t.cl := ⟨hI⟩;have hFS : FlawsS w w.heap.size (.slice A2 t.fl.length c2) t.fl := ⟨hF⟩;clear hV hI hF;obtain ⟨n,hn⟩ : ∃ n,∃ _u : Unit,t.n.toNat = n := ⟨_,(),rfl⟩;have hff := hf.fl;obtain ⟨e,he⟩ : ∃ e : Int,∃ _u : Unit,checkT t = e := ⟨_,(),rfl⟩;obtain ⟨LA,hLL⟩ : ∃ LA,∃ _u : Unit,earlL t = LA ∧ (e ≠ 0 → LA = []) ∧ (e = 0 → LA = earlF n t.fl.length t) := ⟨_,(),rfl,fun q => by unfold earlL;rw [he.choose_spec,if_neg q],fun q => by unfold earlL;rw [he.choose_spec,if_pos q,hn.choose_spec]⟩;rw [he.choose_spec,hLL.choose_spec.1];refine Wp.fn Tryz.func35 rfl Tryz.ntmps35 (by simp) ?_;have xw := Ext.refl w;refine Wp.keep [0] ?_;rintro r1 ⟨e0_1,-⟩;simp [go_sem] at e0_1;refine sRg fun K' gd hK => ?_;refine cu1 fun K1 hK1 => ?_;go_simp;refine hK1 _ _ ?_;clear hK1 K1;refine Wops.absA fun V1_1 n1 hV1_1 => ?_;obtain ⟨q1,hV1_1,s1,kV1_1,f1,r1⟩ := hV1_1;try simp only [q1] at kV1_1 f1 r1 ⊢
 replace hTS := hTS.ext hV1_1;replace hIS := hIS.ext hV1_1;replace hFS := hFS.ext hV1_1;replace xw := xw.trans hV1_1;have c1_0 := kV1_1 0 _ rfl;have c1_1 := kV1_1 1 _ rfl;have c1_2 := kV1_1 2 _ rfl;clear kV1_1 hV1_1;clear r1;refine cu1 fun K1 hK1 => ?_;go_simp;refine hK1 _ _ ?_;clear hK1 K1;refine Wops.absA fun V2_2 n2 hV2_2 => ?_;obtain ⟨q2,hV2_2,s2,kV2_2,f2,r2⟩ := hV2_2;try simp only [q2] at kV2_2 f2 r2 ⊢
 replace hTS := hTS.ext hV2_2;replace hIS := hIS.ext hV2_2;replace hFS := hFS.ext hV2_2;replace xw := xw.trans hV2_2;replace c1_0 := hV2_2.cell c1_0;replace c1_1 := hV2_2.cell c1_1;replace c1_2 := hV2_2.cell c1_2;have c2_0 := kV2_2 0 _ rfl;have c2_1 := kV2_2 1 _ rfl;clear kV2_2 hV2_2;clear r2;try simp only [Wops_nil,updO_some,updO_none]
 refine hK _ _ ?_;clear hK K' gd;refine Wp.keep [1,2] ?_;rintro r2 ⟨e1_2,e2_2,-⟩;simp [go_sem,e0_1] at e1_2 e2_2;clear e0_1;refine sRg fun K' gd hK => ?_;refine cu2 fun K1 hK1 => ?_;go_simp;refine Wcall (.inl rfl) (rcheck_c t _ _ (hTS.v.more (Below.size (XE))) hf) ?_;rintro v w2 ⟨hv,hE⟩;rw [he.choose_spec] at hv;subst hv;go_simp;refine hK1 _ _ ?_;clear hK1 K1;have z3 := Below.size hE;replace f2 := hE.fz c2_0 f2;replace hTS := hTS.ext hE;replace hIS := hIS.ext hE;replace hFS := hFS.ext hE;replace xw := xw.trans hE;replace c1_0 := hE.cell c1_0;replace c1_1 := hE.cell c1_1;replace c1_2 := hE.cell c1_2;replace c2_0 := hE.cell c2_0;replace c2_1 := hE.cell c2_1;clear hE;go_simp;refine hK _ _ ?_;clear hK K' gd;refine Wp.keep [1,2,3] ?_;rintro r4 ⟨e1_4,e2_4,e3_4,-⟩;simp [go_sem,e1_2,e2_2] at e1_4 e2_4 e3_4;clear e1_2 e2_2
 by_cases h0 : e = 0
 ·skip;have hck : checkT t = 0 := he.choose_spec.trans h0;have hg := checkT_zero.1 hck;have hP : PlanT t n := by rw [← hn.choose_spec];exact hg.plan (hl hck)
  have hm12 := hP.fl;have hn60 := hP.n2;have hcl9 := hP.cl;obtain ⟨M0,hM0⟩ : ∃ M : Int,∃ _u : Unit,meritF t n = M ∧ 0 ≤ M ∧ M ≤ 60000 := ⟨_,(),rfl,meritF_le hP⟩;refine Wp.seq ?_;refine sRg fun K' gd hK => ?_;go_simp;refine hK _ _ ?_;clear hK K' gd;refine Wp.keep [1,2,3,15] ?_;rintro r5 ⟨e1_5,e2_5,e3_5,e15_5,-⟩;simp [go_sem,e1_4,e2_4,e3_4] at e1_5 e2_5 e3_5 e15_5;clear e1_4 e2_4 e3_4;refine cFf ?_;refine skN ?_;refine sRg fun K' gd hK => ?_;refine cu2 fun K1 hK1 => ?_;go_simp;refine Wcall (.inl rfl) (rbestP_c t n _ _ hP (hTS.v.more (Below.size (XE)))) ?_;rintro v w4 ⟨hv,hE⟩;rw [hM0.choose_spec.1] at hv;subst hv;go_simp;refine hK1 _ _ ?_;clear hK1 K1;have z6 := Below.size hE;replace f2 := hE.fz c2_0 f2;replace hTS := hTS.ext hE;replace hIS := hIS.ext hE;replace hFS := hFS.ext hE;replace xw := xw.trans hE;replace c1_0 := hE.cell c1_0;replace c1_1 := hE.cell c1_1;replace c1_2 := hE.cell c1_2;replace c2_0 := hE.cell c2_0;replace c2_1 := hE.cell c2_1;clear hE;go_simp;refine hK _ _ ?_;clear hK K' gd;refine Wp.keep [1,2,4] ?_;rintro r7 ⟨e1_7,e2_7,e4_7,-⟩;simp [go_sem,e1_5,e2_5,e3_5,e15_5] at e1_7 e2_7 e4_7
  clear e1_5 e2_5 e3_5 e15_5;refine sRg fun K' gd hK => ?_;refine cu3 fun K1 hK1 => ?_;go_simp;refine hK1 _ _ ?_;clear hK1 K1;refine Wops.absA fun V5_3 n5 hV5_3 => ?_;obtain ⟨q5,hV5_3,s5,kV5_3,f5,r5⟩ := hV5_3;try simp only [q5] at kV5_3 f5 r5 ⊢
  replace f2 := hV5_3.fz c2_0 f2;replace hTS := hTS.ext hV5_3;replace hIS := hIS.ext hV5_3;replace hFS := hFS.ext hV5_3;replace xw := xw.trans hV5_3;replace c1_0 := hV5_3.cell c1_0;replace c1_1 := hV5_3.cell c1_1;replace c1_2 := hV5_3.cell c1_2;replace c2_0 := hV5_3.cell c2_0;replace c2_1 := hV5_3.cell c2_1;have c5_0 := kV5_3 0 _ rfl;have c5_1 := kV5_3 1 _ rfl;have c5_2 := kV5_3 2 _ rfl;clear kV5_3 hV5_3;clear r5;try simp only [Wops_nil,updO_some,updO_none]
  refine hK _ _ ?_;clear hK K' gd;refine Wp.keep [1,2,4,5] ?_;rintro r8 ⟨e1_8,e2_8,e4_8,e5_8,-⟩;simp [go_sem,e1_7,e2_7,e4_7] at e1_8 e2_8 e4_8 e5_8;clear e1_7 e2_7 e4_7;refine sRg fun K' gd hK => ?_;go_simp;refine hK _ _ ?_;clear hK K' gd;refine Wp.keep [1,2,4,5,6] ?_;rintro r9 ⟨e1_9,e2_9,e4_9,e5_9,e6_9,-⟩;simp [go_sem,e1_8,e2_8,e4_8,e5_8] at e1_9 e2_9 e4_9 e5_9 e6_9;clear e1_8 e2_8 e4_8 e5_8;refine sRg fun K' gd hK => ?_;go_simp;refine hK _ _ ?_;clear hK K' gd;refine Wp.keep [1,2,4,5,6,7] ?_;rintro r10 ⟨e1_10,e2_10,e4_10,e5_10,e6_10,e7_10,-⟩;simp [go_sem,e1_9,e2_9,e4_9,e5_9,e6_9] at e1_10 e2_10 e4_10 e5_10 e6_10 e7_10;clear e1_9 e2_9 e4_9 e5_9 e6_9;refine Wp.seq ?_;obtain ⟨B0,hB0,hB1,hB2⟩ : ∃ B,n5 < B ∧ B ≤ V5_3.heap.size ∧ V5_3.heap.size ≤ B := ⟨V5_3.heap.size,cell_lt c5_0,Nat.le_refl _,Nat.le_refl _⟩;refine sRg fun K' gd hK => ?_;go_simp;refine hK _ _ ?_;clear hK K' gd;refine Wp.keep [1,2,4,5,6,7,8] ?_;rintro r11 ⟨e1_11,e2_11,e4_11,e5_11,e6_11,e7_11,e8_11,-⟩;simp [go_sem,e1_10,e2_10,e4_10,e5_10,e6_10,e7_10] at e1_11 e2_11 e4_11 e5_11 e6_11 e7_11 e8_11;clear e1_10 e2_10 e4_10 e5_10 e6_10 e7_10;refine Wp.block ?_;refine Wp.loop (fun i ρ ds wi => AllEq [1,2,5] ρ r11 ∧ ds = [] ∧ (Chg [n5] V5_3 wi ∧ (∀ i,wi.frozen? ⟨n5,i,none⟩ = false)) ∧ (∃ (vO vG : Value) (M : Int) (G : List Int) (A6 : Option Addr) (c6 : Nat),ρ 8 = .int .i64 (i : Int) ∧ ρ 4 = .int .i64 M ∧ ρ 6 = vO ∧ ρ 7 = vG ∧ wi.cell? ⟨n5,0,none⟩ = some (.int .i64 t.n) ∧ wi.cell? ⟨n5,1,none⟩ = some (.slice A t.cl.length c) ∧ wi.cell? ⟨n5,2,none⟩ = some (.slice A6 (flN t n i).length c6) ∧ OwnI wi B0 vO (earlF n i t) ∧ OwnI wi B0 vG G ∧ FlX wi (fun b => vO.ownBlock ≠ some b ∧ vG.ownBlock ≠ some b ∧ b ≠ n5) (.slice A6 (flN t n i).length c6) (flN t n i) ∧ EarS t n i vO vG M G)) (t.fl.length) ?_ ?_
  ·refine ⟨AllEq.refl _ _,rfl,⟨Chg.refl _ _,f5⟩,?_⟩;exact ⟨_,_,M0,[],A2,c2,by rw [e8_11];rfl,e4_11,e6_11,e7_11,c5_0,c5_1,by rw [flN_zero];exact c5_2,World.ownsRow_nil _ _ _ _,World.ownsRow_nil _ _ _ _,by rw [flN_zero];exact (FlawsV.flX hFS.v (by omega)).mono fun b hb _ => ⟨(fun q => by cases q),(fun q => by cases q),by omega⟩,⟨(fun b q => by cases q),Est.zero t n,by rw [nowT_zero];exact hM0.choose_spec.1.symm,hM0.choose_spec.2.1,by have := hM0.choose_spec.2.2;omega,Nat.le_refl _,fun j hj => ⟨(fun q => by cases q),fun q => absurd q.1 (Nat.not_lt_zero _)⟩⟩⟩
  ·rintro i r12 _ wi hi ⟨hA,rfl,⟨xo,gf5⟩,⟨vO,vG,M,G,A6,c6,e8,e4,e6,e7,gc5_0,gc5_1,gc5_2,hO,hG,hX,hS⟩⟩;obtain ⟨e1_12,e2_12,e5_12,-⟩ := hA;rw [e1_11] at e1_12;rw [e2_11] at e2_12;rw [e5_11] at e5_12;have zxo := Chg.size xo;replace f2 := Chg.fz xo c2_0 f2 XN;clear f5;replace hTS := hTS.chg xo XB;replace hIS := hIS.chg xo XB;replace hFS := hFS.chg xo XB;replace xw := Chg.to xw xo XL;replace c1_0 := Chg.cell xo c1_0 XN;replace c1_1 := Chg.cell xo c1_1 XN;replace c1_2 := Chg.cell xo c1_2 XN;replace c2_0 := Chg.cell xo c2_0 XN;replace c2_1 := Chg.cell xo c2_1 XN;clear c5_0;clear c5_1;clear c5_2;have f5 := gf5;clear gf5;have c5_0 := gc5_0;clear gc5_0;have c5_1 := gc5_1;clear gc5_1;have c5_2 := gc5_2;clear gc5_2;obtain ⟨A5,k5,hvO⟩ := OwnI.slice hO;subst hvO;obtain ⟨A7,k7,hvG⟩ := OwnI.slice hG;subst hvG;have hm0 := hS.m0;have hm1 := hS.m1;have hgl := hS.gl;have hol : (earlF n i t).length ≤ i := Nat.le_of_eq (earlF_len n i t)
   by_cases hi : i < t.fl.length
   ·skip;have hil : (i : Int) < (t.fl.length : Int) := by omega
    obtain ⟨b2,o2,eA,hb2,x0,x1,x2,x3⟩ := FlawsV.at hFS.v hi;subst eA;obtain ⟨F,hF⟩ : ∃ F,∃ _u : Unit,t.fl[i] = F := ⟨_,(),rfl⟩;have hk := now_at (i := i) (at' := atL n t) hg.ids hi;rw [hF.choose_spec] at x0 x1 x2 x3 hk;obtain ⟨k,hk,hke,hkp,-⟩ := hk;replace hke : ∃ _u : Unit,_ := ⟨(),hke⟩;replace hkp : ∃ _u : Unit,posF (flN t n i) F.id = (k : Int) := ⟨(),hkp⟩;have hfl4 : ∃ _u : Unit,flV F = .agg #[.int .i64 F.id,.int .i64 F.lo,.int .i64 F.hi,.int .i64 F.m] := ⟨(),rfl⟩;refine Wp.seq ?_;refine sRg fun K' gd hK => ?_;go_simp;refine hK _ _ ?_;clear hK K' gd;refine Wp.keep [1,2,4,5,6,7,8,25] ?_;rintro r13 ⟨e1_13,e2_13,e4_13,e5_13,e6_13,e7_13,e8_13,e25_13,-⟩;simp [go_sem,e1_12,e2_12,e4,e5_12,e6,e7,e8] at e1_13 e2_13 e4_13 e5_13 e6_13 e7_13 e8_13 e25_13;clear e1_12 e2_12 e4 e5_12 e6 e7 e8;refine cTt ?_;refine skN ?_;refine sBk ?_;refine sRg fun K' gd hK => ?_;go_simp;refine hK _ _ ?_;clear hK K' gd;refine Wp.keep [1,2,4,5,6,7,8,9] ?_;rintro r14 ⟨e1_14,e2_14,e4_14,e5_14,e6_14,e7_14,e8_14,e9_14,-⟩;simp [go_sem,e1_13,e2_13,e4_13,e5_13,e6_13,e7_13,e8_13,e25_13] at e1_14 e2_14 e4_14 e5_14 e6_14 e7_14 e8_14 e9_14;clear e1_13 e2_13 e4_13 e5_13 e6_13 e7_13 e8_13 e25_13;refine Wp.seqDraw (.inl rfl) mixed [([0,1,2,3,4],none),([5,6],some (7,false)),([8],none)] (by kernel_rfl) fun K' gd hK hg => ?_
    clear hg;simp only [pick,nth,List.map_cons,List.map_nil,Option.map_none,Option.map_some];refine Mops.absD fun D5 hD5 zD5 => ?_;replace f5 := hD5.fz c5_0 f5;replace hTS := hTS.ext hD5;replace hIS := hIS.ext hD5;replace hO := hO.ext hD5;replace hG := hG.ext hD5;replace hX := hX.ext hD5;replace xw := xw.trans hD5;replace xo := Chg.ext xo hD5;replace c1_0 := hD5.cell c1_0;replace c1_1 := hD5.cell c1_1;replace c1_2 := hD5.cell c1_2;replace c5_0 := hD5.cell c5_0;replace c5_1 := hD5.cell c5_1;replace c5_2 := hD5.cell c5_2;replace x0 := hD5.cell x0;replace x1 := hD5.cell x1;replace x2 := hD5.cell x2;replace x3 := hD5.cell x3;clear hD5;refine mNo ?_
    refine mAc ?_
    intro K1 hK1;go_simp;refine Wcall (.inl rfl) (rflawN_c t n i k F.id A c _ _ hP hkp.choose_spec (hIS.v.more (Below.size (XE))) hX.flawsV) ?_;rintro v w5 ⟨rfl,hE⟩;go_simp;refine hK1 _ _ (by assumption) ?_;clear hK1 K1;have z15 := Below.size hE;replace f5 := hE.fz c5_0 f5;replace hTS := hTS.ext hE;replace hIS := hIS.ext hE;replace hO := hO.ext hE;replace hG := hG.ext hE;replace hX := hX.ext hE;replace xw := xw.trans hE;replace xo := Chg.ext xo hE;replace c1_0 := hE.cell c1_0;replace c1_1 := hE.cell c1_1;replace c1_2 := hE.cell c1_2;replace c5_0 := hE.cell c5_0;replace c5_1 := hE.cell c5_1;replace c5_2 := hE.cell c5_2;replace x0 := hE.cell x0;replace x1 := hE.cell x1;replace x2 := hE.cell x2;replace x3 := hE.cell x3;clear hE;apply Mops.none
    ·intro w' hE';go_simp;with_reducible rfl
    refine Mops.done ?_;refine hK _ _ ?_;clear hK K' gd;refine Wp.keep [1,2,4,5,6,7,8,9,10] ?_;rintro r16 ⟨e1_16,e2_16,e4_16,e5_16,e6_16,e7_16,e8_16,e9_16,e10_16,-⟩;simp [go_sem,e1_14,e2_14,e4_14,e5_14,e6_14,e7_14,e8_14,e9_14] at e1_16 e2_16 e4_16 e5_16 e6_16 e7_16 e8_16 e9_16 e10_16;clear e1_14 e2_14 e4_14 e5_14 e6_14 e7_14 e8_14 e9_14;refine Wp.seq ?_;refine sRg fun K' gd hK => ?_;go_simp;refine hK _ _ ?_;clear hK K' gd;refine Wp.keep [1,2,4,5,6,7,8,9,10,11] ?_;rintro r17 ⟨e1_17,e2_17,e4_17,e5_17,e6_17,e7_17,e8_17,e9_17,e10_17,e11_17,-⟩;simp [go_sem,e1_16,e2_16,e4_16,e5_16,e6_16,e7_16,e8_16,e9_16,e10_16] at e1_17 e2_17 e4_17 e5_17 e6_17 e7_17 e8_17 e9_17 e10_17 e11_17;clear e1_16 e2_16 e4_16 e5_16 e6_16 e7_16 e8_16 e9_16 e10_16;refine Wp.block ?_;refine Wp.loop (fun d ρ ds wd => AllEq [1,2,4,5,6,7,8,10] ρ r17 ∧ ds = [] ∧ (Ext w5 wd) ∧ (∃ a : Int,ρ 11 = .int .i64 (d : Int) ∧ ρ 9 = .int .i64 a ∧ (∃ _u : Unit,(a = -1 ∧ ∀ e,e < d → ¬ testP t n i e) ∨ (0 ≤ a ∧ a = atL n t i ∧ meritF (nowT t (i + 1) (atL n t)) n = M + 1048576)))) (n) ?_ ?_
    ·refine ⟨AllEq.refl _ _,rfl,Ext.refl _,?_⟩;exact ⟨-1,by rw [e11_17];rfl,e9_17,(),.inl ⟨rfl,fun e he => absurd he (Nat.not_lt_zero _)⟩⟩
    ·rintro d r18 _ wd hd ⟨hA,rfl,xd,⟨a,e11,e9,hA9⟩⟩;obtain ⟨e1_18,e2_18,e4_18,e5_18,e6_18,e7_18,e8_18,e10_18,-⟩ := hA;rw [e1_17] at e1_18;rw [e2_17] at e2_18;rw [e4_17] at e4_18;rw [e5_17] at e5_18;rw [e6_17] at e6_18;rw [e7_17] at e7_18;rw [e8_17] at e8_18;rw [e10_17] at e10_18;have zxd := Below.size xd;replace f5 := Ext.fz xd c5_0 f5;replace hTS := hTS.ext xd;replace hIS := hIS.ext xd;replace hO := hO.ext xd;replace hG := hG.ext xd;replace hX := hX.ext xd;replace xw := Ext.trans xw xd;replace xo := Chg.ext xo xd;replace c1_0 := Ext.cell xd c1_0;replace c1_1 := Ext.cell xd c1_1;replace c1_2 := Ext.cell xd c1_2;replace c5_0 := Ext.cell xd c5_0;replace c5_1 := Ext.cell xd c5_1;replace c5_2 := Ext.cell xd c5_2;replace x0 := Ext.cell xd x0;replace x1 := Ext.cell xd x1;replace x2 := Ext.cell xd x2;replace x3 := Ext.cell xd x3;refine Wp.seq ?_;refine sRh fun K' gd hK hg => ?_
     suffices hM : ∀ (ρ : Nat → Value) (W : World),AllEq [1,2,4,5,6,7,8,9,10,11] ρ r18 ∧ wd = W ∧ (∃ b,ρ 43 = .bool b ∧ (b = true ↔ d < n ∧ a < 0)) → K' ρ W by
      have g4 : gd 4 = some 40 := hg 4;clear hg hK
      by_cases hdn : d < n
      ·skip;have hdl : (d : Int) < t.n := by have := hP.tn;omega
       by_cases ha : a < 0
       ·skip;go_simp;refine hM _ _ ⟨by simp [AllEq,go_sem],rfl,?_⟩;exact ⟨true,by first | rfl | go_simp,fun _ => ⟨hdn,ha⟩,fun _ => rfl⟩
       ·skip;go_simp;refine hM _ _ ⟨by simp [AllEq,go_sem],rfl,?_⟩;exact ⟨false,by first | rfl | go_simp,(fun q => by cases q),fun q => absurd q.2 ha⟩
      ·skip;have hdl : ¬ (d : Int) < t.n := by have := hP.tn;omega
       go_simp;refine hM _ _ ⟨by simp [AllEq,go_sem],rfl,?_⟩;exact ⟨false,by first | rfl | go_simp,(fun q => by cases q),fun q => absurd q.1 hdn⟩
     rintro r19 _ ⟨hA,hW,⟨b,e43,hb⟩⟩;subst hW;refine hK _ _ ?_;clear hK K' gd hg;obtain ⟨e1_19,e2_19,e4_19,e5_19,e6_19,e7_19,e8_19,e9_19,e10_19,e11_19,-⟩ := hA;rw [e1_18] at e1_19;rw [e2_18] at e2_19;rw [e4_18] at e4_19;rw [e5_18] at e5_19;rw [e6_18] at e6_19;rw [e7_18] at e7_19;rw [e8_18] at e8_19;rw [e9] at e9_19;rw [e10_18] at e10_19;rw [e11] at e11_19;clear e1_18 e2_18 e4_18 e5_18 e6_18 e7_18 e8_18 e9 e10_18 e11
     by_cases hbt : b = true
     ·skip;obtain ⟨hdn,ha⟩ := hb.1 hbt;have hno : ∃ _u : Unit,a = -1 ∧ ∀ e,e < d → ¬ testP t n i e := ⟨(),hA9.choose_spec.elim id fun q => by omega⟩;subst hbt;refine cTt ?_
      by_cases ho : okDay t F.lo F.hi (d : Int) = true
      ·skip;obtain ⟨X,hX9⟩ : ∃ X : Int,∃ _u : Unit,meritF (nowT t (i + 1) (putA (atL n t) i (d : Int))) n = X := ⟨_,(),rfl⟩;have hdt : ∃ _u : Unit,testP t n i d ↔ X = M + 1048576 := ⟨(),by rw [testP_of hi,hF.choose_spec,hX9.choose_spec,← hS.m];exact ⟨fun q => q.2,fun q => ⟨ho,q⟩⟩⟩;have hwM : IntKind.i64.wrap (M + 1048576) = M + 1048576 := IntWalk.i64_in _ (by omega);have hFO := hS.e.o.put hdn (of_decide_eq_true ho).2;refine skN ?_;refine sBk ?_;refine Wp.seqDraw (.inl rfl) mixed [([0,1,2,3,4],none),([5,6],some (7,false)),([8],none),([9,10,11,12,13],none),([16,17],some (14,false)),([],some (15,false)),([18,19],none)] (by kernel_rfl) fun K' gd hK hg => ?_;have g8 : gd 8 = some 54 := hg 8;clear hg;simp only [pick,nth,List.map_cons,List.map_nil,Option.map_none,Option.map_some];refine Mops.absD fun D7 hD7 zD7 => ?_;replace hTS := hTS.ext hD7;replace hIS := hIS.ext hD7;replace hX := hX.ext hD7;replace xw := xw.trans hD7;replace xo := Chg.ext xo hD7;replace xd := xd.trans hD7;replace c1_0 := hD7.cell c1_0;replace c1_1 := hD7.cell c1_1;replace c1_2 := hD7.cell c1_2;replace c5_0 := hD7.cell c5_0;replace c5_1 := hD7.cell c5_1;replace c5_2 := hD7.cell c5_2;replace x0 := hD7.cell x0;replace x1 := hD7.cell x1;replace x2 := hD7.cell x2;replace x3 := hD7.cell x3;clear hD7;refine mNo ?_
       refine mAc ?_
       intro K1 hK1;go_simp;refine Wcall (.inl rfl) ((by have q := rmay_c t F (d : Int) (.agg #[.int .i64 t.n,.slice A t.cl.length c,.slice (some ⟨b2,o2,none⟩) t.fl.length c2]) _ (hTS.v.more (Below.size (XE))) hcl9;rw [hfl4.choose_spec,ho] at q;exact q)) ?_;rintro v w6 ⟨rfl,hE⟩;go_simp;refine hK1 _ _ (by assumption) ?_;clear hK1 K1;replace hIS := hIS.ext hE;replace hX := hX.ext hE;replace xw := xw.trans hE;replace xo := Chg.ext xo hE;replace xd := xd.trans hE;replace c5_0 := hE.cell c5_0;replace c5_1 := hE.cell c5_1;replace c5_2 := hE.cell c5_2;clear hE;apply Mops.none
       ·intro w' hE';go_simp;with_reducible rfl
       refine mNo ?_
       apply Mops.act
       ·intro w' hE';go_simp;with_reducible rfl
       intro K1 hK1;go_simp;refine Wcall (.inl rfl) (rwithN_c t n i k (d : Int) A c A6 c6 _ hP hi hk hke.choose_spec (by omega) hX.flawsV) ?_;rintro v w7 ⟨⟨b3,c4,rfl,hb1,hb4,hR⟩,hE⟩;go_simp;refine hK1 _ _ (by assumption) ?_;clear hK1 K1;replace hIS := hIS.ext hE;replace xw := xw.trans hE;replace xo := Chg.ext xo hE;replace xd := xd.trans hE;clear hE;apply Mops.act
       ·exact fun _ _ => Rops_done
       intro K1 hK1;go_simp;refine Wcall (.inl rfl) (rbestD_c t n (i + 1) (putA (atL n t) i (d : Int)) A c b3 c4 _ hP hFO (hIS.v.more (Below.size (XE))) hR hb4) ?_;rintro v w8 ⟨hv,hE⟩;rw [hX9.choose_spec] at hv;subst hv;go_simp;refine hK1 _ _ (by assumption) ?_;clear hK1 K1;replace hR := hR.ext hE;replace xw := xw.trans hE;replace xo := Chg.ext xo hE;replace xd := xd.trans hE;clear hE;apply Mops.none
       ·intro w' hE';go_simp;with_reducible rfl
       refine Mops.done ?_;refine hK _ _ ?_;clear hK K' gd g8;refine Wp.keep [1,2,4,5,6,7,8,9,10,11,65] ?_;rintro r23 ⟨e1_23,e2_23,e4_23,e5_23,e6_23,e7_23,e8_23,e9_23,e10_23,e11_23,e65_23,-⟩;simp [go_sem,e1_19,e2_19,e4_19,e5_19,e6_19,e7_19,e8_19,e9_19,e10_19,e11_19,e43] at e1_23 e2_23 e4_23 e5_23 e6_23 e7_23 e8_23 e9_23 e10_23 e11_23 e65_23;clear e1_19 e2_19 e4_19 e5_19 e6_19 e7_19 e8_19 e9_19 e10_19 e11_19 e43
       by_cases hx : X = M + 1048576
       ·skip;refine cTt ?_;have hin : ∃ _u : Unit,(d : Int) = atL n t i ∧ meritF (nowT t (i + 1) (atL n t)) n = M + 1048576 := ⟨(),by have q := in_found hP hS.e hi hdn (hdt.choose_spec.2 hx) hno.choose_spec.2;rw [← hS.m] at q;exact q⟩;refine lRg fun K' gd hK => ?_;go_simp;refine hK _ _ ?_;clear hK K' gd;refine Ends.keep [1,2,4,5,6,7,8,9,10,11] ?_;rintro r24 ⟨e1_24,e2_24,e4_24,e5_24,e6_24,e7_24,e8_24,e9_24,e10_24,e11_24,-⟩;simp [go_sem,e1_23,e2_23,e4_23,e5_23,e6_23,e7_23,e8_23,e9_23,e10_23,e11_23,e65_23] at e1_24 e2_24 e4_24 e5_24 e6_24 e7_24 e8_24 e9_24 e10_24 e11_24;clear e1_23 e2_23 e4_23 e5_23 e6_23 e7_23 e8_23 e9_23 e10_23 e11_23 e65_23;refine Ends.mk ?_;refine bNo ?_;refine tNo ?_;refine lRg fun K' gd hK => ?_;go_simp;refine hK _ _ ?_;clear hK K' gd;refine Ends.keep [1,2,4,5,6,7,8,9,10,11] ?_;rintro r25 ⟨e1_25,e2_25,e4_25,e5_25,e6_25,e7_25,e8_25,e9_25,e10_25,e11_25,-⟩;simp [go_sem,e1_24,e2_24,e4_24,e5_24,e6_24,e7_24,e8_24,e9_24,e10_24,e11_24] at e1_25 e2_25 e4_25 e5_25 e6_25 e7_25 e8_25 e9_25 e10_25 e11_25;clear e1_24 e2_24 e4_24 e5_24 e6_24 e7_24 e8_24 e9_24 e10_24 e11_24;refine Ends.mk ?_;refine thenK_normal ⟨by omega,⟨by rw [e1_25,e1_17],by rw [e2_25,e2_17],by rw [e4_25,e4_17],by rw [e5_25,e5_17],by rw [e6_25,e6_17],by rw [e7_25,e7_17],by rw [e8_25,e8_17],by rw [e10_25,e10_17],trivial⟩,rfl,xd,?_⟩
        exact ⟨(d : Int),by rw [e11_25,IntWalk.i64_in _ (by omega)];rfl,e9_25,(),.inr ⟨by omega,hin.choose_spec.1,hin.choose_spec.2⟩⟩
       ·skip;refine cFf ?_;refine Wp.skip ?_;refine bNo ?_;refine tNo ?_;refine lRg fun K' gd hK => ?_;go_simp;refine hK _ _ ?_;clear hK K' gd;refine Ends.keep [1,2,4,5,6,7,8,9,10,11] ?_;rintro r26 ⟨e1_26,e2_26,e4_26,e5_26,e6_26,e7_26,e8_26,e9_26,e10_26,e11_26,-⟩;simp [go_sem,e1_23,e2_23,e4_23,e5_23,e6_23,e7_23,e8_23,e9_23,e10_23,e11_23,e65_23] at e1_26 e2_26 e4_26 e5_26 e6_26 e7_26 e8_26 e9_26 e10_26 e11_26;clear e1_23 e2_23 e4_23 e5_23 e6_23 e7_23 e8_23 e9_23 e10_23 e11_23 e65_23;refine Ends.mk ?_;refine thenK_normal ⟨by omega,⟨by rw [e1_26,e1_17],by rw [e2_26,e2_17],by rw [e4_26,e4_17],by rw [e5_26,e5_17],by rw [e6_26,e6_17],by rw [e7_26,e7_17],by rw [e8_26,e8_17],by rw [e10_26,e10_17],trivial⟩,rfl,xd,?_⟩;exact ⟨_,by rw [e11_26,IntWalk.i64_in _ (by omega)];rfl,e9_26,(),.inl ⟨hno.choose_spec.1,fun e he => by rcases Nat.lt_or_ge e d with z | z;exact hno.choose_spec.2 e z;obtain rfl : e = d := (by omega);exact fun q => hx (hdt.choose_spec.1 q)⟩⟩
      ·skip;have ho2 : okDay t F.lo F.hi (d : Int) = false := by simpa using ho
       refine skN ?_;refine sBk ?_;refine Wp.seqDraw (.inl rfl) mixed [([0,1,2,3,4],none),([5,6],some (7,false)),([8],none),([9,10,11,12,13],none),([16,17],some (14,false)),([],some (15,false)),([18,19],none)] (by kernel_rfl) fun K' gd hK hg => ?_;have g8 : gd 8 = some 54 := hg 8;clear hg;simp only [pick,nth,List.map_cons,List.map_nil,Option.map_none,Option.map_some];refine Mops.absD fun D8 hD8 zD8 => ?_;replace hTS := hTS.ext hD8;replace xw := xw.trans hD8;replace xo := Chg.ext xo hD8;replace xd := xd.trans hD8;replace c1_0 := hD8.cell c1_0;replace c1_1 := hD8.cell c1_1;replace c1_2 := hD8.cell c1_2;replace x0 := hD8.cell x0;replace x1 := hD8.cell x1;replace x2 := hD8.cell x2;replace x3 := hD8.cell x3;clear hD8;refine mNo ?_
       refine mAc ?_
       intro K1 hK1;go_simp;refine Wcall (.inl rfl) ((by have q := rmay_c t F (d : Int) (.agg #[.int .i64 t.n,.slice A t.cl.length c,.slice (some ⟨b2,o2,none⟩) t.fl.length c2]) _ (hTS.v.more (Below.size (XE))) hcl9;rw [hfl4.choose_spec,ho2] at q;exact q)) ?_;rintro v w6 ⟨rfl,hE⟩;go_simp;refine hK1 _ _ (by assumption) ?_;clear hK1 K1;replace xw := xw.trans hE;replace xo := Chg.ext xo hE;replace xd := xd.trans hE;clear hE;apply Mops.none
       ·intro w' hE';go_simp;with_reducible rfl
       apply Mops.none
       ·intro w' hE';go_simp;with_reducible rfl
       apply Mops.act
       ·intro w' hE';go_simp;with_reducible rfl
       intro K1 hK1;go_simp;refine hK1 _ _ (Ext.refl _) ?_;clear hK1 K1;apply Mops.act
       ·exact fun _ _ => Rops_done
       intro K1 hK1;go_simp;refine hK1 _ _ (Ext.refl _) ?_;clear hK1 K1;apply Mops.none
       ·intro w' hE';go_simp;with_reducible rfl
       refine Mops.done ?_;refine hK _ _ ?_;clear hK K' gd g8;refine Wp.keep [1,2,4,5,6,7,8,9,10,11,65] ?_;rintro r28 ⟨e1_28,e2_28,e4_28,e5_28,e6_28,e7_28,e8_28,e9_28,e10_28,e11_28,e65_28,-⟩;simp [go_sem,e1_19,e2_19,e4_19,e5_19,e6_19,e7_19,e8_19,e9_19,e10_19,e11_19,e43] at e1_28 e2_28 e4_28 e5_28 e6_28 e7_28 e8_28 e9_28 e10_28 e11_28 e65_28;clear e1_19 e2_19 e4_19 e5_19 e6_19 e7_19 e8_19 e9_19 e10_19 e11_19 e43;refine cFf ?_;refine Wp.skip ?_;refine bNo ?_;refine tNo ?_;refine lRg fun K' gd hK => ?_;go_simp;refine hK _ _ ?_;clear hK K' gd;refine Ends.keep [1,2,4,5,6,7,8,9,10,11] ?_;rintro r29 ⟨e1_29,e2_29,e4_29,e5_29,e6_29,e7_29,e8_29,e9_29,e10_29,e11_29,-⟩;simp [go_sem,e1_28,e2_28,e4_28,e5_28,e6_28,e7_28,e8_28,e9_28,e10_28,e11_28,e65_28] at e1_29 e2_29 e4_29 e5_29 e6_29 e7_29 e8_29 e9_29 e10_29 e11_29;clear e1_28 e2_28 e4_28 e5_28 e6_28 e7_28 e8_28 e9_28 e10_28 e11_28 e65_28;refine Ends.mk ?_;refine thenK_normal ⟨by omega,⟨by rw [e1_29,e1_17],by rw [e2_29,e2_17],by rw [e4_29,e4_17],by rw [e5_29,e5_17],by rw [e6_29,e6_17],by rw [e7_29,e7_17],by rw [e8_29,e8_17],by rw [e10_29,e10_17],trivial⟩,rfl,xd,?_⟩;exact ⟨_,by rw [e11_29,IntWalk.i64_in _ (by omega)];rfl,e9_29,(),.inl ⟨hno.choose_spec.1,fun e he => by rcases Nat.lt_or_ge e d with z | z;exact hno.choose_spec.2 e z;obtain rfl : e = d := (by omega);exact fun q => ho (by rw [← hF.choose_spec];exact ((testP_of hi).1 q).1)⟩⟩
     ·skip;have hbf : b = false := by simpa using hbt
      subst hbf;have hend : ∃ _u : Unit,a = atL n t i ∧ ((a < 0 ∧ atL n t i = -1 ∧ meritF (nowT t (i + 1) (atL n t)) n = M) ∨ (0 ≤ a ∧ meritF (nowT t (i + 1) (atL n t)) n = M + 1048576)) := ⟨(),by rcases hA9.choose_spec with ⟨q1,q2⟩ | ⟨q1,q2,q3⟩;have hdn : ¬ d < n := (fun z => hbt (hb.2 ⟨z,by omega⟩));obtain ⟨z1,z2⟩ := in_none hP hS.e hi (fun e he => q2 e (by omega));exact ⟨by rw [q1,z1],.inl ⟨by omega,z1,by rw [z2];exact hS.m.symm⟩⟩;exact ⟨q2,.inr ⟨q1,q3⟩⟩⟩;clear hA9 hb;refine cFf ?_;refine Wp.exit ?_;refine tEx ?_;refine tEx ?_;refine blockK_here ?_;refine tNo ?_;refine sRg fun K' gd hK => ?_;refine cu3 fun K1 hK1 => ?_;go_simp;refine hK1 _ _ ?_;clear hK1 K1;refine Wops.absA fun V69_9 n69 hV69_9 => ?_;obtain ⟨q69,hV69_9,s69,kV69_9,f69,r69⟩ := hV69_9;try simp only [q69] at kV69_9 f69 r69 ⊢
      replace f5 := hV69_9.fz c5_0 f5;replace hO := hO.ext hV69_9;replace hG := hG.ext hV69_9;replace hX := hX.ext hV69_9;replace xw := xw.trans hV69_9;replace xo := Chg.ext xo hV69_9;replace xd := xd.trans hV69_9;replace c1_2 := hV69_9.cell c1_2;replace c5_0 := hV69_9.cell c5_0;replace c5_1 := hV69_9.cell c5_1;replace c5_2 := hV69_9.cell c5_2;replace x0 := hV69_9.cell x0;clear hV69_9 f69;have c69_0 := kV69_9 0 _ rfl;clear kV69_9;refine cu1 fun K1 hK1 => ?_;obtain ⟨v',w7,hrun,hO2,hgr,hbk⟩ := app_run2 ints_T hO ⟨n69,0,none⟩ 1 1 [.int .i64 a] 22 rfl (news_one c69_0) (one_one rfl) (by omega) (by omega);refine Wops.law rfl (exec_append2 rfl hrun (by go_simp) (by go_simp)) ?_;simp only [updO_some,Wops_nil];refine hK1 _ _ ?_;clear hK1 K1;have z30 := World.grownBy.size hgr;replace f5 := Chg.fz (grown_chg hgr) c5_0 f5 (lt_off (World.ownsRow.lt hO) (by omega));replace xw := Chg.to xw (grown_chg hgr) (lt_ge (World.ownsRow.lt hO) (by omega));replace xo := Chg.more xo (grown_chg hgr) (by first | exact lt_gm (World.ownsRow.lt hO) (by omega) | simp);replace c1_2 := Chg.cell (grown_chg hgr) c1_2 (lt_off (World.ownsRow.lt hO) (by omega));replace c5_0 := Chg.cell (grown_chg hgr) c5_0 (lt_off (World.ownsRow.lt hO) (by omega));replace c5_1 := Chg.cell (grown_chg hgr) c5_1 (lt_off (World.ownsRow.lt hO) (by omega));replace c5_2 := Chg.cell (grown_chg hgr) c5_2 (lt_off (World.ownsRow.lt hO) (by omega))
      replace x0 := Chg.cell (grown_chg hgr) x0 (lt_off (World.ownsRow.lt hO) (by omega));have hO3 : OwnI w7 B0 v' (earlF n (i + 1) t) := by rw [earlF_snoc,← hend.choose_spec.1];unfold OwnI;rw [encI_add,List.length_append];exact hO2
      clear hO2;have hap := ap_grow hS.ap hG hbk;have hG3 : OwnI w7 B0 (.slice A7 G.length k7) G := ownsRow_chg hG (grown_chg hgr) (fun b hb => own_not fun q => hS.ap b q hb);have hX3 := FlX.grow1 hX hgr hbk;obtain ⟨A9,k9,hv9⟩ := OwnI.slice hO3;subst hv9;go_simp;refine hK _ _ ?_;clear hK K' gd;refine Wp.keep [1,2,4,5,6,7,8,9,10] ?_;rintro r31 ⟨e1_31,e2_31,e4_31,e5_31,e6_31,e7_31,e8_31,e9_31,e10_31,-⟩;simp [go_sem,e1_19,e2_19,e4_19,e5_19,e6_19,e7_19,e8_19,e9_19,e10_19,e11_19,e43] at e1_31 e2_31 e4_31 e5_31 e6_31 e7_31 e8_31 e9_31 e10_31;clear e1_19 e2_19 e4_19 e5_19 e6_19 e7_19 e8_19 e9_19 e10_19 e11_19 e43
      by_cases ha : a < 0
      ·skip;refine Wp.seq ?_;refine sRg fun K' gd hK => ?_;go_simp;refine hK _ _ ?_;clear hK K' gd;refine Wp.keep [1,2,4,5,6,7,8,9,10,72] ?_;rintro r32 ⟨e1_32,e2_32,e4_32,e5_32,e6_32,e7_32,e8_32,e9_32,e10_32,e72_32,-⟩;simp [go_sem,e1_31,e2_31,e4_31,e5_31,e6_31,e7_31,e8_31,e9_31,e10_31] at e1_32 e2_32 e4_32 e5_32 e6_32 e7_32 e8_32 e9_32 e10_32 e72_32;clear e1_31 e2_31 e4_31 e5_31 e6_31 e7_31 e8_31 e9_31 e10_31;refine cTt ?_;have hat : ∃ _u : Unit,atL n t i = -1 ∧ meritF (nowT t (i + 1) (atL n t)) n = M := ⟨(),by rcases hend.choose_spec.2 with ⟨-,q⟩ | ⟨q,-⟩;exact q;omega⟩;refine sRg fun K' gd hK => ?_;refine cu8 fun K1 hK1 => ?_;go_simp;refine hK1 _ _ ?_;clear hK1 K1;refine Wops.absA fun V80_10 n80 hV80_10 => ?_;obtain ⟨q80,hV80_10,s80,kV80_10,f80,r80⟩ := hV80_10;try simp only [q80] at kV80_10 f80 r80 ⊢
       replace f5 := hV80_10.fz c5_0 f5;replace hO3 := hO3.ext hV80_10;replace hG3 := hG3.ext hV80_10;replace hX3 := hX3.ext hV80_10;replace xw := xw.trans hV80_10;replace xo := Chg.ext xo hV80_10;replace c5_0 := hV80_10.cell c5_0;replace c5_1 := hV80_10.cell c5_1;replace c5_2 := hV80_10.cell c5_2;clear hV80_10 f80;have c80_0 := kV80_10 0 _ rfl;clear kV80_10;refine cu1 fun K1 hK1 => ?_;obtain ⟨v',w8,hrun,hG4,hgr,hbk⟩ := app_run2 ints_T hG3 ⟨n80,0,none⟩ 1 1 [.int .i64 F.id] 22 rfl (news_one c80_0) (one_one rfl) (by omega) (by omega);refine Wops.law rfl (exec_append2 rfl hrun (by go_simp) (by go_simp)) ?_;simp only [updO_some,Wops_nil];refine hK1 _ _ ?_;clear hK1 K1;have z33 := World.grownBy.size hgr;replace f5 := Chg.fz (grown_chg hgr) c5_0 f5 (lt_off (World.ownsRow.lt hG3) (by omega));replace xw := Chg.to xw (grown_chg hgr) (lt_ge (World.ownsRow.lt hG3) (by omega));replace xo := Chg.more xo (grown_chg hgr) (by first | exact lt_gm (World.ownsRow.lt hG3) (by omega) | simp);replace c5_0 := Chg.cell (grown_chg hgr) c5_0 (lt_off (World.ownsRow.lt hG3) (by omega));replace c5_1 := Chg.cell (grown_chg hgr) c5_1 (lt_off (World.ownsRow.lt hG3) (by omega));replace c5_2 := Chg.cell (grown_chg hgr) c5_2 (lt_off (World.ownsRow.lt hG3) (by omega));have hG5 : OwnI w8 B0 v' (G ++ [F.id]) := by unfold OwnI;rw [encI_add,List.length_append];exact hG4
       clear hG4;obtain ⟨G2,hG2⟩ : ∃ G2,∃ _u : Unit,G ++ [F.id] = G2 ∧ G2.length = G.length + 1 := ⟨_,(),rfl,by simp⟩;rw [hG2.choose_spec.1] at hG5;have hap5 := ap_grow (fun b q z => hap b z q) hO3 hbk;have hO5 : OwnI w8 B0 (.slice A9 (earlF n (i + 1) t).length k9) (earlF n (i + 1) t) := ownsRow_chg hO3 (grown_chg hgr) (fun b hb => own_not fun q => hap b hb q);have hX5 := FlX.grow2 hX3 hgr hbk;obtain ⟨A10,k10,hv10⟩ := OwnI.slice hG5;subst hv10;go_simp;refine hK _ _ ?_;clear hK K' gd;refine Wp.keep [1,2,4,5,6,7,8] ?_;rintro r34 ⟨e1_34,e2_34,e4_34,e5_34,e6_34,e7_34,e8_34,-⟩;simp [go_sem,e1_32,e2_32,e4_32,e5_32,e6_32,e7_32,e8_32,e9_32,e10_32,e72_32] at e1_34 e2_34 e4_34 e5_34 e6_34 e7_34 e8_34;clear e1_32 e2_32 e4_32 e5_32 e6_32 e7_32 e8_32 e9_32 e10_32 e72_32;obtain ⟨S6,hs6,hs7⟩ : ∃ S,S ≤ w8.heap.size ∧ w8.heap.size ≤ S := ⟨_,Nat.le_refl _,Nat.le_refl _⟩;have hp1 : ∀ b,(Value.slice A9 (earlF n (i + 1) t).length k9).ownBlock = some b → b < S6 := fun b q => by have := (World.ownsRow.lt hO5 b q).2;omega
       have hp2 : ∀ b,(Value.slice A10 G2.length k10).ownBlock = some b → b < S6 := fun b q => by have := (World.ownsRow.lt hG5 b q).2;omega
       have hn5 : n5 < S6 := by have := cell_lt c5_0;omega
       have hgl5 : G2.length ≤ G.length + 1 := by have := hG2.choose_spec.2;omega
       have hgm : ∃ _u : Unit,∀ j (hj : j < t.fl.length),t.fl[j].id ∈ G2 ↔ j < i + 1 ∧ atL n t j < 0 := ⟨(),by rw [← hG2.choose_spec.1,← hF.choose_spec];exact gone_more hg hi (by rw [hat.choose_spec.1];decide) hS.g⟩;refine sRg fun K' gd hK => ?_;refine cu3 fun K1 hK1 => ?_;go_simp;refine Wcall (.inl rfl) (rlessN_c t n i G2 A c A6 c6 _ _ hP hat.choose_spec.1 hgm.choose_spec (by omega) hX5.flawsV (OwnI.intsB hG5).ints) ?_;rintro v w9 ⟨⟨A11,c11,rfl,hX60⟩,hE⟩;have hX6 := hX60.less hs6;clear hX60;go_simp;refine hK1 _ _ ?_;clear hK1 K1;replace f5 := hE.fz c5_0 f5;replace hO5 := hO5.ext hE;replace hG5 := hG5.ext hE;replace xw := xw.trans hE;replace xo := Chg.ext xo hE;replace c5_0 := hE.cell c5_0;replace c5_1 := hE.cell c5_1;replace c5_2 := hE.cell c5_2;clear hE;refine cu1 fun K1 hK1 => ?_;go_simp;refine hK1 _ _ ?_;clear hK1 K1;refine Wops.absS (b := n5) (i := 0) [_,_,_] (somes [cellVal c5_0,cellVal c5_1,cellVal c5_2] (by simp) (by intro j v hj;match j,hj with | 0,hj => (simp at hj;subst hj;exact c5_0) | 1,hj => (simp at hj;subst hj;exact c5_1) | 2,hj => (simp at hj;subst hj;exact c5_2))) fun P11 hP11 => ?_;replace f5 := hP11.frz f5;replace hO5 := hO5.put hP11 (by omega)
       replace hG5 := hG5.put hP11 (by omega);replace hX6 := hX6.put hP11 (by omega);replace xw := Put.to xw hP11 (by omega);replace xo := Put.more xo hP11 (.inr (by simp));clear c5_0;clear c5_1;clear c5_2;have c5_0 := hP11.new 0 _ rfl;try simp only [Nat.reduceAdd,Nat.zero_add,Nat.add_zero] at c5_0
       have c5_1 := hP11.new 1 _ rfl;try simp only [Nat.reduceAdd,Nat.zero_add,Nat.add_zero] at c5_1
       have c5_2 := hP11.new 2 _ rfl;try simp only [Nat.reduceAdd,Nat.zero_add,Nat.add_zero] at c5_2
       clear hP11;try simp only [Wops_nil,updO_some,updO_none]
       refine hK _ _ ?_;clear hK K' gd;refine Wp.keep [1,2,4,5,6,7,8] ?_;rintro r36 ⟨e1_36,e2_36,e4_36,e5_36,e6_36,e7_36,e8_36,-⟩;simp [go_sem,e1_34,e2_34,e4_34,e5_34,e6_34,e7_34,e8_34] at e1_36 e2_36 e4_36 e5_36 e6_36 e7_36 e8_36;clear e1_34 e2_34 e4_34 e5_34 e6_34 e7_34 e8_34;refine Wp.exit ?_;refine tEx ?_;refine blockK_here ?_;refine tNo ?_;refine lRg fun K' gd hK => ?_;go_simp;refine hK _ _ ?_;clear hK K' gd;refine Ends.keep [1,2,4,5,6,7,8] ?_;rintro r37 ⟨e1_37,e2_37,e4_37,e5_37,e6_37,e7_37,e8_37,-⟩;simp [go_sem,e1_36,e2_36,e4_36,e5_36,e6_36,e7_36,e8_36] at e1_37 e2_37 e4_37 e5_37 e6_37 e7_37 e8_37;clear e1_36 e2_36 e4_36 e5_36 e6_36 e7_36 e8_36;refine Ends.mk ?_;refine thenK_normal ⟨by omega,⟨by rw [e1_37,e1_11],by rw [e2_37,e2_11],by rw [e5_37,e5_11],trivial⟩,rfl,⟨xo,f5⟩,?_⟩;exact ⟨_,_,M,G2,A11,c11,by rw [e8_37,IntWalk.i64_in _ (by omega)];rfl,e4_37,e6_37,e7_37,c5_0,c5_1,c5_2,hO5,hG5,(FlX.mk (RowsB.rowsP hX6)).mono fun b hb _ => ⟨fun q => by have := hp1 b q;omega,fun q => by have := hp2 b q;omega,by omega⟩,⟨fun b q z => hap5 b z q,hS.e.next hP.opt hi,hat.choose_spec.2.symm,hm0,by omega,by omega,hgm.choose_spec⟩⟩
      ·skip;have hat : ∃ _u : Unit,a = atL n t i ∧ meritF (nowT t (i + 1) (atL n t)) n = M + 1048576 := ⟨(),hend.choose_spec.1,by rcases hend.choose_spec.2 with ⟨q,-⟩ | ⟨-,q⟩;exact absurd q ha;exact q⟩;refine Wp.seq ?_;refine sRg fun K' gd hK => ?_;go_simp;refine hK _ _ ?_;clear hK K' gd;refine Wp.keep [1,2,4,5,6,7,8,9,10,72] ?_;rintro r38 ⟨e1_38,e2_38,e4_38,e5_38,e6_38,e7_38,e8_38,e9_38,e10_38,e72_38,-⟩;simp [go_sem,e1_31,e2_31,e4_31,e5_31,e6_31,e7_31,e8_31,e9_31,e10_31] at e1_38 e2_38 e4_38 e5_38 e6_38 e7_38 e8_38 e9_38 e10_38 e72_38;clear e1_31 e2_31 e4_31 e5_31 e6_31 e7_31 e8_31 e9_31 e10_31;refine cFf ?_;obtain ⟨S6,hs6,hs7⟩ : ∃ S,S ≤ w7.heap.size ∧ w7.heap.size ≤ S := ⟨_,Nat.le_refl _,Nat.le_refl _⟩;have hp1 : ∀ b,(Value.slice A9 (earlF n (i + 1) t).length k9).ownBlock = some b → b < S6 := fun b q => by have := (World.ownsRow.lt hO3 b q).2;omega
       have hp2 : ∀ b,(Value.slice A7 G.length k7).ownBlock = some b → b < S6 := fun b q => by have := (World.ownsRow.lt hG3 b q).2;omega
       have hn5 : n5 < S6 := by have := cell_lt c5_0;omega
       refine skN ?_;refine sRg fun K' gd hK => ?_;refine cu6 fun K1 hK1 => ?_;go_simp;refine Wcall (.inl rfl) (rwithE_c t n i k a A c A6 c6 _ hP hi hk hke.choose_spec (by omega) hat.choose_spec.1 hX3.flawsV) ?_;rintro v w9 ⟨⟨b3,c4,rfl,hb1,hb4,hR⟩,hE⟩;go_simp;refine hK1 _ _ ?_;clear hK1 K1;replace f5 := hE.fz c5_0 f5;replace hO3 := hO3.ext hE;replace hG3 := hG3.ext hE;replace xw := xw.trans hE;replace xo := Chg.ext xo hE;replace c5_0 := hE.cell c5_0;replace c5_1 := hE.cell c5_1;replace c5_2 := hE.cell c5_2;clear hE;refine cu1 fun K1 hK1 => ?_;go_simp;refine hK1 _ _ ?_;clear hK1 K1;refine Wops.absS (b := n5) (i := 0) [_,_,_] (somes [cellVal c5_0,cellVal c5_1,cellVal c5_2] (by simp) (by intro j v hj;match j,hj with | 0,hj => (simp at hj;subst hj;exact c5_0) | 1,hj => (simp at hj;subst hj;exact c5_1) | 2,hj => (simp at hj;subst hj;exact c5_2))) fun P12 hP12 => ?_;replace f5 := hP12.frz f5;replace hO3 := hO3.put hP12 (by omega);replace hG3 := hG3.put hP12 (by omega);replace hR := hR.put hP12 (by omega);replace xw := Put.to xw hP12 (by omega);replace xo := Put.more xo hP12 (.inr (by simp));clear c5_0;clear c5_1;clear c5_2
       have c5_0 := hP12.new 0 _ rfl;try simp only [Nat.reduceAdd,Nat.zero_add,Nat.add_zero] at c5_0
       have c5_1 := hP12.new 1 _ rfl;try simp only [Nat.reduceAdd,Nat.zero_add,Nat.add_zero] at c5_1
       have c5_2 := hP12.new 2 _ rfl;try simp only [Nat.reduceAdd,Nat.zero_add,Nat.add_zero] at c5_2
       clear hP12;try simp only [Wops_nil,updO_some,updO_none]
       refine hK _ _ ?_;clear hK K' gd;refine Wp.keep [1,2,4,5,6,7,8] ?_;rintro r40 ⟨e1_40,e2_40,e4_40,e5_40,e6_40,e7_40,e8_40,-⟩;simp [go_sem,e1_38,e2_38,e4_38,e5_38,e6_38,e7_38,e8_38,e9_38,e10_38,e72_38] at e1_40 e2_40 e4_40 e5_40 e6_40 e7_40 e8_40;clear e1_38 e2_38 e4_38 e5_38 e6_38 e7_38 e8_38 e9_38 e10_38 e72_38;refine lRg fun K' gd hK => ?_;go_simp;refine hK _ _ ?_;clear hK K' gd;refine Ends.keep [1,2,4,5,6,7,8] ?_;rintro r41 ⟨e1_41,e2_41,e4_41,e5_41,e6_41,e7_41,e8_41,-⟩;simp [go_sem,e1_40,e2_40,e4_40,e5_40,e6_40,e7_40,e8_40] at e1_41 e2_41 e4_41 e5_41 e6_41 e7_41 e8_41;clear e1_40 e2_40 e4_40 e5_40 e6_40 e7_40 e8_40;refine Ends.mk ?_;refine bNo ?_;refine tNo ?_;refine lRg fun K' gd hK => ?_;go_simp;refine hK _ _ ?_;clear hK K' gd;refine Ends.keep [1,2,4,5,6,7,8] ?_;rintro r42 ⟨e1_42,e2_42,e4_42,e5_42,e6_42,e7_42,e8_42,-⟩;simp [go_sem,e1_41,e2_41,e4_41,e5_41,e6_41,e7_41,e8_41] at e1_42 e2_42 e4_42 e5_42 e6_42 e7_42 e8_42;clear e1_41 e2_41 e4_41 e5_41 e6_41 e7_41 e8_41;refine Ends.mk ?_;refine thenK_normal ⟨by omega,⟨by rw [e1_42,e1_11],by rw [e2_42,e2_11],by rw [e5_42,e5_11],trivial⟩,rfl,⟨xo,f5⟩,?_⟩;exact ⟨_,_,M + 1048576,G,_,c4,by rw [e8_42,IntWalk.i64_in _ (by omega)];rfl,by rw [e4_42,IntWalk.i64_in _ (by omega)],e6_42,e7_42,c5_0,c5_1,c5_2,hO3,hG3,(RowG.flX hR hb4 (show S6 ≤ b3 by omega)).mono fun b hb _ => ⟨fun q => by have := hp1 b q;omega,fun q => by have := hp2 b q;omega,by omega⟩,⟨hap,hS.e.next hP.opt hi,hat.choose_spec.2.symm,by omega,by omega,by omega,gone_same (by rw [← hat.choose_spec.1];omega) hS.g⟩⟩
   ·skip;have hil : ¬ (i : Int) < (t.fl.length : Int) := by omega
    have hii : ∃ _u : Unit,i = t.fl.length := ⟨(),by omega⟩;refine Wp.seq ?_;refine sRg fun K' gd hK => ?_;go_simp;refine hK _ _ ?_;clear hK K' gd;refine Wp.keep [1,2,4,5,6,7,8,25] ?_;rintro r43 ⟨e1_43,e2_43,e4_43,e5_43,e6_43,e7_43,e8_43,e25_43,-⟩;simp [go_sem,e1_12,e2_12,e4,e5_12,e6,e7,e8] at e1_43 e2_43 e4_43 e5_43 e6_43 e7_43 e8_43 e25_43;clear e1_12 e2_12 e4 e5_12 e6 e7 e8;refine cFf ?_;refine Wp.exit ?_;refine tEx ?_;refine tEx ?_;refine blockK_here ?_;refine tNo ?_;refine sRg fun K' gd hK => ?_;refine cu3 fun K1 hK1 => ?_;go_simp;refine hK1 _ _ ?_;clear hK1 K1;refine Wops.absS (b := n2) (i := 0) [_,_] (somes [cellVal c2_0,cellVal c2_1] (by simp) (by intro j v hj;match j,hj with | 0,hj => (simp at hj;subst hj;exact c2_0) | 1,hj => (simp at hj;subst hj;exact c2_1))) fun P13 hP13 => ?_;replace hO := hO.put hP13 (by omega);replace xw := Put.to xw hP13 (by omega);clear xo;clear c2_0;clear c2_1;have c2_0 := hP13.new 0 _ rfl;try simp only [Nat.reduceAdd,Nat.zero_add,Nat.add_zero] at c2_0
    have c2_1 := hP13.new 1 _ rfl;try simp only [Nat.reduceAdd,Nat.zero_add,Nat.add_zero] at c2_1
    clear hP13;try simp only [Wops_nil,updO_some,updO_none]
    refine hK _ _ ?_;clear hK K' gd;refine Wp.keep [2] ?_;rintro r44 ⟨e2_44,-⟩;simp [go_sem,e1_43,e2_43,e4_43,e5_43,e6_43,e7_43,e8_43,e25_43] at e2_44;clear e1_43 e2_43 e4_43 e5_43 e6_43 e7_43 e8_43 e25_43;refine Wp.ret ?_;refine endK_cell (v := .agg #[cellVal c2_0,cellVal c2_1]) Tryz.results35 (by decide) e2_44 (by dsimp only [cellVal];go_simp) ?_
    dsimp only [cellVal]
    exact ⟨⟨_,by rw [h0],by rw [hLL.choose_spec.2.2 h0,← hii.choose_spec];exact (OwnI.intsB hO).less (by omega)⟩,xw⟩
 ·skip;refine Wp.seq ?_;refine sRg fun K' gd hK => ?_;go_simp;refine hK _ _ ?_;clear hK K' gd;refine Wp.keep [1,2,3,15] ?_;rintro r45 ⟨e1_45,e2_45,e3_45,e15_45,-⟩;simp [go_sem,e1_4,e2_4,e3_4] at e1_45 e2_45 e3_45 e15_45;clear e1_4 e2_4 e3_4;refine cTt ?_;refine sRg fun K' gd hK => ?_;refine cu3 fun K1 hK1 => ?_;go_simp;refine hK1 _ _ ?_;clear hK1 K1;refine Wops.absS (b := n2) (i := 0) [_,_] (somes [cellVal c2_0,cellVal c2_1] (by simp) (by intro j v hj;match j,hj with | 0,hj => (simp at hj;subst hj;exact c2_0) | 1,hj => (simp at hj;subst hj;exact c2_1))) fun P14 hP14 => ?_;replace xw := Put.to xw hP14 (by omega);clear c2_0;clear c2_1;have c2_0 := hP14.new 0 _ rfl;try simp only [Nat.reduceAdd,Nat.zero_add,Nat.add_zero] at c2_0
  have c2_1 := hP14.new 1 _ rfl;try simp only [Nat.reduceAdd,Nat.zero_add,Nat.add_zero] at c2_1
  clear hP14;try simp only [Wops_nil,updO_some,updO_none]
  refine hK _ _ ?_;clear hK K' gd;refine Wp.keep [2] ?_;rintro r46 ⟨e2_46,-⟩;simp [go_sem,e1_45,e2_45,e3_45,e15_45] at e2_46;clear e1_45 e2_45 e3_45 e15_45;refine Wp.ret ?_;refine tRe ?_;refine endK_cell (v := .agg #[cellVal c2_0,cellVal c2_1]) Tryz.results35 (by decide) e2_46 (by dsimp only [cellVal];go_simp) ?_
  dsimp only [cellVal]
  exact ⟨⟨_,rfl,by rw [hLL.choose_spec.2.1 h0];exact IntsB.nil _ _⟩,xw⟩
theorem sureL_len {t : Tr} (hf : fewT t) : (sureL t).length ≤ 60 ∧ (someL t).length ≤ 60 := by
 unfold sureL someL;have h1 := hf.2;have := sure_len t t.n.toNat t.fl.length
 constructor
 ·split
  ·omega
  ·exact Nat.zero_le _
 ·split
  ·omega
  ·exact Nat.zero_le _
theorem earlL_len {t : Tr} (hf : fewT t) : (earlL t).length ≤ 60 := by
 unfold earlL;have h1 := hf.2
 split
 ·rw [earlF_len];omega
 ·exact Nat.zero_le _
theorem daysR_len {t : Tr} {id : Int} (hf : fewT t) : (daysR t id).length ≤ 60 := by
 unfold daysR
 split
 ·rename_i h
  unfold daysE at h
  by_cases h0 : checkT t = 0
  ·rw [if_neg (not_not_intro h0)] at h;have hp : ¬ posF t.fl id < 0 := fun q => by rw [if_pos q] at h;omega
   have hP := (checkT_zero.1 h0).plan (few_len hf h0)
   rcases posF_cases t.fl id with ⟨i,h1,h2,-⟩ | ⟨h1,-⟩
   ·rw [h2,Int.toNat_natCast];exact daysL_len hP h1
   ·omega
  ·rw [if_pos h0] at h;exact absurd h h0
 ·exact Nat.zero_le _
theorem sure_law (v : Value) (t : Tr) (id : Int) (w : World) (hV : TourV w w.heap.size v t) :
  CallsV Tryz.prog 4 #[v,.int .i64 id] w fun v w' => v = .bool true ∧ Ext w w' := by
 obtain ⟨A,c,A2,c2,rfl,hCl,hF⟩ := hV.open';clear hCl hF;obtain ⟨e,he⟩ : ∃ e : Int,∃ _u : Unit,checkT t = e := ⟨_,(),rfl⟩;obtain ⟨f,hf9⟩ : ∃ e : Int,∃ _u : Unit,daysE t id = e := ⟨_,(),rfl⟩;refine Wp.fn Tryz.func4 rfl Tryz.ntmps4 (by simp) ?_;have xw := Ext.refl w;refine Wp.keep [0,1] ?_;rintro r1 ⟨e0_1,e1_1,-⟩;simp [go_sem] at e0_1 e1_1;refine sRg fun K' gd hK => ?_;refine cu1 fun K1 hK1 => ?_;go_simp;refine hK1 _ _ ?_;clear hK1 K1;refine Wops.absA fun V2_1 n2 hV2_1 => ?_;obtain ⟨q2,hV2_1,s2,kV2_1,f2,r2⟩ := hV2_1;try simp only [q2] at kV2_1 f2 r2 ⊢
 replace xw := xw.trans hV2_1;have c2_0 := kV2_1 0 _ rfl;have c2_1 := kV2_1 1 _ rfl;have c2_2 := kV2_1 2 _ rfl;clear kV2_1 hV2_1;clear r2;go_simp;refine hK _ _ ?_;clear hK K' gd;refine Wp.keep [1,2] ?_;rintro r2 ⟨e1_2,e2_2,-⟩;simp [go_sem,e0_1,e1_1] at e1_2 e2_2;clear e0_1 e1_1;refine sRg fun K' gd hK => ?_;refine cu1 fun K1 hK1 => ?_;go_simp;refine Wcall (.inl rfl) (head_c _) ?_;rintro v w2 ⟨rfl,hE⟩;go_simp;refine hK1 _ _ ?_;clear hK1 K1;replace xw := xw.trans hE;replace c2_0 := hE.cell c2_0;replace c2_1 := hE.cell c2_1;replace c2_2 := hE.cell c2_2;clear hE;go_simp;refine hK _ _ ?_;clear hK K' gd;refine Wp.keep [1,2,5] ?_;rintro r4 ⟨e1_4,e2_4,e5_4,-⟩;simp [go_sem,e1_2,e2_2] at e1_4 e2_4 e5_4;clear e1_2 e2_2
 by_cases hfw : fewT t
 ·skip;have hf : FitT t := few_fit hfw;refine Wp.seq ?_;refine Wp.cut (fun ρ ds W => AllEq [1,2,5] ρ r4 ∧ ds = [] ∧ (Ext w2 W) ∧ (True)) ?_ ?_
  ·have xq2 := Ext.refl w2
   by_cases hn1 : (20 : Int) < t.n
   ·skip
    by_cases hn2 : t.n ≤ 60
    ·skip;refine sRh fun K' gd hK hg => ?_;have g3 : gd 3 = some 21 := hg 3;have g7 : gd 7 = some 25 := hg 7;clear hg;refine cu2 fun K1 hK1 => ?_;go_simp;refine Wcall (.inl rfl) (few_c t _ _ (hV.ext xw)) ?_;rintro v w3 ⟨rfl,hE⟩;go_simp;refine hK1 _ _ ?_;clear hK1 K1;replace xw := xw.trans hE;replace xq2 := xq2.trans hE;replace c2_0 := hE.cell c2_0;clear hE;go_simp;refine hK _ _ ?_;clear hK K' gd g3 g7;refine Wp.keep [1,2,5,30] ?_;rintro r6 ⟨e1_6,e2_6,e5_6,e30_6,-⟩;simp [go_sem,e1_4,e2_4,e5_4] at e1_6 e2_6 e5_6 e30_6;refine cTt ?_;refine sRg fun K' gd hK => ?_;go_simp;refine hK _ _ ?_;clear hK K' gd;refine Wp.keep [4] ?_;rintro r7 ⟨e4_7,-⟩;simp [go_sem,e1_6,e2_6,e5_6,e30_6] at e4_7;clear e1_6 e2_6 e5_6 e30_6;refine Wp.ret ?_;refine cutK_ret ?_;refine tRe ?_;refine endK_tmp Tryz.results4 (by decide) ?_;rw [e4_7];exact ⟨rfl,xw⟩
    ·skip;refine sRh fun K' gd hK hg => ?_;have g3 : gd 3 = some 21 := hg 3;have g7 : gd 7 = some 25 := hg 7;clear hg;refine cu2 fun K1 hK1 => ?_;go_simp;refine Wcall (.inl rfl) (few_c t _ _ (hV.ext xw)) ?_;rintro v w3 ⟨rfl,hE⟩;go_simp;refine hK1 _ _ ?_;clear hK1 K1;replace xw := xw.trans hE;replace xq2 := xq2.trans hE;replace c2_0 := hE.cell c2_0;clear hE;go_simp;refine hK _ _ ?_;clear hK K' gd g3 g7;refine Wp.keep [1,2,5,30] ?_;rintro r9 ⟨e1_9,e2_9,e5_9,e30_9,-⟩;simp [go_sem,e1_4,e2_4,e5_4] at e1_9 e2_9 e5_9 e30_9;refine cFf ?_;refine Wp.skip ?_;refine cutK_normal ⟨⟨by rw [e1_9,e1_4],by rw [e2_9,e2_4],by rw [e5_9,e5_4],trivial⟩,rfl,xq2,?_⟩
     trivial
   ·skip;refine sRh fun K' gd hK hg => ?_;have g3 : gd 3 = some 21 := hg 3;have g7 : gd 7 = some 25 := hg 7;clear hg;refine cu2 fun K1 hK1 => ?_;go_simp;refine Wcall (.inl rfl) (few_c t _ _ (hV.ext xw)) ?_;rintro v w3 ⟨rfl,hE⟩;go_simp;refine hK1 _ _ ?_;clear hK1 K1;replace xw := xw.trans hE;replace xq2 := xq2.trans hE;replace c2_0 := hE.cell c2_0;clear hE;go_simp;refine hK _ _ ?_;clear hK K' gd g3 g7;refine Wp.keep [1,2,5,30] ?_;rintro r11 ⟨e1_11,e2_11,e5_11,e30_11,-⟩;simp [go_sem,e1_4,e2_4,e5_4] at e1_11 e2_11 e5_11 e30_11;refine cFf ?_;refine Wp.skip ?_;refine cutK_normal ⟨⟨by rw [e1_11,e1_4],by rw [e2_11,e2_4],by rw [e5_11,e5_4],trivial⟩,rfl,xq2,?_⟩
    trivial
  ·rintro r12 _ W2 ⟨hA,rfl,xq2,-⟩;obtain ⟨e1_12,e2_12,e5_12,-⟩ := hA;rw [e1_4] at e1_12;rw [e2_4] at e2_12;rw [e5_4] at e5_12;clear e1_4 e2_4 e5_4;replace xw := Ext.trans xw xq2;replace c2_0 := Ext.cell xq2 c2_0;replace c2_1 := Ext.cell xq2 c2_1;replace c2_2 := Ext.cell xq2 c2_2;refine tNo ?_;refine sRg fun K' gd hK => ?_;refine cu2 fun K1 hK1 => ?_;go_simp;refine Wcall (.inl rfl) (Surely_c t _ _ (hV.ext xw) hf (few_len hfw)) ?_;rintro v w4 ⟨⟨la,lb,hv,hI1,hI2⟩,hE⟩;rw [he.choose_spec] at hv;subst hv;obtain ⟨A3,c3,rfl⟩ := hI1.slice;obtain ⟨A4,c4,rfl⟩ := hI2.slice;go_simp;refine hK1 _ _ ?_;clear hK1 K1;replace xw := xw.trans hE;replace c2_0 := hE.cell c2_0;replace c2_1 := hE.cell c2_1;replace c2_2 := hE.cell c2_2;clear hE;go_simp;refine hK _ _ ?_;clear hK K' gd;refine Wp.keep [1,2,5,6,7,8] ?_;rintro r14 ⟨e1_14,e2_14,e5_14,e6_14,e7_14,e8_14,-⟩;simp [go_sem,e1_12,e2_12,e5_12] at e1_14 e2_14 e5_14 e6_14 e7_14 e8_14;clear e1_12 e2_12 e5_12;refine sRg fun K' gd hK => ?_;refine cu2 fun K1 hK1 => ?_;go_simp;refine Wcall (.inl rfl) (rSurely_c t _ _ (hV.ext xw) hf (few_len hfw)) ?_;rintro v w5 ⟨⟨lc,ld,hv,hI3,hI4⟩,hE⟩
   rw [he.choose_spec] at hv;subst hv;obtain ⟨A5,c5,rfl⟩ := hI3.slice;obtain ⟨A6,c6,rfl⟩ := hI4.slice;go_simp;refine hK1 _ _ ?_;clear hK1 K1;replace hI1 := hI1.ext hE;replace hI2 := hI2.ext hE;replace xw := xw.trans hE;replace c2_0 := hE.cell c2_0;replace c2_1 := hE.cell c2_1;replace c2_2 := hE.cell c2_2;clear hE;refine cu2 fun K1 hK1 => ?_;go_simp;refine hK1 _ _ ?_;clear hK1 K1;refine Wops.absA fun V9_3 n9 hV9_3 => ?_;obtain ⟨q9,hV9_3,s9,kV9_3,f9,r9⟩ := hV9_3;try simp only [q9] at kV9_3 f9 r9 ⊢
   replace hI1 := hI1.ext hV9_3;replace hI2 := hI2.ext hV9_3;replace hI3 := hI3.ext hV9_3;replace hI4 := hI4.ext hV9_3;replace xw := xw.trans hV9_3;replace c2_0 := hV9_3.cell c2_0;replace c2_1 := hV9_3.cell c2_1;replace c2_2 := hV9_3.cell c2_2;have c9_0 := kV9_3 0 _ rfl;have c9_1 := kV9_3 1 _ rfl;have c9_2 := kV9_3 2 _ rfl;clear kV9_3 hV9_3;clear r9;try simp only [Wops_nil,updO_some,updO_none]
   refine hK _ _ ?_;clear hK K' gd;refine Wp.keep [1,2,5,6,7,8,9] ?_;rintro r16 ⟨e1_16,e2_16,e5_16,e6_16,e7_16,e8_16,e9_16,-⟩;simp [go_sem,e1_14,e2_14,e5_14,e6_14,e7_14,e8_14] at e1_16 e2_16 e5_16 e6_16 e7_16 e8_16 e9_16;clear e1_14 e2_14 e5_14 e6_14 e7_14 e8_14;refine sRg fun K' gd hK => ?_;refine cu3 fun K1 hK1 => ?_;go_simp;refine Wcall (.inl rfl) (Days_c t id _ _ (hV.ext xw) hf (few_len hfw)) ?_;rintro v w6 ⟨⟨lg,hv,hI5⟩,hE⟩;rw [hf9.choose_spec] at hv;subst hv;obtain ⟨A7,c7,rfl⟩ := hI5.slice;go_simp;refine hK1 _ _ ?_;clear hK1 K1;replace hI1 := hI1.ext hE;replace hI2 := hI2.ext hE;replace hI3 := hI3.ext hE;replace hI4 := hI4.ext hE;replace xw := xw.trans hE;replace c2_0 := hE.cell c2_0;replace c2_1 := hE.cell c2_1;replace c2_2 := hE.cell c2_2;replace c9_0 := hE.cell c9_0;replace c9_1 := hE.cell c9_1;replace c9_2 := hE.cell c9_2;clear hE;go_simp;refine hK _ _ ?_;clear hK K' gd;refine Wp.keep [1,2,5,6,7,8,9,10,11] ?_;rintro r18 ⟨e1_18,e2_18,e5_18,e6_18,e7_18,e8_18,e9_18,e10_18,e11_18,-⟩;simp [go_sem,e1_16,e2_16,e5_16,e6_16,e7_16,e8_16,e9_16] at e1_18 e2_18 e5_18 e6_18 e7_18 e8_18 e9_18 e10_18 e11_18;clear e1_16 e2_16 e5_16 e6_16 e7_16 e8_16 e9_16;refine sRg fun K' gd hK => ?_;refine cu3 fun K1 hK1 => ?_;go_simp;refine Wcall (.inl rfl) (rDays_c t id _ _ (hV.ext xw) hf (few_len hfw)) ?_;rintro v w7 ⟨⟨lh,hv,hI6⟩,hE⟩;rw [hf9.choose_spec] at hv;subst hv;obtain ⟨A8,c8,rfl⟩ := hI6.slice;go_simp;refine hK1 _ _ ?_;clear hK1 K1;replace hI1 := hI1.ext hE;replace hI2 := hI2.ext hE;replace hI3 := hI3.ext hE;replace hI4 := hI4.ext hE;replace hI5 := hI5.ext hE;replace xw := xw.trans hE;replace c2_0 := hE.cell c2_0;replace c2_1 := hE.cell c2_1;replace c2_2 := hE.cell c2_2;replace c9_0 := hE.cell c9_0;replace c9_1 := hE.cell c9_1;replace c9_2 := hE.cell c9_2;clear hE;refine cu2 fun K1 hK1 => ?_;go_simp;refine hK1 _ _ ?_;clear hK1 K1;refine Wops.absA fun V12_4 n12 hV12_4 => ?_;obtain ⟨q12,hV12_4,s12,kV12_4,f12,r12⟩ := hV12_4;try simp only [q12] at kV12_4 f12 r12 ⊢
   replace hI1 := hI1.ext hV12_4;replace hI2 := hI2.ext hV12_4;replace hI3 := hI3.ext hV12_4;replace hI4 := hI4.ext hV12_4;replace hI5 := hI5.ext hV12_4;replace hI6 := hI6.ext hV12_4;replace xw := xw.trans hV12_4;replace c2_0 := hV12_4.cell c2_0;replace c2_1 := hV12_4.cell c2_1;replace c2_2 := hV12_4.cell c2_2;replace c9_0 := hV12_4.cell c9_0;replace c9_1 := hV12_4.cell c9_1;replace c9_2 := hV12_4.cell c9_2;have c12_0 := kV12_4 0 _ rfl;have c12_1 := kV12_4 1 _ rfl;clear kV12_4 hV12_4;clear r12;try simp only [Wops_nil,updO_some,updO_none]
   refine hK _ _ ?_;clear hK K' gd;refine Wp.keep [2,5,6,7,8,9,10,11,12] ?_;rintro r20 ⟨e2_20,e5_20,e6_20,e7_20,e8_20,e9_20,e10_20,e11_20,e12_20,-⟩;simp [go_sem,e1_18,e2_18,e5_18,e6_18,e7_18,e8_18,e9_18,e10_18,e11_18] at e2_20 e5_20 e6_20 e7_20 e8_20 e9_20 e10_20 e11_20 e12_20;clear e1_18 e2_18 e5_18 e6_18 e7_18 e8_18 e9_18 e10_18 e11_18;refine sRg fun K' gd hK => ?_;refine cu2 fun K1 hK1 => ?_;go_simp;refine Wcall (.inl rfl) (Earliest_c t _ _ (hV.ext xw) hf (few_len hfw)) ?_;rintro v w8 ⟨⟨li,hv,hI7⟩,hE⟩;rw [he.choose_spec] at hv;subst hv;obtain ⟨A9,c9,rfl⟩ := hI7.slice;go_simp;refine hK1 _ _ ?_;clear hK1 K1;replace hI1 := hI1.ext hE;replace hI2 := hI2.ext hE;replace hI3 := hI3.ext hE;replace hI4 := hI4.ext hE;replace hI5 := hI5.ext hE;replace hI6 := hI6.ext hE;replace xw := xw.trans hE;replace c2_0 := hE.cell c2_0;replace c2_1 := hE.cell c2_1;replace c2_2 := hE.cell c2_2;replace c9_0 := hE.cell c9_0;replace c9_1 := hE.cell c9_1;replace c9_2 := hE.cell c9_2;replace c12_0 := hE.cell c12_0;replace c12_1 := hE.cell c12_1;clear hE;go_simp;refine hK _ _ ?_;clear hK K' gd;refine Wp.keep [2,5,6,7,8,9,10,11,12,13,14] ?_;rintro r22 ⟨e2_22,e5_22,e6_22,e7_22,e8_22,e9_22,e10_22,e11_22,e12_22,e13_22,e14_22,-⟩
   simp [go_sem,e2_20,e5_20,e6_20,e7_20,e8_20,e9_20,e10_20,e11_20,e12_20] at e2_22 e5_22 e6_22 e7_22 e8_22 e9_22 e10_22 e11_22 e12_22 e13_22 e14_22;clear e2_20 e5_20 e6_20 e7_20 e8_20 e9_20 e10_20 e11_20 e12_20;refine sRg fun K' gd hK => ?_;refine cu2 fun K1 hK1 => ?_;go_simp;refine Wcall (.inl rfl) (rEarliest_c t _ _ (hV.ext xw) hf (few_len hfw)) ?_;rintro v w9 ⟨⟨lj,hv,hI8⟩,hE⟩;rw [he.choose_spec] at hv;subst hv;obtain ⟨A10,c10,rfl⟩ := hI8.slice;go_simp;refine hK1 _ _ ?_;clear hK1 K1;replace hI1 := hI1.ext hE;replace hI2 := hI2.ext hE;replace hI3 := hI3.ext hE;replace hI4 := hI4.ext hE;replace hI5 := hI5.ext hE;replace hI6 := hI6.ext hE;replace hI7 := hI7.ext hE;replace xw := xw.trans hE;replace c9_0 := hE.cell c9_0;replace c9_1 := hE.cell c9_1;replace c9_2 := hE.cell c9_2;replace c12_0 := hE.cell c12_0;replace c12_1 := hE.cell c12_1;clear hE;refine cu2 fun K1 hK1 => ?_;go_simp;refine hK1 _ _ ?_;clear hK1 K1;refine Wops.absA fun V15_5 n15 hV15_5 => ?_;obtain ⟨q15,hV15_5,s15,kV15_5,f15,r15⟩ := hV15_5;try simp only [q15] at kV15_5 f15 r15 ⊢
   replace hI1 := hI1.ext hV15_5;replace hI2 := hI2.ext hV15_5;replace hI3 := hI3.ext hV15_5;replace hI4 := hI4.ext hV15_5;replace hI5 := hI5.ext hV15_5;replace hI6 := hI6.ext hV15_5;replace hI7 := hI7.ext hV15_5;replace hI8 := hI8.ext hV15_5;replace xw := xw.trans hV15_5;replace c9_0 := hV15_5.cell c9_0;replace c9_1 := hV15_5.cell c9_1;replace c9_2 := hV15_5.cell c9_2;replace c12_0 := hV15_5.cell c12_0;replace c12_1 := hV15_5.cell c12_1;have c15_0 := kV15_5 0 _ rfl;have c15_1 := kV15_5 1 _ rfl;clear kV15_5 hV15_5;clear r15;try simp only [Wops_nil,updO_some,updO_none]
   refine hK _ _ ?_;clear hK K' gd;refine Wp.keep [5,6,7,8,9,10,11,12,13,14,15] ?_;rintro r24 ⟨e5_24,e6_24,e7_24,e8_24,e9_24,e10_24,e11_24,e12_24,e13_24,e14_24,e15_24,-⟩;simp [go_sem,e2_22,e5_22,e6_22,e7_22,e8_22,e9_22,e10_22,e11_22,e12_22,e13_22,e14_22] at e5_24 e6_24 e7_24 e8_24 e9_24 e10_24 e11_24 e12_24 e13_24 e14_24 e15_24;clear e2_22 e5_22 e6_22 e7_22 e8_22 e9_22 e10_22 e11_22 e12_22 e13_22 e14_22;refine sRh fun K' gd hK hg => ?_;have g4 : gd 4 = some 60 := hg 4;have g10 : gd 10 = some 66 := hg 10;have g16 : gd 16 = some 72 := hg 16;clear hg;refine cu4 fun K1 hK1 => ?_;go_simp;refine Wcall (.inl rfl) (sameI_T rfl _ hI1.ints hI3.ints (by have := sureL_len hfw;omega)) ?_;rintro v w10 ⟨rfl,hE⟩;go_simp;refine hK1 _ _ ?_;clear hK1 K1;replace hI2 := hI2.ext hE;replace hI4 := hI4.ext hE;replace hI5 := hI5.ext hE;replace hI6 := hI6.ext hE;replace hI7 := hI7.ext hE;replace hI8 := hI8.ext hE;replace xw := xw.trans hE;replace c9_1 := hE.cell c9_1;replace c9_2 := hE.cell c9_2;replace c12_0 := hE.cell c12_0;replace c12_1 := hE.cell c12_1;replace c15_0 := hE.cell c15_0;replace c15_1 := hE.cell c15_1;clear hE;refine cu5 fun K1 hK1 => ?_;go_simp;refine Wcall (.inl rfl) (sameI_T rfl _ hI2.ints hI4.ints (by have := sureL_len hfw;omega)) ?_
   rintro v w11 ⟨rfl,hE⟩;go_simp;refine hK1 _ _ ?_;clear hK1 K1;replace hI5 := hI5.ext hE;replace hI6 := hI6.ext hE;replace hI7 := hI7.ext hE;replace hI8 := hI8.ext hE;replace xw := xw.trans hE;replace c9_2 := hE.cell c9_2;replace c12_0 := hE.cell c12_0;replace c12_1 := hE.cell c12_1;replace c15_0 := hE.cell c15_0;replace c15_1 := hE.cell c15_1;clear hE;refine cu6 fun K1 hK1 => ?_;go_simp;refine Wcall (.inl rfl) (sameI_T rfl _ hI5.ints hI6.ints (by have := daysR_len (id := id) hfw;omega)) ?_;rintro v w12 ⟨rfl,hE⟩;go_simp;refine hK1 _ _ ?_;clear hK1 K1;replace hI7 := hI7.ext hE;replace hI8 := hI8.ext hE;replace xw := xw.trans hE;replace c9_2 := hE.cell c9_2;replace c12_1 := hE.cell c12_1;replace c15_0 := hE.cell c15_0;replace c15_1 := hE.cell c15_1;clear hE;refine cu6 fun K1 hK1 => ?_;go_simp;refine Wcall (.inl rfl) (sameI_T rfl _ hI7.ints hI8.ints (by have := earlL_len hfw;omega)) ?_;rintro v w13 ⟨rfl,hE⟩;go_simp;refine hK1 _ _ ?_;clear hK1 K1;replace xw := xw.trans hE;replace c9_2 := hE.cell c9_2;replace c12_1 := hE.cell c12_1;replace c15_1 := hE.cell c15_1;clear hE;go_simp;refine hK _ _ ?_;clear hK K' gd g4 g10 g16
   refine Wp.keep [5,8,9,11,12,14,15,16] ?_;rintro r29 ⟨e5_29,e8_29,e9_29,e11_29,e12_29,e14_29,e15_29,e16_29,-⟩;simp [go_sem,e5_24,e6_24,e7_24,e8_24,e9_24,e10_24,e11_24,e12_24,e13_24,e14_24,e15_24] at e5_29 e8_29 e9_29 e11_29 e12_29 e14_29 e15_29 e16_29;clear e5_24 e6_24 e7_24 e8_24 e9_24 e10_24 e11_24 e12_24 e13_24 e14_24 e15_24;refine sRh fun K' gd hK hg => ?_;have g1 : gd 1 = some 79 := hg 1;have g4 : gd 4 = some 82 := hg 4;have g10 : gd 10 = some 88 := hg 10;have g16 : gd 16 = some 94 := hg 16;clear hg;go_simp;refine hK _ _ ?_;clear hK K' gd g1 g4 g10 g16;refine Wp.keep [4] ?_;rintro r30 ⟨e4_30,-⟩;simp [go_sem,e5_29,e8_29,e9_29,e11_29,e12_29,e14_29,e15_29,e16_29] at e4_30;clear e5_29 e8_29 e9_29 e11_29 e12_29 e14_29 e15_29 e16_29;refine Wp.ret ?_;refine endK_tmp Tryz.results4 (by decide) ?_;rw [e4_30];exact ⟨by first | rfl | go_simp,xw⟩
 ·skip;refine Wp.seq ?_;refine sRh fun K' gd hK hg => ?_;have g3 : gd 3 = some 21 := hg 3;have g7 : gd 7 = some 25 := hg 7;clear hg;refine cu2 fun K1 hK1 => ?_;go_simp;refine Wcall (.inl rfl) (few_c t _ _ (hV.ext xw)) ?_;rintro v w3 ⟨rfl,hE⟩;go_simp;refine hK1 _ _ ?_;clear hK1 K1;replace xw := xw.trans hE;clear hE;go_simp;refine hK _ _ ?_;clear hK K' gd g3 g7;refine Wp.keep [1,2,5,30] ?_;rintro r32 ⟨e1_32,e2_32,e5_32,e30_32,-⟩;simp [go_sem,e1_4,e2_4,e5_4] at e1_32 e2_32 e5_32 e30_32;clear e1_4 e2_4 e5_4;refine cTt ?_;refine sRg fun K' gd hK => ?_;go_simp;refine hK _ _ ?_;clear hK K' gd;refine Wp.keep [4] ?_;rintro r33 ⟨e4_33,-⟩;simp [go_sem,e1_32,e2_32,e5_32,e30_32] at e4_33;clear e1_32 e2_32 e5_32 e30_32;refine Wp.ret ?_;refine tRe ?_;refine endK_tmp Tryz.results4 (by decide) ?_;rw [e4_33];exact ⟨rfl,xw⟩
end Go.Proofs.YtnklbepeoicgpaaGreat
namespace Go.Proofs.YtnklbepeoicgpaaGreat
open Go.RowKit Go.Wk Go.Proofs
theorem list_four {α : Type} {l : List α} (h : l.length = 4) : ∃ a b c d,l = [a,b,c,d] := by
 match l,h with
 | [a,b,c,d],_ => exact ⟨a,b,c,d,rfl⟩
theorem list_three {α : Type} {l : List α} (h : l.length = 3) : ∃ a b c,l = [a,b,c] := by
 match l,h with
 | [a,b,c],_ => exact ⟨a,b,c,rfl⟩
theorem list_two {α : Type} {l : List α} (h : l.length = 2) : ∃ a b,l = [a,b] := by
 match l,h with
 | [a,b],_ => exact ⟨a,b,rfl⟩
theorem openI {w : World} {v : Value} (h : Rd Tryz.prog w 22 [v]) : ∃ xs,IntsV w w.heap.size v xs ∧ xs.length ≤ farI := by
 have e1 : Tryz.prog.cellsOf 3 = 1 := by kernel_rfl
 have e2 : Tryz.prog.bytesOf 3 = 8 := by kernel_rfl
 obtain ⟨A,n,c,rfl,hn,hc,hx⟩ := h.list Tryz.underlying22 (by rw [e1];decide) (by rw [e2];decide);rw [e1] at hx;clear e1 e2
 obtain ⟨f,hf⟩ := Go.Deep.choose_lt (α := Int) (p := fun i z => ∃ b o,A = some ⟨b,o,none⟩ ∧ b < w.heap.size ∧ w.cell? ⟨b,o + i,none⟩ = some (.int .i64 z)) fun i hi => by
  obtain ⟨b,o,cs,h1,h2,h3,h4,h5⟩ := hx i hi;obtain ⟨z,rfl,-⟩ := h5.int Tryz.underlying3;exact ⟨z,b,o,h1,h2,by have := h4 0 (by decide);simpa using this⟩
 have hl : ((List.range n).map f).length = n := by simp
 refine ⟨(List.range n).map f,⟨A,c,by rw [hl],fun hne => ?_,by rw [hl];exact hn⟩,by rw [hl];omega⟩
 have h0 : 0 < n := by
  rcases Nat.eq_zero_or_pos n with e | e
  ·subst e;exact absurd rfl hne
  ·exact e
 obtain ⟨b,o,h1,h2,-⟩ := hf 0 h0;refine ⟨b,o,h1,h2,fun k hk => ?_⟩;rw [hl] at hk;obtain ⟨b',o',h1',h2',h3'⟩ := hf k hk;rw [h1] at h1'
 injection h1' with h1'
 injection h1' with hb ho
 subst hb;subst ho
 simpa using h3'
theorem openZ {w : World} {cs : List Value} (h : Rd Tryz.prog w 45 cs) : ∃ z : Int × Int,cs = encZ z := by
 have e1 : Tryz.prog.cellsOf 45 = 2 := by kernel_rfl
 have e3 : Tryz.prog.cellsOf 3 = 1 := by kernel_rfl
 obtain ⟨hl,hs⟩ := h.struct Tryz.underlying45;have s0 : Rd Tryz.prog w 3 ((cs.drop 0).take (Tryz.prog.cellsOf 3)) := hs 0 _ rfl;have s1 : Rd Tryz.prog w 3 ((cs.drop 1).take (Tryz.prog.cellsOf 3)) := hs 1 _ rfl;rw [e1] at hl;rw [e3] at s0 s1;obtain ⟨c0,c1,rfl⟩ := list_two hl;obtain ⟨z0,q0,-⟩ := s0.int Tryz.underlying3;obtain ⟨z1,q1,-⟩ := s1.int Tryz.underlying3;simp only [List.drop_zero,List.take_succ_cons,List.take_zero,List.drop_succ_cons,List.cons.injEq,and_true] at q0 q1;subst q0;subst q1;exact ⟨(z0,z1),rfl⟩
theorem openF {w : World} {cs : List Value} (h : Rd Tryz.prog w 47 cs) : ∃ f : Fl,cs = encF f := by
 have e1 : Tryz.prog.cellsOf 47 = 4 := by kernel_rfl
 have e2 : Tryz.prog.cellsOf 45 = 2 := by kernel_rfl
 have e3 : Tryz.prog.cellsOf 3 = 1 := by kernel_rfl
 obtain ⟨hl,hs⟩ := h.struct Tryz.underlying47;have s0 : Rd Tryz.prog w 3 ((cs.drop 0).take (Tryz.prog.cellsOf 3)) := hs 0 _ rfl;have s1 : Rd Tryz.prog w 45 ((cs.drop 1).take (Tryz.prog.cellsOf 45)) := hs 1 _ rfl;have s2 : Rd Tryz.prog w 3 ((cs.drop 3).take (Tryz.prog.cellsOf 3)) := hs 2 _ rfl;rw [e1] at hl;rw [e3] at s0 s2;rw [e2] at s1;obtain ⟨c0,c1,c2,c3,rfl⟩ := list_four hl;obtain ⟨z0,q0,-⟩ := s0.int Tryz.underlying3;obtain ⟨⟨lo,hi⟩,q1⟩ := openZ s1;obtain ⟨z2,q2,-⟩ := s2.int Tryz.underlying3;simp only [List.drop_zero,List.take_succ_cons,List.take_zero,List.drop_succ_cons,List.cons.injEq,and_true,encZ] at q0 q1 q2;subst q0;subst q2;obtain ⟨rfl,rfl⟩ := q1;exact ⟨⟨z0,lo,hi,z2⟩,rfl⟩
instance : Inhabited Fl := ⟨⟨0,0,0,0⟩⟩
theorem openFs {w : World} {v : Value} (h : Rd Tryz.prog w 23 [v]) : ∃ al,RowsV 4 encF w w.heap.size v al ∧ al.length ≤ farI := by
 have e1 : Tryz.prog.cellsOf 47 = 4 := by kernel_rfl
 have e2 : Tryz.prog.bytesOf 47 = 32 := by kernel_rfl
 obtain ⟨A,n,c,rfl,hn,hc,hx⟩ := h.list Tryz.underlying23 (by rw [e1];decide) (by rw [e2];decide);rw [e1] at hx;clear e1 e2
 obtain ⟨f,hf⟩ := Go.Deep.choose_lt (α := Fl) (p := fun i z => ∃ b o,A = some ⟨b,o,none⟩ ∧ b < w.heap.size ∧ ∀ r u,(encF z)[r]? = some u → w.cell? ⟨b,o + i * 4 + r,none⟩ = some u) fun i hi => by
  obtain ⟨b,o,cs,h1,h2,h3,h4,h5⟩ := hx i hi;obtain ⟨a,rfl⟩ := openF h5
  exact ⟨a,b,o,h1,h2,fun r u hu => by
   have hr : r < 4 := (List.getElem?_eq_some_iff.1 hu).1
   rw [h4 r hr];exact hu⟩
 have hl : ((List.range n).map f).length = n := by simp
 refine ⟨(List.range n).map f,⟨A,c,by rw [hl],fun hne => ?_,by rw [hl];exact hn⟩,by rw [hl];omega⟩
 have h0 : 0 < n := by
  rcases Nat.eq_zero_or_pos n with e | e
  ·subst e;exact absurd rfl hne
  ·exact e
 obtain ⟨b,o,h1,h2,-⟩ := hf 0 h0;refine ⟨b,o,h1,h2,fun k hk r u hu => ?_⟩;rw [hl] at hk;obtain ⟨b',o',h1',h2',h3'⟩ := hf k hk;rw [h1] at h1'
 injection h1' with h1'
 injection h1' with hb ho
 subst hb;subst ho;exact h3' r u (by simpa using hu)
theorem openTr {w : World} {v : Value} (hv : ∃ cs,v = .agg cs) (h : Rd Tryz.prog w 25 v.cells.toList) : ∃ t,TourV w w.heap.size v t := by
 obtain ⟨cs,rfl⟩ := hv;have e1 : Tryz.prog.cellsOf 25 = 3 := by kernel_rfl
 have e3 : Tryz.prog.cellsOf 3 = 1 := by kernel_rfl
 have e4 : Tryz.prog.cellsOf 22 = 1 := by kernel_rfl
 have e5 : Tryz.prog.cellsOf 23 = 1 := by kernel_rfl
 obtain ⟨hl,hs⟩ := h.struct Tryz.underlying25;have s0 : Rd Tryz.prog w 3 (((Value.agg cs).cells.toList.drop 0).take (Tryz.prog.cellsOf 3)) := hs 0 _ rfl;have s1 : Rd Tryz.prog w 22 (((Value.agg cs).cells.toList.drop 1).take (Tryz.prog.cellsOf 22)) := hs 1 _ rfl;have s2 : Rd Tryz.prog w 23 (((Value.agg cs).cells.toList.drop 2).take (Tryz.prog.cellsOf 23)) := hs 2 _ rfl;rw [e1] at hl;simp only [Value.cells] at hl s0 s1 s2;rw [e3] at s0;rw [e4] at s1;rw [e5] at s2;clear e1 e3 e4 e5;obtain ⟨l⟩ := cs;obtain ⟨c0,c1,c2,rfl⟩ := list_three hl;obtain ⟨z0,q0,-⟩ := s0.int Tryz.underlying3;obtain ⟨xs,hx,hxl⟩ := openI s1;obtain ⟨al,ha,hal⟩ := openFs s2;simp only [List.drop_zero,List.take_succ_cons,List.take_zero,List.drop_succ_cons,List.cons.injEq,and_true] at q0;subst q0;exact ⟨⟨z0,xs,al⟩,c1,c2,rfl,hx,ha⟩
instance : Inhabited Tk := ⟨⟨0,0,[]⟩⟩
end Go.Proofs.YtnklbepeoicgpaaGreat
