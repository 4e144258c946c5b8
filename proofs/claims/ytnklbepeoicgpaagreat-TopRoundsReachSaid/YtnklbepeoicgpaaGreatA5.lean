/- The earliest and the latest days. First, Last, Clash; on; Fits. on; Fits. Possible. Long. Sorted lists of IDs. ids; Seen. Lists compared; what the laws ask of their arguments. The chapter's examples, reckoned. The chapter's examples: head. Days that fit: of lines, the lesser and the greater ones, narrower ones (plain law). Narrower copies; how long a copy took (plain law). below; what is asked of contracts at right arguments. Floors, ceilings, what shows that a copy cannot have been made (plain law). Before: the program's and the document's. Which changes lie between copies; copies before othe -/
import Derived.Test.YtnklbepeoicgpaaGreatA4
import Derived.Lib.Tables
import Derived.Test.YtnklbepeoicgpaaGreatA1
import Derived.Test.YtnklbepeoicgpaaGreatA2
set_option linter.all false
namespace Go.Proofs.YtnklbepeoicgpaaGreat.St
open Go.RowKit Go.Wk Go.Proofs
attribute [local irreducible] Go.Wk.Wops Go.Wk.Wp Go.Wk.Mtree Go.Wk.Mops
set_option maxHeartbeats 8000000
set_option maxRecDepth 20000
theorem fromD_congr {b : Int} {p i : Nat} {l k : List Int} (hp : 1 ≤ p) (h : ∀ j,j < i → gI l j = gI k j) : fromD b p l i = fromD b p k i := by
 unfold fromD
 by_cases h0 : 0 < i
 ·rw [h (i - 1) (by omega)]
  by_cases hpi : p ≤ i
  ·rw [h (i - p) (by omega)]
  ·rw [if_neg hpi,if_neg hpi]
 ·obtain rfl : i = 0 := by omega
  rw [if_neg (by omega),if_neg (by omega),if_neg (by omega),if_neg (by omega)]
theorem gI_app {l k : List Int} {j : Nat} (h : j < l.length) : gI (l ++ k) j = gI l j := by unfold gI;rw [List.getElem?_append_left h]
theorem firstGo_stuck {nx : Nat → Int → Int} {b : Int} {p k : Nat} (h : (firstGo nx b p k).getLast? = some 731) : ∀ n,k ≤ n → firstGo nx b p n = firstGo nx b p k
 | 0,hn => by obtain rfl : k = 0 := by omega
              rfl
 | n + 1,hn => by
   rcases Nat.lt_or_ge n k with hk | hk
   ·obtain rfl : k = n + 1 := by omega
    rfl
   ·have ih := firstGo_stuck h n hk;rw [firstGo,ih,if_pos h]
theorem firstGo_next {nx : Nat → Int → Int} {b : Int} {p k : Nat} (h : ∀ x ∈ firstGo nx b p k,x ≠ 731) : firstGo nx b p (k + 1) = firstGo nx b p k ++ [nx k (fromD b p (firstGo nx b p k) k)] := by
 rw [firstGo,if_neg fun e => h 731 (List.mem_of_getLast? e) rfl]
theorem set_next {l : List Int} {n : Nat} {x : Int} (h : l.length < n) : (l ++ List.replicate (n - l.length) 0).set l.length x = l ++ [x] ++ List.replicate (n - (l.length + 1)) 0 := by
 rw [List.set_append_right _ _ (Nat.le_refl _),Nat.sub_self,show n - l.length = (n - (l.length + 1)) + 1 by omega,List.replicate_succ];simp
theorem _root_.Go.Proofs.YtnklbepeoicgpaaGreat.RowI.allN {W : World} {b n : Nat} {xs : List Int} (h : RowI W b xs) (hn : xs.length = n) : IntsV W W.heap.size (.slice (some ⟨b,0,none⟩) n n) xs := by
 have := h.all (c := n) (by omega)
 rwa [hn] at this
theorem nx_bd {m : Md} (hm : MdOk m) (i : Nat) {day : Int} (h : 0 ≤ day) : 0 ≤ m.nx i day ∧ m.nx i day ≤ 731 := by
 have := hm.e7
 rcases hm.nxIs i day with ⟨-,h1,h2,-⟩ | ⟨h1,-⟩ <;> omega
theorem firstGo_bd {m : Md} (hm : MdOk m) (p : Nat) : ∀ k,∀ x ∈ firstGo m.nx m.c.b p k,0 ≤ x ∧ x ≤ 731
 | 0,x,hx => by cases hx
 | k + 1,x,hx => by
   rw [firstGo] at hx
   split at hx
   ·exact firstGo_bd hm p k x hx
   ·rcases List.mem_append.1 hx with hx | hx
    ·exact firstGo_bd hm p k x hx
    ·rw [List.mem_singleton.1 hx];have := hm.b0;have := (fromD_ge (b := m.c.b) (p := p) (i := k) (l := firstGo m.nx m.c.b p k)).1;exact nx_bd hm k (by omega)
theorem first_c (v : Value) (m : Md) (w : World) (hV : MadeV w w.heap.size v m) (hm : MdOk m) :
  CallsV Tryz.prog 165 #[v] w fun v w' => ∃ t,v = .tuple #[t,.bool m.ok] ∧ IntsB w' w.heap.size t m.first ∧ Ext w w' := by
 obtain ⟨A,c,A2,c2,rfl⟩ := hV.five;obtain ⟨pn,hpn⟩ : ∃ pn : Nat,m.c.p = (pn : Int) := ⟨m.c.p.toNat,by have := hm.p1;omega⟩;rw [hpn] at hV;have hpt : ∃ _u : Unit,m.c.p.toNat = pn := ⟨(),by omega⟩;have hp1 := hm.p1;have hp2 := hm.p2;have hn1 := hm.n1;have hn2 := hm.n2;have hnb : m.n ≤ 1000000000 := by omega
 obtain ⟨q,hq⟩ : ∃ q : Nat,∃ _u : Unit,q + 1 = m.n := ⟨m.n - 1,(),by omega⟩;have hw1 : IntKind.i64.wrap ((m.n : Int) - 1) = (q : Int) := by have := hq.choose_spec;rw [IntWalk.i64_in _ (by omega)];omega
 have hqn : (q : Int) < (m.n : Int) := by have := hq.choose_spec;omega
 refine Wp.fn Tryz.func165 rfl Tryz.ntmps165 (by simp) ?_;have xw := Ext.refl w;refine Wp.keep [0] ?_;rintro r1 ⟨K,-⟩;simp [go_sem] at K;refine sRg fun K' gd hK => ?_;refine cu1 fun K1 hK1 => ?_;go_simp;apply hK1;clear hK1 K1;refine Wops.absA fun ak n1 J => ?_;obtain ⟨q1,J,s1,a,f1,r1⟩ := J;try simp only [q1] at a f1 r1 ⊢
 replace xw := xw.trans J;have d := a 0 _ rfl;have f := a 1 _ rfl;have g := a 2 _ rfl;have o := a 3 _ rfl;have r := a 4 _ rfl;clear a J;clear r1;go_simp;apply hK;clear hK K' gd;refine Wp.keep [1] ?_;rintro r2 ⟨V,-⟩;simp [go_sem,K] at V;clear K;refine Wp.scopeKey 0 (fun _ _ _ => False) (fun _ => 0) rfl (fun _ _ _ h => h.elim) (fun _ => ?_);have xw_xa := xw;have c1_0_xa := d;have c1_1_xa := f;have c1_2_xa := g;have c1_3_xa := o;have c1_4_xa := r;have xa := Ext.refl ak;refine sRg fun K' gd hK => ?_;refine cu5 fun K1 hK1 => ?_;go_simp;apply hK1;clear hK1 K1;refine Wops.absA fun ax n10 I => ?_;obtain ⟨q10,I,s10,k10,f10,r10⟩ := I;try simp only [q10] at k10 f10 r10 ⊢
 replace xw := xw.trans I;replace xa := xa.trans I;clear I;go_simp;apply hK;clear hK K' gd;refine Wp.keep [1,4] ?_;rintro r3 ⟨W,af,-⟩;simp [go_sem,V] at W af;clear V;refine Wp.seq ?_;refine Wp.label ?_;refine tNo ?_;refine Wp.seq ?_;have hR0 := RowI.made r10;clear k10 f10 r10;refine sRg fun K' gd hK => ?_;go_simp;apply hK;clear hK K' gd;refine Wp.keep [1,4,12,13] ?_;rintro r4 ⟨X,aw,N,an,-⟩;simp [go_sem,W,af] at X aw N an;clear W af;refine Wp.block ?_;refine Wp.loop (fun k ρ ds wk => AllEq [1,12] ρ r4 ∧ ds = [] ∧ (Ext ak wk) ∧ (∃ l,ρ 13 = .int .i64 (k : Int) ∧ ρ 4 = .slice (some ⟨n10,0,none⟩) m.n m.n ∧ RowI wk n10 (l ++ List.replicate (m.n - k) 0) ∧ (∃ _u : Unit,l = firstGo m.nx m.c.b pn k ∧ l.length = k) ∧ (∀ x ∈ l,x ≠ 731))) (m.n) ?_ ?_
 ·refine ⟨AllEq.refl _ _,rfl,xa,?_⟩;exact ⟨[],by rw [an];rfl,aw,hR0,⟨(),rfl,rfl⟩,by simp⟩
 ·rintro k r5 _ wk hk ⟨hA,rfl,xo,⟨l,e13,e4,hR,hl,hne⟩⟩;obtain ⟨Y,O,-⟩ := hA;rw [X] at Y;rw [N] at O;have xw := xw_xa;have d := c1_0_xa;have f := c1_1_xa;have g := c1_2_xa;have o := c1_3_xa;have r := c1_4_xa;replace xw := Ext.trans xw xo;replace d := Ext.cell xo d;replace f := Ext.cell xo f;replace g := Ext.cell xo g;replace o := Ext.cell xo o;replace r := Ext.cell xo r;refine sRg fun K' gd hK => ?_;go_simp;apply hK;clear hK K' gd;refine Wp.keep [1,4,12,13,14] ?_;rintro r6 ⟨E,G,u,B,C,-⟩;simp [go_sem,Y,e4,O,e13] at E G u B C;clear Y e4 O e13;refine Wp.seq ?_
  by_cases h : k < m.n
  ·refine cTt ?_;obtain ⟨hl2,hll⟩ := hl.choose_spec;have hlen : (l ++ List.replicate (m.n - k) 0).length = m.n := by simp;omega
   have hbl : ∀ x ∈ l,0 ≤ x ∧ x ≤ 731 := by rw [hl2];exact firstGo_bd hm pn k
   have hcg : ∃ _u : Unit,fromD m.c.b pn (l ++ List.replicate (m.n - k) 0) k = fromD m.c.b pn l k := ⟨(),fromD_congr (by omega) fun j hj => gI_app (by omega)⟩;have hbd : ∀ j,j < k → -1000 ≤ gI (l ++ List.replicate (m.n - k) 0) j ∧ gI (l ++ List.replicate (m.n - k) 0) j ≤ 1000 := fun j hj => by rw [gI_app (by omega)];have := hbl _ (gI_mem (l := l) (i := j) (by omega));omega
   obtain ⟨x,hx⟩ : ∃ x,m.nx k (fromD m.c.b pn (l ++ List.replicate (m.n - k) 0) k) = x := ⟨_,rfl⟩;have hs1 : ∃ _u : Unit,firstGo m.nx m.c.b pn (k + 1) = l ++ [x] := ⟨(),by rw [firstGo_next (by rw [← hl2];exact hne),← hl2,← hx,hcg.choose_spec]⟩;clear hl2;have d1 := hR.cell (i := k) (by omega);have hkn : (k : Int) < (m.n : Int) := by omega
   have fb := hR.fz;refine skN ?_;refine sBk ?_;refine sRg fun K' gd hK => ?_;go_simp;apply hK;clear hK K' gd;refine Wp.keep [1,4,5,12,13] ?_;rintro r7 ⟨Z,ag,aj,P,S,-⟩;simp [go_sem,E,G,u,B,C] at Z ag aj P S;clear E G u B C;refine Wp.seqDraw (.inl rfl) mixed [([0,1,2,3,4],none),([5,6],some (7,false)),([],some (8,false)),([9],some (10,true))] (by kernel_rfl) fun K' gd hK hg => ?_;clear hg;simp only [pick,nth,List.map_cons,List.map_nil,Option.map_none,Option.map_some];refine Mops.absD fun D5 hD5 zD5 => ?_;replace fb := hD5.fz d1 fb;replace hR := hR.ext hD5;replace xw := xw.trans hD5;replace xo := xo.trans hD5;replace d := hD5.cell d;replace f := hD5.cell f;replace g := hD5.cell g;replace o := hD5.cell o;replace r := hD5.cell r;replace d1 := hD5.cell d1;clear hD5;refine mNo ?_
   apply Mops.act
   ·intro w' hE';go_simp;with_reducible rfl
   intro K1 hK1;go_simp;refine Wcall (.inl rfl) (from_c _ _ m (l ++ List.replicate (m.n - k) 0) k pn _ (hV.ext xw) (hR.allN hlen) hpn (by omega) (by omega) (by omega) (by omega) hbd) ?_;rintro v w2 ⟨rfl,hE⟩;go_simp;refine hK1 _ _ (by assumption) ?_;clear hK1 K1;replace fb := hE.fz d1 fb;replace hR := hR.ext hE;replace xw := xw.trans hE;replace xo := xo.trans hE;replace d1 := hE.cell d1;clear hE;apply Mops.act
   ·exact fun _ _ => Rops_done
   intro K1 hK1;go_simp;refine Wcall (.inl rfl) (next_c _ m k _ _ (hV.ext xw) hm h) ?_;rintro v w3 ⟨rfl,hE⟩;go_simp;refine hK1 _ _ (by assumption) ?_;clear hK1 K1;replace fb := hE.fz d1 fb;replace hR := hR.ext hE;replace xw := xw.trans hE;replace xo := xo.trans hE;replace d1 := hE.cell d1;clear hE;apply Mops.last
   ·intro w' hE';go_simp;with_reducible rfl
   intro K1 hK1;go_simp;apply hK1;clear hK1 K1;refine Mops.absS (b := n10) (i := k) [_] (some1 d1) fun P1 hP1 => ?_;replace xw := Put.to xw hP1 (by omega);replace xo := Put.to xo hP1 (by omega);have hR2 := hR.store hP1 (by omega);have hset : (l ++ List.replicate (m.n - k) 0).set k x = l ++ [x] ++ List.replicate (m.n - (k + 1)) 0 := by have := set_next (l := l) (n := m.n) (x := x) (by omega);rw [hll] at this;exact this
   rw [hset] at hR2;clear hset;have d2 : P1.cell? ⟨n10,k,none⟩ = some (.int .i64 x) := by have := hP1.new 0 _ rfl;rwa [Nat.add_zero] at this
   obtain ⟨k1,hk1⟩ : ∃ k1 : Nat,∃ _u : Unit,k1 = k + 1 := ⟨_,(),rfl⟩;have hwk : IntKind.i64.wrap ((k : Int) + 1) = (k1 : Int) := by have := hk1.choose_spec;rw [IntWalk.i64_in _ (by omega)];omega
   have hwk1 : IntKind.i64.wrap ((k1 : Int) - 1) = (k : Int) := by have := hk1.choose_spec;rw [IntWalk.i64_in _ (by omega)];omega
   have hkk : (k : Int) < (k1 : Int) := by have := hk1.choose_spec;omega
   have hk1n : (k1 : Int) ≤ (m.n : Int) := by have := hk1.choose_spec;omega
   refine Mops.done ?_;apply hK;clear hK K' gd;refine Wp.keep [1,4,5,12,13] ?_;rintro r10 ⟨D,F,H,s,z,-⟩;simp [go_sem,Z,ag,aj,P,S] at D F H s z;clear Z ag aj P S
   by_cases h7 : x = 731
   ·skip;subst h7;refine sRg fun K' gd hK => ?_;go_simp;apply hK;clear hK K' gd;refine Wp.keep [1,4,5,12,13,30] ?_;rintro r11 ⟨T,ac,ah,L,Q,aa,-⟩;simp [go_sem,D,F,H,s,z] at T ac ah L Q aa;clear D F H s z;refine cTt ?_;refine sRg fun K' gd hK => ?_;go_simp;apply hK;clear hK K' gd;refine Wp.keep [4] ?_;rintro r12 ⟨ad,-⟩;simp [go_sem,T,ac,ah,L,Q,aa] at ad;clear T ac ah L Q aa;refine Wp.exit ?_;refine blockK_on (by decide) ?_;refine tEx ?_;refine tEx ?_;refine blockK_here ?_;refine tNo ?_;refine Wp.seqDraw (.inl rfl) mixed [([0,1,2,3,4],none),([5,6,7,8,9],none)] (by kernel_rfl) fun K' gd hK hg => ?_;clear hg;simp only [pick,nth,List.map_cons,List.map_nil,Option.map_none,Option.map_some];refine Mops.absD fun D7 hD7 zD7 => ?_;replace hR2 := hR2.ext hD7;replace xw := xw.trans hD7;replace xo := xo.trans hD7;replace d2 := hD7.cell d2;clear hD7;apply Mops.none
    ·intro w' hE';go_simp;with_reducible rfl
    refine mNo ?_
    refine Mops.done ?_;apply hK;clear hK K' gd;refine Wp.keep [2,3] ?_;rintro r13 ⟨ap,ar,-⟩;simp [go_sem,ad] at ap ar;clear ad;refine Wp.ret ?_;refine gotoK_ret ?_;refine endK_tmp2 Tryz.results165 (by decide) (by decide) ?_;rw [ap,ar];obtain ⟨-,e1⟩ := hs1;obtain ⟨-,e2⟩ := hk1;obtain ⟨-,e3⟩ := hpt;have hst : m.first = l ++ [731] := by unfold Md.first;rw [e3,← e1];exact firstGo_stuck (by rw [e1];simp) m.n (by omega)
    have hok : m.ok = false := by unfold Md.ok;rw [hst];simp
    refine ⟨_,by rw [hok],?_,xw⟩;have := hR2.intsB (base := w.heap.size) (by omega) (n := k1) (c := m.n) (by simp;omega) (by omega)
    rwa [List.take_left' (by simp;omega),← hst] at this
   ·skip;refine sRg fun K' gd hK => ?_;go_simp;apply hK;clear hK K' gd;refine Wp.keep [1,4,5,12,13,30] ?_;rintro r14 ⟨U,ae,ai,M,R,ab,-⟩;simp [go_sem,D,F,H,s,z] at U ae ai M R ab;clear D F H s z;refine cFf ?_;refine Wp.skip ?_;refine bNo ?_;refine tNo ?_;refine lRg fun K' gd hK => ?_;go_simp;apply hK;clear hK K' gd;refine Ends.keep [1,4,12,13] ?_;rintro r15 ⟨ao,av,al,am,-⟩;simp [go_sem,U,ae,ai,M,R,ab] at ao av al am;clear U ae ai M R ab;refine Ends.mk ?_;refine thenK_normal ⟨by omega,⟨by rw [ao,X],by rw [al,N],trivial⟩,rfl,xo,?_⟩;exact ⟨l ++ [x],by rw [am,hk1.choose_spec],av,hR2,⟨(),hs1.choose_spec.symm,by simp;omega⟩,fun y hy => by rw [List.mem_append,List.mem_singleton] at hy;rcases hy with hy | rfl;exact hne y hy;exact h7⟩
  ·refine cFf ?_;obtain rfl : k = m.n := by omega
   obtain ⟨hl2,hll⟩ := hl.choose_spec;rw [Nat.sub_self,List.replicate_zero,List.append_nil] at hR;have d3 := hR.cell (i := q) (by omega);have hy := hne _ (List.getElem_mem (h := show q < l.length by omega));clear hl2;refine Wp.exit ?_;refine tEx ?_;refine tEx ?_;refine blockK_here ?_;refine tNo ?_;refine Wp.seqDraw (.inl rfl) mixed [([0,1,2,3,4],none),([5,6,7,8,9],none)] (by kernel_rfl) fun K' gd hK hg => ?_;clear hg;simp only [pick,nth,List.map_cons,List.map_nil,Option.map_none,Option.map_some];refine Mops.absD fun D8 hD8 zD8 => ?_;replace hR := hR.ext hD8;replace xw := xw.trans hD8;replace xo := xo.trans hD8;replace d3 := hD8.cell d3;clear hD8;apply Mops.none
   ·intro w' hE';go_simp;with_reducible rfl
   refine mNo ?_
   refine Mops.done ?_;apply hK;clear hK K' gd;refine Wp.keep [2,3] ?_;rintro r16 ⟨aq,au,-⟩;simp [go_sem,E,G,u,B,C] at aq au;clear E G u B C;refine Wp.ret ?_;refine gotoK_ret ?_;refine endK_tmp2 Tryz.results165 (by decide) (by decide) ?_;rw [aq,au];obtain ⟨-,e3⟩ := hpt;obtain ⟨-,e4,-⟩ := hl;have hst : m.first = l := by unfold Md.first;rw [e3,e4]
   have hok : m.ok = true := by unfold Md.ok;rw [hst,decide_eq_false];rfl;exact fun e => hne 731 (List.mem_of_getLast? e) rfl
   exact ⟨_,by rw [hok,show (l[q] != 731) = true by simpa using hne _ (List.getElem_mem _)],by rw [hst];exact hR.allB (by omega) hll,xw⟩
theorem bf_bd {m : Md} (hm : MdOk m) (i : Nat) {day : Int} (h : day ≤ 730) : -1 ≤ m.bf i day ∧ m.bf i day ≤ 730 := by
 have := hm.b0
 rcases hm.bfIs i day with ⟨-,h1,h2,-⟩ | ⟨h1,-⟩ <;> omega
theorem lastGo_bd {m : Md} (hm : MdOk m) (p n : Nat) : ∀ k,∀ x ∈ lastGo m.bf m.c.e p n k,-1 ≤ x ∧ x ≤ 730
 | 0,x,hx => by cases hx
 | k + 1,x,hx => by
   rw [lastGo] at hx
   rcases List.mem_cons.1 hx with rfl | hx
   ·have := hm.e7;have := (toD_le (e := m.c.e) (p := p) (l := lastGo m.bf m.c.e p n k)).1;exact bf_bd hm _ (by omega)
   ·exact lastGo_bd hm p n k x hx
theorem lastGo_len {bf : Nat → Int → Int} {e : Int} {p n : Nat} : ∀ k,(lastGo bf e p n k).length = k
 | 0 => rfl
 | k + 1 => by rw [lastGo,List.length_cons,lastGo_len k]
theorem set_before {l : List Int} {j : Nat} {x : Int} : (List.replicate (j + 1) 0 ++ l).set j x = List.replicate j 0 ++ x :: l := by
 rw [List.replicate_succ',List.append_assoc,List.set_append_right _ _ (by simp)];simp
theorem last_c (v : Value) (m : Md) (w : World) (hV : MadeV w w.heap.size v m) (hm : MdOk m) :
  CallsV Tryz.prog 95 #[v] w fun t w' => IntsB w' w.heap.size t m.last ∧ Ext w w' := by
 obtain ⟨A,c,A2,c2,rfl⟩ := hV.five;obtain ⟨pn,hpn⟩ : ∃ pn : Nat,m.c.p = (pn : Int) := ⟨m.c.p.toNat,by have := hm.p1;omega⟩;have hp1 := hm.p1;have hp2 := hm.p2;have hn1 := hm.n1;have hn2 := hm.n2;have hnb : m.n ≤ 1000000000 := by omega
 rw [hpn] at hV;have hpt : ∃ _u : Unit,m.c.p.toNat = pn := ⟨(),by omega⟩;refine Wp.fn Tryz.func95 rfl Tryz.ntmps95 (by simp) ?_;have xw := Ext.refl w;refine Wp.keep [0] ?_;rintro r1 ⟨E,-⟩;simp [go_sem] at E;refine sRg fun K' gd hK => ?_;refine cu1 fun K1 hK1 => ?_;go_simp;apply hK1;clear hK1 K1;refine Wops.absA fun ad n1 D => ?_;obtain ⟨q1,D,s1,a,f1,r1⟩ := D;try simp only [q1] at a f1 r1 ⊢
 replace xw := xw.trans D;have d := a 0 _ rfl;have f := a 1 _ rfl;have g := a 2 _ rfl;have o := a 3 _ rfl;have r := a 4 _ rfl;clear a D;clear r1;go_simp;apply hK;clear hK K' gd;refine Wp.keep [1] ?_;rintro r2 ⟨P,-⟩;simp [go_sem,E] at P;clear E;have xw_xa := xw;have c1_0_xa := d;have c1_1_xa := f;have c1_2_xa := g;have c1_3_xa := o;have c1_4_xa := r;have xa := Ext.refl ad;refine sRg fun K' gd hK => ?_;refine cu5 fun K1 hK1 => ?_;go_simp;apply hK1;clear hK1 K1;refine Wops.absA fun ak n10 C => ?_;obtain ⟨q10,C,s10,k10,f10,r10⟩ := C;try simp only [q10] at k10 f10 r10 ⊢
 replace xw := xw.trans C;replace xa := xa.trans C;clear C;go_simp;apply hK;clear hK K' gd;refine Wp.keep [1,3] ?_;rintro r3 ⟨Q,W,-⟩;simp [go_sem,P] at Q W;clear P;refine Wp.seq ?_;have hR0 := RowI.made r10;clear k10 f10 r10;obtain ⟨q,hq⟩ : ∃ q : Nat,∃ _u : Unit,q + 1 = m.n := ⟨m.n - 1,(),by omega⟩;have hw1 : IntKind.i64.wrap ((m.n : Int) - 1) = (q : Int) := by have := hq.choose_spec;rw [IntWalk.i64_in _ (by omega)];omega
 refine sRg fun K' gd hK => ?_;go_simp;apply hK;clear hK K' gd;refine Wp.keep [1,3,12,13] ?_;rintro r4 ⟨R,X,G,ag,-⟩;simp [go_sem,Q,W] at R X G ag;clear Q W;refine Wp.block ?_;refine Wp.loop (fun k ρ ds wk => AllEq [1,3,12] ρ r4 ∧ ds = [] ∧ (Ext ad wk) ∧ (∃ l,ρ 13 = .int .i64 (k : Int) ∧ RowI wk n10 (List.replicate (m.n - k) 0 ++ l) ∧ (∃ _u : Unit,l = lastGo m.bf m.c.e pn m.n k))) (m.n) ?_ ?_
 ·refine ⟨AllEq.refl _ _,rfl,xa,?_⟩;exact ⟨[],by rw [ag];rfl,by rw [Nat.sub_zero,List.append_nil];exact hR0,(),rfl⟩
 ·rintro k r5 _ wk hk ⟨hA,rfl,xo,⟨l,e13,hR,hl⟩⟩;obtain ⟨S,Y,H,-⟩ := hA;rw [R] at S;rw [X] at Y;rw [G] at H;have xw := xw_xa;have d := c1_0_xa;have f := c1_1_xa;have g := c1_2_xa;have o := c1_3_xa;have r := c1_4_xa;replace xw := Ext.trans xw xo;replace d := Ext.cell xo d;replace f := Ext.cell xo f;replace g := Ext.cell xo g;replace o := Ext.cell xo o;replace r := Ext.cell xo r;refine sRg fun K' gd hK => ?_;go_simp;apply hK;clear hK K' gd;refine Wp.keep [1,3,12,13,14] ?_;rintro r6 ⟨z,B,s,u,y,-⟩;simp [go_sem,S,Y,H,e13] at z B s u y;clear S Y H e13;refine Wp.seq ?_
  by_cases h : k < m.n
  ·refine cTt ?_;have hl2 := hl.choose_spec;have hll : l.length = k := by rw [hl2,lastGo_len]
   obtain ⟨j,hj⟩ : ∃ j : Nat,∃ _u : Unit,j + k + 1 = m.n := ⟨m.n - 1 - k,(),by omega⟩;have hw2 : IntKind.i64.wrap ((q : Int) - (k : Int)) = (j : Int) := by rw [IntWalk.i64_in _ (by omega)];omega
   obtain ⟨L,hL⟩ : ∃ L,∃ _u : Unit,L = List.replicate (m.n - k) 0 ++ l := ⟨_,(),rfl⟩;rw [← hL.choose_spec] at hR;have hlen : L.length = m.n := by rw [hL.choose_spec];simp;omega
   have hbl : ∀ x ∈ l,-1 ≤ x ∧ x ≤ 730 := by rw [hl2];exact lastGo_bd hm pn _ k
   have hdr : ∃ _u : Unit,L.drop (j + 1) = l := ⟨(),by rw [hL.choose_spec,List.drop_left' (by simp;omega)]⟩;have hbd : ∀ i,j < i → i < L.length → -1000 ≤ gI L i ∧ gI L i ≤ 1000 := fun i h1 h2 => (show gI L i = gI l (i - (j + 1)) from (by rw [← hdr.choose_spec,gI_drop];congr 1;omega)).symm ▸ (by have := hbl _ (gI_mem (l := l) (i := i - (j + 1)) (by omega));omega);obtain ⟨x,hx⟩ : ∃ x,m.bf j (toD m.c.e pn (L.drop (j + 1))) = x := ⟨_,rfl⟩;have hs1 : ∃ _u : Unit,x :: l = lastGo m.bf m.c.e pn m.n (k + 1) := ⟨(),by rw [lastGo,← hl2,← hx,hdr.choose_spec,show m.n - 1 - k = j by omega]⟩;have hjn : (j : Int) < (m.n : Int) := by omega
   have hjl : j < L.length := by omega
   clear hl2 hlen;have d1 := hR.cell hjl;have fb := hR.fz;refine skN ?_;refine sBk ?_;refine sRg fun K' gd hK => ?_;go_simp;apply hK;clear hK K' gd;refine Wp.keep [1,3,4,12,13] ?_;rintro r7 ⟨T,Z,ab,I,M,-⟩;simp [go_sem,z,B,s,u,y] at T Z ab I M;clear z B s u y;refine sRg fun K' gd hK => ?_;go_simp;apply hK;clear hK K' gd;refine Wp.keep [1,3,5,12,13] ?_;rintro r8 ⟨U,aa,ac,J,N,-⟩;simp [go_sem,T,Z,ab,I,M] at U aa ac J N;clear T Z ab I M;refine Wp.loneDraw (.inl rfl) mixed [([0,1,2,3,4],none),([5,6],some (7,false)),([],some (8,false)),([9],some (10,true))] (by kernel_rfl) fun K' gd hK hg => ?_;clear hg;simp only [pick,nth,List.map_cons,List.map_nil,Option.map_none,Option.map_some];refine Mops.absD fun D5 hD5 zD5 => ?_;replace fb := hD5.fz d1 fb;replace hR := hR.ext hD5;replace xw := xw.trans hD5;replace xo := xo.trans hD5;replace d := hD5.cell d;replace f := hD5.cell f;replace g := hD5.cell g;replace o := hD5.cell o;replace r := hD5.cell r;replace d1 := hD5.cell d1;clear hD5;refine mNo ?_
   apply Mops.act
   ·intro w' hE';go_simp;with_reducible rfl
   intro K1 hK1;go_simp;refine Wcall (.inl rfl) (to_c _ _ m L j pn _ (hV.ext xw) (hR.allN (by rw [hL.choose_spec];simp;omega)) hpn (by omega) (by omega) hjl (by rw [hL.choose_spec];simp;omega) hbd) ?_;rintro v w2 ⟨rfl,hE⟩;go_simp;refine hK1 _ _ (by assumption) ?_;clear hK1 K1;replace fb := hE.fz d1 fb;replace hR := hR.ext hE;replace xw := xw.trans hE;replace xo := xo.trans hE;replace d1 := hE.cell d1;clear hE;apply Mops.act
   ·exact fun _ _ => Rops_done
   intro K1 hK1;go_simp;refine Wcall (.inl rfl) (before_c _ m j _ _ (hV.ext xw) hm (by omega)) ?_;rintro v w3 ⟨rfl,hE⟩;go_simp;refine hK1 _ _ (by assumption) ?_;clear hK1 K1;replace fb := hE.fz d1 fb;replace hR := hR.ext hE;replace xw := xw.trans hE;replace xo := xo.trans hE;replace d1 := hE.cell d1;clear hE;apply Mops.last
   ·intro w' hE';go_simp;with_reducible rfl
   intro K1 hK1;go_simp;apply hK1;clear hK1 K1;refine Mops.absS (b := n10) (i := j) [_] (some1 d1) fun P1 hP1 => ?_;replace xw := Put.to xw hP1 (by omega);replace xo := Put.to xo hP1 (by omega);refine Mops.done ?_;apply hK;clear hK K' gd;refine Ends.keep [1,3,12,13] ?_;rintro r11 ⟨O,V,F,K,-⟩;simp [go_sem,U,aa,ac,J,N] at O V F K;clear U aa ac J N;refine Ends.mk ?_;refine bNo ?_;refine tNo ?_;have hR2 := hR.store hP1 hjl;refine lRg fun K' gd hK => ?_;go_simp;apply hK;clear hK K' gd;refine Ends.keep [1,3,12,13] ?_;rintro r12 ⟨ah,aj,ae,af,-⟩;simp [go_sem,O,V,F,K] at ah aj ae af;clear O V F K;refine Ends.mk ?_;refine thenK_normal ⟨by omega,⟨by rw [ah,R],by rw [aj,X],by rw [ae,G],trivial⟩,rfl,xo,?_⟩;refine ⟨x :: l,by rw [af,IntWalk.i64_in _ (by omega)];rfl,?_,(),hs1.choose_spec⟩;rw [hL.choose_spec,show m.n - k = j + 1 by omega,set_before] at hR2;rw [show m.n - (k + 1) = j by omega];exact hR2
  ·refine cFf ?_;obtain rfl : k = m.n := by omega
   rw [Nat.sub_self,List.replicate_zero,List.nil_append] at hR;refine Wp.exit ?_;refine tEx ?_;refine tEx ?_;refine blockK_here ?_;refine tNo ?_;refine sRg fun K' gd hK => ?_;go_simp;apply hK;clear hK K' gd;refine Wp.keep [2] ?_;rintro r13 ⟨ai,-⟩;simp [go_sem,z,B,s,u,y] at ai;clear z B s u y;refine Wp.ret ?_;refine endK_tmp Tryz.results95 (by decide) ?_;rw [ai];obtain ⟨-,e3⟩ := hpt;obtain ⟨-,e4⟩ := hl;have hst : m.last = l := by unfold Md.last;rw [e3,e4]
   exact ⟨by rw [hst];exact hR.allB (by omega) (by rw [e4,lastGo_len]),xw⟩
end Go.Proofs.YtnklbepeoicgpaaGreat.St
namespace Go.Proofs.YtnklbepeoicgpaaGreat.St
open Go.RowKit Go.Wk Go.Proofs
attribute [local irreducible] Go.Wk.Wops Go.Wk.Wp Go.Wk.Mtree Go.Wk.Mops
set_option maxHeartbeats 8000000
set_option maxRecDepth 20000
def okS (s : Sh) (c : Cp) : Bool := (s.md c).ok
def begE (s : Sh) (c : Cp) : Int := if copyS s c = 0 then (if okS s c = true then 0 else 9) else copyS s c
theorem begE_zero {s : Sh} {c : Cp} : begE s c = 0 ↔ copyS s c = 0 ∧ okS s c = true := by
 unfold begE
 by_cases h : copyS s c = 0
 ·by_cases h2 : okS s c = true <;> simp [h,h2]
 ·simp [h]
theorem begun_c (v u : Value) (s : Sh) (c : Cp) (w : World) (hV : SheetV w w.heap.size v s) (hU : CopyV w w.heap.size u c) (hf : FitS s) (hg : FitC c) :
  CallsV Tryz.prog 94 #[v,u] w fun v w' => ∃ A n k x y z A2 n2 k2 dv,v = .tuple #[.agg #[.slice A n k,.int .i64 x,.int .i64 y,.int .i64 z,.slice A2 n2 k2],dv,.int .i64 (begE s c)] ∧
   (begE s c = 0 → ∃ wu,u = .agg #[wu,.int .i64 c.b,.int .i64 c.e,.int .i64 c.p] ∧ MadeB w' w.heap.size (.agg #[.slice A n k,.int .i64 x,.int .i64 y,.int .i64 z,.slice A2 n2 k2]) (s.md c) wu) ∧ IntsB w' w.heap.size dv (if begE s c = 0 then (s.md c).first else []) ∧ Ext w w' := by
 obtain ⟨wv,av,rfl,⟨A,c1,rfl,-,-⟩,⟨A3,c3,rfl,-,-⟩⟩ := id hV;obtain ⟨wu,rfl,hW⟩ := id hU;obtain ⟨A2,c2,rfl,-,-⟩ := id hW;refine Wp.fn Tryz.func94 rfl Tryz.ntmps94 (by simp) ?_;have xw := Ext.refl w;refine Wp.keep [0,1] ?_;rintro r1 ⟨T,W,-⟩;simp [go_sem] at T W;refine sRg fun K' gd hK => ?_;refine cu1 fun K1 hK1 => ?_;go_simp;apply hK1;clear hK1 K1;refine Wops.absA fun aJ n2 R => ?_;obtain ⟨q2,R,s2,S,f2,r2⟩ := R;try simp only [q2] at S f2 r2 ⊢
 replace xw := xw.trans R;have B := S 0 _ rfl;have C := S 1 _ rfl;clear S R;clear r2;refine cu1 fun K1 hK1 => ?_;go_simp;apply hK1;clear hK1 K1;refine Wops.absA fun aK n3 D => ?_;obtain ⟨q3,D,s3,E,f3,r3⟩ := D;try simp only [q3] at E f3 r3 ⊢
 replace xw := xw.trans D;replace B := D.cell B;replace C := D.cell C;have N := E 0 _ rfl;have O := E 1 _ rfl;have P := E 2 _ rfl;have Q := E 3 _ rfl;clear E D;clear r3;refine cu1 fun K1 hK1 => ?_;go_simp;apply hK1;clear hK1 K1;refine Wops.absA fun aL n4 o => ?_;obtain ⟨q4,o,s4,q,f4,r4⟩ := o;try simp only [q4] at q f4 r4 ⊢
 replace xw := xw.trans o;replace B := o.cell B;replace C := o.cell C;replace N := o.cell N;replace O := o.cell O;replace P := o.cell P;replace Q := o.cell Q;have a := q 0 _ rfl;have d := q 1 _ rfl;have f := q 2 _ rfl;have g := q 3 _ rfl;have l := q 4 _ rfl;clear q o;clear r4;go_simp;apply hK;clear hK K' gd;refine Wp.keep [2,3,4] ?_;rintro r2 ⟨aa,ad,ai,-⟩;simp [go_sem,T,W] at aa ad ai;clear T W;refine Wp.seq ?_;refine sRg fun K' gd hK => ?_;refine cu3 fun K1 hK1 => ?_;go_simp;refine Wcall (.inl rfl) (copy_c _ _ s c _ (hV.ext xw) (hU.ext xw) hf hg) ?_;rintro v w2 ⟨rfl,hE⟩;go_simp;apply hK1;clear hK1 K1;have z3 := Below.size hE;replace f4 := hE.fz a f4;replace xw := xw.trans hE;replace B := hE.cell B;replace C := hE.cell C;replace N := hE.cell N;replace O := hE.cell O;replace P := hE.cell P;replace Q := hE.cell Q;replace a := hE.cell a;replace d := hE.cell d;replace f := hE.cell f;replace g := hE.cell g;replace l := hE.cell l;clear hE;go_simp;apply hK;clear hK K' gd
 refine Wp.keep [2,3,4,7] ?_;rintro r4 ⟨G,H,I,K,-⟩;simp [go_sem,aa,ad,ai] at G H I K;clear aa ad ai
 by_cases h0 : copyS s c = 0
 ·skip;refine sRg fun K' gd hK => ?_;go_simp;apply hK;clear hK K' gd;refine Wp.keep [2,3,4,7,15] ?_;rintro r5 ⟨ab,ae,aj,am,V,-⟩;simp [go_sem,G,H,I,K] at ab ae aj am V;clear G H I K;refine cFf ?_;obtain ⟨hg0,hv0⟩ := copyS_zero.1 h0;have hgd := checkS_zero.1 hg0;refine skN ?_;refine sRg fun K' gd hK => ?_;refine cu3 fun K1 hK1 => ?_;go_simp;refine Wcall (.inl rfl) (madeB_c _ _ s c _ (hV.ext xw) (hU.ext xw) hgd hv0) ?_;rintro v w3 ⟨⟨wu,hwu,hM⟩,hE⟩
  injection hwu with hwu
  simp at hwu;subst hwu;obtain ⟨A6,n6,c6,rfl⟩ := hM.two;go_simp;apply hK1;clear hK1 K1;have z6 := Below.size hE;replace f4 := hE.fz a f4;replace xw := xw.trans hE;replace a := hE.cell a;replace d := hE.cell d;replace f := hE.cell f;replace g := hE.cell g;replace l := hE.cell l;clear hE;refine cu2 fun K1 hK1 => ?_;go_simp;apply hK1;clear hK1 K1;refine Wops.absA fun aM n8 m => ?_;obtain ⟨q8,m,s8,r,f8,r8⟩ := m;try simp only [q8] at r f8 r8 ⊢
  replace f4 := m.fz a f4;replace hM := hM.ext m;replace xw := xw.trans m;replace a := m.cell a;replace d := m.cell d;replace f := m.cell f;replace g := m.cell g;replace l := m.cell l;have au := r 0 _ rfl;have aw := r 1 _ rfl;have ax := r 2 _ rfl;have ay := r 3 _ rfl;have az := r 4 _ rfl;clear r m;clear r8;try simp only [Wops_nil,updO_some,updO_none]
  apply hK;clear hK K' gd;refine Wp.keep [4,8] ?_;rintro r7 ⟨ak,ap,-⟩;simp [go_sem,ab,ae,aj,am,V] at ak ap;clear ab ae aj am V;refine sRg fun K' gd hK => ?_;refine cu2 fun K1 hK1 => ?_;go_simp;refine Wcall (.inl rfl) (first_c _ (s.md c) _ (hM.made (hW.ext xw)) (hgd.mdOk hv0)) ?_;rintro v w4 ⟨t,rfl,hI,hE⟩;go_simp;apply hK1;clear hK1 K1;replace f4 := hE.fz a f4;replace hM := hM.ext hE;replace xw := xw.trans hE;replace a := hE.cell a;replace d := hE.cell d;replace f := hE.cell f;replace g := hE.cell g;replace l := hE.cell l;replace au := hE.cell au;replace aw := hE.cell aw;replace ax := hE.cell ax;replace ay := hE.cell ay;replace az := hE.cell az;clear hE;go_simp;apply hK;clear hK K' gd;refine Wp.keep [4,8,9,10] ?_;rintro r9 ⟨J,L,M,F,-⟩;simp [go_sem,ak,ap] at J L M F;clear ak ap
  by_cases h1 : (s.md c).ok = true
  ·skip;refine Wp.seq ?_;refine sRg fun K' gd hK => ?_;go_simp;apply hK;clear hK K' gd;refine Wp.keep [4,8,9,27] ?_;rintro r10 ⟨af,an,aq,X,-⟩;simp [go_sem,J,L,M,F] at af an aq X;clear J L M F;refine cFf ?_;refine skN ?_;refine sRg fun K' gd hK => ?_;refine cu3 fun K1 hK1 => ?_;go_simp;apply hK1;clear hK1 K1;refine Wops.absS (b := n4) (i := 0) [_,_,_,_,_] (somes [cellVal a,cellVal d,cellVal f,cellVal g,cellVal l] (by simp) (by intro j v hj;match j,hj with | 0,hj => (simp at hj;subst hj;exact a) | 1,hj => (simp at hj;subst hj;exact d) | 2,hj => (simp at hj;subst hj;exact f) | 3,hj => (simp at hj;subst hj;exact g) | 4,hj => (simp at hj;subst hj;exact l))) fun P5 hP5 => ?_;replace hM := hM.put hP5 (by omega);replace hI := hI.put hP5 (by omega);replace xw := Put.to xw hP5 (by omega);clear a;clear d;clear f;clear g;clear l;have a := hP5.new 0 _ rfl;try simp only [Nat.reduceAdd,Nat.zero_add,Nat.add_zero] at a
   have d := hP5.new 1 _ rfl;try simp only [Nat.reduceAdd,Nat.zero_add,Nat.add_zero] at d
   have f := hP5.new 2 _ rfl;try simp only [Nat.reduceAdd,Nat.zero_add,Nat.add_zero] at f
   have g := hP5.new 3 _ rfl;try simp only [Nat.reduceAdd,Nat.zero_add,Nat.add_zero] at g
   have l := hP5.new 4 _ rfl;try simp only [Nat.reduceAdd,Nat.zero_add,Nat.add_zero] at l
   clear hP5;go_simp;apply hK;clear hK K' gd;refine Wp.keep [4,5,6] ?_;rintro r11 ⟨aA,aD,aG,-⟩;simp [go_sem,af,an,aq,X] at aA aD aG;clear af an aq X;refine Wp.ret ?_;refine endK_cell_tmp2 (v := .agg #[cellVal a,cellVal d,cellVal f,cellVal g,cellVal l]) Tryz.results94 (by decide) (by decide) (by decide) aA (by dsimp only [cellVal];go_simp) ?_;rw [aD,aG]
   dsimp only [cellVal]
   have e : begE s c = 0 := begE_zero.2 ⟨h0,h1⟩;exact ⟨_,_,_,_,_,_,_,_,_,_,by rw [e],fun _ => ⟨_,rfl,hM.less (by omega)⟩,by rw [if_pos e];exact hI.less (by omega),xw⟩
  ·skip;refine Wp.seq ?_;refine sRg fun K' gd hK => ?_;go_simp;apply hK;clear hK K' gd;refine Wp.keep [4,8,9,27] ?_;rintro r12 ⟨ag,ao,ar,Y,-⟩;simp [go_sem,J,L,M,F] at ag ao ar Y;clear J L M F;refine cTt ?_;refine sRg fun K' gd hK => ?_;refine cu2 fun K1 hK1 => ?_;go_simp;apply hK1;clear hK1 K1;refine Wops.absS (b := n4) (i := 0) [_,_,_,_,_] (somes [cellVal a,cellVal d,cellVal f,cellVal g,cellVal l] (by simp) (by intro j v hj;match j,hj with | 0,hj => (simp at hj;subst hj;exact a) | 1,hj => (simp at hj;subst hj;exact d) | 2,hj => (simp at hj;subst hj;exact f) | 3,hj => (simp at hj;subst hj;exact g) | 4,hj => (simp at hj;subst hj;exact l))) fun P6 hP6 => ?_;replace xw := Put.to xw hP6 (by omega);clear a;clear d;clear f;clear g;clear l;have a := hP6.new 0 _ rfl;try simp only [Nat.reduceAdd,Nat.zero_add,Nat.add_zero] at a
   have d := hP6.new 1 _ rfl;try simp only [Nat.reduceAdd,Nat.zero_add,Nat.add_zero] at d
   have f := hP6.new 2 _ rfl;try simp only [Nat.reduceAdd,Nat.zero_add,Nat.add_zero] at f
   have g := hP6.new 3 _ rfl;try simp only [Nat.reduceAdd,Nat.zero_add,Nat.add_zero] at g
   have l := hP6.new 4 _ rfl;try simp only [Nat.reduceAdd,Nat.zero_add,Nat.add_zero] at l
   clear hP6;go_simp;apply hK;clear hK K' gd;refine Wp.keep [4,5,6] ?_;rintro r13 ⟨aB,aE,aH,-⟩;simp [go_sem,ag,ao,ar,Y] at aB aE aH;clear ag ao ar Y;refine Wp.ret ?_;refine tRe ?_;refine endK_cell_tmp2 (v := .agg #[cellVal a,cellVal d,cellVal f,cellVal g,cellVal l]) Tryz.results94 (by decide) (by decide) (by decide) aB (by dsimp only [cellVal];go_simp) ?_;rw [aE,aH]
   dsimp only [cellVal]
   have e : begE s c = 9 := by unfold begE okS;rw [if_pos h0,if_neg h1]
   exact ⟨_,_,_,_,_,_,_,_,_,_,by rw [e],fun h => absurd (e.symm.trans h) (by decide),by rw [e,if_neg (by decide)];exact IntsB.nil _ _,xw⟩
 ·skip;refine sRg fun K' gd hK => ?_;go_simp;apply hK;clear hK K' gd;refine Wp.keep [2,3,4,7,15] ?_;rintro r14 ⟨Z,ac,ah,al,U,-⟩;simp [go_sem,G,H,I,K] at Z ac ah al U;clear G H I K;refine cTt ?_;refine sRg fun K' gd hK => ?_;refine cu3 fun K1 hK1 => ?_;go_simp;apply hK1;clear hK1 K1;refine Wops.absS (b := n4) (i := 0) [_,_,_,_,_] (somes [cellVal a,cellVal d,cellVal f,cellVal g,cellVal l] (by simp) (by intro j v hj;match j,hj with | 0,hj => (simp at hj;subst hj;exact a) | 1,hj => (simp at hj;subst hj;exact d) | 2,hj => (simp at hj;subst hj;exact f) | 3,hj => (simp at hj;subst hj;exact g) | 4,hj => (simp at hj;subst hj;exact l))) fun P7 hP7 => ?_;replace xw := Put.to xw hP7 (by omega);clear a;clear d;clear f;clear g;clear l;have a := hP7.new 0 _ rfl;try simp only [Nat.reduceAdd,Nat.zero_add,Nat.add_zero] at a
  have d := hP7.new 1 _ rfl;try simp only [Nat.reduceAdd,Nat.zero_add,Nat.add_zero] at d
  have f := hP7.new 2 _ rfl;try simp only [Nat.reduceAdd,Nat.zero_add,Nat.add_zero] at f
  have g := hP7.new 3 _ rfl;try simp only [Nat.reduceAdd,Nat.zero_add,Nat.add_zero] at g
  have l := hP7.new 4 _ rfl;try simp only [Nat.reduceAdd,Nat.zero_add,Nat.add_zero] at l
  clear hP7;go_simp;apply hK;clear hK K' gd;refine Wp.keep [4,5,6] ?_;rintro r15 ⟨aC,aF,aI,-⟩;simp [go_sem,Z,ac,ah,al,U] at aC aF aI;clear Z ac ah al U;refine Wp.ret ?_;refine tRe ?_;refine endK_cell_tmp2 (v := .agg #[cellVal a,cellVal d,cellVal f,cellVal g,cellVal l]) Tryz.results94 (by decide) (by decide) (by decide) aC (by dsimp only [cellVal];go_simp) ?_;rw [aF,aI]
  dsimp only [cellVal]
  have e : begE s c = copyS s c := by unfold begE;rw [if_neg h0]
  exact ⟨_,_,_,_,_,_,_,_,_,_,by rw [e],fun h => absurd (e.symm.trans h) h0,by rw [e,if_neg h0];exact IntsB.nil _ _,xw⟩
theorem First_c (v u : Value) (s : Sh) (c : Cp) (w : World) (hV : SheetV w w.heap.size v s) (hU : CopyV w w.heap.size u c) (hf : FitS s) (hg : FitC c) :
  CallsV Tryz.prog 26 #[v,u] w fun v w' => ∃ t,v = .tuple #[t,.int .i64 (begE s c)] ∧ IntsB w' w.heap.size t (if begE s c = 0 then (s.md c).first else []) ∧ Ext w w' := by
 obtain ⟨wv,av,rfl,⟨A,c1,rfl,-,-⟩,⟨A3,c3,rfl,-,-⟩⟩ := id hV;obtain ⟨wu,rfl,⟨A2,c2,rfl,-,-⟩⟩ := id hU;refine Wp.fn Tryz.func26 rfl Tryz.ntmps26 (by simp) ?_;have xw := Ext.refl w;refine Wp.keep [0,1] ?_;rintro r1 ⟨g,h,-⟩;simp [go_sem] at g h;refine sRg fun K' gd hK => ?_;refine cu1 fun K1 hK1 => ?_;go_simp;apply hK1;clear hK1 K1;refine Wops.absA fun r n2 e => ?_;obtain ⟨q2,e,s2,f,f2,r2⟩ := e;try simp only [q2] at f f2 r2 ⊢
 replace xw := xw.trans e;have m := f 0 _ rfl;have n := f 1 _ rfl;clear f e;clear r2;refine cu1 fun K1 hK1 => ?_;go_simp;apply hK1;clear hK1 K1;refine Wops.absA fun x n3 a => ?_;obtain ⟨q3,a,s3,b,f3,r3⟩ := a;try simp only [q3] at b f3 r3 ⊢
 replace xw := xw.trans a;replace m := a.cell m;replace n := a.cell n;have z := b 0 _ rfl;have B := b 1 _ rfl;have C := b 2 _ rfl;have D := b 3 _ rfl;clear b a;clear r3;go_simp;apply hK;clear hK K' gd;refine Wp.keep [2,3] ?_;rintro r2 ⟨i,j,-⟩;simp [go_sem,g,h] at i j;clear g h;refine sRg fun K' gd hK => ?_;refine cu3 fun K1 hK1 => ?_;go_simp;refine Wcall (.inl rfl) (begun_c _ _ s c _ (hV.ext xw) (hU.ext xw) hf hg) ?_;rintro v w2 ⟨B1,b2,b3,b4,b5,b6,B2,b7,b8,dv,rfl,-,hI,hE⟩;go_simp;apply hK1;clear hK1 K1;replace xw := xw.trans hE;clear hE;refine cu6 fun K1 hK1 => ?_;go_simp;apply hK1;clear hK1 K1;refine Wops.absA fun y n6 d => ?_;obtain ⟨q6,d,s6,q,f6,r6⟩ := d;try simp only [q6] at q f6 r6 ⊢
 replace hI := hI.ext d;replace xw := xw.trans d;clear q d;clear r6;go_simp;apply hK;clear hK K' gd;refine Wp.keep [7,8] ?_;rintro r4 ⟨k,l,-⟩;simp [go_sem,i,j] at k l;clear i j;refine sRg fun K' gd hK => ?_;go_simp;apply hK;clear hK K' gd;refine Wp.keep [4,5] ?_;rintro r5 ⟨o,p,-⟩;simp [go_sem,k,l] at o p;clear k l;refine Wp.ret ?_;refine endK_tmp2 Tryz.results26 (by decide) (by decide) ?_;rw [o,p];exact ⟨_,rfl,hI.less (by omega),xw⟩
theorem Last_c (v u : Value) (s : Sh) (c : Cp) (w : World) (hV : SheetV w w.heap.size v s) (hU : CopyV w w.heap.size u c) (hf : FitS s) (hg : FitC c) :
  CallsV Tryz.prog 99 #[v,u] w fun v w' => ∃ t,v = .tuple #[t,.int .i64 (begE s c)] ∧ IntsB w' w.heap.size t (if begE s c = 0 then (s.md c).last else []) ∧ Ext w w' := by
 obtain ⟨wv,av,rfl,⟨A,c1,rfl,-,-⟩,⟨A3,c3,rfl,-,-⟩⟩ := id hV;obtain ⟨wu,rfl,hW⟩ := id hU;obtain ⟨A2,c2,rfl,-,-⟩ := id hW;refine Wp.fn Tryz.func99 rfl Tryz.ntmps99 (by simp) ?_;have xw := Ext.refl w;refine Wp.keep [0,1] ?_;rintro r1 ⟨j,m,-⟩;simp [go_sem] at j m;refine sRg fun K' gd hK => ?_;refine cu1 fun K1 hK1 => ?_;go_simp;apply hK1;clear hK1 K1;refine Wops.absA fun F n2 h => ?_;obtain ⟨q2,h,s2,i,f2,r2⟩ := h;try simp only [q2] at i f2 r2 ⊢
 replace xw := xw.trans h;have y := i 0 _ rfl;have z := i 1 _ rfl;clear i h;clear r2;refine cu1 fun K1 hK1 => ?_;go_simp;apply hK1;clear hK1 K1;refine Wops.absA fun G n3 b => ?_;obtain ⟨q3,b,s3,d,f3,r3⟩ := b;try simp only [q3] at d f3 r3 ⊢
 replace xw := xw.trans b;replace y := b.cell y;replace z := b.cell z;have I := d 0 _ rfl;have J := d 1 _ rfl;have K := d 2 _ rfl;have L := d 3 _ rfl;clear d b;clear r3;go_simp;apply hK;clear hK K' gd;refine Wp.keep [2,3] ?_;rintro r2 ⟨n,o,-⟩;simp [go_sem,j,m] at n o;clear j m;refine sRg fun K' gd hK => ?_;refine cu3 fun K1 hK1 => ?_;go_simp;refine Wcall (.inl rfl) (begun_c _ _ s c _ (hV.ext xw) (hU.ext xw) hf hg) ?_;rintro v w2 ⟨B1,b2,b3,b4,b5,b6,B2,b7,b8,dv,rfl,hM,-,hE⟩;have xc := Ext.refl w2;go_simp;apply hK1;clear hK1 K1;have z3 := Below.size hE;replace xw := xw.trans hE;clear hE;refine cu6 fun K1 hK1 => ?_;go_simp;apply hK1;clear hK1 K1;refine Wops.absA fun H n6 g => ?_;obtain ⟨q6,g,s6,a,f6,r6⟩ := g;try simp only [q6] at a f6 r6 ⊢
 replace xw := xw.trans g;replace xc := xc.trans g;have M := a 0 _ rfl;have N := a 1 _ rfl;have O := a 2 _ rfl;have P := a 3 _ rfl;have Q := a 4 _ rfl;clear a g;clear r6;go_simp;apply hK;clear hK K' gd;refine Wp.keep [6,8] ?_;rintro r4 ⟨e,f,-⟩;simp [go_sem,n,o] at e f;clear n o
 by_cases h0 : begE s c = 0
 ·skip;refine Wp.seq ?_;refine sRg fun K' gd hK => ?_;go_simp;apply hK;clear hK K' gd;refine Wp.keep [6,8,17] ?_;rintro r5 ⟨p,r,k,-⟩;simp [go_sem,e,f] at p r k;clear e f;refine cFf ?_;obtain ⟨wu,hwu,hM⟩ := hM h0
  injection hwu with hwu
  simp at hwu;subst hwu;obtain ⟨h1,h2⟩ := begE_zero.1 h0;obtain ⟨hg0,hv0⟩ := copyS_zero.1 h1;have hgd := checkS_zero.1 hg0;refine skN ?_;refine sRg fun K' gd hK => ?_;refine cu2 fun K1 hK1 => ?_;go_simp;refine Wcall (.inl rfl) (last_c _ (s.md c) _ ((hM.ext xc).made (hW.ext xw)) (hgd.mdOk hv0)) ?_;rintro v w4 ⟨hI,hE⟩;go_simp;apply hK1;clear hK1 K1;replace xw := xw.trans hE;replace xc := xc.trans hE;clear hE;go_simp;apply hK;clear hK K' gd;refine Wp.keep [4,5] ?_;rintro r7 ⟨B,D,-⟩;simp [go_sem,p,r,k] at B D;clear p r k;refine Wp.ret ?_;refine endK_tmp2 Tryz.results99 (by decide) (by decide) ?_;rw [B,D];exact ⟨_,by rw [h0],by rw [if_pos h0];exact hI.less (by omega),xw⟩
 ·skip;refine Wp.seq ?_;refine sRg fun K' gd hK => ?_;go_simp;apply hK;clear hK K' gd;refine Wp.keep [6,8,17] ?_;rintro r8 ⟨q,x,l,-⟩;simp [go_sem,e,f] at q x l;clear e f;refine cTt ?_;refine sRg fun K' gd hK => ?_;go_simp;apply hK;clear hK K' gd;refine Wp.keep [4,5] ?_;rintro r9 ⟨C,E,-⟩;simp [go_sem,q,x,l] at C E;clear q x l;refine Wp.ret ?_;refine tRe ?_;refine endK_tmp2 Tryz.results99 (by decide) (by decide) ?_;rw [C,E];exact ⟨_,rfl,by rw [if_neg h0];exact IntsB.nil _ _,xw⟩
end Go.Proofs.YtnklbepeoicgpaaGreat.St
namespace Go.Proofs.YtnklbepeoicgpaaGreat.St
open Go.RowKit Go.Wk Go.Proofs
attribute [local irreducible] Go.Wk.Wops Go.Wk.Wp Go.Wk.Mtree Go.Wk.Mops
set_option maxHeartbeats 8000000
set_option maxRecDepth 20000
instance (l : List (Int × Int)) (d : Int) : Decidable (inside l d) := by unfold inside;infer_instance
instance (m : Md) (i : Nat) (d : Int) : Decidable (m.can i d) := by unfold Md.can;infer_instance
def FitAt (m : Md) (dy : List Int) (i : Nat) : Prop := (m.c.b ≤ gI dy i ∧ gI dy i ≤ m.c.e) ∧ m.can i (gI dy i) ∧ fromD m.c.b m.c.p.toNat dy i ≤ gI dy i
instance (m : Md) (dy : List Int) (i : Nat) : Decidable (FitAt m dy i) := by unfold FitAt;infer_instance
end Go.Proofs.YtnklbepeoicgpaaGreat.St
namespace Go.Proofs.YtnklbepeoicgpaaGreat.St
open Go.RowKit Go.Wk Go.Proofs
attribute [local irreducible] Go.Wk.Wops Go.Wk.Wp Go.Wk.Mtree Go.Wk.Mops
set_option maxHeartbeats 8000000
set_option maxRecDepth 20000
theorem _root_.Go.Proofs.YtnklbepeoicgpaaGreat.IntsB.get {w : World} {base : Nat} {v : Value} {l : List Int} (h : IntsB w base v l) {k : Nat} (hk : k < l.length) : ∃ b o c,v = .slice (some ⟨b,o,none⟩) l.length c ∧ base ≤ b ∧ b < w.heap.size ∧ ∀ k,k < l.length → w.cell? ⟨b,o + k,none⟩ = some (.int .i64 (gI l k)) := by
 obtain ⟨A,c,rfl,hx,-⟩ := h;obtain ⟨b,o,rfl,hb,hb2,hc⟩ := hx (by rintro rfl;exact absurd hk (Nat.not_lt_zero _));exact ⟨b,o,c,rfl,hb,hb2,fun k hk => by rw [gI_lt hk];exact hc k hk⟩
end Go.Proofs.YtnklbepeoicgpaaGreat.St
namespace Go.Proofs.YtnklbepeoicgpaaGreat.St
open Go.RowKit Go.Wk Go.Proofs
attribute [local irreducible] Go.Wk.Wops Go.Wk.Wp Go.Wk.Mtree Go.Wk.Mops
set_option maxHeartbeats 8000000
set_option maxRecDepth 20000
def Md.at (m : Md) (d : Int) : Md := ⟨{ m.c with b := d },m.tab⟩
theorem MdOk.at {m : Md} (h : MdOk m) {d : Int} (h0 : 0 ≤ d) (h1 : d ≤ m.c.e) : MdOk (m.at d) := ⟨h.n1,h.n2,h.len,h.sp,h.lo,h.many,h0,h1,h.e7,h.p1,h.p2⟩
def longF (m : Md) (l : List Int) (lo : Int) : Int := l.foldl (fun lo d => if m.can 0 d ∧ (m.at d).ok = true then min lo (gI (m.at d).first (m.n - 1) - gI (m.at d).first 0) else lo) lo
def longHi (m : Md) : Int := gI m.last (m.n - 1) - gI m.first 0
def longS (m : Md) : Int × Int := if m.n = 1 then (0,0) else (longF m (daysL (gI m.first 0) (gI m.last 0)) (longHi m),longHi m)
theorem MadeB.at {w : World} {base : Nat} {a x y z tv wv : Value} {m : Md} (h : MadeB w base (.agg #[a,x,y,z,tv]) m wv) (d : Int) : MadeB w base (.agg #[a,.int .i64 d,y,z,tv]) (m.at d) wv := by
 obtain ⟨tv',h1,h2⟩ := h
 injection h1 with h1
 simp at h1;obtain ⟨rfl,rfl,rfl,rfl,rfl⟩ := h1;exact ⟨tv,rfl,h2⟩
end Go.Proofs.YtnklbepeoicgpaaGreat.St
namespace Go.Proofs.YtnklbepeoicgpaaGreat.St
open Go.RowKit Go.Wk Go.Proofs
attribute [local irreducible] Go.Wk.Wops Go.Wk.Wp Go.Wk.Mtree Go.Wk.Mops
set_option maxHeartbeats 8000000
set_option maxRecDepth 20000
def idsS (s : Sh) (p : Alt → Bool) : List Int := sortI ((s.alts.filter p).map Alt.id)
def altV (a : Alt) : Value := .agg #[.int .i64 a.id,.int .i64 a.kind,.int .i64 a.day,.int .i64 a.frm,.int .i64 a.tu,.int .i64 a.word]
theorem idF_take {s : Sh} {p : Alt → Bool} {k : Nat} (h : k < s.alts.length) : ((s.alts.take (k + 1)).filter p).map Alt.id = ((s.alts.take k).filter p).map Alt.id ++ (if p s.alts[k] = true then [s.alts[k].id] else []) := by
 rw [take_snoc h,List.filter_append,List.map_append]
 congr 1
 by_cases hp : p s.alts[k] = true
 ·rw [if_pos hp,List.filter_cons_of_pos hp];rfl
 ·rw [if_neg hp,List.filter_cons_of_neg hp];rfl
theorem ids_c (v : Value) (s : Sh) (p : Alt → Bool) (gf : Nat) (lb : Array Value) (w : World) (hV : SheetV w w.heap.size v s) (hl : s.alts.length ≤ 12)
  (heg : ∀ args w,(callFunc gf args).run Tryz.prog w = .ok (.enter gf args) w)
  (hp : ∀ a ∈ s.alts,∀ W,Ext w W → CallsV Tryz.prog gf (#[altV a] ++ lb) W fun v W' => v = .bool (p a) ∧ Ext W W') :
  CallsV Tryz.prog 96 #[v,.func (.func gf) #[] lb] w fun v w' => IntsB w' w.heap.size v (idsS s p) ∧ Ext w w' := by
 obtain ⟨wv,av,rfl,⟨A,c1,rfl,-,-⟩,hA⟩ := id hV;obtain ⟨A3,c3,rfl,-,-⟩ := id hA;refine Wp.fn Tryz.func96 rfl Tryz.ntmps96 (by simp) ?_;have xw := Ext.refl w;refine Wp.keep [0,1] ?_;rintro r1 ⟨F,U,-⟩;simp [go_sem] at F U;refine sRg fun K' gd hK => ?_;refine cu1 fun K1 hK1 => ?_;go_simp;apply hK1;clear hK1 K1;refine Wops.absA fun D n2 C => ?_;obtain ⟨q2,C,s2,aC,f2,r2⟩ := C;try simp only [q2] at aC f2 r2 ⊢
 replace xw := xw.trans C;have x := aC 1 _ rfl;clear aC C;clear r2;go_simp;apply hK;clear hK K' gd;refine Wp.keep [1,2] ?_;rintro r2 ⟨Z,ae,-⟩;simp [go_sem,F,U] at Z ae;clear F U;refine sRg fun K' gd hK => ?_;go_simp;apply hK;clear hK K' gd;refine Wp.keep [1,2,5] ?_;rintro r3 ⟨aa,af,al,-⟩;simp [go_sem,Z,ae] at aa af al;clear Z ae;refine Wp.seq ?_;have xw_xa := xw;have c2_1_xa := x;have xa := Ext.refl D;obtain ⟨B0,hB0⟩ : ∃ B0 : Nat,B0 = D.heap.size := ⟨_,rfl⟩;refine sRg fun K' gd hK => ?_;go_simp;apply hK;clear hK K' gd;refine Wp.keep [1,5,9,10,11] ?_;rintro r4 ⟨z,aO,B,y,aH,-⟩;simp [go_sem,aa,af,al] at z aO B y aH;clear aa af al;refine Wp.block ?_;refine Wp.loop (fun k ρ ds wk => AllEq [1,9,10] ρ r4 ∧ ds = [] ∧ (Ext D wk) ∧ (∃ v,ρ 11 = .int .i64 (k : Int) ∧ ρ 5 = v ∧ OwnI wk B0 v (((s.alts.take k).filter p).map Alt.id))) (s.alts.length) ?_ ?_
 ·refine ⟨AllEq.refl _ _,rfl,xa,?_⟩;exact ⟨_,by rw [aH];rfl,aO,World.ownsRow_nil _ _ _ _⟩
 ·rintro k r5 _ wk hk ⟨hA,rfl,xo,⟨v5,e11,e5,hO⟩⟩;obtain ⟨ab,ay,J,-⟩ := hA;rw [z] at ab;rw [B] at ay;rw [y] at J;have zxo := Below.size xo;have xw := xw_xa;have x := c2_1_xa;replace xw := Ext.trans xw xo;replace x := Ext.cell xo x;obtain ⟨A9,n9,c9,rfl⟩ : ∃ A n c,v5 = .slice A n c := by obtain ⟨A,c,e⟩ := hO.slice;exact ⟨A,_,c,e⟩
  refine sRg fun K' gd hK => ?_;go_simp;apply hK;clear hK K' gd;refine Wp.keep [1,5,9,10,11,12] ?_;rintro r6 ⟨i,j,l,d,f,g,-⟩;simp [go_sem,ab,e5,ay,J,e11] at i j l d f g;clear ab e5 ay J e11;refine Wp.seq ?_
  by_cases h : k < s.alts.length
  ·refine cTt ?_;obtain ⟨b,o,rfl,hb,y0,y1,y2,y3,y4,y5⟩ := AltsV.six hA h;replace y0 := xw.cell y0;replace y1 := xw.cell y1;replace y2 := xw.cell y2;replace y3 := xw.cell y3;replace y4 := xw.cell y4;replace y5 := xw.cell y5;have hst := idF_take (p := p) h;have hfl : (((s.alts.take k).filter p).map Alt.id).length ≤ 12 := by rw [List.length_map];have q1 := List.length_filter_le p (s.alts.take k);rw [List.length_take] at q1;omega
   by_cases hq : p s.alts[k] = true
   ·skip;refine skN ?_;refine sBk ?_;refine sRg fun K' gd hK => ?_;refine cu4 fun K1 hK1 => ?_;go_simp;apply hK1;clear hK1 K1;refine Wops.absA fun aY n7 t => ?_;obtain ⟨q7,t,s7,m,f7,r7⟩ := t;try simp only [q7] at m f7 r7 ⊢
    replace hO := hO.ext t;replace xw := xw.trans t;replace xo := xo.trans t;have E := m 0 _ rfl;have aS := m 1 _ rfl;have aT := m 2 _ rfl;have aU := m 3 _ rfl;have aV := m 4 _ rfl;have aW := m 5 _ rfl;clear m t;clear r7;try simp only [Wops_nil,updO_some,updO_none]
    apply hK;clear hK K' gd;refine Wp.keep [1,5,7,9,10,11] ?_;rintro r7 ⟨ac,am,aq,az,K,Q,-⟩;simp [go_sem,i,j,l,d,f,g] at ac am aq az K Q;clear i j l d f g;refine sRg fun K' gd hK => ?_;refine cu3 fun K1 hK1 => ?_;go_simp;refine Wcall (.inl rfl) (hp s.alts[k] (List.getElem_mem h) _ xw) ?_;rintro v w2 ⟨rfl,hE⟩;go_simp;apply hK1;clear hK1 K1;have z8 := Below.size hE;replace hO := hO.ext hE;replace xw := xw.trans hE;replace xo := xo.trans hE;replace E := hE.cell E;clear hE;try simp only [Wops_nil,updO_some,updO_none]
    apply hK;clear hK K' gd;refine Wp.keep [1,5,7,9,10,11,17] ?_;rintro r9 ⟨ad,an,ar,aA,M,R,T,-⟩;simp [go_sem,ac,am,aq,az,K,Q] at ad an ar aA M R T;clear ac am aq az K Q;refine cTt ?_;refine lRg fun K' gd hK => ?_;refine cu4 fun K1 hK1 => ?_;go_simp;apply hK1;clear hK1 K1;refine Wops.absA fun aX n21 r => ?_;obtain ⟨q21,r,s21,aB,f21,r21⟩ := r;try simp only [q21] at aB f21 r21 ⊢
    replace hO := hO.ext r;replace xw := xw.trans r;replace xo := xo.trans r;clear r f21;have aR := aB 0 _ rfl;clear aB;refine cu1 fun K1 hK1 => ?_;obtain ⟨v',w7,hrun,hO2,hgr,-⟩ := app_run ints_T hO ⟨n21,0,none⟩ 1 1 [.int .i64 s.alts[k].id] 22 rfl (news_one aR) (one_one rfl) (by omega) (by omega);refine Wops.law rfl (exec_append2 rfl hrun (by go_simp) (by go_simp)) ?_;simp only [updO_some,Wops_nil];apply hK1;clear hK1 K1;replace xw := Chg.to xw (grown_chg hgr) (lt_ge (World.ownsRow.lt hO) (by omega));replace xo := Chg.to xo (grown_chg hgr) (lt_ge (World.ownsRow.lt hO) (by omega));go_simp;apply hK;clear hK K' gd;refine Ends.keep [1,5,9,10,11] ?_;rintro r11 ⟨V,ag,au,G,N,-⟩;simp [go_sem,ad,an,ar,aA,M,R,T] at V ag au G N;clear ad an ar aA M R T;refine Ends.mk ?_;refine bNo ?_;refine tNo ?_;refine lRg fun K' gd hK => ?_;go_simp;apply hK;clear hK K' gd;refine Ends.keep [1,5,9,10,11] ?_;rintro r12 ⟨aI,aM,aP,aD,aF,-⟩;simp [go_sem,V,ag,au,G,N] at aI aM aP aD aF;clear V ag au G N;refine Ends.mk ?_
    refine thenK_normal ⟨by omega,⟨by rw [aI,z],by rw [aP,B],by rw [aD,y],trivial⟩,rfl,xo,?_⟩;exact ⟨_,by rw [aF,IntWalk.i64_in _ (by omega)];rfl,aM,by rw [hst,if_pos hq];unfold OwnI;rw [encI_add,List.length_append];exact hO2⟩
   ·skip;refine skN ?_;refine sBk ?_;refine sRg fun K' gd hK => ?_;refine cu4 fun K1 hK1 => ?_;go_simp;apply hK1;clear hK1 K1;refine Wops.absA fun aZ n7 u => ?_;obtain ⟨q7,u,s7,q,f7,r7⟩ := u;try simp only [q7] at q f7 r7 ⊢
    replace hO := hO.ext u;replace xw := xw.trans u;replace xo := xo.trans u;have E := q 0 _ rfl;have aS := q 1 _ rfl;have aT := q 2 _ rfl;have aU := q 3 _ rfl;have aV := q 4 _ rfl;have aW := q 5 _ rfl;clear q u;clear r7;try simp only [Wops_nil,updO_some,updO_none]
    apply hK;clear hK K' gd;refine Wp.keep [1,5,7,9,10,11] ?_;rintro r13 ⟨X,ah,ao,aw,H,O,-⟩;simp [go_sem,i,j,l,d,f,g] at X ah ao aw H O;clear i j l d f g;refine sRg fun K' gd hK => ?_;refine cu3 fun K1 hK1 => ?_;go_simp;refine Wcall (.inl rfl) (hp s.alts[k] (List.getElem_mem h) _ xw) ?_;rintro v w2 ⟨rfl,hE⟩;go_simp;apply hK1;clear hK1 K1;replace hO := hO.ext hE;replace xw := xw.trans hE;replace xo := xo.trans hE;clear hE;try simp only [Wops_nil,updO_some,updO_none]
    apply hK;clear hK K' gd;refine Wp.keep [1,5,7,9,10,11,17] ?_;rintro r15 ⟨Y,ai,ap,ax,I,P,S,-⟩;simp [go_sem,X,ah,ao,aw,H,O] at Y ai ap ax I P S;clear X ah ao aw H O;refine cFf ?_;refine Wp.skip ?_;refine bNo ?_;refine tNo ?_;refine lRg fun K' gd hK => ?_;go_simp;apply hK;clear hK K' gd;refine Ends.keep [1,5,9,10,11] ?_;rintro r16 ⟨aJ,aN,aQ,aE,aG,-⟩;simp [go_sem,Y,ai,ap,ax,I,P,S] at aJ aN aQ aE aG;clear Y ai ap ax I P S;refine Ends.mk ?_;refine thenK_normal ⟨by omega,⟨by rw [aJ,z],by rw [aQ,B],by rw [aE,y],trivial⟩,rfl,xo,?_⟩;exact ⟨_,by rw [aG,IntWalk.i64_in _ (by omega)];rfl,aN,by rw [hst,if_neg hq,List.append_nil];exact hO⟩
  ·refine cFf ?_;obtain rfl : k = s.alts.length := by omega
   rw [List.take_length] at hO;have hids : ∃ _u : Unit,idsS s p = sortI ((s.alts.filter p).map Alt.id) := ⟨(),rfl⟩;have hfl : ((s.alts.filter p).map Alt.id).length ≤ 12 := by rw [List.length_map];have q1 := List.length_filter_le p s.alts;omega
   obtain ⟨L,hL⟩ : ∃ L,∃ _u : Unit,(s.alts.filter p).map Alt.id = L := ⟨_,(),rfl⟩;rw [hL.choose_spec] at hO hids hfl
   by_cases hne : L = []
   ·skip;subst hne;obtain ⟨A8,c8,e8⟩ := OwnI.slice hO
    injection e8 with q1 q2 q3
    subst q2;refine Wp.exit ?_;refine tEx ?_;refine tEx ?_;refine blockK_here ?_;refine tNo ?_;refine sRg fun K' gd hK => ?_;refine cu2 fun K1 hK1 => ?_;go_simp;refine Wcall (.inl rfl) (sort0_c _ _ _) ?_;rintro v w3 ⟨-,hE⟩;go_simp;apply hK1;clear hK1 K1;replace xw := xw.trans hE;replace xo := xo.trans hE;clear hE;try simp only [Wops_nil,updO_some,updO_none]
    apply hK;clear hK K' gd;refine Wp.keep [5] ?_;rintro r18 ⟨aj,-⟩;simp [go_sem,i,j,l,d,f,g] at aj;clear i j l d f g;refine sRg fun K' gd hK => ?_;go_simp;apply hK;clear hK K' gd;refine Wp.keep [4] ?_;rintro r19 ⟨aK,-⟩;simp [go_sem,aj] at aK;clear aj;refine Wp.ret ?_;refine endK_tmp Tryz.results96 (by decide) ?_;rw [aK];exact ⟨by rw [hids.choose_spec];exact ⟨_,_,rfl,fun h => absurd rfl h,Nat.zero_le _⟩,xw⟩
   ·skip;obtain ⟨b9,c8,e9,hb9,hc8,hJ⟩ := hO.rowJ hne
    injection e9 with q1 q2 q3
    subst q1;subst q2;subst q3;refine Wp.exit ?_;refine tEx ?_;refine tEx ?_;refine blockK_here ?_;refine tNo ?_;refine sRg fun K' gd hK => ?_;refine cu2 fun K1 hK1 => ?_;go_simp;refine Wcall (.inl rfl) (sort_c b9 L.length _ L _ hJ rfl hfl) ?_;rintro v w3 ⟨hS,hE⟩;go_simp;apply hK1;clear hK1 K1;replace xw := Chg.to xw hE XL;replace xo := Chg.to xo hE XL;try simp only [Wops_nil,updO_some,updO_none]
    apply hK;clear hK K' gd;refine Wp.keep [5] ?_;rintro r21 ⟨ak,-⟩;simp [go_sem,i,j,l,d,f,g] at ak;clear i j l d f g;refine sRg fun K' gd hK => ?_;go_simp;apply hK;clear hK K' gd;refine Wp.keep [4] ?_;rintro r22 ⟨aL,-⟩;simp [go_sem,ak] at aL;clear ak;refine Wp.ret ?_;refine endK_tmp Tryz.results96 (by decide) ?_;rw [aL];exact ⟨by rw [hids.choose_spec];have := hS.intsB (base := w.heap.size) (by omega) (by rw [sortI_len];exact hc8);rwa [sortI_len] at this,xw⟩
def seenP (l : List Int) (a : Alt) : Bool := decide (a.day ≤ gI l a.tu.toNat)
theorem seen1_c (a : Alt) (q : Nat) (fv : Value) (l : List Int) (w : World) (hq : w.cell? ⟨q,0,none⟩ = some fv) (hl : IntsV w w.heap.size fv l) (ha : 0 ≤ a.tu ∧ a.tu < (l.length : Int)) :
  CallsV Tryz.prog 161 (#[altV a] ++ #[.pointer (some ⟨q,0,none⟩)]) w fun v w' => v = .bool (seenP l a) ∧ Ext w w' := by
 show CallsV _ _ #[.agg #[.int .i64 a.id,.int .i64 a.kind,.int .i64 a.day,.int .i64 a.frm,.int .i64 a.tu,.int .i64 a.word],.pointer (some ⟨q,0,none⟩)] _ _
 obtain ⟨n,hn⟩ : ∃ n : Nat,a.tu = (n : Int) := ⟨a.tu.toNat,by omega⟩;have hs : ∃ _u : Unit,seenP l a = decide (a.day ≤ gI l n) := ⟨(),by unfold seenP;rw [hn];rfl⟩;rw [hn];have hnl : n < l.length := by omega
 obtain ⟨b,o,c,rfl,hb,hc⟩ := hl.get hnl;have y0 := hc n hnl;clear hc hn;refine Wp.fn Tryz.func161 rfl Tryz.ntmps161 (by simp) ?_;have xw := Ext.refl w;refine Wp.keep [0,1] ?_;rintro r1 ⟨f,g,-⟩;simp [go_sem] at f g;refine sRg fun K' gd hK => ?_;refine cu1 fun K1 hK1 => ?_;go_simp;apply hK1;clear hK1 K1;refine Wops.absA fun p n2 d => ?_;obtain ⟨q2,d,s2,e,f2,r2⟩ := d;try simp only [q2] at e f2 r2 ⊢
 replace xw := xw.trans d;replace hq := d.cell hq;replace y0 := d.cell y0;have j := e 2 _ rfl;have k := e 4 _ rfl;clear e d;clear r2;go_simp;apply hK;clear hK K' gd;refine Wp.keep [1,2] ?_;rintro r2 ⟨h,i,-⟩;simp [go_sem,f,g] at h i;clear f g;refine Wp.seqDraw (.inl rfl) mixed [([0,1,2,3,4],none),([5,6,7,8],none)] (by kernel_rfl) fun K' gd hK hg => ?_;clear hg;simp only [pick,nth,List.map_cons,List.map_nil,Option.map_none,Option.map_some];refine Mops.absD fun D2 hD2 zD2 => ?_;replace xw := xw.trans hD2;replace hq := hD2.cell hq;replace y0 := hD2.cell y0;replace j := hD2.cell j;replace k := hD2.cell k;clear hD2;refine mNo ?_
 refine mNo ?_
 refine Mops.done ?_;apply hK;clear hK K' gd;refine Wp.keep [3] ?_;rintro r3 ⟨m,-⟩;simp [go_sem,h,i] at m;clear h i;refine Wp.ret ?_;refine endK_tmp Tryz.results161 (by decide) ?_;rw [m];exact ⟨by rw [hs.choose_spec],xw⟩
theorem seen2_c (a : Alt) (q : Nat) (fv : Value) (l : List Int) (w : World) (hq : w.cell? ⟨q,0,none⟩ = some fv) (hl : IntsV w w.heap.size fv l) (ha : 0 ≤ a.tu ∧ a.tu < (l.length : Int)) :
  CallsV Tryz.prog 162 (#[altV a] ++ #[.pointer (some ⟨q,0,none⟩)]) w fun v w' => v = .bool (seenP l a) ∧ Ext w w' := by
 show CallsV _ _ #[.agg #[.int .i64 a.id,.int .i64 a.kind,.int .i64 a.day,.int .i64 a.frm,.int .i64 a.tu,.int .i64 a.word],.pointer (some ⟨q,0,none⟩)] _ _
 obtain ⟨n,hn⟩ : ∃ n : Nat,a.tu = (n : Int) := ⟨a.tu.toNat,by omega⟩;have hs : ∃ _u : Unit,seenP l a = decide (a.day ≤ gI l n) := ⟨(),by unfold seenP;rw [hn];rfl⟩;rw [hn];have hnl : n < l.length := by omega
 obtain ⟨b,o,c,rfl,hb,hc⟩ := hl.get hnl;have y0 := hc n hnl;clear hc hn;refine Wp.fn Tryz.func162 rfl Tryz.ntmps162 (by simp) ?_;have xw := Ext.refl w;refine Wp.keep [0,1] ?_;rintro r1 ⟨f,g,-⟩;simp [go_sem] at f g;refine sRg fun K' gd hK => ?_;refine cu1 fun K1 hK1 => ?_;go_simp;apply hK1;clear hK1 K1;refine Wops.absA fun p n2 d => ?_;obtain ⟨q2,d,s2,e,f2,r2⟩ := d;try simp only [q2] at e f2 r2 ⊢
 replace xw := xw.trans d;replace hq := d.cell hq;replace y0 := d.cell y0;have j := e 2 _ rfl;have k := e 4 _ rfl;clear e d;clear r2;go_simp;apply hK;clear hK K' gd;refine Wp.keep [1,2] ?_;rintro r2 ⟨h,i,-⟩;simp [go_sem,f,g] at h i;clear f g;refine Wp.seqDraw (.inl rfl) mixed [([0,1,2,3,4],none),([5,6,7,8],none)] (by kernel_rfl) fun K' gd hK hg => ?_;clear hg;simp only [pick,nth,List.map_cons,List.map_nil,Option.map_none,Option.map_some];refine Mops.absD fun D2 hD2 zD2 => ?_;replace xw := xw.trans hD2;replace hq := hD2.cell hq;replace y0 := hD2.cell y0;replace j := hD2.cell j;replace k := hD2.cell k;clear hD2;refine mNo ?_
 refine mNo ?_
 refine Mops.done ?_;apply hK;clear hK K' gd;refine Wp.keep [3] ?_;rintro r3 ⟨m,-⟩;simp [go_sem,h,i] at m;clear h i;refine Wp.ret ?_;refine endK_tmp Tryz.results162 (by decide) ?_;rw [m];exact ⟨by rw [hs.choose_spec],xw⟩
theorem Seen_c (v u : Value) (s : Sh) (c : Cp) (w : World) (hV : SheetV w w.heap.size v s) (hU : CopyV w w.heap.size u c) (hf : FitS s) (hg : FitC c) (hal : begE s c = 0 → s.alts.length ≤ 12) :
  CallsV Tryz.prog 92 #[v,u] w fun v w' => ∃ x y,v = .tuple #[x,y,.int .i64 (begE s c)] ∧ IntsB w' w.heap.size x (if begE s c = 0 then idsS s (seenP (s.md c).first) else []) ∧
   IntsB w' w.heap.size y (if begE s c = 0 then idsS s (seenP (s.md c).last) else []) ∧ Ext w w' := by
 obtain ⟨wv,av,rfl,⟨A,c1,rfl,-,-⟩,⟨A3,c3,rfl,-,-⟩⟩ := id hV;obtain ⟨wu,rfl,hW⟩ := id hU;obtain ⟨A2,c2,rfl,-,-⟩ := id hW;refine Wp.fn Tryz.func92 rfl Tryz.ntmps92 (by simp) ?_;have xw := Ext.refl w;refine Wp.keep [0,1] ?_;rintro r1 ⟨J,P,-⟩;simp [go_sem] at J P;refine sRg fun K' gd hK => ?_;refine cu1 fun K1 hK1 => ?_;go_simp;apply hK1;clear hK1 K1;refine Wops.absA fun ap n2 G => ?_;obtain ⟨q2,G,s2,H,f2,r2⟩ := G;try simp only [q2] at H f2 r2 ⊢
 replace xw := xw.trans G;have d := H 0 _ rfl;have f := H 1 _ rfl;clear H G;clear r2;refine cu1 fun K1 hK1 => ?_;go_simp;apply hK1;clear hK1 K1;refine Wops.absA fun aq n3 z => ?_;obtain ⟨q3,z,s3,B,f3,r3⟩ := z;try simp only [q3] at B f3 r3 ⊢
 replace xw := xw.trans z;replace d := z.cell d;replace f := z.cell f;have aw := B 0 _ rfl;have ax := B 1 _ rfl;have ay := B 2 _ rfl;have az := B 3 _ rfl;clear B z;clear r3;go_simp;apply hK;clear hK K' gd;refine Wp.keep [2,3] ?_;rintro r2 ⟨T,Y,-⟩;simp [go_sem,J,P] at T Y;clear J P;refine sRg fun K' gd hK => ?_;refine cu3 fun K1 hK1 => ?_;go_simp;refine Wcall (.inl rfl) (begun_c _ _ s c _ (hV.ext xw) (hU.ext xw) hf hg) ?_;rintro v w2 ⟨B1,b2,b3,b4,b5,b6,B2,b7,b8,dv,rfl,hM,hI,hE⟩;have xc := Ext.refl w2;obtain ⟨A6,n6,c6,rfl⟩ : ∃ A n c,dv = .slice A n c := by obtain ⟨A,c,e⟩ := hI.slice;exact ⟨A,_,c,e⟩
 go_simp;apply hK1;clear hK1 K1;have z3 := Below.size hE;replace xw := xw.trans hE;replace d := hE.cell d;replace f := hE.cell f;clear hE;refine cu5 fun K1 hK1 => ?_;go_simp;apply hK1;clear hK1 K1;refine Wops.absA fun ar n7 r => ?_;obtain ⟨q7,r,s7,t,f7,r7⟩ := r;try simp only [q7] at t f7 r7 ⊢
 replace xw := xw.trans r;replace xc := xc.trans r;replace d := r.cell d;replace f := r.cell f;have k := t 0 _ rfl;have l := t 1 _ rfl;have m := t 2 _ rfl;have o := t 3 _ rfl;have p := t 4 _ rfl;clear t r;clear r7;refine cu1 fun K1 hK1 => ?_;go_simp;apply hK1;clear hK1 K1;refine Wops.absA fun au n8 g => ?_;obtain ⟨q8,g,s8,ah,f8,r8⟩ := g;try simp only [q8] at ah f8 r8 ⊢
 replace f7 := g.fz k f7;replace xw := xw.trans g;replace xc := xc.trans g;replace d := g.cell d;replace f := g.cell f;replace k := g.cell k;replace l := g.cell l;replace m := g.cell m;replace o := g.cell o;replace p := g.cell p;have h := ah 0 _ rfl;clear ah g;clear r8;refine cu1 fun K1 hK1 => ?_;go_simp;apply hK1;clear hK1 K1;refine Wops.absS (b := n7) (i := 0) [_,_,_,_,_] (somes [cellVal k,cellVal l,cellVal m,cellVal o,cellVal p] (by simp) (by intro j v hj;match j,hj with | 0,hj => (simp at hj;subst hj;exact k) | 1,hj => (simp at hj;subst hj;exact l) | 2,hj => (simp at hj;subst hj;exact m) | 3,hj => (simp at hj;subst hj;exact o) | 4,hj => (simp at hj;subst hj;exact p))) fun P6 hP6 => ?_;have zP6 := hP6.same;replace f8 := hP6.frz f8;replace xw := Put.to xw hP6 (by omega);replace xc := Put.to xc hP6 (by omega);replace d := hP6.cell d (by omega);replace f := hP6.cell f (by omega);clear k;clear l;clear m;clear o;clear p;replace h := hP6.cell h (by omega);have k := hP6.new 0 _ rfl;try simp only [Nat.reduceAdd,Nat.zero_add,Nat.add_zero] at k
 have l := hP6.new 1 _ rfl;try simp only [Nat.reduceAdd,Nat.zero_add,Nat.add_zero] at l
 have m := hP6.new 2 _ rfl;try simp only [Nat.reduceAdd,Nat.zero_add,Nat.add_zero] at m
 have o := hP6.new 3 _ rfl;try simp only [Nat.reduceAdd,Nat.zero_add,Nat.add_zero] at o
 have p := hP6.new 4 _ rfl;try simp only [Nat.reduceAdd,Nat.zero_add,Nat.add_zero] at p
 clear hP6;refine cu1 fun K1 hK1 => ?_;go_simp;apply hK1;clear hK1 K1;refine Wops.absS (b := n8) (i := 0) [_] (somes [cellVal h] (by simp) (by intro j v hj;match j,hj with | 0,hj => (simp at hj;subst hj;exact h))) fun P7 hP7 => ?_;have zP7 := hP7.same;replace xw := Put.to xw hP7 (by omega);replace xc := Put.to xc hP7 (by omega);replace d := hP7.cell d (by omega);replace f := hP7.cell f (by omega);clear h;replace k := hP7.cell k (by omega);replace l := hP7.cell l (by omega);replace m := hP7.cell m (by omega);replace o := hP7.cell o (by omega);replace p := hP7.cell p (by omega);have h := hP7.new 0 _ rfl;try simp only [Nat.reduceAdd,Nat.zero_add,Nat.add_zero] at h
 clear hP7;go_simp;apply hK;clear hK K' gd;refine Wp.keep [2,7,8,9] ?_;rintro r4 ⟨C,D,E,F,-⟩;simp [go_sem,T,Y] at C D E F;clear T Y
 by_cases h0 : begE s c = 0
 ·skip;obtain ⟨wu,hwu,hM⟩ := hM h0
  injection hwu with hwu
  simp at hwu;subst hwu;rw [if_pos h0] at hI;obtain ⟨h1,hok⟩ := begE_zero.1 h0;obtain ⟨hg0,hv0⟩ := copyS_zero.1 h1;have hgd := checkS_zero.1 hg0;have hmk := hgd.mdOk hv0;have hfl : (s.md c).first.length = s.words.length := ((hmk.of_ok hok).1).trans hv0.1;have hll : (s.md c).last.length = s.words.length := ((hmk.last_fit hok).1).trans hv0.1;have htu : ∀ a ∈ s.alts,0 ≤ a.tu ∧ a.tu < (s.words.length : Int) := fun a ha => by obtain ⟨q1,q2,q3,q4,-⟩ := hgd.rt a ha;unfold Sh.n at q3 q4;omega
  replace hfl : ∃ _u : Unit,(s.md c).first.length = s.words.length := ⟨(),hfl⟩;replace hll : ∃ _u : Unit,(s.md c).last.length = s.words.length := ⟨(),hll⟩;refine Wp.seq ?_;refine sRg fun K' gd hK => ?_;go_simp;apply hK;clear hK K' gd;refine Wp.keep [2,7,8,9,21] ?_;rintro r5 ⟨U,aa,ac,af,R,-⟩;simp [go_sem,C,D,E,F] at U aa ac af R;clear C D E F;refine cFf ?_;refine skN ?_;refine sRg fun K' gd hK => ?_;refine cu2 fun K1 hK1 => ?_;go_simp;refine Wcall (.inl rfl) (last_c _ (s.md c) _ ((hM.ext xc).made (hW.ext xw)) hmk) ?_;rintro v w4 ⟨hJ,hE⟩;have xd := Ext.refl w4;obtain ⟨A7,n7,c7,rfl⟩ : ∃ A n c,v = .slice A n c := by obtain ⟨A,c,e⟩ := hJ.slice;exact ⟨A,_,c,e⟩
  go_simp;apply hK1;clear hK1 K1;have z6 := Below.size hE;replace xw := xw.trans hE;replace xc := xc.trans hE;replace d := hE.cell d;replace f := hE.cell f;replace h := hE.cell h;clear hE;refine cu2 fun K1 hK1 => ?_;go_simp;apply hK1;clear hK1 K1;refine Wops.absA fun ao n10 q => ?_;obtain ⟨q10,q,s10,ag,f10,r10⟩ := q;try simp only [q10] at ag f10 r10 ⊢
  replace xw := xw.trans q;replace xc := xc.trans q;replace xd := xd.trans q;replace d := q.cell d;replace f := q.cell f;replace h := q.cell h;have I := ag 0 _ rfl;clear ag q;clear r10;try simp only [Wops_nil,updO_some,updO_none]
  apply hK;clear hK K' gd;refine Wp.keep [2,8,10] ?_;rintro r7 ⟨V,ad,K,-⟩;simp [go_sem,U,aa,ac,af,R] at V ad K;clear U aa ac af R;refine sRg fun K' gd hK => ?_;refine cu3 fun K1 hK1 => ?_;go_simp;refine Wcall (.inl rfl) (ids_c _ s (seenP (s.md c).first) 161 #[.pointer (some ⟨n8,0,none⟩)] _ (hV.ext xw) (hal h0) (enters_of Tryz.func161 (by kernel_rfl) rfl) (fun a ha W hW => seen1_c a n8 _ _ W (hW.cell h) (hI.ext (xc.trans hW)).ints (by rw [hfl.choose_spec];exact htu a ha))) ?_;rintro v w5 ⟨hX,hE⟩;go_simp;apply hK1;clear hK1 K1;have z8 := Below.size hE;replace xw := xw.trans hE;replace xc := xc.trans hE;replace xd := xd.trans hE;replace d := hE.cell d;replace f := hE.cell f;replace I := hE.cell I;clear hE;go_simp;apply hK;clear hK K' gd;refine Wp.keep [2,10,11] ?_;rintro r9 ⟨X,L,N,-⟩;simp [go_sem,V,ad,K] at X L N;clear V ad K;refine sRg fun K' gd hK => ?_;refine cu3 fun K1 hK1 => ?_;go_simp;refine Wcall (.inl rfl) (ids_c _ s (seenP (s.md c).last) 162 #[.pointer (some ⟨n10,0,none⟩)] _ (hV.ext xw) (hal h0) (enters_of Tryz.func162 (by kernel_rfl) rfl) (fun a ha W hW => seen2_c a n10 _ _ W (hW.cell I) (hJ.ext (xd.trans hW)).ints (by rw [hll.choose_spec];exact htu a ha))) ?_
  rintro v w6 ⟨hY,hE⟩;go_simp;apply hK1;clear hK1 K1;replace hX := hX.ext hE;replace xw := xw.trans hE;replace xc := xc.trans hE;replace xd := xd.trans hE;clear hE;go_simp;apply hK;clear hK K' gd;refine Wp.keep [11,12] ?_;rintro r11 ⟨M,O,-⟩;simp [go_sem,X,L,N] at M O;clear X L N;refine sRg fun K' gd hK => ?_;go_simp;apply hK;clear hK K' gd;refine Wp.keep [4,5,6] ?_;rintro r12 ⟨ai,ak,am,-⟩;simp [go_sem,M,O] at ai ak am;clear M O;refine Wp.ret ?_;refine endK_tmp3 Tryz.results92 (by decide) (by decide) (by decide) ?_;rw [ai,ak,am];exact ⟨_,_,by rw [h0],by rw [if_pos h0];exact hX.less (by omega),by rw [if_pos h0];exact hY.less (by omega),xw⟩
 ·skip;refine Wp.seq ?_;refine sRg fun K' gd hK => ?_;go_simp;apply hK;clear hK K' gd;refine Wp.keep [2,7,8,9,21] ?_;rintro r13 ⟨S,Z,ab,ae,Q,-⟩;simp [go_sem,C,D,E,F] at S Z ab ae Q;clear C D E F;refine cTt ?_;refine sRg fun K' gd hK => ?_;go_simp;apply hK;clear hK K' gd;refine Wp.keep [4,5,6] ?_;rintro r14 ⟨aj,al,an,-⟩;simp [go_sem,S,Z,ab,ae,Q] at aj al an;clear S Z ab ae Q;refine Wp.ret ?_;refine tRe ?_;refine endK_tmp3 Tryz.results92 (by decide) (by decide) (by decide) ?_;rw [aj,al,an];exact ⟨_,_,rfl,by rw [if_neg h0];exact IntsB.nil _ _,by rw [if_neg h0];exact IntsB.nil _ _,xw⟩
end Go.Proofs.YtnklbepeoicgpaaGreat.St
namespace Go.Proofs.YtnklbepeoicgpaaGreat.St
open Go.RowKit Go.Wk Go.Proofs
attribute [local irreducible] Go.Wk.Wops Go.Wk.Wp Go.Wk.Mtree Go.Wk.Mops
set_option maxHeartbeats 8000000
set_option maxRecDepth 20000
theorem eqSpan (d : Nat) (a b a' b' : Int) (w : World) : (Op.equalIn (d + 2) 45 (.agg #[.int .i64 a,.int .i64 b]) (.agg #[.int .i64 a',.int .i64 b'])).run Tryz.prog w = .ok (decide (a = a') && decide (b = b')) w := by
 have e0 : ∀ (x y : Int) w,(Op.equalIn (d + 1) 3 (.int .i64 x) (.int .i64 y)).run Tryz.prog w = .ok (x == y) w := fun x y w => run_equalIn_int w d _ .i64 .i64 x y Tryz.underlying3;rw [run_equalIn_agg w (d + 1) _ _ _ (by kernel_rfl) (by kernel_rfl)];simp only [Program.fieldsOf,Tryz.underlying45]
 by_cases h1 : a = a' <;> by_cases h2 : b = b' <;> simp [go_sem,Op.eqFields,e0,h1,h2]
@[go_sem] theorem eqSpan_run (a b a' b' : Int) (w : World) : (binOp .eql 45 (.agg #[.int .i64 a,.int .i64 b]) (.agg #[.int .i64 a',.int .i64 b'])).run Tryz.prog w = .ok (.bool (decide (a = a') && decide (b = b'))) w := by
 rw [run_eql_struct,eqSpan 9998];rfl
@[go_sem] theorem eqSpan10 (a b a' b' : Int) (w : World) : (Op.equalIn 10000 45 (.agg #[.int .i64 a,.int .i64 b]) (.agg #[.int .i64 a',.int .i64 b'])).run Tryz.prog w = .ok (decide (a = a') && decide (b = b')) w := eqSpan 9998 a b a' b' w
def fewN (n : Nat) (m : Nat) : Prop := n ≤ 8 ∨ m < n ∧ n ≤ 50
def fewS (s : Sh) : Prop := fewN s.words.length 40 ∧ fewN s.alts.length 40
instance (n m : Nat) : Decidable (fewN n m) := by unfold fewN;infer_instance
instance (s : Sh) : Decidable (fewS s) := by unfold fewS;infer_instance
end Go.Proofs.YtnklbepeoicgpaaGreat.St
namespace Go.Proofs.YtnklbepeoicgpaaGreat.St
open Go.RowKit Go.Wk Go.Proofs
attribute [local irreducible] Go.Wk.Wops Go.Wk.Wp Go.Wk.Mtree Go.Wk.Mops
set_option maxHeartbeats 8000000
set_option maxRecDepth 20000
theorem rowC_ints {W : World} {b n : Nat} {t : TypeId} {xs : List Int} {cs : List Value} (h : RowC W b t cs) (hcs : cs = xs.map (Value.int .i64)) (hn : xs.length = n) : IntsV W W.heap.size (.slice (some ⟨b,0,none⟩) n n) xs := by
 subst hcs;exact RowI.allN ⟨t,h⟩ hn
theorem six_get (l : List Alt) : ∀ (i : Nat) (h : i < l.length) (r : Nat) (u : Value),(encA l[i])[r]? = some u → (l.flatMap encA)[i * 6 + r]? = some u := by
 induction l with
 | nil => intro i h;cases h
 | cons a l ih =>
   intro i h r u hu;rw [List.flatMap_cons]
   cases i with
   | zero =>
     have hr : r < (encA a).length := (List.getElem?_eq_some_iff.1 hu).1;rw [Nat.zero_mul,Nat.zero_add,List.getElem?_append_left hr];exact hu
   | succ i =>
     have hl : (encA a).length = 6 := rfl;rw [List.getElem?_append_right (by rw [hl];omega),hl,show (i + 1) * 6 + r - 6 = i * 6 + r by omega];exact ih i (by simpa using h) r u hu
end Go.Proofs.YtnklbepeoicgpaaGreat.St
namespace Go.Proofs.YtnklbepeoicgpaaGreat.St
theorem Md.Fit.mono {m : Md} {ds : Nat → Int} (h : m.Fit ds) : ∀ {i j : Nat},i ≤ j → j < m.n → ds i ≤ ds j := by
 intro i j hij hj
 induction j with
 | zero => obtain rfl : i = 0 := by omega
           exact Int.le_refl _
 | succ j ih =>
   rcases Nat.lt_or_ge i (j + 1) with h1 | h1
   ·have h2 := ih (by omega) (by omega);have h3 := (h (j + 1) hj).2.2.2.1 (by omega);rw [Nat.add_sub_cancel] at h3;omega
   ·obtain rfl : i = j + 1 := by omega
    exact Int.le_refl _
structure Narrow (m m' : Md) : Prop where
 n : m'.n = m.n
 T : ∀ i,m'.T i = m.T i
 b : m.c.b ≤ m'.c.b
 e : m'.c.e ≤ m.c.e
 p : m'.c.p.toNat ≤ m.c.p.toNat
 p1 : 1 ≤ m'.c.p.toNat
theorem Narrow.fit {m m' : Md} (h : Narrow m m') {ds : Nat → Int} (hd : m'.Fit ds) : m.Fit ds := by
 intro i hi;rw [← h.n] at hi;obtain ⟨h1,h2,h3,h4,h5⟩ := hd i hi;have hb := h.b;have he := h.e;have hp := h.p;have hp1 := h.p1;refine ⟨by omega,by omega,?_,h4,fun hpi => ?_⟩
 ·unfold Md.can at *;rw [← h.T];exact h3
 ·have q1 := h5 (by omega);have q2 := hd.mono (i := i - m.c.p.toNat) (j := i - m'.c.p.toNat) (by omega) (by omega);omega
theorem Md.at_narrow {m : Md} {d : Int} (hp : 1 ≤ m.c.p.toNat) (h : m.c.b ≤ d) : Narrow m (m.at d) := ⟨rfl,fun _ => rfl,h,Int.le_refl _,Nat.le_refl _,hp⟩
theorem longF_le {m : Md} : ∀ (l : List Int) (lo : Int),longF m l lo ≤ lo ∧ ∀ d ∈ l,m.can 0 d ∧ (m.at d).ok = true → longF m l lo ≤ gI (m.at d).first (m.n - 1) - gI (m.at d).first 0
 | [],lo => ⟨Int.le_refl _,fun d hd => by cases hd⟩
 | x :: l,lo => by
   have e : longF m (x :: l) lo = longF m l (if m.can 0 x ∧ (m.at x).ok = true then min lo (gI (m.at x).first (m.n - 1) - gI (m.at x).first 0) else lo) := rfl;rw [e];obtain ⟨h1,h2⟩ := longF_le (m := m) l (if m.can 0 x ∧ (m.at x).ok = true then min lo (gI (m.at x).first (m.n - 1) - gI (m.at x).first 0) else lo);refine ⟨?_,fun d hd hc => ?_⟩
   ·split at h1 <;> split <;> first | omega | contradiction
   ·rcases List.mem_cons.1 hd with rfl | hd
    ·rw [if_pos hc] at h1 ⊢;omega
    ·exact h2 d hd hc
theorem longF_or {m : Md} : ∀ (l : List Int) (lo : Int),longF m l lo = lo ∨ ∃ d ∈ l,(m.can 0 d ∧ (m.at d).ok = true) ∧ longF m l lo = gI (m.at d).first (m.n - 1) - gI (m.at d).first 0
 | [],lo => .inl rfl
 | x :: l,lo => by
   have e : longF m (x :: l) lo = longF m l (if m.can 0 x ∧ (m.at x).ok = true then min lo (gI (m.at x).first (m.n - 1) - gI (m.at x).first 0) else lo) := rfl;rw [e]
   rcases longF_or (m := m) l (if m.can 0 x ∧ (m.at x).ok = true then min lo (gI (m.at x).first (m.n - 1) - gI (m.at x).first 0) else lo) with h | ⟨d,hd,hc,h⟩
   ·by_cases hx : m.can 0 x ∧ (m.at x).ok = true
    ·rw [if_pos hx] at h ⊢
     rcases Int.le_total lo (gI (m.at x).first (m.n - 1) - gI (m.at x).first 0) with q | q
     ·exact .inl (by rw [h,Int.min_eq_left q])
     ·exact .inr ⟨x,List.mem_cons_self,hx,by rw [h,Int.min_eq_right q]⟩
    ·rw [if_neg hx] at h ⊢;exact .inl h
   ·exact .inr ⟨d,List.mem_cons_of_mem _ hd,hc,h⟩
section
variable {m : Md} (h : MdOk m) (hk : m.ok = true)
include h hk
theorem long_le {ds : Nat → Int} (hd : m.Fit ds) : (longS m).1 ≤ ds (m.n - 1) - ds 0 := by
 unfold longS
 by_cases h1 : m.n = 1
 ·rw [if_pos h1,h1];simp
 ·rw [if_neg h1];have hn := h.n1;obtain ⟨f1,-,f2,f3⟩ := h.of_ok hk;obtain ⟨l1,l2,l3⟩ := h.last_fit hk;have a1 := f3 ds hd 0 (by omega);have a2 := l3 ds hd 0 (by omega);obtain ⟨c1,c2,c3,-⟩ := hd 0 (by omega);have hma : MdOk (m.at (ds 0)) := h.at (by have := h.b0;omega) c2
  have hfit : (m.at (ds 0)).Fit ds := fun i hi => by
   obtain ⟨q1,q2,q3,q4,q5⟩ := hd i hi;exact ⟨hd.mono (Nat.zero_le i) hi,q2,q3,q4,q5⟩
  have hok := hma.ok_of hfit;obtain ⟨g1,-,g2,g3⟩ := hma.of_ok hok;have e1 := (longF_le (m := m) (daysL (gI m.first 0) (gI m.last 0)) (longHi m)).2 (ds 0) (mem_daysL.2 ⟨a1,a2⟩) ⟨c3,hok⟩;have e2 := g3 ds hfit (m.n - 1) (by show m.n - 1 < m.n;omega);have e3 := (g2 0 (by show 0 < m.n;omega)).1
  dsimp only
  have e4 : (m.at (ds 0)).c.b = ds 0 := rfl;omega
theorem long_or : (longS m).1 = (longS m).2 ∨ ∃ ds,m.Fit ds ∧ (longS m).1 = ds (m.n - 1) - ds 0 := by
 unfold longS
 by_cases h1 : m.n = 1
 ·rw [if_pos h1];exact .inl rfl
 ·rw [if_neg h1];have hn := h.n1;obtain ⟨f1,-,f2,f3⟩ := h.of_ok hk;obtain ⟨l1,l2,l3⟩ := h.last_fit hk
  rcases longF_or (m := m) (daysL (gI m.first 0) (gI m.last 0)) (longHi m) with e | ⟨d,hd,⟨hc,hok⟩,e⟩
  ·exact .inl e
  ·obtain ⟨d1,d2⟩ := mem_daysL.1 hd;have b1 := (f2 0 (by omega)).1;have b2 := (l2 0 (by omega)).2.1;have hma : MdOk (m.at d) := h.at (by have := h.b0;omega) (by omega);obtain ⟨g1,-,g2,g3⟩ := hma.of_ok hok;exact .inr ⟨gI (m.at d).first,(Md.at_narrow h.pp (by omega)).fit g2,e⟩
theorem long_hi : (longS m).2 = gI m.last (m.n - 1) - gI m.first 0 ∨ m.n = 1 ∧ (longS m).2 = 0 := by
 unfold longS
 by_cases h1 : m.n = 1
 ·rw [if_pos h1];exact .inr ⟨h1,rfl⟩
 ·rw [if_neg h1];exact .inl rfl
end
theorem Narrow.long {m m' : Md} (h : Narrow m m') (hm : MdOk m) (hm' : MdOk m') (hk' : m'.ok = true) : (longS m).1 ≤ (longS m').1 ∧ (longS m').2 ≤ (longS m).2 := by
 obtain ⟨f1,-,f2,f3⟩ := hm'.of_ok hk';obtain ⟨l1,l2,l3⟩ := hm'.last_fit hk';have hk := hm.ok_of (h.fit f2);obtain ⟨F1,-,F2,F3⟩ := hm.of_ok hk;obtain ⟨L1,L2,L3⟩ := hm.last_fit hk;have hn := hm.n1;have hnn := h.n;have a1 := f3 _ l2 0 (by omega);have a2 := L3 _ (h.fit l2) (m.n - 1) (by omega);have a3 := F3 _ (h.fit f2) 0 (by omega);have b1 := long_le hm hk (h.fit l2);have e : m'.n - 1 = m.n - 1 := by omega
 refine ⟨?_,?_⟩
 ·rcases long_or hm' hk' with q | ⟨ds,hd,q⟩
  ·rcases long_hi hm' hk' with r | ⟨r,r2⟩
   ·rw [q,r,e];omega
   ·rw [q,r2];have e1 : m.n = 1 := by omega
    unfold longS;rw [if_pos e1];exact Int.le_refl _
  ·rw [q,e];exact long_le hm hk (h.fit hd)
 ·rcases long_hi hm' hk' with r | ⟨r,r2⟩
  ·rcases long_hi hm hk with s | ⟨s,s2⟩
   ·rw [r,s,e];omega
   ·unfold longS;rw [if_pos (show m'.n = 1 by omega),if_pos s];exact Int.le_refl _
  ·rw [r2];unfold longS;rw [if_pos (show m.n = 1 by omega)];exact Int.le_refl _
end Go.Proofs.YtnklbepeoicgpaaGreat.St
namespace Go.Proofs.YtnklbepeoicgpaaGreat.St
def HoldAt (m : Md) (fl : List Int) (i : Nat) : Prop := (m.c.p.toNat ≤ i ∧ m.c.e ≤ gI fl (i - m.c.p.toNat)) ∨ m.nx i (fromD m.c.b m.c.p.toNat fl i) = 731 ∨ gI fl i ≤ m.nx i (fromD m.c.b m.c.p.toNat fl i)
instance (m : Md) (fl : List Int) (i : Nat) : Decidable (HoldAt m fl i) := by unfold HoldAt;infer_instance
def RoofAt (m : Md) (cl : List Int) (i : Nat) : Prop := (i + m.c.p.toNat < cl.length ∧ gI cl (i + m.c.p.toNat) ≤ m.c.b) ∨ m.bf i (toD m.c.e m.c.p.toNat (cl.drop (i + 1))) = -1 ∨ m.bf i (toD m.c.e m.c.p.toNat (cl.drop (i + 1))) ≤ gI cl i
instance (m : Md) (cl : List Int) (i : Nat) : Decidable (RoofAt m cl i) := by unfold RoofAt;infer_instance
end Go.Proofs.YtnklbepeoicgpaaGreat.St
namespace Go.Proofs.YtnklbepeoicgpaaGreat.St
open Go.RowKit Go.Wk Go.Proofs
attribute [local irreducible] Go.Wk.Wops Go.Wk.Wp Go.Wk.Mtree Go.Wk.Mops
set_option maxHeartbeats 8000000
set_option maxRecDepth 20000
def befE (s : Sh) (c d : Cp) : Int := if copyS s c = 0 then (if copyS s d = 0 then (if begE s c = 0 then begE s d else begE s c) else copyS s d) else copyS s c
theorem beg_know {s : Sh} {c : Cp} (h : begE s c = 0) : Good s ∧ MdOk (s.md c) ∧ (s.md c).ok = true ∧ (s.md c).first.length = s.words.length ∧ (s.md c).last.length = s.words.length ∧ 1 ≤ s.words.length ∧ s.words.length ≤ 40 := by
 obtain ⟨h1,h2⟩ := begE_zero.1 h;obtain ⟨hg0,hv0⟩ := copyS_zero.1 h1;have hgd := checkS_zero.1 hg0;have hm := hgd.mdOk hv0;have e : (s.md c).n = s.words.length := hv0.1;have := hm.n1;have := hm.n2;exact ⟨hgd,hm,h2,((hm.of_ok h2).1).trans hv0.1,((hm.last_fit h2).1).trans hv0.1,by omega,by omega⟩
end Go.Proofs.YtnklbepeoicgpaaGreat.St
namespace Go.Proofs.YtnklbepeoicgpaaGreat.St
theorem id_inj : ∀ {l : List Alt},(l.map Alt.id).Nodup → ∀ a ∈ l,∀ b ∈ l,a.id = b.id → a = b
 | [],_,a,ha,_,_,_ => by cases ha
 | x :: l,h,a,ha,b,hb,e => by
   rw [List.map_cons,List.nodup_cons] at h
   rcases List.mem_cons.1 ha with ha1 | ha1 <;> rcases List.mem_cons.1 hb with hb1 | hb1
   ·rw [ha1,hb1]
   ·exact absurd (List.mem_map.2 ⟨b,hb1,by rw [← e,ha1]⟩) h.1
   ·exact absurd (List.mem_map.2 ⟨a,ha1,by rw [e,hb1]⟩) h.1
   ·exact id_inj h.2 a ha1 b hb1 e
theorem ids_mem {s : Sh} (h : (s.alts.map Alt.id).Nodup) {a : Alt} (ha : a ∈ s.alts) (p : Alt → Bool) : a.id ∈ idsS s p ↔ p a = true := by
 unfold idsS;rw [sortI_mem,List.mem_map]
 constructor
 ·rintro ⟨b,hb,e⟩;rw [List.mem_filter] at hb;rw [← id_inj h b hb.1 a ha e];exact hb.2
 ·intro hp;exact ⟨a,List.mem_filter.2 ⟨ha,hp⟩,rfl⟩
def betP (f b : List Int) (a : Alt) : Bool := decide (a.day ≤ gI f a.tu.toNat) && decide (gI b a.tu.toNat < a.day)
theorem betP_true {f b : List Int} {a : Alt} : betP f b a = true ↔ a.day ≤ gI f a.tu.toNat ∧ gI b a.tu.toNat < a.day := by
 unfold betP;rw [Bool.and_eq_true,decide_eq_true_eq,decide_eq_true_eq]
theorem befE_zero {s : Sh} {c d : Cp} : befE s c d = 0 ↔ begE s c = 0 ∧ begE s d = 0 := by
 unfold befE
 constructor
 ·intro h
  split at h
  ·split at h
   ·split at h
    ·exact ⟨by assumption,h⟩
    ·contradiction
   ·contradiction
  ·contradiction
 ·rintro ⟨h1,h2⟩;rw [if_pos (begE_zero.1 h1).1,if_pos (begE_zero.1 h2).1,if_pos h1,h2]
structure DaysE (s : Sh) (c : Cp) : Prop where
 le : ∀ i,i < s.words.length → gI (s.md c).first i ≤ gI (s.md c).last i
 fm : ∀ i j,i ≤ j → j < s.words.length → gI (s.md c).first i ≤ gI (s.md c).first j
 lm : ∀ i j,i ≤ j → j < s.words.length → gI (s.md c).last i ≤ gI (s.md c).last j
 fit : ∀ ds,(s.md c).Fit ds → ∀ i,i < s.words.length → gI (s.md c).first i ≤ ds i ∧ ds i ≤ gI (s.md c).last i
 tu : ∀ a ∈ s.alts,a.tu.toNat < s.words.length ∧ 0 ≤ a.tu
theorem ends_of {s : Sh} {c : Cp} (h : begE s c = 0) : DaysE s c := by
 obtain ⟨hg,hm,hk,hl1,hl2,hn1,hn2⟩ := beg_know h;have hn : (s.md c).n = s.words.length := (hm.of_ok hk).1.symm.trans hl1;obtain ⟨-,-,f3,f4⟩ := hm.of_ok hk;obtain ⟨-,l2,l3⟩ := hm.last_fit hk;refine ⟨fun i hi => f4 _ l2 i (by omega),fun i j h1 h2 => f3.mono h1 (by omega),fun i j h1 h2 => l2.mono h1 (by omega),fun ds hd i hi => ⟨f4 ds hd i (by omega),l3 ds hd i (by omega)⟩,fun a ha => ?_⟩;obtain ⟨q1,q2,q3,q4,-⟩ := hg.rt a ha;unfold Sh.n at q3 q4;omega
end Go.Proofs.YtnklbepeoicgpaaGreat.St
namespace Go.Proofs.YtnklbepeoicgpaaGreat.St
open Go.RowKit Go.Wk Go.Proofs
attribute [local irreducible] Go.Wk.Wops Go.Wk.Wp Go.Wk.Mtree Go.Wk.Mops
set_option maxHeartbeats 8000000
set_option maxRecDepth 20000
theorem _root_.Go.Proofs.YtnklbepeoicgpaaGreat.IntsB.two {w X : World} {base p q : Nat} {a b v : Value} {xs : List Int} (h : IntsB w base v xs) (hE : Ext w X) (hp : p < base ∨ w.heap.size ≤ p) (hq : q < base ∨ w.heap.size ≤ q) : IntsB ((X.setCell ⟨p,0,none⟩ a).setCell ⟨q,0,none⟩ b) base v xs := by
 obtain ⟨A,c,rfl,hx,hl⟩ := h;have hC : Chg [p,q] X ((X.setCell ⟨p,0,none⟩ a).setCell ⟨q,0,none⟩ b) := ((Chg.refl [p,q] X).setC (by simp)).setC (by simp);refine ⟨A,c,rfl,fun hne => ?_,hl⟩;obtain ⟨g,o,h1,h2,h3,h4⟩ := hx hne;have hs := Below.size hE;have hs2 := hC.size;exact ⟨g,o,h1,h2,by omega,fun k hk => Chg.cell hC (hE.cell (h4 k hk)) (by intro hm;simp at hm;omega)⟩
theorem bet1_c (a : Alt) (q r : Nat) (fv gv : Value) (f b : List Int) (w : World) (hq : w.cell? ⟨q,0,none⟩ = some fv) (hr : w.cell? ⟨r,0,none⟩ = some gv) (hl : IntsV w w.heap.size fv f) (hm : IntsV w w.heap.size gv b) (ha : 0 ≤ a.tu ∧ a.tu < (f.length : Int)) (hfb : f.length = b.length) :
  CallsV Tryz.prog 97 (#[altV a] ++ #[.pointer (some ⟨q,0,none⟩),.pointer (some ⟨r,0,none⟩)]) w fun v w' => v = .bool (betP f b a) ∧ Ext w w' := by
 show CallsV _ _ #[.agg #[.int .i64 a.id,.int .i64 a.kind,.int .i64 a.day,.int .i64 a.frm,.int .i64 a.tu,.int .i64 a.word],.pointer (some ⟨q,0,none⟩),.pointer (some ⟨r,0,none⟩)] _ _
 obtain ⟨n,hn⟩ : ∃ n : Nat,a.tu = (n : Int) := ⟨a.tu.toNat,by omega⟩;have hs : ∃ _u : Unit,betP f b a = (decide (a.day ≤ gI f n) && decide (gI b n < a.day)) := ⟨(),by unfold betP;rw [hn];rfl⟩;rw [hn];have hnl : n < f.length := by omega
 have hnb : n < b.length := by omega
 obtain ⟨g,o,c,rfl,hb,hc⟩ := hl.get hnl;obtain ⟨g2,o2,c2,rfl,hb2,hc2⟩ := hm.get hnb;have y0 := hc n hnl;have y1 := hc2 n hnb;have i1 : (n : Int) < (f.length : Int) := by omega
 have i2 : (n : Int) < (b.length : Int) := by omega
 clear hc hc2 hn hfb ha;refine Wp.fn Tryz.func97 rfl Tryz.ntmps97 (by simp) ?_;have xw := Ext.refl w;refine Wp.keep [0,1,2] ?_;rintro r1 ⟨j,k,l,-⟩;simp [go_sem] at j k l
 by_cases h1 : a.day ≤ gI f n
 ·skip;refine sRg fun K' gd hK => ?_;refine cu1 fun K1 hK1 => ?_;go_simp;apply hK1;clear hK1 K1;refine Wops.absA fun C n3 d => ?_;obtain ⟨q3,d,s3,m,f3,r3⟩ := d;try simp only [q3] at m f3 r3 ⊢
  replace xw := xw.trans d;replace hq := d.cell hq;replace hr := d.cell hr;replace y0 := d.cell y0;replace y1 := d.cell y1;have h := m 2 _ rfl;have i := m 4 _ rfl;clear m d;clear r3;go_simp;apply hK;clear hK K' gd;refine Wp.keep [1,2,3] ?_;rintro r2 ⟨s,u,y,-⟩;simp [go_sem,j,k,l] at s u y;clear j k l;refine Wp.seqDraw (.inl rfl) mixed [([0,1,2,3,4],none),([5,6,7,8],none),([9,10,11,12,13],none),([14,15,16,17,18],none)] (by kernel_rfl) fun K' gd hK hg => ?_;have g8 : gd 8 = some 13 := hg 8;clear hg;simp only [pick,nth,List.map_cons,List.map_nil,Option.map_none,Option.map_some];refine Mops.absD fun D2 hD2 zD2 => ?_;replace xw := xw.trans hD2;replace hq := hD2.cell hq;replace hr := hD2.cell hr;replace y0 := hD2.cell y0;replace y1 := hD2.cell y1;replace h := hD2.cell h;replace i := hD2.cell i;clear hD2;refine mNo ?_
  refine mNo ?_
  refine mNo ?_
  refine mNo ?_
  refine Mops.done ?_;apply hK;clear hK K' gd g8;refine Wp.keep [4] ?_;rintro r3 ⟨A,-⟩;simp [go_sem,s,u,y] at A;clear s u y;refine Wp.ret ?_;refine endK_tmp Tryz.results97 (by decide) ?_;rw [A];exact ⟨by rw [hs.choose_spec,decide_eq_true h1];rfl,xw⟩
 ·skip;refine sRg fun K' gd hK => ?_;refine cu1 fun K1 hK1 => ?_;go_simp;apply hK1;clear hK1 K1;refine Wops.absA fun D n3 e => ?_;obtain ⟨q3,e,s3,p,f3,r3⟩ := e;try simp only [q3] at p f3 r3 ⊢
  replace xw := xw.trans e;replace hq := e.cell hq;replace y0 := e.cell y0;have h := p 2 _ rfl;have i := p 4 _ rfl;clear p e;clear r3;go_simp;apply hK;clear hK K' gd;refine Wp.keep [1,2,3] ?_;rintro r4 ⟨t,x,z,-⟩;simp [go_sem,j,k,l] at t x z;clear j k l;refine Wp.seqDraw (.inl rfl) mixed [([0,1,2,3,4],none),([5,6,7,8],none),([9,10,11,12,13],none),([14,15,16,17,18],none)] (by kernel_rfl) fun K' gd hK hg => ?_;have g8 : gd 8 = some 13 := hg 8;clear hg;simp only [pick,nth,List.map_cons,List.map_nil,Option.map_none,Option.map_some];refine Mops.absD fun D4 hD4 zD4 => ?_;replace xw := xw.trans hD4;replace hq := hD4.cell hq;replace y0 := hD4.cell y0;replace h := hD4.cell h;replace i := hD4.cell i;clear hD4;refine mNo ?_
  refine mNo ?_
  apply Mops.none
  ·intro w' hE';go_simp;with_reducible rfl
  apply Mops.none
  ·intro w' hE';go_simp;with_reducible rfl
  refine Mops.done ?_;apply hK;clear hK K' gd g8;refine Wp.keep [4] ?_;rintro r5 ⟨B,-⟩;simp [go_sem,t,x,z] at B;clear t x z;refine Wp.ret ?_;refine endK_tmp Tryz.results97 (by decide) ?_;rw [B];exact ⟨by rw [hs.choose_spec,decide_eq_false h1];rfl,xw⟩
theorem bet2_c (a : Alt) (q r : Nat) (fv gv : Value) (f b : List Int) (w : World) (hq : w.cell? ⟨q,0,none⟩ = some fv) (hr : w.cell? ⟨r,0,none⟩ = some gv) (hl : IntsV w w.heap.size fv f) (hm : IntsV w w.heap.size gv b) (ha : 0 ≤ a.tu ∧ a.tu < (f.length : Int)) (hfb : f.length = b.length) :
  CallsV Tryz.prog 98 (#[altV a] ++ #[.pointer (some ⟨q,0,none⟩),.pointer (some ⟨r,0,none⟩)]) w fun v w' => v = .bool (betP f b a) ∧ Ext w w' := by
 show CallsV _ _ #[.agg #[.int .i64 a.id,.int .i64 a.kind,.int .i64 a.day,.int .i64 a.frm,.int .i64 a.tu,.int .i64 a.word],.pointer (some ⟨q,0,none⟩),.pointer (some ⟨r,0,none⟩)] _ _
 obtain ⟨n,hn⟩ : ∃ n : Nat,a.tu = (n : Int) := ⟨a.tu.toNat,by omega⟩;have hs : ∃ _u : Unit,betP f b a = (decide (a.day ≤ gI f n) && decide (gI b n < a.day)) := ⟨(),by unfold betP;rw [hn];rfl⟩;rw [hn];have hnl : n < f.length := by omega
 have hnb : n < b.length := by omega
 obtain ⟨g,o,c,rfl,hb,hc⟩ := hl.get hnl;obtain ⟨g2,o2,c2,rfl,hb2,hc2⟩ := hm.get hnb;have y0 := hc n hnl;have y1 := hc2 n hnb;have i1 : (n : Int) < (f.length : Int) := by omega
 have i2 : (n : Int) < (b.length : Int) := by omega
 clear hc hc2 hn hfb ha;refine Wp.fn Tryz.func98 rfl Tryz.ntmps98 (by simp) ?_;have xw := Ext.refl w;refine Wp.keep [0,1,2] ?_;rintro r1 ⟨j,k,l,-⟩;simp [go_sem] at j k l
 by_cases h1 : a.day ≤ gI f n
 ·skip;refine sRg fun K' gd hK => ?_;refine cu1 fun K1 hK1 => ?_;go_simp;apply hK1;clear hK1 K1;refine Wops.absA fun C n3 d => ?_;obtain ⟨q3,d,s3,m,f3,r3⟩ := d;try simp only [q3] at m f3 r3 ⊢
  replace xw := xw.trans d;replace hq := d.cell hq;replace hr := d.cell hr;replace y0 := d.cell y0;replace y1 := d.cell y1;have h := m 2 _ rfl;have i := m 4 _ rfl;clear m d;clear r3;go_simp;apply hK;clear hK K' gd;refine Wp.keep [1,2,3] ?_;rintro r2 ⟨s,u,y,-⟩;simp [go_sem,j,k,l] at s u y;clear j k l;refine Wp.seqDraw (.inl rfl) mixed [([0,1,2,3,4],none),([5,6,7,8],none),([9,10,11,12,13],none),([14,15,16,17,18],none)] (by kernel_rfl) fun K' gd hK hg => ?_;have g8 : gd 8 = some 13 := hg 8;clear hg;simp only [pick,nth,List.map_cons,List.map_nil,Option.map_none,Option.map_some];refine Mops.absD fun D2 hD2 zD2 => ?_;replace xw := xw.trans hD2;replace hq := hD2.cell hq;replace hr := hD2.cell hr;replace y0 := hD2.cell y0;replace y1 := hD2.cell y1;replace h := hD2.cell h;replace i := hD2.cell i;clear hD2;refine mNo ?_
  refine mNo ?_
  refine mNo ?_
  refine mNo ?_
  refine Mops.done ?_;apply hK;clear hK K' gd g8;refine Wp.keep [4] ?_;rintro r3 ⟨A,-⟩;simp [go_sem,s,u,y] at A;clear s u y;refine Wp.ret ?_;refine endK_tmp Tryz.results98 (by decide) ?_;rw [A];exact ⟨by rw [hs.choose_spec,decide_eq_true h1];rfl,xw⟩
 ·skip;refine sRg fun K' gd hK => ?_;refine cu1 fun K1 hK1 => ?_;go_simp;apply hK1;clear hK1 K1;refine Wops.absA fun D n3 e => ?_;obtain ⟨q3,e,s3,p,f3,r3⟩ := e;try simp only [q3] at p f3 r3 ⊢
  replace xw := xw.trans e;replace hq := e.cell hq;replace y0 := e.cell y0;have h := p 2 _ rfl;have i := p 4 _ rfl;clear p e;clear r3;go_simp;apply hK;clear hK K' gd;refine Wp.keep [1,2,3] ?_;rintro r4 ⟨t,x,z,-⟩;simp [go_sem,j,k,l] at t x z;clear j k l;refine Wp.seqDraw (.inl rfl) mixed [([0,1,2,3,4],none),([5,6,7,8],none),([9,10,11,12,13],none),([14,15,16,17,18],none)] (by kernel_rfl) fun K' gd hK hg => ?_;have g8 : gd 8 = some 13 := hg 8;clear hg;simp only [pick,nth,List.map_cons,List.map_nil,Option.map_none,Option.map_some];refine Mops.absD fun D4 hD4 zD4 => ?_;replace xw := xw.trans hD4;replace hq := hD4.cell hq;replace y0 := hD4.cell y0;replace h := hD4.cell h;replace i := hD4.cell i;clear hD4;refine mNo ?_
  refine mNo ?_
  apply Mops.none
  ·intro w' hE';go_simp;with_reducible rfl
  apply Mops.none
  ·intro w' hE';go_simp;with_reducible rfl
  refine Mops.done ?_;apply hK;clear hK K' gd g8;refine Wp.keep [4] ?_;rintro r5 ⟨B,-⟩;simp [go_sem,t,x,z] at B;clear t x z;refine Wp.ret ?_;refine endK_tmp Tryz.results98 (by decide) ?_;rw [B];exact ⟨by rw [hs.choose_spec,decide_eq_false h1];rfl,xw⟩
theorem Between_c (v u t : Value) (s : Sh) (c d : Cp) (w : World) (hV : SheetV w w.heap.size v s) (hU : CopyV w w.heap.size u c) (hT : CopyV w w.heap.size t d) (hf : FitS s) (hg : FitC c) (hh : FitC d) (hal : befE s c d = 0 → s.alts.length ≤ 12) :
  CallsV Tryz.prog 24 #[v,u,t] w fun v w' => ∃ x y,v = .tuple #[x,y,.int .i64 (befE s c d)] ∧ IntsB w' w.heap.size x (if befE s c d = 0 then idsS s (betP (s.md d).first (s.md c).last) else []) ∧
   IntsB w' w.heap.size y (if befE s c d = 0 then idsS s (betP (s.md d).last (s.md c).first) else []) ∧ Ext w w' := by
 obtain ⟨wv,av,rfl,⟨A,c1,rfl,-,-⟩,⟨A3,c3,rfl,-,-⟩⟩ := id hV;obtain ⟨wu,rfl,hW⟩ := id hU;obtain ⟨A2,c2,rfl,-,-⟩ := id hW;obtain ⟨wt,rfl,hX⟩ := id hT;obtain ⟨A4,c4,rfl,-,-⟩ := id hX;refine Wp.fn Tryz.func24 rfl Tryz.ntmps24 (by simp) ?_;have xw := Ext.refl w;refine Wp.keep [0,1,2] ?_;rintro r1 ⟨az,aW,aZ,-⟩;simp [go_sem] at az aW aZ;refine sRg fun K' gd hK => ?_;refine cu1 fun K1 hK1 => ?_;go_simp;apply hK1;clear hK1 K1;refine Wops.absA fun cl n3 ax => ?_;obtain ⟨q3,ax,s3,ay,f3,r3⟩ := ax;try simp only [q3] at ay f3 r3 ⊢
 replace xw := xw.trans ax;have f := ay 0 _ rfl;have g := ay 1 _ rfl;clear ay ax;clear r3;refine cu1 fun K1 hK1 => ?_;go_simp;apply hK1;clear hK1 K1;refine Wops.absA fun cm n4 T => ?_;obtain ⟨q4,T,s4,U,f4,r4⟩ := T;try simp only [q4] at U f4 r4 ⊢
 replace xw := xw.trans T;replace f := T.cell f;replace g := T.cell g;have P := U 0 _ rfl;have Q := U 1 _ rfl;have R := U 2 _ rfl;have S := U 3 _ rfl;clear U T;clear r4;refine cu1 fun K1 hK1 => ?_;go_simp;apply hK1;clear hK1 K1;refine Wops.absA fun cn n5 I => ?_;obtain ⟨q5,I,s5,V,f5,r5⟩ := I;try simp only [q5] at V f5 r5 ⊢
 replace xw := xw.trans I;replace f := I.cell f;replace g := I.cell g;replace P := I.cell P;replace Q := I.cell Q;replace R := I.cell R;replace S := I.cell S;have z := V 0 _ rfl;have B := V 1 _ rfl;have C := V 2 _ rfl;have D := V 3 _ rfl;clear V I;clear r5;go_simp;apply hK;clear hK K' gd;refine Wp.keep [3,4,5] ?_;rintro r2 ⟨a4,bf,bm,-⟩;simp [go_sem,az,aW,aZ] at a4 bf bm;clear az aW aZ;refine Wp.seq ?_;refine sRg fun K' gd hK => ?_;refine cu3 fun K1 hK1 => ?_;go_simp;refine Wcall (.inl rfl) (copy_c _ _ s c _ (hV.ext xw) (hU.ext xw) hf hg) ?_;rintro v w2 ⟨rfl,hE⟩;go_simp;apply hK1;clear hK1 K1;have z3 := Below.size hE;replace xw := xw.trans hE;replace f := hE.cell f;replace g := hE.cell g;replace P := hE.cell P;replace Q := hE.cell Q;replace R := hE.cell R;replace S := hE.cell S;replace z := hE.cell z;replace B := hE.cell B;replace C := hE.cell C;replace D := hE.cell D;clear hE;go_simp;apply hK;clear hK K' gd;refine Wp.keep [3,4,5,9] ?_;rintro r4 ⟨ai,ak,an,ap,-⟩
 simp [go_sem,a4,bf,bm] at ai ak an ap;clear a4 bf bm
 by_cases k1 : copyS s c = 0
 ·skip;refine sRg fun K' gd hK => ?_;go_simp;apply hK;clear hK K' gd;refine Wp.keep [3,4,5,9,24] ?_;rintro r5 ⟨a5,bg,bn,bs,aX,-⟩;simp [go_sem,ai,ak,an,ap] at a5 bg bn bs aX;clear ai ak an ap;refine cFf ?_;refine skN ?_;refine Wp.seq ?_;refine sRg fun K' gd hK => ?_;refine cu3 fun K1 hK1 => ?_;go_simp;refine Wcall (.inl rfl) (copy_c _ _ s d _ (hV.ext xw) (hT.ext xw) hf hh) ?_;rintro v w3 ⟨rfl,hE⟩;go_simp;apply hK1;clear hK1 K1;have z6 := Below.size hE;replace xw := xw.trans hE;replace f := hE.cell f;replace g := hE.cell g;replace P := hE.cell P;replace Q := hE.cell Q;replace R := hE.cell R;replace S := hE.cell S;replace z := hE.cell z;replace B := hE.cell B;replace C := hE.cell C;replace D := hE.cell D;clear hE;go_simp;apply hK;clear hK K' gd;refine Wp.keep [3,4,5,10] ?_;rintro r7 ⟨aj,al,ao,X,-⟩;simp [go_sem,a5,bg,bn,bs,aX] at aj al ao X;clear a5 bg bn bs aX
  by_cases k2 : copyS s d = 0
  ·skip;refine sRg fun K' gd hK => ?_;go_simp;apply hK;clear hK K' gd;refine Wp.keep [3,4,5,10,30] ?_;rintro r8 ⟨bc,bj,br,aB,a1,-⟩;simp [go_sem,aj,al,ao,X] at bc bj br aB a1;clear aj al ao X;refine cFf ?_;refine skN ?_;refine sRg fun K' gd hK => ?_;refine cu3 fun K1 hK1 => ?_;go_simp;refine Wcall (.inl rfl) (begun_c _ _ s c _ (hV.ext xw) (hU.ext xw) hf hg) ?_;rintro v w4 ⟨B1,b2,b3,b4,b5,b6,B2,b7,b8,dv,rfl,hM,hI,hE⟩;have xc := Ext.refl w4;obtain ⟨A6,n6,c6,rfl⟩ : ∃ A n c,dv = .slice A n c := by obtain ⟨A,c,e⟩ := hI.slice;exact ⟨A,_,c,e⟩
   go_simp;apply hK1;clear hK1 K1;have z9 := Below.size hE;replace xw := xw.trans hE;replace f := hE.cell f;replace g := hE.cell g;replace z := hE.cell z;replace B := hE.cell B;replace C := hE.cell C;replace D := hE.cell D;clear hE;refine cu5 fun K1 hK1 => ?_;go_simp;apply hK1;clear hK1 K1;refine Wops.absA fun ch n11 F => ?_;obtain ⟨q11,F,s11,N,f11,r11⟩ := F;try simp only [q11] at N f11 r11 ⊢
   replace xw := xw.trans F;replace xc := xc.trans F;replace f := F.cell f;replace g := F.cell g;replace z := F.cell z;replace B := F.cell B;replace C := F.cell C;replace D := F.cell D;have k := N 0 _ rfl;have m := N 1 _ rfl;have o := N 2 _ rfl;have p := N 3 _ rfl;have q := N 4 _ rfl;clear N F;clear r11;refine cu1 fun K1 hK1 => ?_;go_simp;apply hK1;clear hK1 K1;refine Wops.absA fun ci n12 r => ?_;obtain ⟨q12,r,s12,bu,f12,r12⟩ := r;try simp only [q12] at bu f12 r12 ⊢
   replace f11 := r.fz k f11;replace xw := xw.trans r;replace xc := xc.trans r;replace f := r.cell f;replace g := r.cell g;replace z := r.cell z;replace B := r.cell B;replace C := r.cell C;replace D := r.cell D;replace k := r.cell k;replace m := r.cell m;replace o := r.cell o;replace p := r.cell p;replace q := r.cell q;have h := bu 0 _ rfl;clear bu r;clear r12;refine cu1 fun K1 hK1 => ?_;go_simp;apply hK1;clear hK1 K1;refine Wops.absS (b := n11) (i := 0) [_,_,_,_,_] (somes [cellVal k,cellVal m,cellVal o,cellVal p,cellVal q] (by simp) (by intro j v hj;match j,hj with | 0,hj => (simp at hj;subst hj;exact k) | 1,hj => (simp at hj;subst hj;exact m) | 2,hj => (simp at hj;subst hj;exact o) | 3,hj => (simp at hj;subst hj;exact p) | 4,hj => (simp at hj;subst hj;exact q))) fun P7 hP7 => ?_;have zP7 := hP7.same;replace f12 := hP7.frz f12;replace xw := Put.to xw hP7 (by omega);replace xc := Put.to xc hP7 (by omega);replace f := hP7.cell f (by omega);replace g := hP7.cell g (by omega);replace z := hP7.cell z (by omega);replace B := hP7.cell B (by omega)
   replace C := hP7.cell C (by omega);replace D := hP7.cell D (by omega);clear k;clear m;clear o;clear p;clear q;replace h := hP7.cell h (by omega);have k := hP7.new 0 _ rfl;try simp only [Nat.reduceAdd,Nat.zero_add,Nat.add_zero] at k
   have m := hP7.new 1 _ rfl;try simp only [Nat.reduceAdd,Nat.zero_add,Nat.add_zero] at m
   have o := hP7.new 2 _ rfl;try simp only [Nat.reduceAdd,Nat.zero_add,Nat.add_zero] at o
   have p := hP7.new 3 _ rfl;try simp only [Nat.reduceAdd,Nat.zero_add,Nat.add_zero] at p
   have q := hP7.new 4 _ rfl;try simp only [Nat.reduceAdd,Nat.zero_add,Nat.add_zero] at q
   clear hP7;refine cu1 fun K1 hK1 => ?_;go_simp;apply hK1;clear hK1 K1;refine Wops.absS (b := n12) (i := 0) [_] (somes [cellVal h] (by simp) (by intro j v hj;match j,hj with | 0,hj => (simp at hj;subst hj;exact h))) fun P8 hP8 => ?_;have zP8 := hP8.same;replace xw := Put.to xw hP8 (by omega);replace xc := Put.to xc hP8 (by omega);replace f := hP8.cell f (by omega);replace g := hP8.cell g (by omega);replace z := hP8.cell z (by omega);replace B := hP8.cell B (by omega);replace C := hP8.cell C (by omega);replace D := hP8.cell D (by omega);clear h;replace k := hP8.cell k (by omega);replace m := hP8.cell m (by omega);replace o := hP8.cell o (by omega);replace p := hP8.cell p (by omega);replace q := hP8.cell q (by omega);have h := hP8.new 0 _ rfl;try simp only [Nat.reduceAdd,Nat.zero_add,Nat.add_zero] at h
   clear hP8;go_simp;apply hK;clear hK K' gd;refine Wp.keep [3,5,11,12,13] ?_;rintro r10 ⟨ag,am,Y,aa,ac,-⟩;simp [go_sem,bc,bj,br,aB,a1] at ag am Y aa ac;clear bc bj br aB a1
   by_cases k3 : begE s c = 0
   ·skip;rw [if_pos k3] at hI;refine Wp.seq ?_;refine sRg fun K' gd hK => ?_;go_simp;apply hK;clear hK K' gd;refine Wp.keep [3,5,11,12,13,40] ?_;rintro r11 ⟨a2,bl,aC,aF,aL,bd,-⟩;simp [go_sem,ag,am,Y,aa,ac] at a2 bl aC aF aL bd;clear ag am Y aa ac;refine cFf ?_;refine skN ?_;refine sRg fun K' gd hK => ?_;refine cu3 fun K1 hK1 => ?_;go_simp;refine Wcall (.inl rfl) (begun_c _ _ s d _ (hV.ext xw) (hT.ext xw) hf hh) ?_;rintro v w5 ⟨D1,d2,d3,d4,d5,d6,D2,d7,d8,ev,rfl,hN,hJ,hE⟩;have xd := Ext.refl w5;obtain ⟨A7,n7,c7,rfl⟩ : ∃ A n c,ev = .slice A n c := by obtain ⟨A,c,e⟩ := hJ.slice;exact ⟨A,_,c,e⟩
    go_simp;apply hK1;clear hK1 K1;have z12 := Below.size hE;replace xw := xw.trans hE;replace xc := xc.trans hE;replace f := hE.cell f;replace g := hE.cell g;replace k := hE.cell k;replace m := hE.cell m;replace o := hE.cell o;replace p := hE.cell p;replace q := hE.cell q;replace h := hE.cell h;clear hE;refine cu5 fun K1 hK1 => ?_;go_simp;apply hK1;clear hK1 K1;refine Wops.absA fun cj n14 E => ?_;obtain ⟨q14,E,s14,O,f14,r14⟩ := E;try simp only [q14] at O f14 r14 ⊢
    replace xw := xw.trans E;replace xc := xc.trans E;replace xd := xd.trans E;replace f := E.cell f;replace g := E.cell g;replace k := E.cell k;replace m := E.cell m;replace o := E.cell o;replace p := E.cell p;replace q := E.cell q;replace h := E.cell h;have G := O 0 _ rfl;have J := O 1 _ rfl;have K := O 2 _ rfl;have L := O 3 _ rfl;have M := O 4 _ rfl;clear O E;clear r14;refine cu1 fun K1 hK1 => ?_;go_simp;apply hK1;clear hK1 K1;refine Wops.absA fun ck n15 l => ?_;obtain ⟨q15,l,s15,bv,f15,r15⟩ := l;try simp only [q15] at bv f15 r15 ⊢
    replace f14 := l.fz G f14;replace xw := xw.trans l;replace xc := xc.trans l;replace xd := xd.trans l;replace f := l.cell f;replace g := l.cell g;replace k := l.cell k;replace m := l.cell m;replace o := l.cell o;replace p := l.cell p;replace q := l.cell q;replace h := l.cell h;replace G := l.cell G;replace J := l.cell J;replace K := l.cell K;replace L := l.cell L;replace M := l.cell M;have H := bv 0 _ rfl;clear bv l;clear r15;refine cu1 fun K1 hK1 => ?_;go_simp;apply hK1;clear hK1 K1;refine Wops.absS (b := n14) (i := 0) [_,_,_,_,_] (somes [cellVal G,cellVal J,cellVal K,cellVal L,cellVal M] (by simp) (by intro j v hj;match j,hj with | 0,hj => (simp at hj;subst hj;exact G) | 1,hj => (simp at hj;subst hj;exact J) | 2,hj => (simp at hj;subst hj;exact K) | 3,hj => (simp at hj;subst hj;exact L) | 4,hj => (simp at hj;subst hj;exact M))) fun P12 hP12 => ?_;have zP12 := hP12.same;replace f15 := hP12.frz f15;replace xw := Put.to xw hP12 (by omega);replace xc := Put.to xc hP12 (by omega)
    replace xd := Put.to xd hP12 (by omega);replace f := hP12.cell f (by omega);replace g := hP12.cell g (by omega);replace k := hP12.cell k (by omega);replace m := hP12.cell m (by omega);replace o := hP12.cell o (by omega);replace p := hP12.cell p (by omega);replace q := hP12.cell q (by omega);replace h := hP12.cell h (by omega);clear G;clear J;clear K;clear L;clear M;replace H := hP12.cell H (by omega);have G := hP12.new 0 _ rfl;try simp only [Nat.reduceAdd,Nat.zero_add,Nat.add_zero] at G
    have J := hP12.new 1 _ rfl;try simp only [Nat.reduceAdd,Nat.zero_add,Nat.add_zero] at J
    have K := hP12.new 2 _ rfl;try simp only [Nat.reduceAdd,Nat.zero_add,Nat.add_zero] at K
    have L := hP12.new 3 _ rfl;try simp only [Nat.reduceAdd,Nat.zero_add,Nat.add_zero] at L
    have M := hP12.new 4 _ rfl;try simp only [Nat.reduceAdd,Nat.zero_add,Nat.add_zero] at M
    clear hP12;refine cu1 fun K1 hK1 => ?_;go_simp;apply hK1;clear hK1 K1;refine Wops.absS (b := n15) (i := 0) [_] (somes [cellVal H] (by simp) (by intro j v hj;match j,hj with | 0,hj => (simp at hj;subst hj;exact H))) fun P13 hP13 => ?_;have zP13 := hP13.same;replace xw := Put.to xw hP13 (by omega);replace xc := Put.to xc hP13 (by omega);replace xd := Put.to xd hP13 (by omega);replace f := hP13.cell f (by omega);replace g := hP13.cell g (by omega);replace k := hP13.cell k (by omega);replace m := hP13.cell m (by omega);replace o := hP13.cell o (by omega);replace p := hP13.cell p (by omega);replace q := hP13.cell q (by omega);replace h := hP13.cell h (by omega);clear H;replace G := hP13.cell G (by omega);replace J := hP13.cell J (by omega);replace K := hP13.cell K (by omega);replace L := hP13.cell L (by omega);replace M := hP13.cell M (by omega);have H := hP13.new 0 _ rfl;try simp only [Nat.reduceAdd,Nat.zero_add,Nat.add_zero] at H
    clear hP13;go_simp;apply hK;clear hK K' gd;refine Wp.keep [3,11,12,13,14,15] ?_;rintro r13 ⟨ah,Z,ab,ad,ae,af,-⟩;simp [go_sem,a2,bl,aC,aF,aL,bd] at ah Z ab ad ae af;clear a2 bl aC aF aL bd
    by_cases k4 : begE s d = 0
    ·skip;rw [if_pos k4] at hJ;obtain ⟨wu,hwu,hM⟩ := hM k3
     injection hwu with hwu
     simp at hwu;subst hwu;obtain ⟨wt,hwt,hN⟩ := hN k4
     injection hwt with hwt
     simp at hwt;subst hwt;obtain ⟨hgd,hmk,hok,hl1,hl2,hn1,hn40⟩ := beg_know k3;obtain ⟨-,hmk2,hok2,hl3,hl4,-,-⟩ := beg_know k4;have htu : ∀ a ∈ s.alts,0 ≤ a.tu ∧ a.tu < (s.words.length : Int) := fun a ha => by obtain ⟨q1,q2⟩ := (ends_of k3).tu a ha;omega
     have hls : ∃ _u : Unit,(s.md c).first.length = s.words.length ∧ (s.md c).last.length = s.words.length ∧ (s.md d).first.length = s.words.length ∧ (s.md d).last.length = s.words.length := ⟨(),hl1,hl2,hl3,hl4⟩;clear hl1 hl2 hl3 hl4;have hb0 : ∃ _u : Unit,befE s c d = 0 := ⟨(),befE_zero.2 ⟨k3,k4⟩⟩;refine Wp.seq ?_;refine sRg fun K' gd hK => ?_;go_simp;apply hK;clear hK K' gd;refine Wp.keep [3,11,12,13,14,15,50] ?_;rintro r14 ⟨a3,bF,aG,bG,bH,aP,bI,-⟩;simp [go_sem,ah,Z,ab,ad,ae,af] at a3 bF aG bG bH aP bI;clear ah Z ab ad ae af;refine cFf ?_;refine skN ?_;refine Wp.seqDrawT (.inl rfl) mixed (.rd [0,2] (.both (.act 1 false (.both (.act 3 false (.both (.act 4 false (.act 5 false (.act 6 true (.act 7 true .done)))) (.act 5 false (.act 4 false (.act 6 true (.act 7 true .done)))))) (.both (.act 4 false (.both (.act 3 false (.act 5 false (.act 6 true (.act 7 true .done)))) (.act 5 false (.act 3 false (.act 6 true (.act 7 true .done)))))) (.act 5 false (.both (.act 3 false (.act 4 false (.act 6 true (.act 7 true .done)))) (.act 4 false (.act 3 false (.act 6 true (.act 7 true .done))))))))) (.both (.act 4 false (.both (.act 1 false (.both (.act 3 false (.act 5 false (.act 6 true (.act 7 true .done)))) (.act 5 false (.act 3 false (.act 6 true (.act 7 true .done)))))) (.act 5 false (.act 1 false (.act 3 false (.act 6 true (.act 7 true .done))))))) (.act 5 false (.both (.act 1 false (.both (.act 3 false (.act 4 false (.act 6 true (.act 7 true .done)))) (.act 4 false (.act 3 false (.act 6 true (.act 7 true .done)))))) (.act 4 false (.act 1 false (.act 3 false (.act 6 true (.act 7 true .done)))))))))) (by kernel_rfl) (fun ρ W => AllEq [3,12,15] ρ r14 ∧ (Ext P13 W ∧ ∃ q1 q2 A8 n8 c8 A9 n9 c9,ρ 16 = .pointer (some ⟨q1,0,none⟩) ∧ ρ 17 = .pointer (some ⟨q2,0,none⟩) ∧ W.cell? ⟨q1,0,none⟩ = some (.slice A8 n8 c8) ∧ W.cell? ⟨q2,0,none⟩ = some (.slice A9 n9 c9) ∧ IntsB W w.heap.size (.slice A8 n8 c8) (s.md c).last ∧ IntsB W w.heap.size (.slice A9 n9 c9) (s.md d).last)) (fun K' gd hK hg => ?_) ?_
     ·skip;clear hg;simp only [pickT,nth,List.map_cons,List.map_nil];apply Mtree.reads
      ·intro w' hE';have hC' := hE'.cellsS;go_simp;with_reducible rfl
      refine Mtree.two ?_ ?_
      ·skip;refine Mtree.step fun K1 hK1 => ?_;go_simp;refine Wcall (.inl rfl) (last_c _ (s.md c) _ ((hM.ext XE).made (hW.ext XE)) hmk) ?_;rintro v w6 ⟨hQa,hE6⟩
       first | have z6 : P13.heap.size ≤ w6.heap.size := (Below.size hE6 : P13.drew.heap.size ≤ w6.heap.size) | have z6 := Below.size hE6
       obtain ⟨A8,n8,c8,rfl⟩ : ∃ A n c,v = .slice A n c := by obtain ⟨A,c,e⟩ := hQa.slice;exact ⟨A,_,c,e⟩
       go_simp;refine hK1 _ _ XR ?_;clear hK1 K1;refine Mtree.two ?_ ?_
       ·skip;refine Mtree.step fun K1 hK1 => ?_;go_simp;refine Wcall (.inl rfl) (last_c _ (s.md d) _ ((hN.ext XE).made (hX.ext XE)) hmk2) ?_;rintro v w7 ⟨hQb,hE7⟩
        first | have z7 : P13.heap.size ≤ w7.heap.size := (Below.size hE7 : P13.drew.heap.size ≤ w7.heap.size) | have z7 := Below.size hE7
        obtain ⟨A9,n9,c9,rfl⟩ : ∃ A n c,v = .slice A n c := by obtain ⟨A,c,e⟩ := hQb.slice;exact ⟨A,_,c,e⟩
        go_simp;refine hK1 _ _ XR ?_;clear hK1 K1;refine Mtree.two ?_ ?_
        ·skip;refine Mtree.step fun K1 hK1 => ?_;go_simp;refine hK1 _ _ XA ?_;clear hK1 K1
         first | refine Mtree.abs fun V15 hV15 sV15 hVc hVf => ?_ | refine Mtree.absD fun V15 hV15 sV15 hVc hVf => ?_
         have bw := hVc 0 _ rfl;have b9 := hVf 0;clear hVc hVf;refine Mtree.step fun K1 hK1 => ?_;go_simp;refine hK1 _ _ XA ?_;clear hK1 K1
         first | refine Mtree.abs fun V16 hV16 sV16 hVc hVf => ?_ | refine Mtree.absD fun V16 hV16 sV16 hVc hVf => ?_
         have co := hVc 0 _ rfl;have cu := hVf 0;clear hVc hVf;have fc17 := (Ext.frozen hV16 bw).trans b9;have c17 := hV16.cell bw;refine Mtree.stepT fun K1 hK1 => ?_;go_simp;apply hK1;clear hK1 K1;refine Mtree.stepT fun K1 hK1 => ?_;go_simp;apply hK1;clear hK1 K1;refine Mtree.fin ?_;refine hK _ _ ⟨by simp [AllEq,go_sem],?_⟩;refine ⟨XS,?_⟩;exact ⟨_,_,A8,n8,c8,A9,n9,c9,rfl,rfl,by go_simp,by go_simp,(hQa.two XE (by omega) (by omega)).less (by first | omega | (show w.heap.size ≤ P13.heap.size;omega)),(hQb.two XE (by omega) (by omega)).less (by first | omega | (show w.heap.size ≤ P13.heap.size;omega))⟩
        ·skip;refine Mtree.step fun K1 hK1 => ?_;go_simp;refine hK1 _ _ XA ?_;clear hK1 K1
         first | refine Mtree.abs fun V18 hV18 sV18 hVc hVf => ?_ | refine Mtree.absD fun V18 hV18 sV18 hVc hVf => ?_
         have bx := hVc 0 _ rfl;have ca := hVf 0;clear hVc hVf;refine Mtree.step fun K1 hK1 => ?_;go_simp;refine hK1 _ _ XA ?_;clear hK1 K1
         first | refine Mtree.abs fun V19 hV19 sV19 hVc hVf => ?_ | refine Mtree.absD fun V19 hV19 sV19 hVc hVf => ?_
         have cp := hVc 0 _ rfl;have cv := hVf 0;clear hVc hVf;have fc20 := (Ext.frozen hV19 bx).trans ca;have c20 := hV19.cell bx;refine Mtree.stepT fun K1 hK1 => ?_;go_simp;apply hK1;clear hK1 K1;refine Mtree.stepT fun K1 hK1 => ?_;go_simp;apply hK1;clear hK1 K1;refine Mtree.fin ?_;refine hK _ _ ⟨by simp [AllEq,go_sem],?_⟩;refine ⟨XS,?_⟩;exact ⟨_,_,A8,n8,c8,A9,n9,c9,rfl,rfl,by go_simp,by go_simp,(hQa.two XE (by omega) (by omega)).less (by first | omega | (show w.heap.size ≤ P13.heap.size;omega)),(hQb.two XE (by omega) (by omega)).less (by first | omega | (show w.heap.size ≤ P13.heap.size;omega))⟩
       ·skip;refine Mtree.two ?_ ?_
        ·skip;refine Mtree.step fun K1 hK1 => ?_;go_simp;refine hK1 _ _ XA ?_;clear hK1 K1
         first | refine Mtree.abs fun V21 hV21 sV21 hVc hVf => ?_ | refine Mtree.absD fun V21 hV21 sV21 hVc hVf => ?_
         have aq := hVc 0 _ rfl;have bY := hVf 0;clear hVc hVf;refine Mtree.two ?_ ?_
         ·skip;refine Mtree.step fun K1 hK1 => ?_;go_simp;refine Wcall (.inl rfl) (last_c _ (s.md d) _ ((hN.ext XE).made (hX.ext XE)) hmk2) ?_;rintro v w7 ⟨hQb,hE7⟩
          first | have z7 : P13.heap.size ≤ w7.heap.size := (Below.size hE7 : P13.drew.heap.size ≤ w7.heap.size) | have z7 := Below.size hE7
          obtain ⟨A9,n9,c9,rfl⟩ : ∃ A n c,v = .slice A n c := by obtain ⟨A,c,e⟩ := hQb.slice;exact ⟨A,_,c,e⟩
          go_simp;refine hK1 _ _ XR ?_;clear hK1 K1;have fc22 := (Ext.frozen hE7 aq).trans bY;have c22 := hE7.cell aq;refine Mtree.step fun K1 hK1 => ?_;go_simp;refine hK1 _ _ XA ?_;clear hK1 K1
          first | refine Mtree.abs fun V23 hV23 sV23 hVc hVf => ?_ | refine Mtree.absD fun V23 hV23 sV23 hVc hVf => ?_
          have cq := hVc 0 _ rfl;have cw := hVf 0;clear hVc hVf;have fc24 := (Ext.frozen hV23 c22).trans fc22;have c24 := hV23.cell c22;refine Mtree.stepT fun K1 hK1 => ?_;go_simp;apply hK1;clear hK1 K1;refine Mtree.stepT fun K1 hK1 => ?_;go_simp;apply hK1;clear hK1 K1;refine Mtree.fin ?_;refine hK _ _ ⟨by simp [AllEq,go_sem],?_⟩;refine ⟨XS,?_⟩;exact ⟨_,_,A8,n8,c8,A9,n9,c9,rfl,rfl,by go_simp,by go_simp,(hQa.two XE (by omega) (by omega)).less (by first | omega | (show w.heap.size ≤ P13.heap.size;omega)),(hQb.two XE (by omega) (by omega)).less (by first | omega | (show w.heap.size ≤ P13.heap.size;omega))⟩
         ·skip;refine Mtree.step fun K1 hK1 => ?_;go_simp;refine hK1 _ _ XA ?_;clear hK1 K1
          first | refine Mtree.abs fun V25 hV25 sV25 hVc hVf => ?_ | refine Mtree.absD fun V25 hV25 sV25 hVc hVf => ?_
          have bz := hVc 0 _ rfl;have cb := hVf 0;clear hVc hVf;have fc26 := (Ext.frozen hV25 aq).trans bY;have c26 := hV25.cell aq;refine Mtree.step fun K1 hK1 => ?_;go_simp;refine Wcall (.inl rfl) (last_c _ (s.md d) _ ((hN.ext XE).made (hX.ext XE)) hmk2) ?_;rintro v w7 ⟨hQb,hE7⟩
          first | have z7 : P13.heap.size ≤ w7.heap.size := (Below.size hE7 : P13.drew.heap.size ≤ w7.heap.size) | have z7 := Below.size hE7
          obtain ⟨A9,n9,c9,rfl⟩ : ∃ A n c,v = .slice A n c := by obtain ⟨A,c,e⟩ := hQb.slice;exact ⟨A,_,c,e⟩
          go_simp;refine hK1 _ _ XR ?_;clear hK1 K1;have fc27 := (Ext.frozen hE7 c26).trans fc26;have c27 := hE7.cell c26;have fc28 := (Ext.frozen hE7 bz).trans cb;have c28 := hE7.cell bz;refine Mtree.stepT fun K1 hK1 => ?_;go_simp;apply hK1;clear hK1 K1;refine Mtree.stepT fun K1 hK1 => ?_;go_simp;apply hK1;clear hK1 K1;refine Mtree.fin ?_;refine hK _ _ ⟨by simp [AllEq,go_sem],?_⟩;refine ⟨XS,?_⟩;exact ⟨_,_,A8,n8,c8,A9,n9,c9,rfl,rfl,by go_simp,by go_simp,(hQa.two XE (by omega) (by omega)).less (by first | omega | (show w.heap.size ≤ P13.heap.size;omega)),(hQb.two XE (by omega) (by omega)).less (by first | omega | (show w.heap.size ≤ P13.heap.size;omega))⟩
        ·skip;refine Mtree.step fun K1 hK1 => ?_;go_simp;refine hK1 _ _ XA ?_;clear hK1 K1
         first | refine Mtree.abs fun V29 hV29 sV29 hVc hVf => ?_ | refine Mtree.absD fun V29 hV29 sV29 hVc hVf => ?_
         have ar := hVc 0 _ rfl;have bZ := hVf 0;clear hVc hVf;refine Mtree.two ?_ ?_
         ·skip;refine Mtree.step fun K1 hK1 => ?_;go_simp;refine Wcall (.inl rfl) (last_c _ (s.md d) _ ((hN.ext XE).made (hX.ext XE)) hmk2) ?_;rintro v w7 ⟨hQb,hE7⟩
          first | have z7 : P13.heap.size ≤ w7.heap.size := (Below.size hE7 : P13.drew.heap.size ≤ w7.heap.size) | have z7 := Below.size hE7
          obtain ⟨A9,n9,c9,rfl⟩ : ∃ A n c,v = .slice A n c := by obtain ⟨A,c,e⟩ := hQb.slice;exact ⟨A,_,c,e⟩
          go_simp;refine hK1 _ _ XR ?_;clear hK1 K1;have fc30 := (Ext.frozen hE7 ar).trans bZ;have c30 := hE7.cell ar;refine Mtree.step fun K1 hK1 => ?_;go_simp;refine hK1 _ _ XA ?_;clear hK1 K1
          first | refine Mtree.abs fun V31 hV31 sV31 hVc hVf => ?_ | refine Mtree.absD fun V31 hV31 sV31 hVc hVf => ?_
          have cr := hVc 0 _ rfl;have cx := hVf 0;clear hVc hVf;have fc32 := (Ext.frozen hV31 c30).trans fc30;have c32 := hV31.cell c30;refine Mtree.stepT fun K1 hK1 => ?_;go_simp;apply hK1;clear hK1 K1;refine Mtree.stepT fun K1 hK1 => ?_;go_simp;apply hK1;clear hK1 K1;refine Mtree.fin ?_;refine hK _ _ ⟨by simp [AllEq,go_sem],?_⟩;refine ⟨XS,?_⟩;exact ⟨_,_,A8,n8,c8,A9,n9,c9,rfl,rfl,by go_simp,by go_simp,(hQa.two XE (by omega) (by omega)).less (by first | omega | (show w.heap.size ≤ P13.heap.size;omega)),(hQb.two XE (by omega) (by omega)).less (by first | omega | (show w.heap.size ≤ P13.heap.size;omega))⟩
         ·skip;refine Mtree.step fun K1 hK1 => ?_;go_simp;refine hK1 _ _ XA ?_;clear hK1 K1
          first | refine Mtree.abs fun V33 hV33 sV33 hVc hVf => ?_ | refine Mtree.absD fun V33 hV33 sV33 hVc hVf => ?_
          have bA := hVc 0 _ rfl;have cc := hVf 0;clear hVc hVf;have fc34 := (Ext.frozen hV33 ar).trans bZ;have c34 := hV33.cell ar;refine Mtree.step fun K1 hK1 => ?_;go_simp;refine Wcall (.inl rfl) (last_c _ (s.md d) _ ((hN.ext XE).made (hX.ext XE)) hmk2) ?_;rintro v w7 ⟨hQb,hE7⟩
          first | have z7 : P13.heap.size ≤ w7.heap.size := (Below.size hE7 : P13.drew.heap.size ≤ w7.heap.size) | have z7 := Below.size hE7
          obtain ⟨A9,n9,c9,rfl⟩ : ∃ A n c,v = .slice A n c := by obtain ⟨A,c,e⟩ := hQb.slice;exact ⟨A,_,c,e⟩
          go_simp;refine hK1 _ _ XR ?_;clear hK1 K1;have fc35 := (Ext.frozen hE7 c34).trans fc34;have c35 := hE7.cell c34;have fc36 := (Ext.frozen hE7 bA).trans cc;have c36 := hE7.cell bA;refine Mtree.stepT fun K1 hK1 => ?_;go_simp;apply hK1;clear hK1 K1;refine Mtree.stepT fun K1 hK1 => ?_;go_simp;apply hK1;clear hK1 K1;refine Mtree.fin ?_;refine hK _ _ ⟨by simp [AllEq,go_sem],?_⟩;refine ⟨XS,?_⟩;exact ⟨_,_,A8,n8,c8,A9,n9,c9,rfl,rfl,by go_simp,by go_simp,(hQa.two XE (by omega) (by omega)).less (by first | omega | (show w.heap.size ≤ P13.heap.size;omega)),(hQb.two XE (by omega) (by omega)).less (by first | omega | (show w.heap.size ≤ P13.heap.size;omega))⟩
      ·skip;refine Mtree.two ?_ ?_
       ·skip;refine Mtree.step fun K1 hK1 => ?_;go_simp;refine hK1 _ _ XA ?_;clear hK1 K1
        first | refine Mtree.abs fun V37 hV37 sV37 hVc hVf => ?_ | refine Mtree.absD fun V37 hV37 sV37 hVc hVf => ?_
        have au := hVc 0 _ rfl;have b0 := hVf 0;clear hVc hVf;refine Mtree.two ?_ ?_
        ·skip;refine Mtree.step fun K1 hK1 => ?_;go_simp;refine Wcall (.inl rfl) (last_c _ (s.md c) _ ((hM.ext XE).made (hW.ext XE)) hmk) ?_;rintro v w6 ⟨hQa,hE6⟩
         first | have z6 : P13.heap.size ≤ w6.heap.size := (Below.size hE6 : P13.drew.heap.size ≤ w6.heap.size) | have z6 := Below.size hE6
         obtain ⟨A8,n8,c8,rfl⟩ : ∃ A n c,v = .slice A n c := by obtain ⟨A,c,e⟩ := hQa.slice;exact ⟨A,_,c,e⟩
         go_simp;refine hK1 _ _ XR ?_;clear hK1 K1;have fc38 := (Ext.frozen hE6 au).trans b0;have c38 := hE6.cell au;refine Mtree.two ?_ ?_
         ·skip;refine Mtree.step fun K1 hK1 => ?_;go_simp;refine Wcall (.inl rfl) (last_c _ (s.md d) _ ((hN.ext XE).made (hX.ext XE)) hmk2) ?_;rintro v w7 ⟨hQb,hE7⟩
          first | have z7 : P13.heap.size ≤ w7.heap.size := (Below.size hE7 : P13.drew.heap.size ≤ w7.heap.size) | have z7 := Below.size hE7
          obtain ⟨A9,n9,c9,rfl⟩ : ∃ A n c,v = .slice A n c := by obtain ⟨A,c,e⟩ := hQb.slice;exact ⟨A,_,c,e⟩
          go_simp;refine hK1 _ _ XR ?_;clear hK1 K1;have fc39 := (Ext.frozen hE7 c38).trans fc38;have c39 := hE7.cell c38;refine Mtree.step fun K1 hK1 => ?_;go_simp;refine hK1 _ _ XA ?_;clear hK1 K1
          first | refine Mtree.abs fun V40 hV40 sV40 hVc hVf => ?_ | refine Mtree.absD fun V40 hV40 sV40 hVc hVf => ?_
          have cs := hVc 0 _ rfl;have cy := hVf 0;clear hVc hVf;have fc41 := (Ext.frozen hV40 c39).trans fc39;have c41 := hV40.cell c39;refine Mtree.stepT fun K1 hK1 => ?_;go_simp;apply hK1;clear hK1 K1;refine Mtree.stepT fun K1 hK1 => ?_;go_simp;apply hK1;clear hK1 K1;refine Mtree.fin ?_;refine hK _ _ ⟨by simp [AllEq,go_sem],?_⟩;refine ⟨XS,?_⟩;exact ⟨_,_,A8,n8,c8,A9,n9,c9,rfl,rfl,by go_simp,by go_simp,(hQa.two XE (by omega) (by omega)).less (by first | omega | (show w.heap.size ≤ P13.heap.size;omega)),(hQb.two XE (by omega) (by omega)).less (by first | omega | (show w.heap.size ≤ P13.heap.size;omega))⟩
         ·skip;refine Mtree.step fun K1 hK1 => ?_;go_simp;refine hK1 _ _ XA ?_;clear hK1 K1
          first | refine Mtree.abs fun V42 hV42 sV42 hVc hVf => ?_ | refine Mtree.absD fun V42 hV42 sV42 hVc hVf => ?_
          have bB := hVc 0 _ rfl;have cd := hVf 0;clear hVc hVf;have fc43 := (Ext.frozen hV42 c38).trans fc38;have c43 := hV42.cell c38;refine Mtree.step fun K1 hK1 => ?_;go_simp;refine Wcall (.inl rfl) (last_c _ (s.md d) _ ((hN.ext XE).made (hX.ext XE)) hmk2) ?_;rintro v w7 ⟨hQb,hE7⟩
          first | have z7 : P13.heap.size ≤ w7.heap.size := (Below.size hE7 : P13.drew.heap.size ≤ w7.heap.size) | have z7 := Below.size hE7
          obtain ⟨A9,n9,c9,rfl⟩ : ∃ A n c,v = .slice A n c := by obtain ⟨A,c,e⟩ := hQb.slice;exact ⟨A,_,c,e⟩
          go_simp;refine hK1 _ _ XR ?_;clear hK1 K1;have fc44 := (Ext.frozen hE7 c43).trans fc43;have c44 := hE7.cell c43;have fc45 := (Ext.frozen hE7 bB).trans cd;have c45 := hE7.cell bB;refine Mtree.stepT fun K1 hK1 => ?_;go_simp;apply hK1;clear hK1 K1;refine Mtree.stepT fun K1 hK1 => ?_;go_simp;apply hK1;clear hK1 K1;refine Mtree.fin ?_;refine hK _ _ ⟨by simp [AllEq,go_sem],?_⟩;refine ⟨XS,?_⟩;exact ⟨_,_,A8,n8,c8,A9,n9,c9,rfl,rfl,by go_simp,by go_simp,(hQa.two XE (by omega) (by omega)).less (by first | omega | (show w.heap.size ≤ P13.heap.size;omega)),(hQb.two XE (by omega) (by omega)).less (by first | omega | (show w.heap.size ≤ P13.heap.size;omega))⟩
        ·skip;refine Mtree.step fun K1 hK1 => ?_;go_simp;refine hK1 _ _ XA ?_;clear hK1 K1
         first | refine Mtree.abs fun V46 hV46 sV46 hVc hVf => ?_ | refine Mtree.absD fun V46 hV46 sV46 hVc hVf => ?_
         have bC := hVc 0 _ rfl;have ce := hVf 0;clear hVc hVf;have fc47 := (Ext.frozen hV46 au).trans b0;have c47 := hV46.cell au;refine Mtree.step fun K1 hK1 => ?_;go_simp;refine Wcall (.inl rfl) (last_c _ (s.md c) _ ((hM.ext XE).made (hW.ext XE)) hmk) ?_;rintro v w6 ⟨hQa,hE6⟩
         first | have z6 : P13.heap.size ≤ w6.heap.size := (Below.size hE6 : P13.drew.heap.size ≤ w6.heap.size) | have z6 := Below.size hE6
         obtain ⟨A8,n8,c8,rfl⟩ : ∃ A n c,v = .slice A n c := by obtain ⟨A,c,e⟩ := hQa.slice;exact ⟨A,_,c,e⟩
         go_simp;refine hK1 _ _ XR ?_;clear hK1 K1;have fc48 := (Ext.frozen hE6 c47).trans fc47;have c48 := hE6.cell c47;have fc49 := (Ext.frozen hE6 bC).trans ce;have c49 := hE6.cell bC;refine Mtree.step fun K1 hK1 => ?_;go_simp;refine Wcall (.inl rfl) (last_c _ (s.md d) _ ((hN.ext XE).made (hX.ext XE)) hmk2) ?_;rintro v w7 ⟨hQb,hE7⟩
         first | have z7 : P13.heap.size ≤ w7.heap.size := (Below.size hE7 : P13.drew.heap.size ≤ w7.heap.size) | have z7 := Below.size hE7
         obtain ⟨A9,n9,c9,rfl⟩ : ∃ A n c,v = .slice A n c := by obtain ⟨A,c,e⟩ := hQb.slice;exact ⟨A,_,c,e⟩
         go_simp;refine hK1 _ _ XR ?_;clear hK1 K1;have fc50 := (Ext.frozen hE7 c48).trans fc48;have c50 := hE7.cell c48;have fc51 := (Ext.frozen hE7 c49).trans fc49;have c51 := hE7.cell c49;refine Mtree.stepT fun K1 hK1 => ?_;go_simp;apply hK1;clear hK1 K1;refine Mtree.stepT fun K1 hK1 => ?_;go_simp;apply hK1;clear hK1 K1;refine Mtree.fin ?_;refine hK _ _ ⟨by simp [AllEq,go_sem],?_⟩;refine ⟨XS,?_⟩;exact ⟨_,_,A8,n8,c8,A9,n9,c9,rfl,rfl,by go_simp,by go_simp,(hQa.two XE (by omega) (by omega)).less (by first | omega | (show w.heap.size ≤ P13.heap.size;omega)),(hQb.two XE (by omega) (by omega)).less (by first | omega | (show w.heap.size ≤ P13.heap.size;omega))⟩
       ·skip;refine Mtree.step fun K1 hK1 => ?_;go_simp;refine hK1 _ _ XA ?_;clear hK1 K1
        first | refine Mtree.abs fun V52 hV52 sV52 hVc hVf => ?_ | refine Mtree.absD fun V52 hV52 sV52 hVc hVf => ?_
        have aw := hVc 0 _ rfl;have b1 := hVf 0;clear hVc hVf;refine Mtree.two ?_ ?_
        ·skip;refine Mtree.step fun K1 hK1 => ?_;go_simp;refine Wcall (.inl rfl) (last_c _ (s.md c) _ ((hM.ext XE).made (hW.ext XE)) hmk) ?_;rintro v w6 ⟨hQa,hE6⟩
         first | have z6 : P13.heap.size ≤ w6.heap.size := (Below.size hE6 : P13.drew.heap.size ≤ w6.heap.size) | have z6 := Below.size hE6
         obtain ⟨A8,n8,c8,rfl⟩ : ∃ A n c,v = .slice A n c := by obtain ⟨A,c,e⟩ := hQa.slice;exact ⟨A,_,c,e⟩
         go_simp;refine hK1 _ _ XR ?_;clear hK1 K1;have fc53 := (Ext.frozen hE6 aw).trans b1;have c53 := hE6.cell aw;refine Mtree.two ?_ ?_
         ·skip;refine Mtree.step fun K1 hK1 => ?_;go_simp;refine Wcall (.inl rfl) (last_c _ (s.md d) _ ((hN.ext XE).made (hX.ext XE)) hmk2) ?_;rintro v w7 ⟨hQb,hE7⟩
          first | have z7 : P13.heap.size ≤ w7.heap.size := (Below.size hE7 : P13.drew.heap.size ≤ w7.heap.size) | have z7 := Below.size hE7
          obtain ⟨A9,n9,c9,rfl⟩ : ∃ A n c,v = .slice A n c := by obtain ⟨A,c,e⟩ := hQb.slice;exact ⟨A,_,c,e⟩
          go_simp;refine hK1 _ _ XR ?_;clear hK1 K1;have fc54 := (Ext.frozen hE7 c53).trans fc53;have c54 := hE7.cell c53;refine Mtree.step fun K1 hK1 => ?_;go_simp;refine hK1 _ _ XA ?_;clear hK1 K1
          first | refine Mtree.abs fun V55 hV55 sV55 hVc hVf => ?_ | refine Mtree.absD fun V55 hV55 sV55 hVc hVf => ?_
          have ct := hVc 0 _ rfl;have cz := hVf 0;clear hVc hVf;have fc56 := (Ext.frozen hV55 c54).trans fc54;have c56 := hV55.cell c54;refine Mtree.stepT fun K1 hK1 => ?_;go_simp;apply hK1;clear hK1 K1;refine Mtree.stepT fun K1 hK1 => ?_;go_simp;apply hK1;clear hK1 K1;refine Mtree.fin ?_;refine hK _ _ ⟨by simp [AllEq,go_sem],?_⟩;refine ⟨XS,?_⟩;exact ⟨_,_,A8,n8,c8,A9,n9,c9,rfl,rfl,by go_simp,by go_simp,(hQa.two XE (by omega) (by omega)).less (by first | omega | (show w.heap.size ≤ P13.heap.size;omega)),(hQb.two XE (by omega) (by omega)).less (by first | omega | (show w.heap.size ≤ P13.heap.size;omega))⟩
         ·skip;refine Mtree.step fun K1 hK1 => ?_;go_simp;refine hK1 _ _ XA ?_;clear hK1 K1
          first | refine Mtree.abs fun V57 hV57 sV57 hVc hVf => ?_ | refine Mtree.absD fun V57 hV57 sV57 hVc hVf => ?_
          have bD := hVc 0 _ rfl;have cf := hVf 0;clear hVc hVf;have fc58 := (Ext.frozen hV57 c53).trans fc53;have c58 := hV57.cell c53;refine Mtree.step fun K1 hK1 => ?_;go_simp;refine Wcall (.inl rfl) (last_c _ (s.md d) _ ((hN.ext XE).made (hX.ext XE)) hmk2) ?_;rintro v w7 ⟨hQb,hE7⟩
          first | have z7 : P13.heap.size ≤ w7.heap.size := (Below.size hE7 : P13.drew.heap.size ≤ w7.heap.size) | have z7 := Below.size hE7
          obtain ⟨A9,n9,c9,rfl⟩ : ∃ A n c,v = .slice A n c := by obtain ⟨A,c,e⟩ := hQb.slice;exact ⟨A,_,c,e⟩
          go_simp;refine hK1 _ _ XR ?_;clear hK1 K1;have fc59 := (Ext.frozen hE7 c58).trans fc58;have c59 := hE7.cell c58;have fc60 := (Ext.frozen hE7 bD).trans cf;have c60 := hE7.cell bD;refine Mtree.stepT fun K1 hK1 => ?_;go_simp;apply hK1;clear hK1 K1;refine Mtree.stepT fun K1 hK1 => ?_;go_simp;apply hK1;clear hK1 K1;refine Mtree.fin ?_;refine hK _ _ ⟨by simp [AllEq,go_sem],?_⟩;refine ⟨XS,?_⟩;exact ⟨_,_,A8,n8,c8,A9,n9,c9,rfl,rfl,by go_simp,by go_simp,(hQa.two XE (by omega) (by omega)).less (by first | omega | (show w.heap.size ≤ P13.heap.size;omega)),(hQb.two XE (by omega) (by omega)).less (by first | omega | (show w.heap.size ≤ P13.heap.size;omega))⟩
        ·skip;refine Mtree.step fun K1 hK1 => ?_;go_simp;refine hK1 _ _ XA ?_;clear hK1 K1
         first | refine Mtree.abs fun V61 hV61 sV61 hVc hVf => ?_ | refine Mtree.absD fun V61 hV61 sV61 hVc hVf => ?_
         have bE := hVc 0 _ rfl;have cg := hVf 0;clear hVc hVf;have fc62 := (Ext.frozen hV61 aw).trans b1;have c62 := hV61.cell aw;refine Mtree.step fun K1 hK1 => ?_;go_simp;refine Wcall (.inl rfl) (last_c _ (s.md c) _ ((hM.ext XE).made (hW.ext XE)) hmk) ?_;rintro v w6 ⟨hQa,hE6⟩
         first | have z6 : P13.heap.size ≤ w6.heap.size := (Below.size hE6 : P13.drew.heap.size ≤ w6.heap.size) | have z6 := Below.size hE6
         obtain ⟨A8,n8,c8,rfl⟩ : ∃ A n c,v = .slice A n c := by obtain ⟨A,c,e⟩ := hQa.slice;exact ⟨A,_,c,e⟩
         go_simp;refine hK1 _ _ XR ?_;clear hK1 K1;have fc63 := (Ext.frozen hE6 c62).trans fc62;have c63 := hE6.cell c62;have fc64 := (Ext.frozen hE6 bE).trans cg;have c64 := hE6.cell bE;refine Mtree.step fun K1 hK1 => ?_;go_simp;refine Wcall (.inl rfl) (last_c _ (s.md d) _ ((hN.ext XE).made (hX.ext XE)) hmk2) ?_;rintro v w7 ⟨hQb,hE7⟩
         first | have z7 : P13.heap.size ≤ w7.heap.size := (Below.size hE7 : P13.drew.heap.size ≤ w7.heap.size) | have z7 := Below.size hE7
         obtain ⟨A9,n9,c9,rfl⟩ : ∃ A n c,v = .slice A n c := by obtain ⟨A,c,e⟩ := hQb.slice;exact ⟨A,_,c,e⟩
         go_simp;refine hK1 _ _ XR ?_;clear hK1 K1;have fc65 := (Ext.frozen hE7 c63).trans fc63;have c65 := hE7.cell c63;have fc66 := (Ext.frozen hE7 c64).trans fc64;have c66 := hE7.cell c64;refine Mtree.stepT fun K1 hK1 => ?_;go_simp;apply hK1;clear hK1 K1;refine Mtree.stepT fun K1 hK1 => ?_;go_simp;apply hK1;clear hK1 K1;refine Mtree.fin ?_;refine hK _ _ ⟨by simp [AllEq,go_sem],?_⟩;refine ⟨XS,?_⟩;exact ⟨_,_,A8,n8,c8,A9,n9,c9,rfl,rfl,by go_simp,by go_simp,(hQa.two XE (by omega) (by omega)).less (by first | omega | (show w.heap.size ≤ P13.heap.size;omega)),(hQb.two XE (by omega) (by omega)).less (by first | omega | (show w.heap.size ≤ P13.heap.size;omega))⟩
     ·rintro r67 W ⟨hA,hT14,q1,q2,A8,n8,c8,A9,n9,c9,e16,e17,m1,m2,hQa,hQb⟩;obtain ⟨a6,aH,aQ,-⟩ := hA;rw [a3] at a6;rw [aG] at aH;rw [aP] at aQ;clear a3 bF aG bG bH aP bI;have zhT14 := Below.size hT14;replace xw := xw.trans hT14;replace xc := xc.trans hT14;replace xd := xd.trans hT14;replace f := hT14.cell f;replace g := hT14.cell g;replace h := hT14.cell h;replace H := hT14.cell H;refine sRg fun K' gd hK => ?_;refine cu3 fun K1 hK1 => ?_;go_simp;refine Wcall (.inl rfl) (ids_c _ s (betP (s.md d).first (s.md c).last) 97 #[.pointer (some ⟨n15,0,none⟩),.pointer (some ⟨q1,0,none⟩)] _ (hV.ext xw) (hal hb0.choose_spec) (enters_of Tryz.func97 (by kernel_rfl) rfl) (fun a ha W hW => bet1_c a n15 q1 _ _ _ _ W (hW.cell H) (hW.cell m1) (hJ.ext (xd.trans hW)).ints (hQa.ext hW).ints (by rw [hls.choose_spec.2.2.1];exact htu a ha) (by obtain ⟨q1,q2,q3,q4⟩ := hls.choose_spec;omega))) ?_;rintro v w8 ⟨hY,hE⟩;go_simp;apply hK1;clear hK1 K1;have z68 := Below.size hE;replace hQb := hQb.ext hE;replace xw := xw.trans hE;replace xc := xc.trans hE;replace xd := xd.trans hE;replace f := hE.cell f;replace g := hE.cell g;replace h := hE.cell h
      replace m2 := hE.cell m2;clear hE;go_simp;apply hK;clear hK K' gd;refine Wp.keep [3,12,17,18] ?_;rintro r69 ⟨a7,aI,aS,aT,-⟩;simp [go_sem,a6,aH,aQ,e16,e17] at a7 aI aS aT;clear a6 aH aQ e16 e17;refine sRg fun K' gd hK => ?_;refine cu3 fun K1 hK1 => ?_;go_simp;refine Wcall (.inl rfl) (ids_c _ s (betP (s.md d).last (s.md c).first) 98 #[.pointer (some ⟨q2,0,none⟩),.pointer (some ⟨n12,0,none⟩)] _ (hV.ext xw) (hal hb0.choose_spec) (enters_of Tryz.func98 (by kernel_rfl) rfl) (fun a ha W hW => bet2_c a q2 n12 _ _ _ _ W (hW.cell m2) (hW.cell h) (hQb.ext hW).ints (hI.ext (xc.trans hW)).ints (by rw [hls.choose_spec.2.2.2];exact htu a ha) (by obtain ⟨q1,q2,q3,q4⟩ := hls.choose_spec;omega))) ?_;rintro v w9 ⟨hZ,hE⟩;go_simp;apply hK1;clear hK1 K1;replace hY := hY.ext hE;replace xw := xw.trans hE;replace xc := xc.trans hE;replace xd := xd.trans hE;clear hE;go_simp;apply hK;clear hK K' gd;refine Wp.keep [18,19] ?_;rintro r71 ⟨aU,aV,-⟩;simp [go_sem,a7,aI,aS,aT] at aU aV;clear a7 aI aS aT;refine sRg fun K' gd hK => ?_;go_simp;apply hK
      clear hK K' gd;refine Wp.keep [6,7,8] ?_;rintro r72 ⟨bJ,bO,bT,-⟩;simp [go_sem,aU,aV] at bJ bO bT;clear aU aV;refine Wp.ret ?_;refine endK_tmp3 Tryz.results24 (by decide) (by decide) (by decide) ?_;rw [bJ,bO,bT];have e := hb0.choose_spec;exact ⟨_,_,by rw [e],by rw [if_pos e];exact hY.less (by omega),by rw [if_pos e];exact hZ.less (by omega),xw⟩
    ·skip;refine Wp.seq ?_;refine sRg fun K' gd hK => ?_;go_simp;apply hK;clear hK K' gd;refine Wp.keep [3,11,12,13,14,15,50] ?_;rintro r73 ⟨a8,aD,aJ,aM,aO,aR,bk,-⟩;simp [go_sem,ah,Z,ab,ad,ae,af] at a8 aD aJ aM aO aR bk;clear ah Z ab ad ae af;refine cTt ?_;refine sRg fun K' gd hK => ?_;go_simp;apply hK;clear hK K' gd;refine Wp.keep [6,7,8] ?_;rintro r74 ⟨bK,bP,bU,-⟩;simp [go_sem,a8,aD,aJ,aM,aO,aR,bk] at bK bP bU;clear a8 aD aJ aM aO aR bk;refine Wp.ret ?_;refine tRe ?_;refine endK_tmp3 Tryz.results24 (by decide) (by decide) (by decide) ?_;rw [bK,bP,bU];have e : befE s c d = begE s d := by unfold befE;rw [if_pos k1,if_pos k2,if_pos k3]
     exact ⟨_,_,by rw [e],by rw [if_neg (by rw [e];exact k4)];exact IntsB.nil _ _,by rw [if_neg (by rw [e];exact k4)];exact IntsB.nil _ _,xw⟩
   ·skip;refine Wp.seq ?_;refine sRg fun K' gd hK => ?_;go_simp;apply hK;clear hK K' gd;refine Wp.keep [3,5,11,12,13,40] ?_;rintro r75 ⟨a9,bo,aE,aK,aN,be,-⟩;simp [go_sem,ag,am,Y,aa,ac] at a9 bo aE aK aN be;clear ag am Y aa ac;refine cTt ?_;refine sRg fun K' gd hK => ?_;go_simp;apply hK;clear hK K' gd;refine Wp.keep [6,7,8] ?_;rintro r76 ⟨bL,bQ,bV,-⟩;simp [go_sem,a9,bo,aE,aK,aN,be] at bL bQ bV;clear a9 bo aE aK aN be;refine Wp.ret ?_;refine tRe ?_;refine endK_tmp3 Tryz.results24 (by decide) (by decide) (by decide) ?_;rw [bL,bQ,bV];have e : befE s c d = begE s c := by unfold befE;rw [if_pos k1,if_pos k2,if_neg k3]
    exact ⟨_,_,by rw [e],by rw [if_neg (by rw [e];exact k3)];exact IntsB.nil _ _,by rw [if_neg (by rw [e];exact k3)];exact IntsB.nil _ _,xw⟩
  ·skip;refine sRg fun K' gd hK => ?_;go_simp;apply hK;clear hK K' gd;refine Wp.keep [3,4,5,10,30] ?_;rintro r77 ⟨ba,bh,bp,aA,a0,-⟩;simp [go_sem,aj,al,ao,X] at ba bh bp aA a0;clear aj al ao X;refine cTt ?_;refine sRg fun K' gd hK => ?_;go_simp;apply hK;clear hK K' gd;refine Wp.keep [6,7,8] ?_;rintro r78 ⟨bM,bR,bW,-⟩;simp [go_sem,ba,bh,bp,aA,a0] at bM bR bW;clear ba bh bp aA a0;refine Wp.ret ?_;refine tRe ?_;refine endK_tmp3 Tryz.results24 (by decide) (by decide) (by decide) ?_;rw [bM,bR,bW];have e : befE s c d = copyS s d := by unfold befE;rw [if_pos k1,if_neg k2]
   exact ⟨_,_,by rw [e],by rw [if_neg (by rw [e];exact k2)];exact IntsB.nil _ _,by rw [if_neg (by rw [e];exact k2)];exact IntsB.nil _ _,xw⟩
 ·skip;refine sRg fun K' gd hK => ?_;go_simp;apply hK;clear hK K' gd;refine Wp.keep [3,4,5,9,24] ?_;rintro r79 ⟨bb,bi,bq,bt,aY,-⟩;simp [go_sem,ai,ak,an,ap] at bb bi bq bt aY;clear ai ak an ap;refine cTt ?_;refine sRg fun K' gd hK => ?_;go_simp;apply hK;clear hK K' gd;refine Wp.keep [6,7,8] ?_;rintro r80 ⟨bN,bS,bX,-⟩;simp [go_sem,bb,bi,bq,bt,aY] at bN bS bX;clear bb bi bq bt aY;refine Wp.ret ?_;refine tRe ?_;refine endK_tmp3 Tryz.results24 (by decide) (by decide) (by decide) ?_;rw [bN,bS,bX];have e : befE s c d = copyS s c := by unfold befE;rw [if_neg k1]
  exact ⟨_,_,by rw [e],by rw [if_neg (by rw [e];exact k1)];exact IntsB.nil _ _,by rw [if_neg (by rw [e];exact k1)];exact IntsB.nil _ _,xw⟩
end Go.Proofs.YtnklbepeoicgpaaGreat.St
namespace Go.Proofs.YtnklbepeoicgpaaGreat.St
set_option maxHeartbeats 8000000
structure OnsR (on : List Int) (m n L : Nat) : Prop where
 ml : m ≤ L
 L1 : 1 ≤ L
 L15 : L ≤ 15
 m10 : m ≤ 10
 n60 : n ≤ 60
 rng : ∀ i,i < m → gI on i = -1 ∨ (0 ≤ gI on i ∧ gI on i < (n : Int))
 inj : ∀ i j,i < m → j < m → 0 ≤ gI on i → gI on i = gI on j → i = j
def wordR (m i : Nat) : Int := if i < m then 1001 + (i : Int) else 1 + (i : Int)
def wordsR (m L : Nat) : List Int := (List.range L).map (wordR m)
def altR (i d : Nat) : Alt := ⟨1 + (i : Int),4,(d : Int) + 1,i,i,1 + (i : Int)⟩
def rowR (on : List Int) (d m : Nat) : List Alt := (List.range m).flatMap fun i => if gI on i = (d : Int) then [altR i d] else []
def altsR (on : List Int) (m n : Nat) : List Alt := (List.range n).flatMap fun d => rowR on d m
def shR (on : List Int) (m n L : Nat) : Sh := ⟨wordsR m L,altsR on m n⟩
def wordA (on : List Int) (m : Nat) (d : Int) (i : Nat) : Int := if i < m ∧ ¬ (0 ≤ gI on i ∧ gI on i < d) then 1001 + (i : Int) else 1 + (i : Int)
def copyR (on : List Int) (m L : Nat) (x b e : Int) : Cp := ⟨(List.range L).map (wordA on m x),b,e,40⟩
theorem rowR_snoc (on : List Int) (d m : Nat) : rowR on d (m + 1) = rowR on d m ++ if gI on m = (d : Int) then [altR m d] else [] := by
 unfold rowR;rw [List.range_succ,List.flatMap_append];simp
theorem altsR_snoc (on : List Int) (m n : Nat) : altsR on m (n + 1) = altsR on m n ++ rowR on n m := by
 unfold altsR;rw [List.range_succ,List.flatMap_append];simp
theorem wordsR_snoc (m L : Nat) : wordsR m (L + 1) = wordsR m L ++ [wordR m L] := by
 unfold wordsR;rw [List.range_succ,List.map_append];rfl
theorem wordsR_len (m L : Nat) : (wordsR m L).length = L := by simp [wordsR]
theorem mem_rowR {on : List Int} {d m : Nat} {a : Alt} : a ∈ rowR on d m ↔ ∃ i,i < m ∧ gI on i = (d : Int) ∧ a = altR i d := by
 unfold rowR;rw [List.mem_flatMap]
 constructor
 ·rintro ⟨i,hi,h⟩;rw [List.mem_range] at hi
  split at h
  ·rename_i e;rw [List.mem_singleton] at h;exact ⟨i,hi,e,h⟩
  ·cases h
 ·rintro ⟨i,hi,e,h⟩;exact ⟨i,List.mem_range.2 hi,by rw [if_pos e,h];exact List.mem_cons_self⟩
theorem mem_altsR {on : List Int} {n m : Nat} {a : Alt} : a ∈ altsR on m n ↔ ∃ d,d < n ∧ ∃ i,i < m ∧ gI on i = (d : Int) ∧ a = altR i d := by
 unfold altsR;rw [List.mem_flatMap]
 constructor
 ·rintro ⟨d,hd,h⟩;exact ⟨d,List.mem_range.1 hd,mem_rowR.1 h⟩
 ·rintro ⟨d,hd,h⟩;exact ⟨d,List.mem_range.2 hd,mem_rowR.2 h⟩
theorem onF_R {i d : Int} : ∀ (l : List Alt) (x : Int),(∀ a ∈ l,a.kind = 4 ∧ a.tu = a.frm ∧ a.word = 1 + a.frm) → onF i d l (x,0,false) = (if ∃ a ∈ l,a.frm = i ∧ a.day ≤ d then 1 + i else x,0,false)
 | [],x,_ => by rw [if_neg (by rintro ⟨a,h,-⟩;cases h)];rfl
 | a :: l,x,hl => by
   obtain ⟨h1,h2,h3⟩ := hl a List.mem_cons_self;have ih := fun y => onF_R (i := i) (d := d) l y fun b hb => hl b (List.mem_cons_of_mem _ hb);have e : onF i d (a :: l) (x,0,false) = onF i d l (if a.day ≤ d then nxt i (x,0,false) a else (x,0,false)) := rfl;rw [e]
   by_cases c : a.frm = i ∧ a.day ≤ d
   ·have q : nxt i (x,0,false) a = (1 + i,0,false) := by
     unfold nxt aft;rw [if_pos (by omega),if_neg (show ¬ false = true by decide),if_neg (by omega),if_neg (by omega),if_neg (by omega),if_pos h1,h3,c.1]
    rw [if_pos c.2,q,ih,if_pos (⟨a,List.mem_cons_self,c⟩ : ∃ b ∈ a :: l,b.frm = i ∧ b.day ≤ d)]
    split <;> rfl
   ·have q : (if a.day ≤ d then nxt i (x,0,false) a else (x,0,false)) = (x,0,false) := by
     split
     ·unfold nxt;rw [if_neg (by omega)]
     ·rfl
    rw [q,ih]
    by_cases c2 : ∃ b ∈ l,b.frm = i ∧ b.day ≤ d
    ·obtain ⟨b,hb,h⟩ := c2;rw [if_pos ⟨b,hb,h⟩,if_pos ⟨b,List.mem_cons_of_mem _ hb,h⟩]
    ·rw [if_neg c2,if_neg];rintro ⟨b,hb,h⟩
     rcases List.mem_cons.1 hb with rfl | hb
     ·exact c h
     ·exact c2 ⟨b,hb,h⟩
section
variable {on : List Int} {m n L : Nat}
theorem shR_W {i : Nat} (hi : i < L) : (shR on m n L).W i = wordR m i := by
 show ((wordsR m L)[i]?).getD 0 = _
 unfold wordsR;rw [List.getElem?_map,List.getElem?_range hi];rfl
theorem shR_n : (shR on m n L).n = L := wordsR_len m L
theorem copyR_W {x b e : Int} {i : Nat} (hi : i < L) : (copyR on m L x b e).W i = wordA on m x i := by
 show (((List.range L).map (wordA on m x))[i]?).getD 0 = _
 rw [List.getElem?_map,List.getElem?_range hi];rfl
theorem shR_on (h : OnsR on m n L) {i : Nat} (hi : i < L) (d : Int) : (shR on m n L).on i d = (wordA on m d i,0,false) := by
 show onF (i : Int) d (altsR on m n) ((shR on m n L).W i,0,false) = _
 rw [shR_W hi,onF_R _ _ fun a ha => by obtain ⟨d,-,i,-,-,rfl⟩ := mem_altsR.1 ha;exact ⟨rfl,rfl,rfl⟩]
 congr 1
 unfold wordA wordR
 by_cases hm : i < m
 ·by_cases c : 0 ≤ gI on i ∧ gI on i < d
  ·have hex : ∃ a ∈ altsR on m n,a.frm = (i : Int) ∧ a.day ≤ d := by
    rcases h.rng i hm with q | ⟨q1,q2⟩
    ·omega
    ·exact ⟨altR i (gI on i).toNat,mem_altsR.2 ⟨(gI on i).toNat,by omega,i,hm,by omega,rfl⟩,rfl,by show ((gI on i).toNat : Int) + 1 ≤ d;omega⟩
   rw [if_pos hex,if_neg (fun q : i < m ∧ ¬ (0 ≤ gI on i ∧ gI on i < d) => q.2 c)]
  ·have hex : ¬ ∃ a ∈ altsR on m n,a.frm = (i : Int) ∧ a.day ≤ d := by
    rintro ⟨a,ha,h1,h2⟩;obtain ⟨e,he,j,hj,q,rfl⟩ := mem_altsR.1 ha;have h1 : (j : Int) = (i : Int) := h1;obtain rfl : j = i := by omega
    have h2 : (e : Int) + 1 ≤ d := h2;exact c ⟨by omega,by omega⟩
   rw [if_neg hex,if_pos hm,if_pos ⟨hm,c⟩]
 ·rw [if_neg hm,if_neg (fun q : i < m ∧ ¬ (0 ≤ gI on i ∧ gI on i < d) => hm q.1)]
  split <;> rfl
theorem sort_app : ∀ {l k : List Alt} {d e : Int},SortA d l → (∀ a ∈ l,a.day ≤ e) → SortA e k → d ≤ e → SortA d (l ++ k)
 | [],[],_,_,_,_,_,_ => trivial
 | [],b :: k,d,e,_,_,hk,he => ⟨by have := hk.1;omega,hk.2⟩
 | a :: l,k,d,e,hl,ha,hk,he => ⟨hl.1,hl.2.1,sort_app hl.2.2 (fun b hb => ha b (List.mem_cons_of_mem _ hb)) hk (ha a List.mem_cons_self)⟩
theorem sort_one : ∀ {l : List Alt} {d e : Int},d ≤ e → e ≤ 730 → (∀ a ∈ l,a.day = e) → SortA d l
 | [],_,_,_,_,_ => trivial
 | a :: l,d,e,h,h2,ha => by
   have := ha a List.mem_cons_self;exact ⟨by omega,by omega,sort_one (e := e) (by omega) h2 fun b hb => ha b (List.mem_cons_of_mem _ hb)⟩
theorem altsR_sort : ∀ n : Nat,n ≤ 60 → SortA 0 (altsR on m n)
 | 0,_ => trivial
 | n + 1,h => by
   rw [altsR_snoc];refine sort_app (e := (n : Int) + 1) (altsR_sort n (by omega)) (fun a ha => ?_) (sort_one (e := (n : Int) + 1) (by omega) (by omega) fun a ha => ?_) (by omega)
   ·obtain ⟨d,hd,i,-,-,rfl⟩ := mem_altsR.1 ha
    show (d : Int) + 1 ≤ _;omega
   ·obtain ⟨i,-,-,rfl⟩ := mem_rowR.1 ha
    rfl
theorem rowR_ids (d : Nat) : ∀ m : Nat,(∀ i j,i < m → j < m → 0 ≤ gI on i → gI on i = gI on j → i = j) → ((rowR on d m).map Alt.id).Nodup
 | 0,_ => List.nodup_nil
 | m + 1,h => by
   rw [rowR_snoc,List.map_append];refine List.nodup_append.2 ⟨rowR_ids d m fun i j hi hj => h i j (by omega) (by omega),by split <;> simp,fun x hx y hy e => ?_⟩
   split at hy
   ·rw [List.map_cons,List.map_nil,List.mem_singleton] at hy;obtain ⟨a,ha,rfl⟩ := List.mem_map.1 hx;obtain ⟨i,hi,-,rfl⟩ := mem_rowR.1 ha;have e : 1 + (i : Int) = y := e;have hy : y = 1 + (m : Int) := hy;omega
   ·cases hy
theorem altsR_ids (hi : ∀ i j,i < m → j < m → 0 ≤ gI on i → gI on i = gI on j → i = j) : ∀ n : Nat,((altsR on m n).map Alt.id).Nodup
 | 0 => List.nodup_nil
 | n + 1 => by
   rw [altsR_snoc,List.map_append];refine List.nodup_append.2 ⟨altsR_ids hi n,rowR_ids n m hi,fun x hx y hy e => ?_⟩;obtain ⟨a,ha,rfl⟩ := List.mem_map.1 hx;obtain ⟨b,hb,rfl⟩ := List.mem_map.1 hy;obtain ⟨d,hd,i,-,h1,rfl⟩ := mem_altsR.1 ha;obtain ⟨j,-,h2,rfl⟩ := mem_rowR.1 hb;have e : 1 + (i : Int) = 1 + (j : Int) := e;obtain rfl : i = j := by omega
   omega
theorem nodup_len : ∀ (m : Nat) (l : List Int),l.Nodup → (∀ x ∈ l,1 ≤ x ∧ x ≤ (m : Int)) → l.length ≤ m
 | 0,l,_,h => by
   cases l with
   | nil => exact Nat.le_refl _
   | cons x l => have := h x List.mem_cons_self;omega
 | m + 1,l,hd,h => by
   have h1 := nodup_len m (l.erase ((m : Int) + 1)) (hd.erase _) fun x hx => by
    have h2 := h x (List.mem_of_mem_erase hx);have : x ≠ (m : Int) + 1 := fun e => by subst e;exact (List.Nodup.mem_erase_iff hd).1 hx |>.1 rfl
    omega
   have := List.length_erase_le (a := (m : Int) + 1) (l := l);rw [List.length_erase] at h1
   split at h1 <;> omega
theorem altsR_len (hi : ∀ i j,i < m → j < m → 0 ≤ gI on i → gI on i = gI on j → i = j) (n : Nat) : (altsR on m n).length ≤ m := by
 rw [← List.length_map (f := Alt.id)];refine nodup_len m _ (altsR_ids hi n) fun x hx => ?_;obtain ⟨a,ha,rfl⟩ := List.mem_map.1 hx;obtain ⟨d,hd,i,hi,-,rfl⟩ := mem_altsR.1 ha
 show 1 ≤ 1 + (i : Int) ∧ 1 + (i : Int) ≤ m
 omega
theorem OnsR.good (h : OnsR on m n L) : Good (shR on m n L) := by
 have h1 := h.ml;have h2 := h.L1;have h3 := h.L15;have h4 := h.m10;have h5 := h.n60;refine ⟨by rw [shR_n];exact h2,by rw [shR_n];omega,fun x hx => ?_,by have := altsR_len h.inj n;show (altsR on m n).length ≤ 40;omega,fun a ha => ?_,altsR_sort n h5,altsR_ids h.inj n⟩
 ·obtain ⟨i,hi,rfl⟩ := List.mem_map.1 hx;rw [List.mem_range] at hi;unfold wordR;split <;> omega
 ·obtain ⟨d,hd,i,hi,-,rfl⟩ := mem_altsR.1 ha;rw [shR_n];refine ⟨⟨?_,?_⟩,⟨?_,?_⟩,⟨?_,?_⟩,⟨?_,?_⟩,.inr ⟨.inr rfl,rfl,?_,?_⟩⟩ <;> simp only [altR] <;> omega
theorem OnsR.check (h : OnsR on m n L) : checkS (shR on m n L) = 0 := checkS_zero.2 h.good
theorem wordA_ne (x : Int) (i : Nat) : wordA on m x i ≠ 0 := by unfold wordA;split <;> omega
theorem OnsR.valid (h : OnsR on m n L) {x b e : Int} (hb : 0 ≤ b) (hbe : b ≤ e) (he : e ≤ 730) : ValidC (shR on m n L) (copyR on m L x b e) := by
 refine ⟨by show ((List.range L).map _).length = _;rw [List.length_map,List.length_range,shR_n],?_,⟨hb,hbe⟩,he,(by decide : (1 : Int) ≤ 40),(by decide : (40 : Int) ≤ 40)⟩;rw [List.any_eq_false];intro y hy;obtain ⟨i,hi,rfl⟩ := List.mem_map.1 hy;rw [List.mem_range] at hi;have := h.L15;unfold badC wordA
 split <;> simp <;> omega
theorem OnsR.copy (h : OnsR on m n L) {x b e : Int} (hb : 0 ≤ b) (hbe : b ≤ e) (he : e ≤ 730) : copyS (shR on m n L) (copyR on m L x b e) = 0 := copyS_zero.2 ⟨h.check,h.valid hb hbe he⟩
def SameR (on : List Int) (m : Nat) (x d : Int) : Prop := ∀ i,i < m → 0 ≤ gI on i → (gI on i < d ↔ gI on i < x)
theorem can_R (h : OnsR on m n L) {i : Nat} (hi : i < L) (x b e d : Int) : (shR on m n L).can i d ((copyR on m L x b e).W i) = true ↔ (i < m → 0 ≤ gI on i → (gI on i < d ↔ gI on i < x)) := by
 unfold Sh.can;rw [shR_on h hi,copyR_W hi];unfold rds;rw [if_neg (wordA_ne x i),decide_eq_true_iff];unfold wordA
 by_cases hm : i < m
 ·by_cases c0 : 0 ≤ gI on i
  ·by_cases c1 : gI on i < d <;> by_cases c2 : gI on i < x <;> simp [hm,c0,c1,c2] <;> omega
  ·simp [hm,c0]
 ·simp [hm]
theorem fit_const (h : OnsR on m n L) {x b e d : Int} (hb : 0 ≤ b) (he : e ≤ 730) (h1 : b ≤ d) (h2 : d ≤ e) (hs : SameR on m x d) : ((shR on m n L).md (copyR on m L x b e)).Fit fun _ => d := by
 rw [Sh.fit_iff (altsR_sort n h.n60) hb he];intro i hi;have hi : i < L := by rwa [show (copyR on m L x b e).words.length = L by show ((List.range L).map _).length = L;simp] at hi
 have hp : (copyR on m L x b e).p.toNat = 40 := rfl;exact ⟨h1,h2,(can_R h hi x b e d).2 fun hm => hs i hm,fun _ => Int.le_refl _,fun q => by rw [hp] at q;have := h.L15;omega⟩
theorem fit_same (h : OnsR on m n L) {x b d : Int} {ds : Nat → Int} (hb : 0 ≤ b) (he : b ≤ 730) (hf : ((shR on m n L).md (copyR on m L x b b)).Fit ds) : SameR on m x b := fun i hi h0 => by
 rw [Sh.fit_iff (altsR_sort n h.n60) hb he] at hf;have hiL : i < L := by have := h.ml;omega
 obtain ⟨h1,h2,h3,-⟩ := hf i (by show i < ((List.range L).map _).length;simpa using hiL)
 have e : ds i = b := by
  have h1 : b ≤ ds i := h1;have h2 : ds i ≤ b := h2;omega
 rw [e] at h3;exact (can_R h hiL x b b b).1 h3 hi h0
theorem beg_R (h : OnsR on m n L) {x b e d : Int} (hb : 0 ≤ b) (he : e ≤ 730) (h1 : b ≤ d) (h2 : d ≤ e) (hs : SameR on m x d) : begE (shR on m n L) (copyR on m L x b e) = 0 :=
 begE_zero.2 ⟨h.copy hb (by omega) he,(h.good.mdOk (h.valid hb (by omega) he)).ok_of (fit_const h hb he h1 h2 hs)⟩
theorem beg_no (h : OnsR on m n L) {x b : Int} (hb : 0 ≤ b) (he : b ≤ 730) (hs : ¬ SameR on m x b) : begE (shR on m n L) (copyR on m L x b b) = 9 := by
 unfold begE;rw [if_pos (h.copy hb (Int.le_refl _) he),if_neg];intro hk;have hm := h.good.mdOk (h.valid (x := x) hb (Int.le_refl _) he);exact hs (fit_same h (d := b) hb he (hm.of_ok hk).2.2.1)
theorem beg_iff (h : OnsR on m n L) {x b : Int} (hb : 0 ≤ b) (he : b ≤ 730) : begE (shR on m n L) (copyR on m L x b b) = 0 ↔ SameR on m x b := by
 constructor
 ·intro q;refine Classical.byContradiction fun c => ?_;rw [beg_no h hb he c] at q;cases q
 ·exact fun q => beg_R h hb he (Int.le_refl _) (Int.le_refl _) q
theorem same_refl (x : Int) : SameR on m x x := fun _ _ _ => Iff.rfl
structure DayR (s : Sh) (c : Cp) (L : Nat) (x : Int) : Prop where
 fl : (s.md c).first.length = L
 ll : (s.md c).last.length = L
 fd : ∀ i,i < L → gI (s.md c).first i = x
 ld : ∀ i,i < L → gI (s.md c).last i = x
theorem day_R (h : OnsR on m n L) {x : Int} (hb : 0 ≤ x) (he : x ≤ 730) : DayR (shR on m n L) (copyR on m L x x x) L x := by
 have hv := h.valid (x := x) hb (Int.le_refl _) he;have hm := h.good.mdOk hv;have hf := fit_const h hb he (Int.le_refl x) (Int.le_refl x) (same_refl x);have hn : ((shR on m n L).md (copyR on m L x x x)).n = L := by show ((List.range L).map _).length = L;simp
 obtain ⟨a1,-,a2,-⟩ := hm.of_ok (hm.ok_of hf);obtain ⟨b1,b2,-⟩ := hm.last_fit (hm.ok_of hf);refine ⟨a1.trans hn,b1.trans hn,fun i hi => ?_,fun i hi => ?_⟩
 ·obtain ⟨q1,q2,-⟩ := a2 i (by rw [hn];exact hi);have q1 : x ≤ _ := q1;have q2 : _ ≤ x := q2;omega
 ·obtain ⟨q1,q2,-⟩ := b2 i (by rw [hn];exact hi);have q1 : x ≤ _ := q1;have q2 : _ ≤ x := q2;omega
theorem ids_R (h : OnsR on m n L) (p : Alt → Bool) {i : Nat} (hi : i < m) : 1 + (i : Int) ∈ idsS (shR on m n L) p ↔ 0 ≤ gI on i ∧ p (altR i (gI on i).toNat) = true := by
 constructor
 ·intro q;have q0 := q;unfold idsS at q;rw [sortI_mem,List.mem_map] at q;obtain ⟨a,ha,e⟩ := q;rw [List.mem_filter] at ha;obtain ⟨d,hd,j,hj,h1,rfl⟩ := mem_altsR.1 ha.1;have e : 1 + (j : Int) = 1 + (i : Int) := e;obtain rfl : j = i := by omega
  refine ⟨by omega,?_⟩;rw [h1,Int.toNat_natCast];exact ha.2
 ·rintro ⟨h0,hp⟩
  rcases h.rng i hi with q | ⟨q1,q2⟩
  ·omega
  ·exact (ids_mem (altsR_ids h.inj n) (a := altR i (gI on i).toNat) (mem_altsR.2 ⟨_,by omega,i,hi,by omega,rfl⟩) p).2 hp
theorem first_last {s : Sh} {c : Cp} {x : Int} (h : DayR s c L x) : (s.md c).first = (s.md c).last :=
 list_gI (h.fl.trans h.ll.symm) fun i hi => by rw [h.fd i (by rw [← h.fl];exact hi),h.ld i (by rw [← h.fl];exact hi)]
theorem seen_R (h : OnsR on m n L) {x : Int} (hd : DayR (shR on m n L) (copyR on m L x x x) L x) {i : Nat} (hi : i < m) : 1 + (i : Int) ∈ idsS (shR on m n L) (seenP ((shR on m n L).md (copyR on m L x x x)).first) ↔ 0 ≤ gI on i ∧ gI on i < x := by
 rw [ids_R h _ hi];have hiL : i < L := by have := h.ml;omega
 have e := hd.fd i hiL
 constructor
 ·rintro ⟨h0,q⟩;have q := of_decide_eq_true q;have q : ((gI on i).toNat : Int) + 1 ≤ gI _ ((i : Int)).toNat := q;rw [Int.toNat_natCast,e] at q;omega
 ·rintro ⟨h0,q⟩;refine ⟨h0,decide_eq_true ?_⟩
  show ((gI on i).toNat : Int) + 1 ≤ gI _ ((i : Int)).toNat
  rw [Int.toNat_natCast,e];omega
theorem bet_R (h : OnsR on m n L) {x y : Int} {f b : List Int} (hf : ∀ i,i < L → gI f i = y) (hb : ∀ i,i < L → gI b i = x) {i : Nat} (hi : i < m) : 1 + (i : Int) ∈ idsS (shR on m n L) (betP f b) ↔ 0 ≤ gI on i ∧ x ≤ gI on i ∧ gI on i < y := by
 rw [ids_R h _ hi];have hiL : i < L := by have := h.ml;omega
 have e := hf i hiL;have e2 := hb i hiL
 constructor
 ·rintro ⟨h0,q⟩;obtain ⟨q1,q2⟩ := betP_true.1 q;have q1 : ((gI on i).toNat : Int) + 1 ≤ gI f ((i : Int)).toNat := q1;have q2 : gI b ((i : Int)).toNat < ((gI on i).toNat : Int) + 1 := q2;rw [Int.toNat_natCast,e] at q1;rw [Int.toNat_natCast,e2] at q2;omega
 ·rintro ⟨h0,q1,q2⟩;refine ⟨h0,betP_true.2 ⟨?_,?_⟩⟩
  ·show ((gI on i).toNat : Int) + 1 ≤ gI f ((i : Int)).toNat
   rw [Int.toNat_natCast,e];omega
  ·show gI b ((i : Int)).toNat < ((gI on i).toNat : Int) + 1
   rw [Int.toNat_natCast,e2];omega
def loR (on : List Int) (x : Int) : Nat → Int
 | 0 => 0
 | k + 1 => if 0 ≤ gI on k ∧ gI on k < x then max (loR on x k) (gI on k + 1) else loR on x k
def hiR (on : List Int) (x : Int) : Nat → Int
 | 0 => 730
 | k + 1 => if x ≤ gI on k then min (hiR on x k) (gI on k) else hiR on x k
theorem loR_spec (on : List Int) (x : Int) (hx : 0 ≤ x) : ∀ k,(0 ≤ loR on x k ∧ loR on x k ≤ x) ∧ (∀ i,i < k → 0 ≤ gI on i → gI on i < x → gI on i < loR on x k) ∧ (loR on x k = 0 ∨ ∃ i,i < k ∧ 0 ≤ gI on i ∧ gI on i < x ∧ loR on x k = gI on i + 1)
 | 0 => ⟨⟨Int.le_refl _,hx⟩,fun i hi => absurd hi (Nat.not_lt_zero _),.inl rfl⟩
 | k + 1 => by
   obtain ⟨h1,h2,h3⟩ := loR_spec on x hx k;unfold loR
   by_cases c : 0 ≤ gI on k ∧ gI on k < x
   ·rw [if_pos c];refine ⟨by omega,fun i hi h0 hlt => ?_,?_⟩
    ·by_cases e : i = k
     ·subst e;omega
     ·have := h2 i (by omega) h0 hlt;omega
    ·by_cases q : loR on x k ≤ gI on k + 1
     ·exact .inr ⟨k,by omega,c.1,c.2,by omega⟩
     ·rcases h3 with e | ⟨i,hi,a,b,e⟩
      ·omega
      ·exact .inr ⟨i,by omega,a,b,by omega⟩
   ·rw [if_neg c];refine ⟨h1,fun i hi h0 hlt => ?_,?_⟩
    ·by_cases e : i = k
     ·subst e;exact absurd ⟨h0,hlt⟩ c
     ·exact h2 i (by omega) h0 hlt
    ·rcases h3 with e | ⟨i,hi,r⟩
     ·exact .inl e
     ·exact .inr ⟨i,by omega,r⟩
theorem hiR_spec (on : List Int) (x : Int) (hx : x ≤ 730) : ∀ k,(x ≤ hiR on x k ∧ hiR on x k ≤ 730) ∧ (∀ i,i < k → x ≤ gI on i → hiR on x k ≤ gI on i) ∧ (hiR on x k = 730 ∨ ∃ i,i < k ∧ x ≤ gI on i ∧ hiR on x k = gI on i)
 | 0 => ⟨⟨hx,Int.le_refl _⟩,fun i hi => absurd hi (Nat.not_lt_zero _),.inl rfl⟩
 | k + 1 => by
   obtain ⟨h1,h2,h3⟩ := hiR_spec on x hx k;unfold hiR
   by_cases c : x ≤ gI on k
   ·rw [if_pos c];refine ⟨by omega,fun i hi hlt => ?_,?_⟩
    ·by_cases e : i = k
     ·subst e;omega
     ·have := h2 i (by omega) hlt;omega
    ·by_cases q : gI on k ≤ hiR on x k
     ·exact .inr ⟨k,by omega,c,by omega⟩
     ·rcases h3 with e | ⟨i,hi,a,e⟩
      ·omega
      ·exact .inr ⟨i,by omega,a,by omega⟩
   ·rw [if_neg c];refine ⟨h1,fun i hi hlt => ?_,?_⟩
    ·by_cases e : i = k
     ·subst e;exact absurd hlt c
     ·exact h2 i (by omega) hlt
    ·rcases h3 with e | ⟨i,hi,r⟩
     ·exact .inl e
     ·exact .inr ⟨i,by omega,r⟩
theorem same_lo {x : Int} (hx : 0 ≤ x) (h7 : x ≤ 730) : SameR on m x (loR on x m) ∧ SameR on m x (hiR on x m) ∧ (1 ≤ loR on x m → ¬ SameR on m x (loR on x m - 1)) ∧ (hiR on x m < 730 → ¬ SameR on m x (hiR on x m + 1)) := by
 obtain ⟨l1,l2,l3⟩ := loR_spec on x hx m;obtain ⟨u1,u2,u3⟩ := hiR_spec on x h7 m;refine ⟨fun i hi h0 => ?_,fun i hi h0 => ?_,fun h1 hs => ?_,fun h1 hs => ?_⟩
 ·constructor
  ·intro q;omega
  ·exact l2 i hi h0
 ·constructor
  ·intro q
   rcases Int.lt_or_le (gI on i) x with h | h
   ·exact h
   ·have := u2 i hi h;omega
  ·intro q;omega
 ·rcases l3 with e | ⟨i,hi,a,b,e⟩
  ·omega
  ·have := (hs i hi a).2 b;omega
 ·rcases u3 with e | ⟨i,hi,a,e⟩
  ·omega
  ·have := (hs i hi (by omega)).1 (by omega);omega
theorem free_R (h : OnsR on m n L) {x : Int} (hx : 0 ≤ x) (h7 : x ≤ 730) : ∃ F K,((shR on m n L).md (copyR on m L x 0 730)).first = F ∧ ((shR on m n L).md (copyR on m L x 0 730)).last = K ∧ begE (shR on m n L) (copyR on m L x 0 730) = 0 ∧
  F.length = L ∧ K.length = L ∧ (∀ i,i < L → gI F i ≤ loR on x m ∧ gI F i ≤ x ∧ hiR on x m ≤ gI K i ∧ gI K i ≤ 730 ∧ 0 ≤ gI F i) ∧ (m = 0 → gI F 0 = 0 ∧ gI K (L - 1) = 730) := by
 have hv := h.valid (x := x) (Int.le_refl 0) (by decide : (0 : Int) ≤ 730) (Int.le_refl 730);have hm := h.good.mdOk hv;obtain ⟨l1,l2,l3⟩ := loR_spec on x hx m;obtain ⟨u1,u2,u3⟩ := hiR_spec on x h7 m;obtain ⟨s1,s2,-,-⟩ := same_lo (on := on) (m := m) hx h7;have f0 := fit_const h (Int.le_refl 0) (Int.le_refl 730) hx h7 (same_refl (on := on) (m := m) x);have f1 := fit_const h (Int.le_refl 0) (Int.le_refl 730) l1.1 (by omega) s1;have f2 := fit_const h (Int.le_refl 0) (Int.le_refl 730) (by omega : 0 ≤ hiR on x m) u1.2 s2;have hn : ((shR on m n L).md (copyR on m L x 0 730)).n = L := by show ((List.range L).map _).length = L;simp
 obtain ⟨a1,-,a2,a3⟩ := hm.of_ok (hm.ok_of f0);obtain ⟨b1,b2,b3⟩ := hm.last_fit (hm.ok_of f0);refine ⟨_,_,rfl,rfl,beg_R h (Int.le_refl 0) (Int.le_refl 730) hx h7 (same_refl x),a1.trans hn,b1.trans hn,fun i hi => ⟨a3 _ f1 i (by omega),a3 _ f0 i (by omega),b3 _ f2 i (by omega),(b2 i (by omega)).2.1,(a2 i (by omega)).1⟩,fun e => ?_⟩;have hs : ∀ d,SameR on m x d := fun d i hi => by omega
 have g0 := fit_const h (x := x) (d := 0) (Int.le_refl 0) (Int.le_refl 730) (Int.le_refl 0) (by decide) (hs 0);have g1 := fit_const h (x := x) (d := 730) (Int.le_refl 0) (Int.le_refl 730) (by decide) (Int.le_refl 730) (hs 730);have hL := h.L1;have q1 := a3 _ g0 0 (by omega);have q2 : (0 : Int) ≤ _ := (a2 0 (by omega)).1;have q3 := b3 _ g1 (L - 1) (by omega);have q4 : _ ≤ (730 : Int) := (b2 (L - 1) (by omega)).2.1;exact ⟨by omega,by omega⟩
end
end Go.Proofs.YtnklbepeoicgpaaGreat.St
namespace Go.Proofs.YtnklbepeoicgpaaGreat.St
open Go.RowKit Go.Wk Go.Proofs
attribute [local irreducible] Go.Wk.Wops Go.Wk.Wp Go.Wk.Mtree Go.Wk.Mops
set_option maxHeartbeats 8000000
set_option maxRecDepth 20000
theorem roundHas_c (x : Value) (xs : List Int) (d : Int) (w : World) (hx : IntsV w w.heap.size x xs) (hl : xs.length ≤ 1000000000000000) :
  CallsV Tryz.prog 25 #[x,.int .i64 d] w fun v w' => v = .bool (decide (d ∈ xs)) ∧ Ext w w' := by
 obtain ⟨A,c,rfl,-,-⟩ := id hx;refine Wp.fn Tryz.func25 rfl Tryz.ntmps25 (by simp) ?_;have xw := Ext.refl w;refine Wp.keep [0,1] ?_;rintro r1 ⟨i,s,-⟩;simp [go_sem] at i s;refine sRg fun K' gd hK => ?_;go_simp;apply hK;clear hK K' gd;refine Wp.keep [0,1] ?_;rintro r2 ⟨j,t,-⟩;simp [go_sem,i,s] at j t;clear i s;refine Wp.seq ?_;refine sRg fun K' gd hK => ?_;go_simp;apply hK;clear hK K' gd;refine Wp.keep [0,1,5] ?_;rintro r3 ⟨l,u,I,-⟩;simp [go_sem,j,t] at l u I;clear j t;refine Wp.block ?_;refine Wp.loop (fun k ρ ds wk => AllEq [0,1] ρ r3 ∧ ds = [] ∧ (Ext w wk) ∧ (ρ 5 = .int .i64 (k : Int) ∧ d ∉ xs.take k)) (xs.length) ?_ ?_
 ·refine ⟨AllEq.refl _ _,rfl,Ext.refl _,?_⟩;exact ⟨by rw [I];rfl,by simp⟩
 ·rintro k r4 _ wk hk ⟨hA,rfl,xl1,⟨e5,hn⟩⟩;obtain ⟨m,y,-⟩ := hA;rw [l] at m;rw [u] at y;replace xw := Ext.trans xw xl1;refine Wp.seq ?_;refine sRg fun K' gd hK => ?_;go_simp;apply hK;clear hK K' gd;refine Wp.keep [0,1,5,9] ?_;rintro r5 ⟨a,e,f,g,-⟩;simp [go_sem,m,y,e5] at a e f g;clear m y e5
  by_cases h : k < xs.length
  ·refine cTt ?_;obtain ⟨b,o,c5,e1,hb,hc⟩ := hx.get h
   injection e1 with e1 _ e2
   subst e1;subst e2;have d1 := xw.cell (hc k h);rw [gI_lt h] at d1;clear hc
   by_cases h1 : xs[k] = d
   ·skip;refine skN ?_;refine sBk ?_;refine sRg fun K' gd hK => ?_;go_simp;apply hK;clear hK K' gd;refine Wp.keep [0,1,5,17] ?_;rintro r6 ⟨n,z,C,q,-⟩;simp [go_sem,a,e,f,g] at n z C q;clear a e f g;refine cTt ?_;refine sRg fun K' gd hK => ?_;go_simp;apply hK;clear hK K' gd;refine Wp.keep [4] ?_;rintro r7 ⟨H,-⟩;simp [go_sem,n,z,C,q] at H;clear n z C q;refine Wp.ret ?_;refine bRe ?_;refine tRe ?_;refine tRe ?_;refine bRe ?_;refine tRe ?_;refine endK_tmp Tryz.results25 (by decide) ?_;rw [H];exact ⟨by rw [decide_eq_true (show d ∈ xs by rw [← h1];exact List.getElem_mem h)],xw⟩
   ·skip;refine skN ?_;refine sBk ?_;refine sRg fun K' gd hK => ?_;go_simp;apply hK;clear hK K' gd;refine Wp.keep [0,1,5,17] ?_;rintro r8 ⟨p,B,D,r,-⟩;simp [go_sem,a,e,f,g] at p B D r;clear a e f g;refine cFf ?_;refine Wp.skip ?_;refine bNo ?_;refine tNo ?_;refine lRg fun K' gd hK => ?_;go_simp;apply hK;clear hK K' gd;refine Ends.keep [0,1,5] ?_;rintro r9 ⟨E,F,J,-⟩;simp [go_sem,p,B,D,r] at E F J;clear p B D r;refine Ends.mk ?_;refine thenK_normal ⟨by omega,⟨by rw [E,l],by rw [F,u],trivial⟩,rfl,xl1,?_⟩;exact ⟨by rw [J,IntWalk.i64_in _ (by omega)];rfl,by rw [take_snoc h,List.mem_append,List.mem_singleton];rintro (h2 | h2);exact hn h2;exact h1 h2.symm⟩
  ·refine cFf ?_;obtain rfl : k = xs.length := by omega
   rw [List.take_length] at hn;refine Wp.exit ?_;refine tEx ?_;refine tEx ?_;refine blockK_here ?_;refine tNo ?_;refine sRg fun K' gd hK => ?_;go_simp;apply hK;clear hK K' gd;refine Wp.keep [4] ?_;rintro r10 ⟨G,-⟩;simp [go_sem,a,e,f,g] at G;clear a e f g;refine Wp.ret ?_;refine endK_tmp Tryz.results25 (by decide) ?_;rw [G];exact ⟨by rw [decide_eq_false hn],xw⟩
theorem alts_T : ElemT Tryz.prog 35 126 6 := elemT_of (by kernel_rfl)
def encAs (al : List Alt) : List Value := al.flatMap encA
theorem encAs_add (al : List Alt) (a : Alt) : encAs (al ++ [a]) = encAs al ++ encA a := by unfold encAs;rw [List.flatMap_append];simp
def OwnA (w : World) (base : Nat) (v : Value) (al : List Alt) : Prop := w.ownsRow base 126 6 v al.length (encAs al)
theorem OwnA.altsV {w : World} {base : Nat} {v : Value} {xs : List Alt} (h : OwnA w base v xs) : AltsV w w.heap.size v xs := by
 rcases h.2 with ⟨rfl,hn⟩ | ⟨g,cap,cur,rfl,hb,hg,hnc,hcm,hcs,htake⟩
 ·have : xs = [] := List.eq_nil_of_length_eq_zero hn;subst this;exact ⟨none,0,rfl,fun h => absurd rfl h,Nat.le_refl _⟩
 ·refine ⟨_,cap,rfl,fun _ => ⟨g,0,rfl,(Array.getElem?_eq_some_iff.1 hg).1,fun i hi r u hu => ?_⟩,hnc⟩;have := World.ownsRow.cells h (g := g) rfl _ _ (six_get xs i hi r u hu);rw [Addr.add_lit,Nat.zero_add] at this;rw [Nat.zero_add];exact this
theorem OwnA.ext {w w' : World} {base : Nat} {v : Value} {xs : List Alt} (h : OwnA w base v xs) (hE : Ext w w') : OwnA w' base v xs := ownsRow_ext h hE
theorem encA_one {a : Alt} : ∀ u ∈ encA a,u.oneCell' = true := by
 intro u hu;simp [encA] at hu
 rcases hu with rfl | rfl | rfl | rfl | rfl | rfl <;> rfl
theorem OwnA.slice {w : World} {base : Nat} {v : Value} {xs : List Alt} (h : OwnA w base v xs) : ∃ A c,v = .slice A xs.length c := by
 rcases h.2 with ⟨rfl,hn⟩ | ⟨g,cap,cur,rfl,-⟩
 ·exact ⟨none,0,by rw [hn]⟩
 ·exact ⟨_,_,rfl⟩
theorem news_six {w : World} {k : Nat} {u0 u1 u2 u3 u4 u5 : Value} (h0 : w.cell? ⟨k,0,none⟩ = some u0) (h1 : w.cell? ⟨k,1,none⟩ = some u1) (h2 : w.cell? ⟨k,2,none⟩ = some u2) (h3 : w.cell? ⟨k,3,none⟩ = some u3) (h4 : w.cell? ⟨k,4,none⟩ = some u4) (h5 : w.cell? ⟨k,5,none⟩ = some u5) :
  ∀ j x,[u0,u1,u2,u3,u4,u5][j]? = some x → w.cell? ((⟨k,0,none⟩ : Addr).add j) = some x := by
 intro j x hx;rw [Addr.add_lit,Nat.zero_add]
 match j with
 | 0 => simp at hx;subst hx;exact h0
 | 1 => simp at hx;subst hx;exact h1
 | 2 => simp at hx;subst hx;exact h2
 | 3 => simp at hx;subst hx;exact h3
 | 4 => simp at hx;subst hx;exact h4
 | 5 => simp at hx;subst hx;exact h5
 | j + 6 => simp at hx
structure RowW (W : World) (b : Nat) (xs : List Int) : Prop where
 c : ∀ i,i < xs.length → W.cell? ⟨b,i,none⟩ = some (.int .i64 (gI xs i))
 ne : xs ≠ []
section
variable {W V : World} {b : Nat} {xs : List Int}
theorem RowW.chg {L : List Nat} (h : RowW W b xs) (hC : Chg L W V) (hb : b ∉ L) : RowW V b xs := ⟨fun i hi => Chg.cell hC (h.c i hi) hb,h.ne⟩
theorem RowW.ext (h : RowW W b xs) (hE : Ext W V) : RowW V b xs := h.chg ((Chg.refl [] W).ext hE) (by simp)
theorem RowW.put {k i : Nat} {vs : List Value} (h : RowW W b xs) (p : Put W V k i vs) (hb : b ≠ k) : RowW V b xs := h.chg p.chg (by simpa using hb)
theorem RowW.lt (h : RowW W b xs) : b < W.heap.size := cell_lt (h.c 0 (List.length_pos_iff.2 h.ne))
theorem RowW.ints {n c : Nat} (h : RowW W b xs) (hn : xs.length = n) (hc : n ≤ c) : IntsV W W.heap.size (.slice (some ⟨b,0,none⟩) n c) xs := by
 subst hn;exact ⟨_,c,rfl,fun _ => ⟨b,0,rfl,h.lt,fun i hi => by rw [Nat.zero_add,h.c i hi,gI_lt hi]⟩,hc⟩
end
theorem rowR_len (on : List Int) (d : Nat) : ∀ m,(rowR on d m).length ≤ m
 | 0 => Nat.le_refl _
 | m + 1 => by rw [rowR_snoc,List.length_append];have := rowR_len on d m;split <;> simp <;> omega
theorem altsR_le (on : List Int) (m : Nat) : ∀ n,(altsR on m n).length ≤ n * m
 | 0 => Nat.zero_le _
 | n + 1 => by rw [altsR_snoc,List.length_append,Nat.add_mul];have := altsR_le on m n;have := rowR_len on n m;omega
theorem _root_.Go.Proofs.YtnklbepeoicgpaaGreat.IntsS.cells' {w : World} {S b o l c : Nat} {xs : List Int} (h : IntsS w S (.slice (some ⟨b,o,none⟩) l c) xs) : ∀ k,k < xs.length → w.cell? ⟨b,o + k,none⟩ = some (.int .i64 (gI xs k)) := by
 intro k hk;obtain ⟨b2,o2,c2,ev,_,hcc⟩ := h.v.get (by omega : 0 < xs.length)
 injection ev with e1 _ _
 injection e1 with e1
 injection e1 with e1 e2
 subst e1 e2;exact hcc k hk
theorem _root_.Go.Proofs.YtnklbepeoicgpaaGreat.IntsB.cells' {w : World} {base b o l c : Nat} {xs : List Int} (h : IntsB w base (.slice (some ⟨b,o,none⟩) l c) xs) : ∀ k,k < xs.length → w.cell? ⟨b,o + k,none⟩ = some (.int .i64 (gI xs k)) := by
 intro k hk;obtain ⟨b2,o2,c2,ev,_,hcc⟩ := h.ints.get (by omega : 0 < xs.length)
 injection ev with e1 _ _
 injection e1 with e1
 injection e1 with e1 e2
 subst e1 e2;exact hcc k hk
theorem _root_.Go.Proofs.YtnklbepeoicgpaaGreat.IntsB.open' {w : World} {base : Nat} {v : Value} {xs : List Int} (h : IntsB w base v xs) (hn : 0 < xs.length) : ∃ b o c,v = .slice (some ⟨b,o,none⟩) xs.length c ∧ xs.length ≤ c ∧ b < w.heap.size := by
 obtain ⟨A,c,e,h1,h2⟩ := h;obtain ⟨b,o,rfl,-,h4,-⟩ := h1 (by rintro rfl;exact absurd hn (Nat.not_lt_zero _));exact ⟨b,o,c,e,h2,h4⟩
theorem roundSheet_c (t : Tr) (on : List Int) (m n L : Nat) (v ov : Value) (w : World) (hV : TourV w w.heap.size v t) (hO : IntsV w w.heap.size ov on) (hm : on.length = m) (hfm : t.fl.length = m) (hn : t.n = (n : Int)) (hL1 : 1 ≤ L) (hL2 : L ≤ 15) (hm2 : m ≤ L) (hn2 : n ≤ 60) :
  CallsV Tryz.prog 19 #[v,ov,.int .i64 (L : Int)] w fun v' w' => (∃ A1 c1 A2 c2,v' = .agg #[.slice A1 L c1,.slice A2 (altsR on m n).length c2]) ∧ SheetV w' w'.heap.size v' (shR on m n L) ∧ Ext w w' := by
 obtain ⟨A,c,A2,c2,rfl,-,-⟩ := hV.open';obtain ⟨A1,c1,rfl,-,-⟩ := id hO;have hOS : IntsS w w.heap.size (.slice A1 on.length c1) on := ⟨hO⟩;clear hO hV;rw [hm] at hOS ⊢;rw [hfm,hn];replace hm : ∃ _u : Unit,_ := ⟨(),hm⟩;clear hfm hn;refine Wp.fn Tryz.func19 rfl Tryz.ntmps19 (by simp) ?_;have xw := Ext.refl w;refine Wp.keep [0,1,2] ?_;rintro r1 ⟨aC,aI,aZ,-⟩;simp [go_sem] at aC aI aZ;refine sRg fun K' gd hK => ?_;refine cu1 fun K1 hK1 => ?_;go_simp;apply hK1;clear hK1 K1;refine Wops.absA fun c3 n3 ak => ?_;obtain ⟨q3,ak,s3,az,f3,r3⟩ := ak;try simp only [q3] at az f3 r3 ⊢
 replace hOS := hOS.ext ak;replace xw := xw.trans ak;have u := az 0 _ rfl;have D := az 2 _ rfl;clear az ak;clear r3;refine cu1 fun K1 hK1 => ?_;go_simp;apply hK1;clear hK1 K1;refine Wops.absA fun c7 n6 C => ?_;obtain ⟨q6,C,s6,aA,f6,r6⟩ := C;try simp only [q6] at aA f6 r6 ⊢
 replace hOS := hOS.ext C;replace xw := xw.trans C;replace u := C.cell u;replace D := C.cell D;have g := aA 0 _ rfl;have h := aA 1 _ rfl;clear aA C;clear r6;try simp only [Wops_nil,updO_some,updO_none]
 apply hK;clear hK K' gd;refine Wp.keep [1,2,3,6] ?_;rintro r2 ⟨aO,a5,bl,bE,-⟩;simp [go_sem,aC,aI,aZ] at aO a5 bl bE;clear aC aI aZ;refine sRg fun K' gd hK => ?_;refine cu1 fun K1 hK1 => ?_;go_simp;apply hK1;clear hK1 K1;refine Wops.absA fun al n7 p => ?_;obtain ⟨q7,p,s7,aB,f7,r7⟩ := p;try simp only [q7] at aB f7 r7 ⊢
 replace f6 := p.fz g f6;replace hOS := hOS.ext p;replace xw := xw.trans p;replace u := p.cell u;replace D := p.cell D;replace g := p.cell g;replace h := p.cell h;have a := aB 0 _ rfl;have f := aB 1 _ rfl;clear aB p;clear r7;try simp only [Wops_nil,updO_some,updO_none]
 apply hK;clear hK K' gd;refine Wp.keep [1,2,3,6,7] ?_;rintro r3 ⟨aT,ba,bq,bJ,bW,-⟩;simp [go_sem,aO,a5,bl,bE] at aT ba bq bJ bW;clear aO a5 bl bE;refine Wp.seq ?_;obtain ⟨B0,hB0,hB1,hB2⟩ : ∃ B,n7 < B ∧ B ≤ al.heap.size ∧ al.heap.size ≤ B := ⟨al.heap.size,cell_lt a,Nat.le_refl _,Nat.le_refl _⟩;refine sRg fun K' gd hK => ?_;go_simp;apply hK;clear hK K' gd;refine Wp.keep [1,2,3,6,7,8] ?_;rintro r4 ⟨an,ap,ar,av,ax,cM,-⟩;simp [go_sem,aT,ba,bq,bJ,bW] at an ap ar av ax cM;clear aT ba bq bJ bW;refine Wp.block ?_;refine Wp.loop (fun i ρ ds wi => AllEq [1,2,3,6,7] ρ r4 ∧ ds = [] ∧ (Chg [n7] al wi ∧ (∀ i,wi.frozen? ⟨n7,i,none⟩ = false)) ∧ (∃ v,ρ 8 = .int .i64 (i : Int) ∧ wi.cell? ⟨n7,0,none⟩ = some v ∧ wi.cell? ⟨n7,1,none⟩ = some (.slice none 0 0) ∧ OwnI wi B0 v (wordsR m i))) (L) ?_ ?_
 ·refine ⟨AllEq.refl _ _,rfl,⟨Chg.refl _ _,f7⟩,?_⟩;exact ⟨_,by rw [cM];rfl,a,f,World.ownsRow_nil _ _ _ _⟩
 ·rintro i r5 _ wi hi ⟨hA,rfl,⟨xl4,gf7⟩,⟨v7,e8,x,y,hO9⟩⟩;obtain ⟨J,P,U,aa,af,-⟩ := hA;rw [an] at J;rw [ap] at P;rw [ar] at U;rw [av] at aa;rw [ax] at af;have zxl4 := Chg.size xl4;replace f6 := Chg.fz xl4 g f6 XN;clear f7;replace hOS := hOS.chg xl4 XB;replace xw := Chg.to xw xl4 XL;replace u := Chg.cell xl4 u XN;replace D := Chg.cell xl4 D XN;replace g := Chg.cell xl4 g XN;replace h := Chg.cell xl4 h XN;clear a;clear f;have f7 := gf7;clear gf7;have a := x;clear x;have f := y;clear y;obtain ⟨A5,c5,rfl⟩ := OwnI.slice hO9;have hwl := wordsR_len m i
  by_cases hiL : i < L
  ·skip;have hil : (i : Int) < (L : Int) := by omega
   refine Wp.seq ?_;refine sRg fun K' gd hK => ?_;go_simp;apply hK;clear hK K' gd;refine Wp.keep [1,2,3,6,7,8,13] ?_;rintro r6 ⟨K,Q,V,ab,ag,ah,F,-⟩;simp [go_sem,J,P,U,aa,af,e8] at K Q V ab ag ah F;clear J P U aa af e8;refine cTt ?_
   by_cases him : i < m
   ·skip;have him2 : (i : Int) < (m : Int) := by omega
    have hwr : IntKind.i64.wrap (1001 + (i : Int)) = 1001 + (i : Int) := IntWalk.i64_in _ (by omega);have hwd : wordR m i = 1001 + (i : Int) := if_pos him;refine skN ?_;refine sBk ?_;refine sRg fun K' gd hK => ?_;go_simp;apply hK;clear hK K' gd;refine Wp.keep [1,2,3,6,7,8,20] ?_;rintro r7 ⟨aV,bc,bs,bL,bY,b3,aY,-⟩;simp [go_sem,K,Q,V,ab,ag,ah,F] at aV bc bs bL bY b3 aY;clear K Q V ab ag ah F;refine cTt ?_;refine lRg fun K' gd hK => ?_;refine cu5 fun K1 hK1 => ?_;go_simp;apply hK1;clear hK1 K1;refine Wops.absA fun cZ n25 r => ?_;obtain ⟨q25,r,s25,cb,f25,r25⟩ := r;try simp only [q25] at cb f25 r25 ⊢
    replace f7 := r.fz a f7;replace hO9 := hO9.ext r;replace xw := xw.trans r;replace xl4 := Chg.ext xl4 r;replace a := r.cell a;replace f := r.cell f;clear r f25;have cR := cb 0 _ rfl;clear cb;refine cu1 fun K1 hK1 => ?_;obtain ⟨v',w7,hrun,hO2,hgr,-⟩ := app_run ints_T hO9 ⟨n25,0,none⟩ 1 1 [.int .i64 (1001 + (i : Int))] 22 rfl (news_one cR) (one_one rfl) (by omega) (by omega);refine Wops.law rfl (exec_append2 rfl hrun (by go_simp) (by go_simp)) ?_;simp only [updO_some,Wops_nil];apply hK1;clear hK1 K1;replace f7 := Chg.fz (grown_chg hgr) a f7 (lt_off (World.ownsRow.lt hO9) (by omega));replace xw := Chg.to xw (grown_chg hgr) (lt_ge (World.ownsRow.lt hO9) (by omega));replace xl4 := Chg.more xl4 (grown_chg hgr) (by first | exact lt_gm (World.ownsRow.lt hO9) (by omega) | simp);replace a := Chg.cell (grown_chg hgr) a (lt_off (World.ownsRow.lt hO9) (by omega));replace f := Chg.cell (grown_chg hgr) f (lt_off (World.ownsRow.lt hO9) (by omega));have hO3 : OwnI w7 B0 v' (wordsR m i ++ [wordR m i]) := by unfold OwnI;rw [hwd,encI_add,List.length_append];exact hO2
    clear hO2;obtain ⟨A6,c6,rfl⟩ := OwnI.slice hO3;refine cu2 fun K1 hK1 => ?_;go_simp;apply hK1;clear hK1 K1;refine Wops.absS (b := n7) (i := 0) [_] (somes [cellVal a] (by simp) (by intro j v hj;match j,hj with | 0,hj => (simp at hj;subst hj;exact a))) fun P6 hP6 => ?_;replace f7 := hP6.frz f7;replace hO3 := hO3.put hP6 (by omega);replace xw := Put.to xw hP6 (by omega);replace xl4 := Put.more xl4 hP6 (.inr (by simp));clear a;replace f := Put.cellOff hP6 f (by simp);have a := hP6.new 0 _ rfl;try simp only [Nat.reduceAdd,Nat.zero_add,Nat.add_zero] at a
    clear hP6;try simp only [Wops_nil,updO_some,updO_none]
    apply hK;clear hK K' gd;refine Ends.keep [1,2,3,6,7,8] ?_;rintro r9 ⟨aW,bd,bt,bM,bZ,b4,-⟩;simp [go_sem,aV,bc,bs,bL,bY,b3,aY] at aW bd bt bM bZ b4;clear aV bc bs bL bY b3 aY;refine Ends.mk ?_;refine bNo ?_;refine tNo ?_;refine lRg fun K' gd hK => ?_;go_simp;apply hK;clear hK K' gd;refine Ends.keep [1,2,3,6,7,8] ?_;rintro r10 ⟨ch,cm,cr,cx,cF,cK,-⟩;simp [go_sem,aW,bd,bt,bM,bZ,b4] at ch cm cr cx cF cK;clear aW bd bt bM bZ b4;refine Ends.mk ?_;refine thenK_normal ⟨by omega,⟨by rw [ch,an],by rw [cm,ap],by rw [cr,ar],by rw [cx,av],by rw [cF,ax],trivial⟩,rfl,⟨xl4,f7⟩,?_⟩;exact ⟨_,by rw [cK,IntWalk.i64_in _ (by omega)];rfl,a,f,by rw [wordsR_snoc];simpa only [List.length_append,List.length_singleton,hwl] using hO3⟩
   ·skip;have him2 : ¬ (i : Int) < (m : Int) := by omega
    have hwr : IntKind.i64.wrap (1 + (i : Int)) = 1 + (i : Int) := IntWalk.i64_in _ (by omega);have hwd : wordR m i = 1 + (i : Int) := if_neg him;refine skN ?_;refine sBk ?_;refine sRg fun K' gd hK => ?_;go_simp;apply hK;clear hK K' gd;refine Wp.keep [1,2,3,6,7,8,20] ?_;rintro r11 ⟨aJ,a0,bg,bz,bN,b0,aX,-⟩;simp [go_sem,K,Q,V,ab,ag,ah,F] at aJ a0 bg bz bN b0 aX;clear K Q V ab ag ah F;refine cFf ?_;refine lRg fun K' gd hK => ?_;refine cu5 fun K1 hK1 => ?_;go_simp;apply hK1;clear hK1 K1;refine Wops.absA fun c0 n32 s => ?_;obtain ⟨q32,s,s32,cd,f32,r32⟩ := s;try simp only [q32] at cd f32 r32 ⊢
    replace f7 := s.fz a f7;replace hO9 := hO9.ext s;replace xw := xw.trans s;replace xl4 := Chg.ext xl4 s;replace a := s.cell a;replace f := s.cell f;clear s f32;have cS := cd 0 _ rfl;clear cd;refine cu1 fun K1 hK1 => ?_;obtain ⟨v',w7,hrun,hO2,hgr,-⟩ := app_run ints_T hO9 ⟨n32,0,none⟩ 1 1 [.int .i64 (1 + (i : Int))] 22 rfl (news_one cS) (one_one rfl) (by omega) (by omega);refine Wops.law rfl (exec_append2 rfl hrun (by go_simp) (by go_simp)) ?_;simp only [updO_some,Wops_nil];apply hK1;clear hK1 K1;replace f7 := Chg.fz (grown_chg hgr) a f7 (lt_off (World.ownsRow.lt hO9) (by omega));replace xw := Chg.to xw (grown_chg hgr) (lt_ge (World.ownsRow.lt hO9) (by omega));replace xl4 := Chg.more xl4 (grown_chg hgr) (by first | exact lt_gm (World.ownsRow.lt hO9) (by omega) | simp);replace a := Chg.cell (grown_chg hgr) a (lt_off (World.ownsRow.lt hO9) (by omega));replace f := Chg.cell (grown_chg hgr) f (lt_off (World.ownsRow.lt hO9) (by omega));have hO3 : OwnI w7 B0 v' (wordsR m i ++ [wordR m i]) := by unfold OwnI;rw [hwd,encI_add,List.length_append];exact hO2
    clear hO2;obtain ⟨A6,c6,rfl⟩ := OwnI.slice hO3;refine cu2 fun K1 hK1 => ?_;go_simp;apply hK1;clear hK1 K1;refine Wops.absS (b := n7) (i := 0) [_] (somes [cellVal a] (by simp) (by intro j v hj;match j,hj with | 0,hj => (simp at hj;subst hj;exact a))) fun P8 hP8 => ?_;replace f7 := hP8.frz f7;replace hO3 := hO3.put hP8 (by omega);replace xw := Put.to xw hP8 (by omega);replace xl4 := Put.more xl4 hP8 (.inr (by simp));clear a;replace f := Put.cellOff hP8 f (by simp);have a := hP8.new 0 _ rfl;try simp only [Nat.reduceAdd,Nat.zero_add,Nat.add_zero] at a
    clear hP8;try simp only [Wops_nil,updO_some,updO_none]
    apply hK;clear hK K' gd;refine Ends.keep [1,2,3,6,7,8] ?_;rintro r13 ⟨aK,a1,bh,bA,bO,b1,-⟩;simp [go_sem,aJ,a0,bg,bz,bN,b0,aX] at aK a1 bh bA bO b1;clear aJ a0 bg bz bN b0 aX;refine Ends.mk ?_;refine bNo ?_;refine tNo ?_;refine lRg fun K' gd hK => ?_;go_simp;apply hK;clear hK K' gd;refine Ends.keep [1,2,3,6,7,8] ?_;rintro r14 ⟨ci,cn,cs,cA,cG,cL,-⟩;simp [go_sem,aK,a1,bh,bA,bO,b1] at ci cn cs cA cG cL;clear aK a1 bh bA bO b1;refine Ends.mk ?_;refine thenK_normal ⟨by omega,⟨by rw [ci,an],by rw [cn,ap],by rw [cs,ar],by rw [cA,av],by rw [cG,ax],trivial⟩,rfl,⟨xl4,f7⟩,?_⟩;exact ⟨_,by rw [cL,IntWalk.i64_in _ (by omega)];rfl,a,f,by rw [wordsR_snoc];simpa only [List.length_append,List.length_singleton,hwl] using hO3⟩
  ·skip;have hil : ¬ (i : Int) < (L : Int) := by omega
   have hiL2 : ∃ _u : Unit,i = L := ⟨(),by omega⟩;rw [hiL2.choose_spec] at hO9 a hwl;obtain ⟨bw,cw,hvw,hbw,hcw,hJ⟩ := OwnI.rowJ hO9 (fun e => by rw [e] at hwl;simp at hwl;omega);obtain ⟨rfl,rfl⟩ := slice_inj hvw;rw [hwl] at a hcw;have hRW : RowW wi bw (wordsR m L) := ⟨hJ.c,hJ.ne⟩;refine Wp.seq ?_;refine sRg fun K' gd hK => ?_;go_simp;apply hK;clear hK K' gd;refine Wp.keep [1,2,3,6,7,8,13] ?_;rintro r15 ⟨aL,a2,bi,bB,bP,b2,aH,-⟩;simp [go_sem,J,P,U,aa,af,e8] at aL a2 bi bB bP b2 aH;clear J P U aa af e8;refine cFf ?_;refine Wp.exit ?_;refine tEx ?_;refine tEx ?_;refine blockK_here ?_;refine tNo ?_;refine Wp.seq ?_;obtain ⟨B1,hB3,hB4,hB5⟩ : ∃ B,bw < B ∧ B ≤ wi.heap.size ∧ wi.heap.size ≤ B := ⟨wi.heap.size,hRW.lt,Nat.le_refl _,Nat.le_refl _⟩;have hOS_xa := hOS;have xw_xa := xw;have xl4_xa := xl4;have xa := Ext.refl wi;refine sRg fun K' gd hK => ?_;go_simp;apply hK;clear hK K' gd;refine Wp.keep [1,2,3,6,7,9] ?_;rintro r16 ⟨aM,a3,bj,bC,bQ,cN,-⟩;simp [go_sem,aL,a2,bi,bB,bP,b2,aH] at aM a3 bj bC bQ cN;clear aL a2 bi bB bP b2 aH;refine Wp.block ?_;refine Wp.loop (fun d ρ ds wd => AllEq [1,2,3,6,7] ρ r16 ∧ ds = [] ∧ (Chg [n7] wi wd ∧ (∀ i,wd.frozen? ⟨n7,i,none⟩ = false)) ∧ (∃ v,ρ 9 = .int .i64 (d : Int) ∧ wd.cell? ⟨n7,0,none⟩ = some (.slice (some ⟨bw,0,none⟩) L c5) ∧ wd.cell? ⟨n7,1,none⟩ = some v ∧ OwnA wd B1 v (altsR on m d))) (n) ?_ ?_
   ·refine ⟨AllEq.refl _ _,rfl,⟨Chg.refl _ _,f7⟩,?_⟩;exact ⟨_,by rw [cN];rfl,a,f,World.ownsRow_nil _ _ _ _⟩
   ·rintro d r17 _ wd hd ⟨hA,rfl,⟨xo,gf7⟩,⟨v8,e9,x,y,hAl⟩⟩;obtain ⟨G,M,R,X,ac,-⟩ := hA;rw [aM] at G;rw [a3] at M;rw [bj] at R;rw [bC] at X;rw [bQ] at ac;replace f6 := Chg.fz xo g f6 XN;clear f7;replace hOS := hOS.chg xo XB;replace hRW := hRW.chg xo XB;replace xw := Chg.to xw xo XL;replace xl4 := Chg.more xl4 xo (by intro b hm;simp only [List.mem_cons,List.not_mem_nil,or_false] at hm;first | (left;omega) | (right;simp [hm];done) | (rcases hm with hm | hm <;> first | (left;omega) | (right;simp [hm])));clear xa;replace u := Chg.cell xo u XN;replace g := Chg.cell xo g XN;replace h := Chg.cell xo h XN;clear a;clear f;have f7 := gf7;clear gf7;have a := x;clear x;have f := y;clear y;obtain ⟨A7,cz,rfl⟩ := OwnA.slice hAl
    by_cases hdn : d < n
    ·skip;have hdl : (d : Int) < (n : Int) := by omega
     have hwd9 : IntKind.i64.wrap ((d : Int) + 1) = (d : Int) + 1 := IntWalk.i64_in _ (by omega);refine Wp.seq ?_;refine sRg fun K' gd hK => ?_;go_simp;apply hK;clear hK K' gd;refine Wp.keep [1,2,3,6,7,9,38] ?_;rintro r18 ⟨aN,a4,bk,bD,bR,b5,be,-⟩;simp [go_sem,G,M,R,X,ac,e9] at aN a4 bk bD bR b5 be;clear G M R X ac e9;refine cTt ?_;refine skN ?_;refine sBk ?_;refine sRg fun K' gd hK => ?_;go_simp;apply hK;clear hK K' gd;refine Wp.keep [1,2,3,6,7,9,10] ?_;rintro r19 ⟨am,ao,aq,au,aw,ay,ce,-⟩;simp [go_sem,aN,a4,bk,bD,bR,b5,be] at am ao aq au aw ay ce;clear aN a4 bk bD bR b5 be;refine Wp.block ?_;refine Wp.loop (fun k ρ ds wk => AllEq [1,2,3,6,7,9] ρ r19 ∧ ds = [] ∧ (Chg [n7] wi wk ∧ (∀ i,wk.frozen? ⟨n7,i,none⟩ = false)) ∧ (∃ v,ρ 10 = .int .i64 (k : Int) ∧ wk.cell? ⟨n7,0,none⟩ = some (.slice (some ⟨bw,0,none⟩) L c5) ∧ wk.cell? ⟨n7,1,none⟩ = some v ∧ OwnA wk B1 v (altsR on m d ++ rowR on d k))) (m) ?_ ?_
     ·refine ⟨AllEq.refl _ _,rfl,⟨xo,f7⟩,?_⟩;exact ⟨_,by rw [ce];rfl,a,f,by simpa [rowR] using hAl⟩
     ·rintro k r20 _ wk hk ⟨hA,rfl,⟨xo,gf7⟩,⟨v9,e10,x,y,hA2⟩⟩;obtain ⟨H,N,S,Y,ad,ai,-⟩ := hA;rw [am] at H;rw [ao] at N;rw [aq] at S;rw [au] at Y;rw [aw] at ad;rw [ay] at ai;have zxo := Chg.size xo;have hOS := hOS_xa;have xw := xw_xa;have xl4 := xl4_xa;clear f7;replace hOS := hOS.chg xo XB;replace xw := Chg.to xw xo XL;replace xl4 := Chg.more xl4 xo (by intro b hm;simp only [List.mem_cons,List.not_mem_nil,or_false] at hm;first | (left;omega) | (right;simp [hm];done) | (rcases hm with hm | hm <;> first | (left;omega) | (right;simp [hm])));clear a;clear f;have f7 := gf7;clear gf7;have a := x;clear x;have f := y;clear y;obtain ⟨A8,cy,rfl⟩ := OwnA.slice hA2;obtain ⟨AL,hAL⟩ : ∃ AL,∃ _u : Unit,altsR on m d ++ rowR on d k = AL ∧ AL.length = (altsR on m d).length + (rowR on d k).length := ⟨_,(),rfl,List.length_append⟩;rw [hAL.choose_spec.1] at hA2 f
      by_cases hkm : k < m
      ·skip;have hkm2 : (k : Int) < (m : Int) := by omega
       have hkL : (k : Int) < (L : Int) := by omega
       obtain ⟨b,o,cc,ev,hb,hcc⟩ := hOS.v.get (show k < on.length by rw [hm.choose_spec];exact hkm)
       injection ev with ev1 ev0 ev2
       clear ev0;subst ev1;subst ev2;have d1 := hcc k (by rw [hm.choose_spec];exact hkm);clear hcc;have hwk1 : IntKind.i64.wrap (1 + (k : Int)) = 1 + (k : Int) := IntWalk.i64_in _ (by omega);have hal1 := altsR_le on m d;have hal2 := rowR_len on d k;have hal3 : d * m ≤ 60 * 15 := Nat.mul_le_mul (by omega) (by omega);refine Wp.seq ?_;refine sRh fun K' gd hK hg => ?_;have g4 : gd 4 = some 45 := hg 4;clear hg;go_simp;apply hK;clear hK K' gd g4;refine Wp.keep [1,2,3,6,7,9,10,49] ?_;rintro r21 ⟨I,O,T,Z,ae,aj,E,W,-⟩;simp [go_sem,H,N,S,Y,ad,ai,e10] at I O T Z ae aj E W;clear H N S Y ad ai e10;refine cTt ?_
       by_cases ht : gI on k = (d : Int)
       ·skip;refine skN ?_;refine sBk ?_;refine sRg fun K' gd hK => ?_;go_simp;apply hK;clear hK K' gd;refine Wp.keep [1,2,3,6,7,9,10,57] ?_;rintro r22 ⟨aP,a6,bm,bF,bS,b6,aD,bv,-⟩;simp [go_sem,I,O,T,Z,ae,aj,E,W] at aP a6 bm bF bS b6 aD bv;clear I O T Z ae aj E W;refine cTt ?_;refine lRg fun K' gd hK => ?_;refine cu12 fun K1 hK1 => ?_;go_simp;apply hK1;clear hK1 K1;refine Wops.absA fun c4 n69 l => ?_;obtain ⟨q69,l,s69,z,f69,r69⟩ := l;try simp only [q69] at z f69 r69 ⊢
        replace f7 := l.fz a f7;replace hA2 := hA2.ext l;replace xw := xw.trans l;replace xl4 := Chg.ext xl4 l;replace xo := Chg.ext xo l;replace a := l.cell a;replace f := l.cell f;clear l f69;have cT := z 0 _ rfl;have cU := z 1 _ rfl;have cV := z 2 _ rfl;have cW := z 3 _ rfl;have cX := z 4 _ rfl;have cY := z 5 _ rfl;clear z;refine cu1 fun K1 hK1 => ?_;obtain ⟨v',w7,hrun,hA3,hgr,-⟩ := app_run alts_T hA2 ⟨n69,0,none⟩ 1 1 (encA (altR k d)) 35 rfl (news_six cT cU cV cW cX cY) encA_one (by rw [hAL.choose_spec.2];omega) (by omega);refine Wops.law rfl (exec_append2 rfl hrun (by go_simp) (by go_simp)) ?_;simp only [updO_some,Wops_nil];apply hK1;clear hK1 K1;replace f7 := Chg.fz (grown_chg hgr) a f7 (lt_off (World.ownsRow.lt hA2) (by omega));replace xw := Chg.to xw (grown_chg hgr) (lt_ge (World.ownsRow.lt hA2) (by omega));replace xl4 := Chg.more xl4 (grown_chg hgr) (by first | exact lt_gm (World.ownsRow.lt hA2) (by omega) | simp);replace xo := Chg.more xo (grown_chg hgr) (by first | exact lt_gm (World.ownsRow.lt hA2) (by omega) | simp);replace a := Chg.cell (grown_chg hgr) a (lt_off (World.ownsRow.lt hA2) (by omega));replace f := Chg.cell (grown_chg hgr) f (lt_off (World.ownsRow.lt hA2) (by omega))
        obtain ⟨A10,c10,rfl⟩ := ownsRow_slice hA3;refine cu2 fun K1 hK1 => ?_;go_simp;apply hK1;clear hK1 K1;refine Wops.absS (b := n7) (i := 1) [_] (somes [cellVal f] (by simp) (by intro j v hj;match j,hj with | 0,hj => (simp at hj;subst hj;exact f))) fun P13 hP13 => ?_;replace f7 := hP13.frz f7;replace hA3 := hA3.put hP13 (by omega);replace xw := Put.to xw hP13 (by omega);replace xl4 := Put.more xl4 hP13 (.inr (by simp));replace xo := Put.more xo hP13 (.inr (by simp));replace a := Put.cellOff hP13 a (by simp);clear f;have f := hP13.new 0 _ rfl;try simp only [Nat.reduceAdd,Nat.zero_add,Nat.add_zero] at f
        clear hP13;try simp only [Wops_nil,updO_some,updO_none]
        apply hK;clear hK K' gd;refine Ends.keep [1,2,3,6,7,9,10] ?_;rintro r24 ⟨aQ,a7,bn,bG,bT,b7,aE,-⟩;simp [go_sem,aP,a6,bm,bF,bS,b6,aD,bv] at aQ a7 bn bG bT b7 aE;clear aP a6 bm bF bS b6 aD bv;refine Ends.mk ?_;refine bNo ?_;refine tNo ?_;refine lRg fun K' gd hK => ?_;go_simp;apply hK;clear hK K' gd;refine Ends.keep [1,2,3,6,7,9,10] ?_;rintro r25 ⟨cj,co,ct,cB,cH,cO,cf,-⟩;simp [go_sem,aQ,a7,bn,bG,bT,b7,aE] at cj co ct cB cH cO cf;clear aQ a7 bn bG bT b7 aE;refine Ends.mk ?_;refine thenK_normal ⟨by omega,⟨by rw [cj,am],by rw [co,ao],by rw [ct,aq],by rw [cB,au],by rw [cH,aw],by rw [cO,ay],trivial⟩,rfl,⟨xo,f7⟩,?_⟩;exact ⟨_,by rw [cf,IntWalk.i64_in _ (by omega)];rfl,a,f,by rw [rowR_snoc,if_pos ht,← List.append_assoc,hAL.choose_spec.1];unfold OwnA;rw [encAs_add,List.length_append];exact hA3⟩
       ·skip;refine skN ?_;refine sBk ?_;refine sRg fun K' gd hK => ?_;go_simp;apply hK;clear hK K' gd;refine Wp.keep [1,2,3,6,7,9,10,57] ?_;rintro r26 ⟨aR,a8,bo,bH,bU,b8,aF,bx,-⟩;simp [go_sem,I,O,T,Z,ae,aj,E,W] at aR a8 bo bH bU b8 aF bx;clear I O T Z ae aj E W;refine cFf ?_;refine Wp.skip ?_;refine bNo ?_;refine tNo ?_;refine lRg fun K' gd hK => ?_;go_simp;apply hK;clear hK K' gd;refine Ends.keep [1,2,3,6,7,9,10] ?_;rintro r27 ⟨ck,cp,cu,cC,cI,cP,cg,-⟩;simp [go_sem,aR,a8,bo,bH,bU,b8,aF,bx] at ck cp cu cC cI cP cg;clear aR a8 bo bH bU b8 aF bx;refine Ends.mk ?_;refine thenK_normal ⟨by omega,⟨by rw [ck,am],by rw [cp,ao],by rw [cu,aq],by rw [cC,au],by rw [cI,aw],by rw [cP,ay],trivial⟩,rfl,⟨xo,f7⟩,?_⟩;exact ⟨_,by rw [cg,IntWalk.i64_in _ (by omega)];rfl,a,f,by rw [rowR_snoc,if_neg ht,List.append_nil,hAL.choose_spec.1];exact hA2⟩
      ·skip;have hkm2 : ¬ (k : Int) < (m : Int) := by omega
       have hkk : ∃ _u : Unit,k = m := ⟨(),by omega⟩;refine Wp.seq ?_;refine sRh fun K' gd hK hg => ?_;have g4 : gd 4 = some 45 := hg 4;clear hg;go_simp;apply hK;clear hK K' gd g4;refine Wp.keep [1,2,3,6,7,9,10,49] ?_;rintro r28 ⟨aS,a9,bp,bI,bV,b9,aG,bu,-⟩;simp [go_sem,H,N,S,Y,ad,ai,e10] at aS a9 bp bI bV b9 aG bu;clear H N S Y ad ai e10;refine cFf ?_;refine Wp.exit ?_;refine tEx ?_;refine tEx ?_;refine blockK_here ?_;refine bNo ?_;refine tNo ?_;refine lRg fun K' gd hK => ?_;go_simp;apply hK;clear hK K' gd;refine Ends.keep [1,2,3,6,7,9] ?_;rintro r29 ⟨cl,cq,cv,cD,cJ,cQ,-⟩;simp [go_sem,aS,a9,bp,bI,bV,b9,aG,bu] at cl cq cv cD cJ cQ;clear aS a9 bp bI bV b9 aG bu;refine Ends.mk ?_;refine thenK_normal ⟨by omega,⟨by rw [cl,aM],by rw [cq,a3],by rw [cv,bj],by rw [cD,bC],by rw [cJ,bQ],trivial⟩,rfl,⟨xo,f7⟩,?_⟩;exact ⟨_,by rw [cQ];rfl,a,f,by have q := hAL.choose_spec.1;rw [hkk.choose_spec] at q;rw [altsR_snoc,q];exact hA2⟩
    ·skip;have hdl : ¬ (d : Int) < (n : Int) := by omega
     have hdd : ∃ _u : Unit,d = n := ⟨(),by omega⟩;rw [hdd.choose_spec] at hAl f;refine Wp.seq ?_;refine sRg fun K' gd hK => ?_;go_simp;apply hK;clear hK K' gd;refine Wp.keep [1,2,3,6,7,9,38] ?_;rintro r30 ⟨aU,bb,br,bK,bX,ca,bf,-⟩;simp [go_sem,G,M,R,X,ac,e9] at aU bb br bK bX ca bf;clear G M R X ac e9;refine cFf ?_;refine Wp.exit ?_;refine tEx ?_;refine tEx ?_;refine blockK_here ?_;refine tNo ?_;refine sRg fun K' gd hK => ?_;refine cu2 fun K1 hK1 => ?_;go_simp;apply hK1;clear hK1 K1;refine Wops.absS (b := n6) (i := 0) [_,_] (somes [cellVal g,cellVal h] (by simp) (by intro j v hj;match j,hj with | 0,hj => (simp at hj;subst hj;exact g) | 1,hj => (simp at hj;subst hj;exact h))) fun P14 hP14 => ?_;replace hRW := hRW.put hP14 (by omega);replace hAl := hAl.put hP14 (by omega);replace xw := Put.to xw hP14 (by omega);clear xl4;clear xo;clear g;clear h;have g := hP14.new 0 _ rfl;try simp only [Nat.reduceAdd,Nat.zero_add,Nat.add_zero] at g
     have h := hP14.new 1 _ rfl;try simp only [Nat.reduceAdd,Nat.zero_add,Nat.add_zero] at h
     clear hP14;try simp only [Wops_nil,updO_some,updO_none]
     apply hK;clear hK K' gd;refine Wp.keep [6] ?_;rintro r31 ⟨cE,-⟩;simp [go_sem,aU,bb,br,bK,bX,ca,bf] at cE;clear aU bb br bK bX ca bf;refine Wp.ret ?_;refine endK_cell (v := .agg #[cellVal g,cellVal h]) Tryz.results19 (by decide) cE (by dsimp only [cellVal];go_simp) ?_
     dsimp only [cellVal]
     refine ⟨⟨_,_,_,_,rfl⟩,⟨_,_,rfl,?_,?_⟩,xw⟩;exact hRW.ints (wordsR_len m L) hcw;exact OwnA.altsV (base := B1) hAl
end Go.Proofs.YtnklbepeoicgpaaGreat.St
namespace Go.Proofs.YtnklbepeoicgpaaGreat.St
open Go.RowKit Go.Wk Go.Proofs
attribute [local irreducible] Go.Wk.Wops Go.Wk.Wp Go.Wk.Mtree Go.Wk.Mops
set_option maxHeartbeats 8000000
set_option maxRecDepth 20000
def wordsC (on : List Int) (m : Nat) (x : Int) (i : Nat) : List Int := (List.range i).map (wordA on m x)
theorem wordsC_snoc (on : List Int) (m : Nat) (x : Int) (i : Nat) : wordsC on m x (i + 1) = wordsC on m x i ++ [wordA on m x i] := by
 unfold wordsC;rw [List.range_succ,List.map_append];rfl
theorem wordsC_len (on : List Int) (m : Nat) (x : Int) (i : Nat) : (wordsC on m x i).length = i := by simp [wordsC]
theorem OnsR.fit {on : List Int} {m n L : Nat} (h : OnsR on m n L) : FitS (shR on m n L) := ⟨by show (wordsR m L).length ≤ _;rw [wordsR_len];have := h.L15;omega,by have := altsR_len h.inj n;have := h.m10;show (altsR on m n).length ≤ _;omega⟩
theorem OnsR.fitC {on : List Int} {m n L : Nat} (h : OnsR on m n L) (x b e : Int) : FitC (copyR on m L x b e) := by show ((List.range L).map _).length ≤ _;rw [List.length_map,List.length_range];have := h.L15;omega
theorem OnsR.read {on : List Int} {m n L : Nat} (h : OnsR on m n L) {i : Nat} (hi : i < L) {x : Int} (h0 : 0 ≤ x) (h7 : x ≤ 730) : readE (shR on m n L) (i : Int) x = 0 ∧ readsL ((shR on m n L).on ((i : Int)).toNat x) = [wordA on m x i] := by
 have hl : lineS (shR on m n L) (i : Int) = 0 := lineS_zero.2 ⟨h.check,by omega,by rw [shR_n];omega⟩;refine ⟨by unfold readE;rw [if_pos hl,if_pos ⟨h0,h7⟩],?_⟩;rw [Int.toNat_natCast,shR_on h hi];unfold readsL;rw [if_pos (wordA_ne x i),if_neg (fun q => q.1 rfl)];rfl
theorem roundCopy_c (on : List Int) (m n L : Nat) (x : Int) (v : Value) (w : World) (h : OnsR on m n L) (h0 : 0 ≤ x) (h7 : x ≤ 730) (hV : SheetV w w.heap.size v (shR on m n L)) :
  CallsV Tryz.prog 21 #[v,.int .i64 x] w fun v' w' => (∃ A1 c1,v' = .tuple #[.agg #[.slice A1 L c1,.int .i64 x,.int .i64 x,.int .i64 40],.bool true] ∧ CopyV w' w'.heap.size (.agg #[.slice A1 L c1,.int .i64 x,.int .i64 x,.int .i64 40]) (copyR on m L x x x)) ∧ Ext w w' := by
 obtain ⟨wv,av,rfl,⟨A,c1,rfl,-,-⟩,⟨A3,c3,rfl,-,-⟩⟩ := id hV;have hwl : ∃ _u : Unit,(shR on m n L).words.length = L := ⟨(),wordsR_len m L⟩;rw [hwl.choose_spec] at hV ⊢;have hL15 := h.L15;refine Wp.fn Tryz.func21 rfl Tryz.ntmps21 (by simp) ?_;have xw := Ext.refl w;refine Wp.keep [0,1] ?_;rintro r1 ⟨J,N,-⟩;simp [go_sem] at J N;refine sRg fun K' gd hK => ?_;refine cu1 fun K1 hK1 => ?_;go_simp;apply hK1;clear hK1 K1;refine Wops.absA fun aT n2 H => ?_;obtain ⟨q2,H,s2,I,f2,r2⟩ := H;try simp only [q2] at I f2 r2 ⊢
 replace xw := xw.trans H;have s := I 0 _ rfl;have t := I 1 _ rfl;clear I H;clear r2;refine cu1 fun K1 hK1 => ?_;go_simp;apply hK1;clear hK1 K1;refine Wops.absA fun aV n4 u => ?_;obtain ⟨q4,u,s4,y,f4,r4⟩ := u;try simp only [q4] at y f4 r4 ⊢
 replace xw := xw.trans u;replace s := u.cell s;replace t := u.cell t;have g := y 0 _ rfl;have o := y 1 _ rfl;have p := y 2 _ rfl;have r := y 3 _ rfl;clear y u;clear r4;go_simp;apply hK;clear hK K' gd;refine Wp.keep [1,2,4] ?_;rintro r2 ⟨Q,Y,ah,-⟩;simp [go_sem,J,N] at Q Y ah;clear J N;refine sRg fun K' gd hK => ?_;refine cu5 fun K1 hK1 => ?_;go_simp;apply hK1;clear hK1 K1;refine Wops.absA fun G n6 l => ?_;obtain ⟨q6,l,s6,z,f6,r6⟩ := l;try simp only [q6] at z f6 r6 ⊢
 replace f4 := l.fz g f4;replace xw := xw.trans l;replace s := l.cell s;replace t := l.cell t;replace g := l.cell g;replace o := l.cell o;replace p := l.cell p;replace r := l.cell r;have a := z 0 _ rfl;have d := z 1 _ rfl;have e := z 2 _ rfl;have f := z 3 _ rfl;clear z l;clear r6;try simp only [Wops_nil,updO_some,updO_none]
 apply hK;clear hK K' gd;refine Wp.keep [1,2,4,6] ?_;rintro r3 ⟨R,Z,ai,ap,-⟩;simp [go_sem,Q,Y,ah] at R Z ai ap;clear Q Y ah;refine Wp.seq ?_;obtain ⟨B0,hB0,hB1,hB2⟩ : ∃ B,n6 < B ∧ B ≤ G.heap.size ∧ G.heap.size ≤ B := ⟨G.heap.size,cell_lt a,Nat.le_refl _,Nat.le_refl _⟩;refine sRg fun K' gd hK => ?_;go_simp;apply hK;clear hK K' gd;refine Wp.keep [1,2,4,6,7] ?_;rintro r4 ⟨S,aa,aj,aq,aN,-⟩;simp [go_sem,R,Z,ai,ap] at S aa aj aq aN;clear R Z ai ap;refine Wp.block ?_;refine Wp.loop (fun i ρ ds wi => AllEq [1,2,4,6] ρ r4 ∧ ds = [] ∧ (Chg [n6] G wi ∧ (∀ i,wi.frozen? ⟨n6,i,none⟩ = false)) ∧ (∃ v,ρ 7 = .int .i64 (i : Int) ∧ wi.cell? ⟨n6,0,none⟩ = some v ∧ wi.cell? ⟨n6,1,none⟩ = some (.int .i64 x) ∧ wi.cell? ⟨n6,2,none⟩ = some (.int .i64 x) ∧ wi.cell? ⟨n6,3,none⟩ = some (.int .i64 40) ∧ OwnI wi B0 v (wordsC on m x i))) (L) ?_ ?_
 ·refine ⟨AllEq.refl _ _,rfl,⟨Chg.refl _ _,f6⟩,?_⟩;exact ⟨_,by rw [aN];rfl,a,d,e,f,World.ownsRow_nil _ _ _ _⟩
 ·rintro i r5 _ wi hi ⟨hA,rfl,⟨xl4,gf6⟩,⟨v6,e7,aO,aP,aQ,aR,hO9⟩⟩;obtain ⟨C,D,E,F,-⟩ := hA;rw [S] at C;rw [aa] at D;rw [aj] at E;rw [aq] at F;have zxl4 := Chg.size xl4;replace f4 := Chg.fz xl4 g f4 XN;clear f6;replace xw := Chg.to xw xl4 XL;replace s := Chg.cell xl4 s XN;replace t := Chg.cell xl4 t XN;replace g := Chg.cell xl4 g XN;replace o := Chg.cell xl4 o XN;replace p := Chg.cell xl4 p XN;replace r := Chg.cell xl4 r XN;clear a;clear d;clear e;clear f;have f6 := gf6;clear gf6;have a := aO;clear aO;have d := aP;clear aP;have e := aQ;clear aQ;have f := aR;clear aR;obtain ⟨A5,c5,rfl⟩ := OwnI.slice hO9;have hcl := wordsC_len on m x i
  by_cases hiL : i < L
  ·skip;have hil : (i : Int) < (L : Int) := by omega
   obtain ⟨hr1,hr2⟩ := h.read hiL h0 h7;refine Wp.seq ?_;refine sRg fun K' gd hK => ?_;go_simp;apply hK;clear hK K' gd;refine Wp.keep [1,2,4,6,7,17] ?_;rintro r6 ⟨T,ab,ak,ar,az,M,-⟩;simp [go_sem,C,D,E,F,e7] at T ab ak ar az M;clear C D E F e7;refine cTt ?_;refine skN ?_;refine sBk ?_;refine sRg fun K' gd hK => ?_;refine cu4 fun K1 hK1 => ?_;go_simp;refine Wcall (.inl rfl) (Reads_c _ (shR on m n L) (i : Int) x _ (hV.ext xw) h.fit) ?_;rintro v w3 ⟨tv,hv,hT,hE⟩;rw [hr1] at hv hT;rw [if_pos rfl,hr2] at hT;subst hv;obtain ⟨b8,c8,hv8,hb8,hc8,hJ8⟩ := OwnI.rowJ hT (List.cons_ne_nil _ _);subst hv8;have hRW : RowW w3 b8 [wordA on m x i] := ⟨hJ8.c,hJ8.ne⟩;clear hT hJ8;go_simp;apply hK1;clear hK1 K1;have z7 := Below.size hE;replace f6 := hE.fz a f6;replace hO9 := hO9.ext hE;replace xw := xw.trans hE;replace xl4 := Chg.ext xl4 hE;replace a := hE.cell a;replace d := hE.cell d;replace e := hE.cell e;replace f := hE.cell f;clear hE;go_simp;apply hK;clear hK K' gd;refine Wp.keep [1,2,4,6,7,8,9] fun r8 hkeep => ?_
   obtain ⟨U,ac,al,au,aA,aC,aE,-⟩ := hkeep;simp [go_sem,T,ab,ak,ar,az,M] at U ac al au aA aC aE;clear T ab ak ar az M;refine Wp.seq ?_;refine sRh fun K' gd hK hg => ?_;have g2 : gd 2 = some 29 := hg 2;clear hg;go_simp;apply hK;clear hK K' gd g2;refine Wp.keep [1,2,4,6,7,8,33] ?_;rintro r9 ⟨V,ad,am,aw,aB,aD,ae,-⟩;simp [go_sem,U,ac,al,au,aA,aC,aE] at V ad am aw aB aD ae;clear U ac al au aA aC aE;refine cFf ?_;have z1 := hRW.c 0 (Nat.zero_lt_succ _);rw [show gI [wordA on m x i] 0 = wordA on m x i from rfl] at z1;refine skN ?_;refine Wp.loneDraw (.inl rfl) mixed [([0,1,2,3,4],some (5,false)),([],some (6,true)),([],some (7,true)),([],some (8,true))] (by kernel_rfl) fun K' gd hK hg => ?_;clear hg;simp only [pick,nth,List.map_cons,List.map_nil,Option.map_none,Option.map_some];refine Mops.absD fun D5 hD5 zD5 => ?_;replace f6 := hD5.fz a f6;replace hO9 := hO9.ext hD5;replace xw := xw.trans hD5;replace xl4 := Chg.ext xl4 hD5;replace a := hD5.cell a;replace d := hD5.cell d;replace e := hD5.cell e;replace f := hD5.cell f;replace z1 := hD5.cell z1;clear hD5;refine mAc ?_
   intro K1 hK1;go_simp;refine hK1 _ _ (XA) ?_;clear hK1 K1;refine Mops.absA fun aU n40 k => ?_;obtain ⟨q40,k,s40,aF,f40,r40⟩ := k;try simp only [q40] at aF f40 r40 ⊢
   replace f6 := k.fz a f6;replace hO9 := hO9.ext k;replace xw := xw.trans k;replace xl4 := Chg.ext xl4 k;replace a := k.cell a;replace d := k.cell d;replace e := k.cell e;replace f := k.cell f;clear k f40;have aS := aF 0 _ rfl;clear aF;apply Mops.last
   ·exact fun _ _ => Rops_done
   intro K1 hK1;obtain ⟨v',w7,hrun,hO2,hgr,-⟩ := app_run ints_T hO9 ⟨n40,0,none⟩ 1 1 [.int .i64 (wordA on m x i)] 22 rfl (news_one aS) (one_one rfl) (by omega) (by omega);refine if_pos_of rfl (Wstep.law (exec_append2 rfl hrun (by go_simp) (by go_simp)) ?_);apply hK1;clear hK1 K1;replace f6 := Chg.fz (grown_chg hgr) a f6 (lt_off (World.ownsRow.lt hO9) (by omega));replace xw := Chg.to xw (grown_chg hgr) (lt_ge (World.ownsRow.lt hO9) (by omega));replace xl4 := Chg.more xl4 (grown_chg hgr) (by first | exact lt_gm (World.ownsRow.lt hO9) (by omega) | simp);replace a := Chg.cell (grown_chg hgr) a (lt_off (World.ownsRow.lt hO9) (by omega));replace d := Chg.cell (grown_chg hgr) d (lt_off (World.ownsRow.lt hO9) (by omega));replace e := Chg.cell (grown_chg hgr) e (lt_off (World.ownsRow.lt hO9) (by omega));replace f := Chg.cell (grown_chg hgr) f (lt_off (World.ownsRow.lt hO9) (by omega));have hO3 : OwnI w7 B0 v' (wordsC on m x i ++ [wordA on m x i]) := by unfold OwnI;rw [encI_add,List.length_append];exact hO2
   clear hO2;obtain ⟨A6,c6,rfl⟩ := OwnI.slice hO3;apply Mops.last
   ·exact fun _ _ => Rops_done
   intro K1 hK1;go_simp;apply hK1;clear hK1 K1;apply Mops.last
   ·exact fun _ _ => Rops_done
   intro K1 hK1;go_simp;apply hK1;clear hK1 K1;refine Mops.absS (b := n6) (i := 0) [_] (somes [cellVal a] (by simp) (by intro j v hj;match j,hj with | 0,hj => (simp at hj;subst hj;exact a))) fun P7 hP7 => ?_;replace f6 := hP7.frz f6;replace hO3 := hO3.put hP7 (by omega);replace xw := Put.to xw hP7 (by omega);replace xl4 := Put.more xl4 hP7 (.inr (by simp));clear a;replace d := Put.cellOff hP7 d (by simp);replace e := Put.cellOff hP7 e (by simp);replace f := Put.cellOff hP7 f (by simp);have a := hP7.new 0 _ rfl;try simp only [Nat.reduceAdd,Nat.zero_add,Nat.add_zero] at a
   clear hP7;refine Mops.done ?_;apply hK;clear hK K' gd;refine Ends.keep [1,2,4,6,7] ?_;rintro r11 ⟨O,W,af,an,ax,-⟩;simp [go_sem,V,ad,am,aw,aB,aD,ae] at O W af an ax;clear V ad am aw aB aD ae;refine Ends.mk ?_;refine bNo ?_;refine tNo ?_;refine lRg fun K' gd hK => ?_;go_simp;apply hK;clear hK K' gd;refine Ends.keep [1,2,4,6,7] ?_;rintro r12 ⟨aG,aH,aI,aL,aM,-⟩;simp [go_sem,O,W,af,an,ax] at aG aH aI aL aM;clear O W af an ax;refine Ends.mk ?_;refine thenK_normal ⟨by omega,⟨by rw [aG,S],by rw [aH,aa],by rw [aI,aj],by rw [aL,aq],trivial⟩,rfl,⟨xl4,f6⟩,?_⟩;exact ⟨_,by rw [aM,IntWalk.i64_in _ (by omega)];rfl,a,d,e,f,by rw [wordsC_snoc];simpa only [List.length_append,List.length_singleton,hcl] using hO3⟩
  ·skip;have hil : ¬ (i : Int) < (L : Int) := by omega
   have hiL2 : ∃ _u : Unit,i = L := ⟨(),by omega⟩;rw [hiL2.choose_spec] at hO9 a hcl;rw [hcl] at a;refine Wp.seq ?_;refine sRg fun K' gd hK => ?_;go_simp;apply hK;clear hK K' gd;refine Wp.keep [1,2,4,6,7,17] ?_;rintro r13 ⟨P,X,ag,ao,ay,K,-⟩;simp [go_sem,C,D,E,F,e7] at P X ag ao ay K;clear C D E F e7;refine cFf ?_;refine Wp.exit ?_;refine tEx ?_;refine tEx ?_;refine blockK_here ?_;refine tNo ?_;refine sRg fun K' gd hK => ?_;refine cu2 fun K1 hK1 => ?_;go_simp;apply hK1;clear hK1 K1;refine Wops.absS (b := n4) (i := 0) [_,_,_,_] (somes [cellVal g,cellVal o,cellVal p,cellVal r] (by simp) (by intro j v hj;match j,hj with | 0,hj => (simp at hj;subst hj;exact g) | 1,hj => (simp at hj;subst hj;exact o) | 2,hj => (simp at hj;subst hj;exact p) | 3,hj => (simp at hj;subst hj;exact r))) fun P8 hP8 => ?_;replace hO9 := hO9.put hP8 (by omega);replace xw := Put.to xw hP8 (by omega);clear xl4;clear g;clear o;clear p;clear r;have g := hP8.new 0 _ rfl;try simp only [Nat.reduceAdd,Nat.zero_add,Nat.add_zero] at g
   have o := hP8.new 1 _ rfl;try simp only [Nat.reduceAdd,Nat.zero_add,Nat.add_zero] at o
   have p := hP8.new 2 _ rfl;try simp only [Nat.reduceAdd,Nat.zero_add,Nat.add_zero] at p
   have r := hP8.new 3 _ rfl;try simp only [Nat.reduceAdd,Nat.zero_add,Nat.add_zero] at r
   clear hP8;go_simp;apply hK;clear hK K' gd;refine Wp.keep [4,5] ?_;rintro r14 ⟨aJ,aK,-⟩;simp [go_sem,P,X,ag,ao,ay,K] at aJ aK;clear P X ag ao ay K;refine Wp.ret ?_;refine endK_cell_tmp (v := .agg #[cellVal g,cellVal o,cellVal p,cellVal r]) Tryz.results21 (by decide) (by decide) aJ (by dsimp only [cellVal];go_simp) ?_;rw [aK]
   dsimp only [cellVal]
   refine ⟨⟨_,_,rfl,⟨_,rfl,?_⟩⟩,xw⟩;have q := hO9.intsV;rw [hcl] at q;exact q
end Go.Proofs.YtnklbepeoicgpaaGreat.St
namespace Go.Proofs.YtnklbepeoicgpaaGreat.St
open Go.RowKit Go.Wk Go.Proofs
attribute [local irreducible] Go.Wk.Wops Go.Wk.Wp Go.Wk.Mtree Go.Wk.Mops
set_option maxHeartbeats 8000000
set_option maxRecDepth 20000
structure SeenR (s : Sh) (c : Cp) (on : List Int) (m : Nat) (x : Int) (sl : List Int) : Prop where
 e : begE s c = 0
 f : idsS s (seenP (s.md c).first) = sl
 l : idsS s (seenP (s.md c).last) = sl
 al : s.alts.length ≤ 12
 len : sl.length ≤ 1000
 mem : ∀ i,i < m → (1 + (i : Int) ∈ sl ↔ 0 ≤ gI on i ∧ gI on i < x)
theorem idsS_len (s : Sh) (p : Alt → Bool) : (idsS s p).length ≤ s.alts.length := by
 unfold idsS;rw [sortI_len,List.length_map];exact List.length_filter_le _ _
theorem seenR {on : List Int} {m n L : Nat} (h : OnsR on m n L) {x : Int} (h0 : 0 ≤ x) (h7 : x ≤ 730) : ∃ sl,SeenR (shR on m n L) (copyR on m L x x x) on m x sl := by
 have hd := day_R h h0 h7;have hal : (shR on m n L).alts.length ≤ 12 := by have := altsR_len h.inj n;have := h.m10;show (altsR on m n).length ≤ 12;omega
 refine ⟨_,beg_R h h0 h7 (Int.le_refl _) (Int.le_refl _) (same_refl x),rfl,by rw [first_last hd],hal,?_,fun i hi => seen_R h hd hi⟩;have := idsS_len (shR on m n L) (seenP ((shR on m n L).md (copyR on m L x x x)).first);omega
theorem roundTells_c (t : Tr) (on : List Int) (m n L : Nat) (x : Int) (hl : List Int) (v sv uv hv : Value) (w : World) (h : OnsR on m n L) (h0 : 0 ≤ x) (h7 : x ≤ 730) (hfm : t.fl.length = m) (hV : TourV w w.heap.size v t) (hS : SheetV w w.heap.size sv (shR on m n L)) (hU : CopyV w w.heap.size uv (copyR on m L x x x)) (hH : IntsV w w.heap.size hv hl) (hhl : hl.length ≤ 1000)
  (hid : ∀ i (hi : i < t.fl.length),t.fl[i].id ∈ hl ↔ ¬ (0 ≤ gI on i ∧ gI on i < x)) :
  CallsV Tryz.prog 23 #[v,sv,uv,hv] w fun v' w' => v' = .bool true ∧ Ext w w' := by
 obtain ⟨A,c,A2,c2,rfl,-,hF⟩ := hV.open';have hFS : FlawsS w w.heap.size (.slice A2 t.fl.length c2) t.fl := ⟨hF⟩;obtain ⟨wv,av,rfl,⟨A3,c3,rfl,-,-⟩,⟨A4,c4,rfl,-,-⟩⟩ := id hS;obtain ⟨cv,rfl,hC⟩ := id hU;obtain ⟨A5,c5,rfl,-,-⟩ := id hC;obtain ⟨A6,c6,rfl,-,-⟩ := id hH;have hCS : IntsS w w.heap.size (.slice A5 (copyR on m L x x x).words.length c5) (copyR on m L x x x).words := ⟨hC⟩;have hHS : IntsS w w.heap.size (.slice A6 hl.length c6) hl := ⟨hH⟩;have hcl : ∃ _u : Unit,(copyR on m L x x x).words.length = L := ⟨(),wordsC_len on m x L⟩;obtain ⟨sl,hsl⟩ := seenR h h0 h7;have hmL := h.ml;have hL15 := h.L15;clear hF hC hH hV;replace hid : ∃ _u : Unit,_ := ⟨(),hid⟩;replace hfm : ∃ _u : Unit,_ := ⟨(),hfm⟩;have hfm2 : t.fl.length ≤ 15 := by have := hfm.choose_spec;omega
 refine Wp.fn Tryz.func23 rfl Tryz.ntmps23 (by simp) ?_;have xw := Ext.refl w;refine Wp.keep [0,1,2,3] ?_;rintro r1 ⟨J,U,W,Y,-⟩;simp [go_sem] at J U W Y;refine sRg fun K' gd hK => ?_;refine Wops.cut 1 fun K1 hK1 => ?_;simp only [tSC,tZ];go_simp;apply hK1;clear hK1 K1;simp only [dSC,dZ];refine Wops.absA fun a0 n4 j => ?_;obtain ⟨q4,j,s4,aL,f4,r4⟩ := j;try simp only [q4] at aL f4 r4 ⊢
 replace hFS := hFS.ext j;replace hCS := hCS.ext j;replace hHS := hHS.ext j;replace xw := xw.trans j;have b := aL 2 _ rfl;clear aL j;clear r4;refine Wops.cut 1 fun K1 hK1 => ?_;simp only [tSC,tZ];go_simp;apply hK1;clear hK1 K1;simp only [dSC,dZ];refine Wops.absA fun a1 n5 g => ?_;obtain ⟨q5,g,s5,I,f5,r5⟩ := g;try simp only [q5] at I f5 r5 ⊢
 replace hFS := hFS.ext g;replace hCS := hCS.ext g;replace hHS := hHS.ext g;replace xw := xw.trans g;replace b := g.cell b;have aM := I 0 _ rfl;have aN := I 1 _ rfl;clear I g;clear r5;refine Wops.cut 1 fun K1 hK1 => ?_;simp only [tSC,tZ];go_simp;apply hK1;clear hK1 K1;simp only [dSC,dZ];refine Wops.absA fun a2 n6 a => ?_;obtain ⟨q6,a,s6,k,f6,r6⟩ := a;try simp only [q6] at k f6 r6 ⊢
 replace hFS := hFS.ext a;replace hCS := hCS.ext a;replace hHS := hHS.ext a;replace xw := xw.trans a;replace b := a.cell b;replace aM := a.cell aM;replace aN := a.cell aN;have d := k 0 _ rfl;have a3 := k 1 _ rfl;have a4 := k 2 _ rfl;have a5 := k 3 _ rfl;clear k a;clear r6;go_simp;apply hK;clear hK K' gd;refine Wp.keep [3,4,5,6] ?_;rintro r2 ⟨ae,an,aq,az,-⟩;simp [go_sem,J,U,W,Y] at ae an aq az;clear J U W Y;refine sRg fun K' gd hK => ?_;refine Wops.cut 3 fun K1 hK1 => ?_;simp only [tSC,tZ];go_simp;refine Wcall (.inl rfl) (Seen_c _ _ (shR on m n L) (copyR on m L x x x) _ (hS.ext xw) (hU.ext xw) h.fit (h.fitC x x x) (fun _ => hsl.al)) ?_;rintro v w3 ⟨xv,yv,hv,hX,hY,hE⟩;rw [hsl.e] at hv hX hY;rw [if_pos rfl,hsl.f] at hX;rw [if_pos rfl,hsl.l] at hY;obtain ⟨A7,c7,rfl⟩ := hX.slice;obtain ⟨A8,c8,rfl⟩ := hY.slice;subst hv;clear hY;have hSL : IntsS w3 w3.heap.size (.slice A7 sl.length c7) sl := ⟨hX.ints⟩;clear hX;go_simp;apply hK1;clear hK1 K1;simp only [dSC,dZ];replace hFS := hFS.ext hE;replace hCS := hCS.ext hE;replace hHS := hHS.ext hE;replace xw := xw.trans hE;replace b := hE.cell b;replace d := hE.cell d;clear hE;go_simp
 apply hK;clear hK K' gd;refine Wp.keep [3,4,6,9,10,11] ?_;rintro r4 ⟨af,ao,aA,aJ,K,M,-⟩;simp [go_sem,ae,an,aq,az] at af ao aA aJ K M;clear ae an aq az;refine Wp.seq ?_;refine sRh fun K' gd hK hg => ?_;have g2 : gd 2 = some 23 := hg 2;clear hg;go_simp;apply hK;clear hK K' gd g2;refine Wp.keep [3,4,6,9,29] ?_;rintro r5 ⟨ag,ap,aB,aK,V,-⟩;simp [go_sem,af,ao,aA,aJ,K,M] at ag ap aB aK V;clear af ao aA aJ K M;refine cFf ?_;refine skN ?_;refine Wp.seq ?_;refine sRg fun K' gd hK => ?_;go_simp;apply hK;clear hK K' gd;refine Wp.keep [3,4,6,9,12] ?_;rintro r6 ⟨E,F,G,H,aQ,-⟩;simp [go_sem,ag,ap,aB,aK,V] at E F G H aQ;clear ag ap aB aK V;refine Wp.block ?_;refine Wp.loop (fun i ρ ds wi => AllEq [3,4,6,9] ρ r6 ∧ ds = [] ∧ (Ext w3 wi) ∧ (ρ 12 = .int .i64 (i : Int))) (t.fl.length) ?_ ?_
 ·refine ⟨AllEq.refl _ _,rfl,Ext.refl _,?_⟩;rw [aQ];rfl
 ·rintro i r7 _ wi hi ⟨hA,rfl,xl4,e12⟩;obtain ⟨r,u,z,C,-⟩ := hA;rw [E] at r;rw [F] at u;rw [G] at z;rw [H] at C;replace hFS := hFS.ext xl4;replace hCS := hCS.ext xl4;replace hHS := hHS.ext xl4;replace hSL := hSL.ext xl4;replace xw := Ext.trans xw xl4;replace b := Ext.cell xl4 b;replace d := Ext.cell xl4 d
  by_cases him : i < t.fl.length
  ·skip;have him2 : (i : Int) < (t.fl.length : Int) := by omega
   have hiL : i < L := by have := hfm.choose_spec;omega
   have hic : i < (copyR on m L x x x).words.length := (by rw [hcl.choose_spec];exact hiL);have hic2 : (i : Int) < ((copyR on m L x x x).words.length : Int) := by omega
   obtain ⟨b2,o2,eA,hb2,x0,x1,x2,x3⟩ := FlawsV.at hFS.v him;subst eA;obtain ⟨b3,o3,cc3,ev,hb3,hcc⟩ := hCS.v.get hic
   injection ev with ev1 _ ev2
   subst ev1;subst ev2;have d1 := hcc i hic;clear hcc;have hgw : gI (copyR on m L x x x).words i = wordA on m x i := copyR_W hiL;rw [hgw] at d1;clear hgw;have him9 : i < m := (by have := hfm.choose_spec;omega);have hsi := hsl.mem i him9;have hdi := hid.choose_spec i him;have hwr1 : IntKind.i64.wrap (1001 + (i : Int)) = 1001 + (i : Int) := IntWalk.i64_in _ (by omega);have hwr2 : IntKind.i64.wrap (1 + (i : Int)) = 1 + (i : Int) := IntWalk.i64_in _ (by omega);refine Wp.seq ?_;refine sRg fun K' gd hK => ?_;go_simp;apply hK;clear hK K' gd;refine Wp.keep [3,4,6,9,12,34] ?_;rintro r8 ⟨s,y,B,D,o,p,-⟩;simp [go_sem,r,u,z,C,e12] at s y B D o p;clear r u z C e12;refine cTt ?_
   by_cases hw : t.fl[i].id ∈ hl
   ·skip;have hwa : ∃ _u : Unit,wordA on m x i = 1001 + (i : Int) := ⟨(),if_pos ⟨him9,hdi.1 hw⟩⟩;have hns : ¬ 1 + (i : Int) ∈ sl := fun q => hdi.1 hw (hsi.1 q);rw [hwa.choose_spec] at d1;clear hsi hdi;refine skN ?_;refine sBk ?_;refine sRg fun K' gd hK => ?_;refine Wops.cut 8 fun K1 hK1 => ?_;simp only [tSC,tZ];go_simp;refine Wcall (.inl rfl) (roundHas_c _ hl t.fl[i].id _ (hHS.v.more (Below.size (XE))) (by omega)) ?_;rintro v w4 ⟨hv,hE⟩;rw [decide_eq_true hw] at hv;subst hv;go_simp;apply hK1;clear hK1 K1;simp only [dSC,dZ];replace hSL := hSL.ext hE;replace xw := xw.trans hE;replace xl4 := xl4.trans hE;replace d := hE.cell d;replace d1 := hE.cell d1;clear hE;go_simp;apply hK;clear hK K' gd;refine Wp.keep [3,4,6,9,12,13] ?_;rintro r10 ⟨Z,ah,ar,aE,N,S,-⟩;simp [go_sem,s,y,B,D,o,p] at Z ah ar aE N S;clear s y B D o p;refine sRh fun K' gd hK hg => ?_;have g10 : gd 10 = some 55 := hg 10;have g13 : gd 13 = some 58 := hg 13;have g24 : gd 24 = some 69 := hg 24;clear hg;refine Wops.cut 30 fun K1 hK1 => ?_;simp only [tSC,tZ];go_simp;refine Wcall (.inl rfl) (roundHas_c _ sl (1 + (i : Int)) _ (hSL.v.more (by have := Below.size (XE);omega)) (by have := hsl.len;omega)) ?_
    rintro v w5 ⟨hv,hE⟩;rw [decide_eq_false hns] at hv;subst hv;go_simp;apply hK1;clear hK1 K1;simp only [dSC,dZ];replace xw := xw.trans hE;replace xl4 := xl4.trans hE;clear hE;go_simp;apply hK;clear hK K' gd g10 g13 g24;refine Wp.keep [3,4,6,9,12,76] ?_;rintro r12 ⟨aa,ai,au,aF,O,aC,-⟩;simp [go_sem,Z,ah,ar,aE,N,S] at aa ai au aF O aC;clear Z ah ar aE N S;refine cFf ?_;refine Wp.skip ?_;refine bNo ?_;refine tNo ?_;refine lRg fun K' gd hK => ?_;go_simp;apply hK;clear hK K' gd;refine Ends.keep [3,4,6,9,12] ?_;rintro r13 ⟨aR,aT,aV,aY,aO,-⟩;simp [go_sem,aa,ai,au,aF,O,aC] at aR aT aV aY aO;clear aa ai au aF O aC;refine Ends.mk ?_;refine thenK_normal ⟨by omega,⟨by rw [aR,E],by rw [aT,F],by rw [aV,G],by rw [aY,H],trivial⟩,rfl,xl4,?_⟩;rw [aO,IntWalk.i64_in _ (by omega)];rfl
   ·skip;have hon : 0 ≤ gI on i ∧ gI on i < x := Classical.byContradiction fun q => hw (hdi.2 q);have hwa : ∃ _u : Unit,wordA on m x i = 1 + (i : Int) := ⟨(),if_neg fun q => q.2 hon⟩;have hns : 1 + (i : Int) ∈ sl := hsi.2 hon;rw [hwa.choose_spec] at d1;have hne : ¬ 1 + (i : Int) = 1001 + (i : Int) := by omega
    clear hsi hdi;refine skN ?_;refine sBk ?_;refine sRg fun K' gd hK => ?_;refine Wops.cut 8 fun K1 hK1 => ?_;simp only [tSC,tZ];go_simp;refine Wcall (.inl rfl) (roundHas_c _ hl t.fl[i].id _ (hHS.v.more (Below.size (XE))) (by omega)) ?_;rintro v w4 ⟨hv,hE⟩;rw [decide_eq_false hw] at hv;subst hv;go_simp;apply hK1;clear hK1 K1;simp only [dSC,dZ];replace hSL := hSL.ext hE;replace xw := xw.trans hE;replace xl4 := xl4.trans hE;replace d := hE.cell d;replace d1 := hE.cell d1;clear hE;go_simp;apply hK;clear hK K' gd;refine Wp.keep [3,4,6,9,12,13] ?_;rintro r15 ⟨ab,aj,aw,aG,P,T,-⟩;simp [go_sem,s,y,B,D,o,p] at ab aj aw aG P T;clear s y B D o p;refine sRh fun K' gd hK hg => ?_;have g10 : gd 10 = some 55 := hg 10;have g13 : gd 13 = some 58 := hg 13;have g24 : gd 24 = some 69 := hg 24;clear hg;refine Wops.cut 30 fun K1 hK1 => ?_;simp only [tSC,tZ];go_simp;refine Wcall (.inl rfl) (roundHas_c _ sl (1 + (i : Int)) _ (hSL.v.more (by have := Below.size (XE);omega)) (by have := hsl.len;omega)) ?_;rintro v w5 ⟨hv,hE⟩;rw [decide_eq_true hns] at hv;subst hv;go_simp;apply hK1
    clear hK1 K1;simp only [dSC,dZ];replace xw := xw.trans hE;replace xl4 := xl4.trans hE;clear hE;go_simp;apply hK;clear hK K' gd g10 g13 g24;refine Wp.keep [3,4,6,9,12,76] ?_;rintro r17 ⟨ac,ak,ax,aH,Q,aD,-⟩;simp [go_sem,ab,aj,aw,aG,P,T] at ac ak ax aH Q aD;clear ab aj aw aG P T;refine cFf ?_;refine Wp.skip ?_;refine bNo ?_;refine tNo ?_;refine lRg fun K' gd hK => ?_;go_simp;apply hK;clear hK K' gd;refine Ends.keep [3,4,6,9,12] ?_;rintro r18 ⟨aS,aU,aW,aZ,aP,-⟩;simp [go_sem,ac,ak,ax,aH,Q,aD] at aS aU aW aZ aP;clear ac ak ax aH Q aD;refine Ends.mk ?_;refine thenK_normal ⟨by omega,⟨by rw [aS,E],by rw [aU,F],by rw [aW,G],by rw [aZ,H],trivial⟩,rfl,xl4,?_⟩;rw [aP,IntWalk.i64_in _ (by omega)];rfl
  ·skip;have him2 : ¬ (i : Int) < (t.fl.length : Int) := by omega
   refine Wp.seq ?_;refine sRg fun K' gd hK => ?_;go_simp;apply hK;clear hK K' gd;refine Wp.keep [3,4,6,9,12,34] ?_;rintro r19 ⟨ad,am,ay,aI,R,X,-⟩;simp [go_sem,r,u,z,C,e12] at ad am ay aI R X;clear r u z C e12;refine cFf ?_;refine Wp.exit ?_;refine tEx ?_;refine tEx ?_;refine blockK_here ?_;refine tNo ?_;refine sRg fun K' gd hK => ?_;go_simp;apply hK;clear hK K' gd;refine Wp.keep [8] ?_;rintro r20 ⟨aX,-⟩;simp [go_sem,ad,am,ay,aI,R,X] at aX;clear ad am ay aI R X;refine Wp.ret ?_;refine endK_tmp Tryz.results23 (by decide) ?_;rw [aX];exact ⟨rfl,xw⟩
end Go.Proofs.YtnklbepeoicgpaaGreat.St
