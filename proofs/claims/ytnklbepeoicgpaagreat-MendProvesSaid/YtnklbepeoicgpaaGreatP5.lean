/- The chapter's examples: head. Small lemmas of the laws. What the greatest plan is worth: other names of the flaws, fewer days, a day that is taken. What a tour's best mending is worth: the greatest plan; with a day closed or open, without flaws, on a day. Days for the flaws and plans; spans that prove a mending. Plain laws of the best mending: exchange, parts, gains, days. Plain law of a further flaw. Plain laws at right tours: gains, wider days, places of flaws. Plain laws of parts: flaws of a list, and a turned order. Plain laws of days: Earliest is a best mending; its first day. Plain laws  -/
import Derived.Test.YtnklbepeoicgpaaGreatP4
import Derived.Test.YtnklbepeoicgpaaGreatP3
set_option linter.all false
namespace Go.Proofs.YtnklbepeoicgpaaGreat
open Go.RowKit Go.Wk Go.Proofs
attribute [local irreducible] Go.Wk.Wops Go.Wk.Wp Go.Wk.Mtree Go.Wk.Mops
set_option maxHeartbeats 8000000
set_option maxRecDepth 20000
theorem rowC_ints {W : World} {b n : Nat} {t : TypeId} {xs : List Int} {cs : List Value} (h : RowC W b t cs) (hcs : cs = xs.map (Value.int .i64)) (hn : xs.length = n) : IntsV W W.heap.size (.slice (some ⟨b,0,none⟩) n n) xs := by
 subst hcs;subst hn;exact RowI.all ⟨t,h⟩ (Nat.le_refl _)
theorem sameI_T {x y : Value} {xs ys : List Int} (he : xs = ys) (w : World) (hx : IntsV w w.heap.size x xs) (hy : IntsV w w.heap.size y ys) (hl : xs.length ≤ 1000000000000000) :
  CallsV Tryz.prog 36 #[x,y] w fun v w' => v = .bool true ∧ Ext w w' :=
 (sameInts_c x y xs ys w hx hy hl).mono fun v w' ⟨h1,h2⟩ => ⟨by rw [h1,decide_eq_true he],h2⟩
theorem sameLi_T {x y : Value} {xs ys : List (List Int)} (he : xs = ys) (w : World) (hx : ListsV w w.heap.size x xs) (hy : ListsV w w.heap.size y ys) (hl : xs.length ≤ 1000000000000000) (hl2 : ∀ l ∈ xs,l.length ≤ 1000000000000000) :
  CallsV Tryz.prog 49 #[x,y] w fun v w' => v = .bool true ∧ Ext w w' :=
 (sameLists_c x y xs ys w hx hy hl hl2).mono fun v w' ⟨h1,h2⟩ => ⟨by rw [h1,decide_eq_true he],h2⟩
theorem list_one {W : World} {b k n : Nat} {t : TypeId} {xs : List Int} (h : RowC W b t [.slice (some ⟨k,0,none⟩) n n]) (hI : IntsV W W.heap.size (.slice (some ⟨k,0,none⟩) n n) xs) : ListsV W W.heap.size (.slice (some ⟨b,0,none⟩) 1 1) [xs] :=
 ⟨_,1,rfl,fun _ => ⟨b,0,rfl,h.lt,fun i hi => by
  obtain rfl : i = 0 := by simpa using hi
  exact ⟨_,by rw [h.cell];rfl,hI⟩⟩,Nat.le_refl _⟩
theorem taker_one {W : World} {b k n : Nat} {t : TypeId} {xs : List Int} {id d : Int} (h : RowC W b t [.int .i64 id,.int .i64 d,.slice (some ⟨k,0,none⟩) n n]) (hI : IntsV W W.heap.size (.slice (some ⟨k,0,none⟩) n n) xs) : TakersV W W.heap.size (.slice (some ⟨b,0,none⟩) 1 1) [⟨id,d,xs⟩] :=
 ⟨_,1,rfl,fun _ => ⟨b,0,rfl,h.lt,fun i hi => by
  obtain rfl : i = 0 := by simpa using hi
  exact ⟨by rw [h.cell];rfl,by rw [h.cell];rfl,_,by rw [h.cell];rfl,hI⟩⟩,Nat.le_refl _⟩
theorem exFit : FitT exT := ⟨by decide,by decide⟩
theorem ex_chk : checkT exT = 0 := by decide +kernel
def exM : Md := wholeF exT exT.n.toNat (bestF exT exT.n.toNat)
theorem ex_on : exM.on = [0,-1,1,3,4] := by decide +kernel
theorem ex_mt : exM.mt = 12 := by decide +kernel
theorem ex_merit : (if checkT exT = 0 then meritF exT exT.n.toNat else 0) = 12 := by decide +kernel
theorem ex_jam : listE exT [1,2,3] = 0 ∧ (jamS exT [1,2,3]).isSome = true ∧ (jamP exT [1,2,3]).1 = 0 ∧ (jamP exT [1,2,3]).2 = 2 := by decide +kernel
theorem ex_sure : sureL exT = [1,3,4,5] := by decide +kernel
theorem ex_some : someL exT = [1,3,4,5] := by decide +kernel
theorem ex_days : daysE exT 1 = 0 ∧ daysR exT 1 = [0] := by decide +kernel
theorem ex_earl : earlL exT = [0,-1,1,3,4] := by decide +kernel
theorem ex_gain : gainF exT 2 = 3 ∧ dayE exT 2 = 0 := by decide +kernel
theorem ex_lost : lostF exT 4 = 1 ∧ dayE exT 4 = 0 := by decide +kernel
theorem ex_wide : widerF exT 2 0 4 = 2 ∧ widerE exT 2 0 4 = 0 := by decide +kernel
theorem ex_spread : spreadE exT exM [⟨8,1,[1,2,3]⟩] = 0 ∧ spreadL exT exM [⟨8,1,[1,2,3]⟩] = [[2,3]] := by decide +kernel
theorem head_c (w : World) : CallsV Tryz.prog 28 #[] w fun v w' => v = .bool true ∧ Ext w w' := by
 refine Wp.fn Tryz.func28 rfl Tryz.ntmps28 (by simp) ?_;have xw := Ext.refl w;refine Wp.keep [] fun r1 hkeep => ?_;clear hkeep;refine sRg fun K' gd hK => ?_;go_simp;refine hK _ _ ?_;clear hK K' gd;refine Wp.keep [] fun r2 hkeep => ?_;clear hkeep;refine sRg fun K' gd hK => ?_;refine cu1 fun K1 hK1 => ?_;go_simp;refine Wcall (.inl rfl) (example_c _) ?_;rintro v w2 ⟨hT,hE⟩;have xs := Ext.refl w2;obtain ⟨A,c1,A2,c2,rfl⟩ := hT.open';go_simp;refine hK1 _ _ ?_;clear hK1 K1;replace xw := xw.trans hE;clear hE;refine cu2 fun K1 hK1 => ?_;go_simp;refine hK1 _ _ ?_;clear hK1 K1;refine Wops.absT fun V1_2 n1 hV1_2 R1 => ?_;obtain ⟨q1,hV1_2,s1,kV1_2,f1,r1⟩ := hV1_2;try simp only [q1] at kV1_2 f1 r1 ⊢
 replace xw := xw.trans hV1_2;replace xs := xs.trans hV1_2;have c1_0 := kV1_2 0 _ rfl;have c1_1 := kV1_2 1 _ rfl;have c1_2 := kV1_2 2 _ rfl;clear kV1_2 hV1_2;clear r1;try simp only [Wops_nil,updO_some,updO_none]
 refine hK _ _ ?_;clear hK K' gd;refine Wp.keep [1] ?_;rintro r4 ⟨e1_4,-⟩;simp [go_sem] at e1_4;refine sRg fun K' gd hK => ?_;refine cu2 fun K1 hK1 => ?_;go_simp;refine Wcall (.inl rfl) (Best_c exT _ _ (hT.ext xs).tourV exFit (fun _ => by decide)) ?_;rintro v w3 ⟨⟨mv,hv,hB,-⟩,hE⟩;rw [ex_chk] at hv;subst hv;have hM : MendB _ _ mv exM := hB ex_chk;clear hB;obtain ⟨xv,zv,hmv,hIm,hZm⟩ := hM.ex;rw [ex_mt] at hmv;subst hmv;obtain ⟨Am,nm,cm,rfl⟩ : ∃ A n c,xv = .slice A n c := by obtain ⟨A,c,e⟩ := hIm.slice;exact ⟨A,_,c,e⟩
 obtain ⟨Az,nz,cz,rfl⟩ : ∃ A n c,zv = .slice A n c := by obtain ⟨A,c,e⟩ := hZm.slice;exact ⟨A,_,c,e⟩
 have xm := Ext.refl w3;go_simp;refine hK1 _ _ ?_;clear hK1 K1;replace xw := xw.trans hE;replace xs := xs.trans hE;replace c1_0 := hE.cell c1_0;replace c1_1 := hE.cell c1_1;replace c1_2 := hE.cell c1_2;clear hE;refine cu5 fun K1 hK1 => ?_;go_simp;refine hK1 _ _ ?_;clear hK1 K1;refine Wops.absT fun V2_4 n2 hV2_4 R2 => ?_;obtain ⟨q2,hV2_4,s2,kV2_4,f2,r2⟩ := hV2_4;try simp only [q2] at kV2_4 f2 r2 ⊢
 replace xw := xw.trans hV2_4;replace xs := xs.trans hV2_4;replace xm := xm.trans hV2_4;replace c1_0 := hV2_4.cell c1_0;replace c1_1 := hV2_4.cell c1_1;replace c1_2 := hV2_4.cell c1_2;have c2_0 := kV2_4 0 _ rfl;have c2_1 := kV2_4 1 _ rfl;have c2_2 := kV2_4 2 _ rfl;clear kV2_4 hV2_4;clear r2;go_simp;refine hK _ _ ?_;clear hK K' gd;refine Wp.keep [1,2,3] ?_;rintro r6 ⟨e1_6,e2_6,e3_6,-⟩;simp [go_sem,e1_4] at e1_6 e2_6 e3_6;clear e1_4;refine sRg fun K' gd hK => ?_;refine cu2 fun K1 hK1 => ?_;go_simp;refine Wcall (.inl rfl) (Merit_c exT _ _ (hT.ext xs).tourV exFit (fun _ => by decide)) ?_;rintro v w4 ⟨hv,hE⟩;rw [ex_merit,ex_chk] at hv;subst hv;go_simp;refine hK1 _ _ ?_;clear hK1 K1;replace xw := xw.trans hE;replace xs := xs.trans hE;replace xm := xm.trans hE;replace c1_0 := hE.cell c1_0;replace c1_1 := hE.cell c1_1;replace c1_2 := hE.cell c1_2;replace c2_0 := hE.cell c2_0;replace c2_1 := hE.cell c2_1;replace c2_2 := hE.cell c2_2;clear hE;go_simp;refine hK _ _ ?_;clear hK K' gd;refine Wp.keep [1,2,3,4,5] ?_;rintro r8 ⟨e1_8,e2_8,e3_8,e4_8,e5_8,-⟩;simp [go_sem,e1_6,e2_6,e3_6] at e1_8 e2_8 e3_8 e4_8 e5_8;clear e1_6 e2_6 e3_6;refine sRg fun K' gd hK => ?_;refine cu2 fun K1 hK1 => ?_;go_simp;refine hK1 _ _ ?_;clear hK1 K1;refine Wops.absT fun V39_5 n39 hV39_5 R39 => ?_;obtain ⟨q39,hV39_5,s39,kV39_5,f39,r39⟩ := hV39_5;try simp only [q39] at kV39_5 f39 r39 ⊢
 replace R39 := (show RowC _ _ _ _ from R39);replace xw := xw.trans hV39_5;replace xs := xs.trans hV39_5;replace xm := xm.trans hV39_5;replace c1_0 := hV39_5.cell c1_0;replace c1_1 := hV39_5.cell c1_1;replace c1_2 := hV39_5.cell c1_2;replace c2_0 := hV39_5.cell c2_0;replace c2_1 := hV39_5.cell c2_1;replace c2_2 := hV39_5.cell c2_2;clear hV39_5 f39;clear kV39_5;refine cu1 fun K1 hK1 => ?_;go_simp;refine Wcall (.inl rfl) (Jam_c exT [1,2,3] _ _ _ (hT.ext xs).tourV (rowC_ints R39 rfl rfl) exFit (by decide)) ?_;rintro v w5 ⟨hv,hE⟩;rw [ex_jam.1,ex_jam.2.1,ex_jam.2.2.1,ex_jam.2.2.2] at hv;subst hv;go_simp;refine hK1 _ _ ?_;clear hK1 K1;replace xw := xw.trans hE;replace xs := xs.trans hE;replace xm := xm.trans hE;replace c1_0 := hE.cell c1_0;replace c1_1 := hE.cell c1_1;replace c1_2 := hE.cell c1_2;replace c2_0 := hE.cell c2_0;replace c2_1 := hE.cell c2_1;replace c2_2 := hE.cell c2_2;clear hE;refine cu6 fun K1 hK1 => ?_;go_simp;refine hK1 _ _ ?_;clear hK1 K1;refine Wops.absT fun V6_6 n6 hV6_6 R6 => ?_;obtain ⟨q6,hV6_6,s6,kV6_6,f6,r6⟩ := hV6_6;try simp only [q6] at kV6_6 f6 r6 ⊢
 replace xw := xw.trans hV6_6;replace xs := xs.trans hV6_6;replace xm := xm.trans hV6_6;replace c1_0 := hV6_6.cell c1_0;replace c1_1 := hV6_6.cell c1_1;replace c1_2 := hV6_6.cell c1_2;replace c2_0 := hV6_6.cell c2_0;replace c2_1 := hV6_6.cell c2_1;replace c2_2 := hV6_6.cell c2_2;have c6_0 := kV6_6 0 _ rfl;have c6_1 := kV6_6 1 _ rfl;clear kV6_6 hV6_6;clear r6;go_simp;refine hK _ _ ?_;clear hK K' gd;refine Wp.keep [1,2,3,4,5,6,7,8] ?_;rintro r10 ⟨e1_10,e2_10,e3_10,e4_10,e5_10,e6_10,e7_10,e8_10,-⟩;simp [go_sem,e1_8,e2_8,e3_8,e4_8,e5_8] at e1_10 e2_10 e3_10 e4_10 e5_10 e6_10 e7_10 e8_10;clear e1_8 e2_8 e3_8 e4_8 e5_8;refine sRg fun K' gd hK => ?_;refine cu2 fun K1 hK1 => ?_;go_simp;refine Wcall (.inl rfl) (Surely_c exT _ _ (hT.ext xs).tourV exFit (fun _ => by decide)) ?_;rintro v w6 ⟨⟨la,lb,hv,hI9,hI10⟩,hE⟩;rw [ex_chk] at hv;subst hv;rw [ex_sure] at hI9;rw [ex_some] at hI10;have x9 := Ext.refl w6;go_simp;refine hK1 _ _ ?_;clear hK1 K1;replace xw := xw.trans hE;replace xs := xs.trans hE;replace xm := xm.trans hE;replace c1_0 := hE.cell c1_0;replace c1_1 := hE.cell c1_1;replace c1_2 := hE.cell c1_2;replace c2_0 := hE.cell c2_0;replace c2_1 := hE.cell c2_1;replace c2_2 := hE.cell c2_2
 replace c6_0 := hE.cell c6_0;replace c6_1 := hE.cell c6_1;clear hE;go_simp;refine hK _ _ ?_;clear hK K' gd;refine Wp.keep [1,2,3,4,5,6,7,8,9,10,11] ?_;rintro r12 ⟨e1_12,e2_12,e3_12,e4_12,e5_12,e6_12,e7_12,e8_12,e9_12,e10_12,e11_12,-⟩;simp [go_sem,e1_10,e2_10,e3_10,e4_10,e5_10,e6_10,e7_10,e8_10] at e1_12 e2_12 e3_12 e4_12 e5_12 e6_12 e7_12 e8_12 e9_12 e10_12 e11_12;clear e1_10 e2_10 e3_10 e4_10 e5_10 e6_10 e7_10 e8_10;refine sRg fun K' gd hK => ?_;refine cu2 fun K1 hK1 => ?_;go_simp;refine Wcall (.inl rfl) (Days_c exT 1 _ _ (hT.ext xs).tourV exFit (fun _ => by decide)) ?_;rintro v w7 ⟨⟨lc,hv,hI12⟩,hE⟩;rw [ex_days.1] at hv;subst hv;rw [ex_days.2] at hI12;have x12 := Ext.refl w7;go_simp;refine hK1 _ _ ?_;clear hK1 K1;replace xw := xw.trans hE;replace xs := xs.trans hE;replace xm := xm.trans hE;replace x9 := x9.trans hE;replace c1_0 := hE.cell c1_0;replace c1_1 := hE.cell c1_1;replace c1_2 := hE.cell c1_2;replace c2_0 := hE.cell c2_0;replace c2_1 := hE.cell c2_1;replace c2_2 := hE.cell c2_2;replace c6_0 := hE.cell c6_0;replace c6_1 := hE.cell c6_1;clear hE;go_simp;refine hK _ _ ?_;clear hK K' gd;refine Wp.keep [1,2,3,4,5,6,7,8,9,10,11,12,13] ?_;rintro r14 ⟨e1_14,e2_14,e3_14,e4_14,e5_14,e6_14,e7_14,e8_14,e9_14,e10_14,e11_14,e12_14,e13_14,-⟩
 simp [go_sem,e1_12,e2_12,e3_12,e4_12,e5_12,e6_12,e7_12,e8_12,e9_12,e10_12,e11_12] at e1_14 e2_14 e3_14 e4_14 e5_14 e6_14 e7_14 e8_14 e9_14 e10_14 e11_14 e12_14 e13_14;clear e1_12 e2_12 e3_12 e4_12 e5_12 e6_12 e7_12 e8_12 e9_12 e10_12 e11_12;refine sRg fun K' gd hK => ?_;refine cu2 fun K1 hK1 => ?_;go_simp;refine Wcall (.inl rfl) (Earliest_c exT _ _ (hT.ext xs).tourV exFit (fun _ => by decide)) ?_;rintro v w8 ⟨⟨ld,hv,hI14⟩,hE⟩;rw [ex_chk] at hv;subst hv;rw [ex_earl] at hI14;have x14 := Ext.refl w8;go_simp;refine hK1 _ _ ?_;clear hK1 K1;replace xw := xw.trans hE;replace xs := xs.trans hE;replace xm := xm.trans hE;replace x9 := x9.trans hE;replace x12 := x12.trans hE;replace c1_0 := hE.cell c1_0;replace c1_1 := hE.cell c1_1;replace c1_2 := hE.cell c1_2;replace c2_0 := hE.cell c2_0;replace c2_1 := hE.cell c2_1;replace c2_2 := hE.cell c2_2;replace c6_0 := hE.cell c6_0;replace c6_1 := hE.cell c6_1;clear hE;go_simp;refine hK _ _ ?_;clear hK K' gd;refine Wp.keep [1,2,3,4,5,6,7,8,9,10,11,12,13,14,15] ?_;rintro r16 ⟨e1_16,e2_16,e3_16,e4_16,e5_16,e6_16,e7_16,e8_16,e9_16,e10_16,e11_16,e12_16,e13_16,e14_16,e15_16,-⟩;simp [go_sem,e1_14,e2_14,e3_14,e4_14,e5_14,e6_14,e7_14,e8_14,e9_14,e10_14,e11_14,e12_14,e13_14] at e1_16 e2_16 e3_16 e4_16 e5_16 e6_16 e7_16 e8_16 e9_16 e10_16 e11_16 e12_16 e13_16 e14_16 e15_16
 clear e1_14 e2_14 e3_14 e4_14 e5_14 e6_14 e7_14 e8_14 e9_14 e10_14 e11_14 e12_14 e13_14;refine sRg fun K' gd hK => ?_;refine cu2 fun K1 hK1 => ?_;go_simp;refine Wcall (.inl rfl) (Gain_c exT 2 _ _ (hT.ext xs).tourV exFit (fun _ => by decide)) ?_;rintro v w9 ⟨hv,hE⟩;rw [ex_gain.1,ex_gain.2] at hv;subst hv;go_simp;refine hK1 _ _ ?_;clear hK1 K1;replace xw := xw.trans hE;replace xs := xs.trans hE;replace xm := xm.trans hE;replace x9 := x9.trans hE;replace x12 := x12.trans hE;replace x14 := x14.trans hE;replace c1_0 := hE.cell c1_0;replace c1_1 := hE.cell c1_1;replace c1_2 := hE.cell c1_2;replace c2_0 := hE.cell c2_0;replace c2_1 := hE.cell c2_1;replace c2_2 := hE.cell c2_2;replace c6_0 := hE.cell c6_0;replace c6_1 := hE.cell c6_1;clear hE;go_simp;refine hK _ _ ?_;clear hK K' gd;refine Wp.keep [1,2,3,4,5,6,7,8,9,10,11,12,13,14,15,16,17] ?_;rintro r18 ⟨e1_18,e2_18,e3_18,e4_18,e5_18,e6_18,e7_18,e8_18,e9_18,e10_18,e11_18,e12_18,e13_18,e14_18,e15_18,e16_18,e17_18,-⟩;simp [go_sem,e1_16,e2_16,e3_16,e4_16,e5_16,e6_16,e7_16,e8_16,e9_16,e10_16,e11_16,e12_16,e13_16,e14_16,e15_16] at e1_18 e2_18 e3_18 e4_18 e5_18 e6_18 e7_18 e8_18 e9_18 e10_18 e11_18 e12_18 e13_18 e14_18 e15_18 e16_18 e17_18
 clear e1_16 e2_16 e3_16 e4_16 e5_16 e6_16 e7_16 e8_16 e9_16 e10_16 e11_16 e12_16 e13_16 e14_16 e15_16;refine sRg fun K' gd hK => ?_;refine cu2 fun K1 hK1 => ?_;go_simp;refine Wcall (.inl rfl) (Lost_c exT 4 _ _ (hT.ext xs).tourV exFit (fun _ => by decide)) ?_;rintro v w10 ⟨hv,hE⟩;rw [ex_lost.1,ex_lost.2] at hv;subst hv;go_simp;refine hK1 _ _ ?_;clear hK1 K1;replace xw := xw.trans hE;replace xs := xs.trans hE;replace xm := xm.trans hE;replace x9 := x9.trans hE;replace x12 := x12.trans hE;replace x14 := x14.trans hE;replace c1_0 := hE.cell c1_0;replace c1_1 := hE.cell c1_1;replace c1_2 := hE.cell c1_2;replace c2_0 := hE.cell c2_0;replace c2_1 := hE.cell c2_1;replace c2_2 := hE.cell c2_2;replace c6_0 := hE.cell c6_0;replace c6_1 := hE.cell c6_1;clear hE;go_simp;refine hK _ _ ?_;clear hK K' gd;refine Wp.keep [1,2,3,4,5,6,7,8,9,10,11,12,13,14,15,16,17,18,19] ?_;rintro r20 ⟨e1_20,e2_20,e3_20,e4_20,e5_20,e6_20,e7_20,e8_20,e9_20,e10_20,e11_20,e12_20,e13_20,e14_20,e15_20,e16_20,e17_20,e18_20,e19_20,-⟩;simp [go_sem,e1_18,e2_18,e3_18,e4_18,e5_18,e6_18,e7_18,e8_18,e9_18,e10_18,e11_18,e12_18,e13_18,e14_18,e15_18,e16_18,e17_18] at e1_20 e2_20 e3_20 e4_20 e5_20 e6_20 e7_20 e8_20 e9_20 e10_20 e11_20 e12_20 e13_20 e14_20 e15_20 e16_20 e17_20 e18_20 e19_20
 clear e1_18 e2_18 e3_18 e4_18 e5_18 e6_18 e7_18 e8_18 e9_18 e10_18 e11_18 e12_18 e13_18 e14_18 e15_18 e16_18 e17_18;refine sRg fun K' gd hK => ?_;refine cu3 fun K1 hK1 => ?_;go_simp;refine Wcall (.inl rfl) (Wider_c exT 2 0 4 _ _ (hT.ext xs).tourV exFit (fun _ => by decide)) ?_;rintro v w11 ⟨hv,hE⟩;rw [ex_wide.1,ex_wide.2] at hv;subst hv;go_simp;refine hK1 _ _ ?_;clear hK1 K1;replace xw := xw.trans hE;replace xs := xs.trans hE;replace xm := xm.trans hE;replace x9 := x9.trans hE;replace x12 := x12.trans hE;replace x14 := x14.trans hE;replace c1_0 := hE.cell c1_0;replace c1_1 := hE.cell c1_1;replace c1_2 := hE.cell c1_2;replace c2_0 := hE.cell c2_0;replace c2_1 := hE.cell c2_1;replace c2_2 := hE.cell c2_2;replace c6_0 := hE.cell c6_0;replace c6_1 := hE.cell c6_1;clear hE;go_simp;refine hK _ _ ?_;clear hK K' gd;refine Wp.keep [1,2,3,4,5,6,7,8,9,10,11,12,13,14,15,16,17,18,19,20,21] ?_;rintro r22 ⟨e1_22,e2_22,e3_22,e4_22,e5_22,e6_22,e7_22,e8_22,e9_22,e10_22,e11_22,e12_22,e13_22,e14_22,e15_22,e16_22,e17_22,e18_22,e19_22,e20_22,e21_22,-⟩;simp [go_sem,e1_20,e2_20,e3_20,e4_20,e5_20,e6_20,e7_20,e8_20,e9_20,e10_20,e11_20,e12_20,e13_20,e14_20,e15_20,e16_20,e17_20,e18_20,e19_20] at e1_22 e2_22 e3_22 e4_22 e5_22 e6_22 e7_22 e8_22 e9_22 e10_22 e11_22 e12_22 e13_22 e14_22 e15_22 e16_22 e17_22 e18_22 e19_22 e20_22 e21_22
 clear e1_20 e2_20 e3_20 e4_20 e5_20 e6_20 e7_20 e8_20 e9_20 e10_20 e11_20 e12_20 e13_20 e14_20 e15_20 e16_20 e17_20 e18_20 e19_20;refine sRg fun K' gd hK => ?_;refine cu3 fun K1 hK1 => ?_;go_simp;refine hK1 _ _ ?_;clear hK1 K1;refine Wops.absT fun V79_10 n79 hV79_10 R79 => ?_;obtain ⟨q79,hV79_10,s79,kV79_10,f79,r79⟩ := hV79_10;try simp only [q79] at kV79_10 f79 r79 ⊢
 replace R79 := (show RowC _ _ _ _ from R79);replace xw := xw.trans hV79_10;replace xs := xs.trans hV79_10;replace xm := xm.trans hV79_10;replace x9 := x9.trans hV79_10;replace x12 := x12.trans hV79_10;replace x14 := x14.trans hV79_10;replace c2_0 := hV79_10.cell c2_0;replace c2_1 := hV79_10.cell c2_1;replace c6_0 := hV79_10.cell c6_0;replace c6_1 := hV79_10.cell c6_1;clear hV79_10 f79;clear kV79_10;refine cu2 fun K1 hK1 => ?_;go_simp;refine hK1 _ _ ?_;clear hK1 K1;refine Wops.absT fun V81_11 n81 hV81_11 R81 => ?_;obtain ⟨q81,hV81_11,s81,kV81_11,f81,r81⟩ := hV81_11;try simp only [q81] at kV81_11 f81 r81 ⊢
 replace R81 := (show RowC _ _ _ _ from R81);replace R79 := R79.ext hV81_11;replace xw := xw.trans hV81_11;replace xs := xs.trans hV81_11;replace xm := xm.trans hV81_11;replace x9 := x9.trans hV81_11;replace x12 := x12.trans hV81_11;replace x14 := x14.trans hV81_11;replace c2_0 := hV81_11.cell c2_0;replace c2_1 := hV81_11.cell c2_1;replace c6_0 := hV81_11.cell c6_0;replace c6_1 := hV81_11.cell c6_1;clear hV81_11 f81;clear kV81_11;refine cu1 fun K1 hK1 => ?_;go_simp;refine Wcall (.inl rfl) (Spread_c exT exM [⟨8,1,[1,2,3]⟩] _ _ _ _ (hT.ext xs).tourV ⟨_,_,by rw [ex_mt],(hIm.ext xm).ints,(hZm.ext xm).rowsV⟩ (taker_one R81 (rowC_ints R79 rfl rfl)) exFit (fun _ => by decide) (by intro x hx;rw [List.mem_singleton] at hx;subst hx;decide)) ?_;rintro v w12 ⟨⟨tv,hv,hT22⟩,hE⟩;rw [ex_spread.1] at hv;subst hv;rw [ex_spread.2] at hT22;have x22 := Ext.refl w12;go_simp;refine hK1 _ _ ?_;clear hK1 K1;replace xw := xw.trans hE;replace xs := xs.trans hE;replace xm := xm.trans hE;replace x9 := x9.trans hE;replace x12 := x12.trans hE;replace x14 := x14.trans hE;replace c2_0 := hE.cell c2_0;replace c2_1 := hE.cell c2_1;replace c6_0 := hE.cell c6_0;replace c6_1 := hE.cell c6_1;clear hE;go_simp;refine hK _ _ ?_;clear hK K' gd;refine Wp.keep [2,3,4,5,6,7,8,9,10,11,12,13,14,15,16,17,18,19,20,21,22,23] fun r24 hkeep => ?_
 obtain ⟨e2_24,e3_24,e4_24,e5_24,e6_24,e7_24,e8_24,e9_24,e10_24,e11_24,e12_24,e13_24,e14_24,e15_24,e16_24,e17_24,e18_24,e19_24,e20_24,e21_24,e22_24,e23_24,-⟩ := hkeep;simp [go_sem,e1_22,e2_22,e3_22,e4_22,e5_22,e6_22,e7_22,e8_22,e9_22,e10_22,e11_22,e12_22,e13_22,e14_22,e15_22,e16_22,e17_22,e18_22,e19_22,e20_22,e21_22] at e2_24 e3_24 e4_24 e5_24 e6_24 e7_24 e8_24 e9_24 e10_24 e11_24 e12_24 e13_24 e14_24 e15_24 e16_24 e17_24 e18_24 e19_24 e20_24 e21_24 e22_24 e23_24;clear e1_22 e2_22 e3_22 e4_22 e5_22 e6_22 e7_22 e8_22 e9_22 e10_22 e11_22 e12_22 e13_22 e14_22 e15_22 e16_22 e17_22 e18_22 e19_22 e20_22 e21_22;refine Wp.seq ?_;refine sRh fun K' gd hK hg => ?_;have g2 : gd 2 = some 87 := hg 2;have g6 : gd 6 = some 91 := hg 6;have g10 : gd 10 = some 95 := hg 10;have g14 : gd 14 = some 99 := hg 14;have g18 : gd 18 = some 103 := hg 18;have g22 : gd 22 = some 107 := hg 22;have g26 : gd 26 = some 111 := hg 26;have g30 : gd 30 = some 115 := hg 30;have g34 : gd 34 = some 119 := hg 34;clear hg;go_simp;refine hK _ _ ?_;clear hK K' gd g2 g6 g10 g14 g18 g22 g26 g30 g34;refine Wp.keep [2,4,6,7,9,10,12,14,16,18,20,22,122] ?_;rintro r25 ⟨e2_25,e4_25,e6_25,e7_25,e9_25,e10_25,e12_25,e14_25,e16_25,e18_25,e20_25,e22_25,e122_25,-⟩;simp [go_sem,e2_24,e3_24,e4_24,e5_24,e6_24,e7_24,e8_24,e9_24,e10_24,e11_24,e12_24,e13_24,e14_24,e15_24,e16_24,e17_24,e18_24,e19_24,e20_24,e21_24,e22_24,e23_24] at e2_25 e4_25 e6_25 e7_25 e9_25 e10_25 e12_25 e14_25 e16_25 e18_25 e20_25 e22_25 e122_25
 clear e2_24 e3_24 e4_24 e5_24 e6_24 e7_24 e8_24 e9_24 e10_24 e11_24 e12_24 e13_24 e14_24 e15_24 e16_24 e17_24 e18_24 e19_24 e20_24 e21_24 e22_24 e23_24;refine cFf ?_;refine skN ?_;refine sRg fun K' gd hK => ?_;refine cu1 fun K1 hK1 => ?_;go_simp;refine hK1 _ _ ?_;clear hK1 K1;refine Wops.absT fun V123_13 n123 hV123_13 R123 => ?_;obtain ⟨q123,hV123_13,s123,kV123_13,f123,r123⟩ := hV123_13;try simp only [q123] at kV123_13 f123 r123 ⊢
 replace R123 := (show RowC _ _ _ _ from R123);replace xw := xw.trans hV123_13;replace xs := xs.trans hV123_13;replace xm := xm.trans hV123_13;replace x9 := x9.trans hV123_13;replace x12 := x12.trans hV123_13;replace x14 := x14.trans hV123_13;replace x22 := x22.trans hV123_13;replace c2_0 := hV123_13.cell c2_0;replace c2_1 := hV123_13.cell c2_1;replace c6_0 := hV123_13.cell c6_0;replace c6_1 := hV123_13.cell c6_1;clear hV123_13 f123;clear kV123_13;go_simp;refine hK _ _ ?_;clear hK K' gd;refine Wp.keep [2,4,6,7,9,10,12,14,16,18,20,22,24] ?_;rintro r26 ⟨e2_26,e4_26,e6_26,e7_26,e9_26,e10_26,e12_26,e14_26,e16_26,e18_26,e20_26,e22_26,e24_26,-⟩;simp [go_sem,e2_25,e4_25,e6_25,e7_25,e9_25,e10_25,e12_25,e14_25,e16_25,e18_25,e20_25,e22_25,e122_25] at e2_26 e4_26 e6_26 e7_26 e9_26 e10_26 e12_26 e14_26 e16_26 e18_26 e20_26 e22_26 e24_26;clear e2_25 e4_25 e6_25 e7_25 e9_25 e10_25 e12_25 e14_25 e16_25 e18_25 e20_25 e22_25 e122_25;refine sRh fun K' gd hK hg => ?_;have g4 : gd 4 = some 128 := hg 4;have g9 : gd 9 = some 133 := hg 9;have g14 : gd 14 = some 138 := hg 14;have g19 : gd 19 = some 143 := hg 19;have g25 : gd 25 = some 149 := hg 25;clear hg;refine cu3 fun K1 hK1 => ?_;go_simp;refine hK1 _ _ ?_;clear hK1 K1;refine Wops.absT fun V126_14 n126 hV126_14 R126 => ?_
 obtain ⟨q126,hV126_14,s126,kV126_14,f126,r126⟩ := hV126_14;try simp only [q126] at kV126_14 f126 r126 ⊢
 replace R126 := (show RowC _ _ _ _ from R126);replace R123 := R123.ext hV126_14;replace xw := xw.trans hV126_14;replace xs := xs.trans hV126_14;replace xm := xm.trans hV126_14;replace x9 := x9.trans hV126_14;replace x12 := x12.trans hV126_14;replace x14 := x14.trans hV126_14;replace x22 := x22.trans hV126_14;replace c2_0 := hV126_14.cell c2_0;replace c2_1 := hV126_14.cell c2_1;replace c6_0 := hV126_14.cell c6_0;replace c6_1 := hV126_14.cell c6_1;clear hV126_14 f126;clear kV126_14;refine cu1 fun K1 hK1 => ?_;go_simp;refine Wcall (.inl rfl) (sameI_T ex_on _ (hIm.ext xm).ints (rowC_ints R126 rfl rfl) (by rw [ex_on];decide)) ?_;rintro v w13 ⟨rfl,hE⟩;go_simp;refine hK1 _ _ ?_;clear hK1 K1;replace R123 := R123.ext hE;replace xw := xw.trans hE;replace xs := xs.trans hE;replace xm := xm.trans hE;replace x9 := x9.trans hE;replace x12 := x12.trans hE;replace x14 := x14.trans hE;replace x22 := x22.trans hE;replace c2_0 := hE.cell c2_0;replace c2_1 := hE.cell c2_1;replace c6_0 := hE.cell c6_0;replace c6_1 := hE.cell c6_1;clear hE;refine cu4 fun K1 hK1 => ?_;go_simp;refine Wcall (.inl rfl) (sameI_T rfl _ (hI9.ext x9).ints (rowC_ints R123 rfl rfl) (by decide)) ?_;rintro v w14 ⟨rfl,hE⟩;go_simp;refine hK1 _ _ ?_
 clear hK1 K1;replace R123 := R123.ext hE;replace xw := xw.trans hE;replace xs := xs.trans hE;replace xm := xm.trans hE;replace x9 := x9.trans hE;replace x12 := x12.trans hE;replace x14 := x14.trans hE;replace x22 := x22.trans hE;replace c2_0 := hE.cell c2_0;replace c2_1 := hE.cell c2_1;replace c6_0 := hE.cell c6_0;replace c6_1 := hE.cell c6_1;clear hE;refine cu5 fun K1 hK1 => ?_;go_simp;refine Wcall (.inl rfl) (sameI_T rfl _ (hI10.ext x9).ints (rowC_ints R123 rfl rfl) (by decide)) ?_;rintro v w15 ⟨rfl,hE⟩;go_simp;refine hK1 _ _ ?_;clear hK1 K1;replace xw := xw.trans hE;replace xs := xs.trans hE;replace xm := xm.trans hE;replace x12 := x12.trans hE;replace x14 := x14.trans hE;replace x22 := x22.trans hE;replace c2_0 := hE.cell c2_0;replace c2_1 := hE.cell c2_1;replace c6_0 := hE.cell c6_0;replace c6_1 := hE.cell c6_1;clear hE;refine cu4 fun K1 hK1 => ?_;go_simp;refine hK1 _ _ ?_;clear hK1 K1;refine Wops.absT fun V140_15 n140 hV140_15 R140 => ?_;obtain ⟨q140,hV140_15,s140,kV140_15,f140,r140⟩ := hV140_15;try simp only [q140] at kV140_15 f140 r140 ⊢
 replace R140 := (show RowC _ _ _ _ from R140);replace xw := xw.trans hV140_15;replace xs := xs.trans hV140_15;replace xm := xm.trans hV140_15;replace x12 := x12.trans hV140_15;replace x14 := x14.trans hV140_15;replace x22 := x22.trans hV140_15;replace c2_0 := hV140_15.cell c2_0;replace c2_1 := hV140_15.cell c2_1;replace c6_0 := hV140_15.cell c6_0;replace c6_1 := hV140_15.cell c6_1;clear hV140_15 f140;clear kV140_15;refine cu1 fun K1 hK1 => ?_;go_simp;refine Wcall (.inl rfl) (sameI_T rfl _ (hI12.ext x12).ints (rowC_ints R140 rfl rfl) (by decide)) ?_;rintro v w16 ⟨rfl,hE⟩;go_simp;refine hK1 _ _ ?_;clear hK1 K1;replace xw := xw.trans hE;replace xs := xs.trans hE;replace xm := xm.trans hE;replace x14 := x14.trans hE;replace x22 := x22.trans hE;replace c2_0 := hE.cell c2_0;replace c2_1 := hE.cell c2_1;replace c6_0 := hE.cell c6_0;replace c6_1 := hE.cell c6_1;clear hE;refine cu6 fun K1 hK1 => ?_;go_simp;refine Wcall (.inl rfl) (sameI_T ex_on.symm _ (hI14.ext x14).ints (hIm.ext xm).ints (by decide)) ?_;rintro v w17 ⟨rfl,hE⟩;go_simp;refine hK1 _ _ ?_;clear hK1 K1;replace xw := xw.trans hE;replace xs := xs.trans hE;replace xm := xm.trans hE;replace x22 := x22.trans hE
 replace c2_1 := hE.cell c2_1;replace c6_0 := hE.cell c6_0;replace c6_1 := hE.cell c6_1;clear hE;refine cu4 fun K1 hK1 => ?_;go_simp;refine hK1 _ _ ?_;clear hK1 K1;refine Wops.absT fun V151_16 n151 hV151_16 R151 => ?_;obtain ⟨q151,hV151_16,s151,kV151_16,f151,r151⟩ := hV151_16;try simp only [q151] at kV151_16 f151 r151 ⊢
 replace R151 := (show RowC _ _ _ _ from R151);replace xw := xw.trans hV151_16;replace xs := xs.trans hV151_16;replace xm := xm.trans hV151_16;replace x22 := x22.trans hV151_16;replace c2_1 := hV151_16.cell c2_1;replace c6_0 := hV151_16.cell c6_0;replace c6_1 := hV151_16.cell c6_1;clear hV151_16 f151;clear kV151_16;refine cu1 fun K1 hK1 => ?_;go_simp;refine hK1 _ _ ?_;clear hK1 K1;refine Wops.absT fun V152_17 n152 hV152_17 R152 => ?_;obtain ⟨q152,hV152_17,s152,kV152_17,f152,r152⟩ := hV152_17;try simp only [q152] at kV152_17 f152 r152 ⊢
 replace R152 := (show RowC _ _ _ _ from R152);replace R151 := R151.ext hV152_17;replace xw := xw.trans hV152_17;replace xs := xs.trans hV152_17;replace xm := xm.trans hV152_17;replace x22 := x22.trans hV152_17;replace c2_1 := hV152_17.cell c2_1;replace c6_0 := hV152_17.cell c6_0;replace c6_1 := hV152_17.cell c6_1;clear hV152_17 f152;clear kV152_17;refine cu1 fun K1 hK1 => ?_;go_simp;refine Wcall (.inl rfl) (sameLi_T rfl _ (hT22.ext x22).listsV (list_one R152 (rowC_ints R151 rfl rfl)) (by decide) (by decide)) ?_;rintro v w18 ⟨rfl,hE⟩;go_simp;refine hK1 _ _ ?_;clear hK1 K1;replace xw := xw.trans hE;replace xs := xs.trans hE;replace xm := xm.trans hE;replace c2_1 := hE.cell c2_1;replace c6_0 := hE.cell c6_0;replace c6_1 := hE.cell c6_1;clear hE;go_simp;refine hK _ _ ?_;clear hK K' gd g4 g9 g14 g19 g25;refine Wp.keep [2,4,6,7,16,18,20,25] ?_;rintro r33 ⟨e2_33,e4_33,e6_33,e7_33,e16_33,e18_33,e20_33,e25_33,-⟩;simp [go_sem,e2_26,e4_26,e6_26,e7_26,e9_26,e10_26,e12_26,e14_26,e16_26,e18_26,e20_26,e22_26,e24_26] at e2_33 e4_33 e6_33 e7_33 e16_33 e18_33 e20_33 e25_33;clear e2_26 e4_26 e6_26 e7_26 e9_26 e10_26 e12_26 e14_26 e16_26 e18_26 e20_26 e22_26 e24_26;refine sRh fun K' gd hK hg => ?_;have g1 : gd 1 = some 156 := hg 1
 have g6 : gd 6 = some 161 := hg 6;have g10 : gd 10 = some 165 := hg 10;have g13 : gd 13 = some 168 := hg 13;have g18 : gd 18 = some 173 := hg 18;have g22 : gd 22 = some 177 := hg 22;have g26 : gd 26 = some 181 := hg 26;clear hg;go_simp;refine hK _ _ ?_;clear hK K' gd g1 g6 g10 g13 g18 g22 g26;refine Wp.keep [0] ?_;rintro r34 ⟨e0_34,-⟩;simp [go_sem,e2_33,e4_33,e6_33,e7_33,e16_33,e18_33,e20_33,e25_33] at e0_34;clear e2_33 e4_33 e6_33 e7_33 e16_33 e18_33 e20_33 e25_33;refine Wp.ret ?_;refine endK_tmp Tryz.results28 (by decide) ?_;rw [e0_34];exact ⟨by first | rfl | go_simp,xw⟩
theorem few_len {t : Tr} (hf : fewT t) (h0 : checkT t = 0) : t.fl.length ≤ 12 := by
 have := (checkT_zero.1 h0).fl;have := hf.2;omega
theorem few_fit {t : Tr} (hf : fewT t) : FitT t := ⟨by have := hf.1;omega,by have := hf.2;omega⟩
end Go.Proofs.YtnklbepeoicgpaaGreat
namespace Go.Proofs.YtnklbepeoicgpaaGreat
theorem cntN_le_one {h : Nat → Int} {j : Int} : ∀ {n : Nat},(∀ d e,d < n → e < n → h d = j → h e = j → d = e) → cntN h j n ≤ 1
 | 0,_ => by show (0 : Int) ≤ 1;decide
 | n + 1,q => by
   rw [cntN_S]
   by_cases e : h n = j
   ·rw [if_pos e,cntN_of_zero fun d hd hj => by have := q d n (by omega) (by omega) hj e;omega];decide
   ·rw [if_neg e,Int.add_zero];exact cntN_le_one fun d e hd he => q d e (by omega) (by omega)
section
variable {N N' : Int → List Nat} {n m m' i d : Nat} {W W' : Int → Int} {v v' : Int} {g p : Nat → Int}
theorem OkP.inj (h : OkP N n m g) {d e : Nat} (hd : d < n) (he : e < n) (h0 : 0 ≤ g d) (q : g d = g e) : d = e := by
 obtain ⟨j,hj⟩ : ∃ j : Nat,g d = (j : Int) := ⟨(g d).toNat,by omega⟩;exact cntN_two (h.one j) hd he hj (by omega)
theorem OkP.of (lt : ∀ d,-1 ≤ p d ∧ p d < m) (day : ∀ d,d < n → 0 ≤ p d → d ∈ N (p d)) (inj : ∀ d e,d < n → e < n → 0 ≤ p d → p d = p e → d = e) : OkP N n m p :=
 ⟨lt,day,fun j => cntN_le_one fun d e hd he h1 h2 => inj d e hd he (by omega) (by omega)⟩
theorem OkP.sub (h : OkP N n m g) (hN : ∀ d,d < n → 0 ≤ g d → d ∈ N (g d) → d ∈ N' (g d)) : OkP N' n m g := ⟨h.lt,fun d hd h0 => hN d hd h0 (h.day d hd h0),h.one⟩
theorem OkP.at' (h : OkP N n m g) {d : Nat} (h0 : 0 ≤ g d) : ∃ j : Nat,g d = (j : Int) ∧ j < m := ⟨(g d).toNat,by omega,by have := (h.lt d).2;omega⟩
theorem worth_eq (n : Nat) (h : ∀ d,d < n → (0 ≤ g d ↔ 0 ≤ p d) ∧ (0 ≤ g d → W (g d) = W' (p d))) : worthW W g n = worthW W' p n := sumN_eq n fun d hd => by
 obtain ⟨h1,h2⟩ := h d hd
 by_cases h0 : 0 ≤ g d
 ·rw [if_pos h0,if_pos (h1.1 h0),h2 h0]
 ·rw [if_neg h0,if_neg fun q => h0 (h1.2 q)]
theorem worth_W (n : Nat) (h : ∀ d,d < n → 0 ≤ g d → W (g d) ≤ W' (g d)) : worthW W g n ≤ worthW W' g n := sumN_le n fun d hd => by
 by_cases h0 : 0 ≤ g d
 ·rw [if_pos h0,if_pos h0];exact h d hd h0
 ·rw [if_neg h0,if_neg h0];exact Int.le_refl _
theorem worth_no : ∀ n,worthW W noPlan n = 0
 | 0 => rfl
 | n + 1 => by show worthW W noPlan n + _ = 0;rw [worth_no n];rfl
theorem worth_upd {x : Int} : ∀ {n : Nat},d < n → worthW W (updI g d x) n = worthW W g n - (if 0 ≤ g d then W (g d) else 0) + if 0 ≤ x then W x else 0
 | 0,hd => absurd hd (Nat.not_lt_zero _)
 | n + 1,hd => by
   show worthW W (updI g d x) n + (if 0 ≤ updI g d x n then W (updI g d x n) else 0) = worthW W g n + (if 0 ≤ g n then W (g n) else 0) - _ + _
   by_cases e : n = d
   ·subst e;have : worthW W (updI g n x) n = worthW W g n := sumN_eq n fun d hd => by have e : updI g n x d = g d := if_neg (show ¬ d = n by omega);rw [e]
    rw [this];have e : updI g n x n = x := if_pos rfl;rw [e];omega
   ·rw [worth_upd (n := n) (by omega)];have e : updI g d x n = g n := if_neg e;rw [e];omega
structure IsOpt (N : Int → List Nat) (n m : Nat) (W : Int → Int) (v : Int) : Prop where
 ex : ∃ h,OkP N n m h ∧ worthW W h n = v
 le : ∀ g,OkP N n m g → worthW W g n ≤ v
theorem IsOpt.eq (h : IsOpt N n m W v) (h' : IsOpt N n m W v') : v = v' := by
 obtain ⟨g,g1,g2⟩ := h.ex;obtain ⟨k,k1,k2⟩ := h'.ex;have := h.le k k1;have := h'.le g g1;omega
theorem IsOpt.pos (h : IsOpt N n m W v) : 0 ≤ v := by
 have := h.le noPlan noPlan_ok
 rwa [worth_no] at this
theorem IsOpt.congr (h : IsOpt N n m W v) (hN : ∀ j : Nat,j < m → ∀ d,d < n → (d ∈ N j ↔ d ∈ N' j)) (hW : ∀ j : Nat,j < m → W j = W' j) : IsOpt N' n m W' v := by
 have e : ∀ g,OkP N n m g → worthW W g n = worthW W' g n := fun g hg => worth_eq n fun d hd => ⟨Iff.rfl,fun h0 => by
  obtain ⟨j,hj,hjm⟩ := hg.at' h0
  rw [hj];exact hW j hjm⟩
 have s : ∀ g,OkP N' n m g → OkP N n m g := fun g hg => hg.sub fun d hd h0 hm => by
  obtain ⟨j,hj,hjm⟩ := hg.at' h0;rw [hj] at hm ⊢;exact (hN j hjm d hd).2 hm
 obtain ⟨g,g1,g2⟩ := h.ex
 exact ⟨⟨g,g1.sub fun d hd h0 hm => by
  obtain ⟨j,hj,hjm⟩ := g1.at' h0
  rw [hj] at hm ⊢;exact (hN j hjm d hd).1 hm,by rw [← e g g1];exact g2⟩,fun k hk => by rw [← e k (s k hk)];exact h.le k (s k hk)⟩
theorem IsOpt.mono (h : IsOpt N n m W v) (h' : IsOpt N' n m W' v') (hN : ∀ j : Nat,j < m → ∀ d,d < n → d ∈ N j → d ∈ N' j) (hW : ∀ j : Nat,j < m → W j ≤ W' j) : v ≤ v' := by
 obtain ⟨g,g1,g2⟩ := h.ex
 have q := h'.le g (g1.sub fun d hd h0 hm => by
  obtain ⟨j,hj,hjm⟩ := g1.at' h0
  rw [hj] at hm ⊢;exact hN j hjm d hd hm)
 have := worth_W (W := W) (W' := W') (g := g) n fun d hd h0 => by
  obtain ⟨j,hj,hjm⟩ := g1.at' h0;rw [hj];exact hW j hjm
 omega
theorem IsOpt.emb {f : Nat → Nat} (finj : ∀ a b,a < m' → b < m' → f a = f b → a = b) (flt : ∀ a,a < m' → f a < m) (fN : ∀ a : Nat,a < m' → ∀ d,d < n → (d ∈ N' a ↔ d ∈ N (f a : Nat))) (fW : ∀ a : Nat,a < m' → W' a = W (f a : Nat))
  (hout : ∀ j : Nat,j < m → (∀ a,a < m' → f a ≠ j) → N j = []) (h : IsOpt N' n m' W' v) : IsOpt N n m W v := by
 refine ⟨?_,fun g hg => ?_⟩
 ·obtain ⟨g,g1,g2⟩ := h.ex
  let p : Nat → Int := fun d => if 0 ≤ g d then (f (g d).toNat : Nat) else -1
  have key : ∀ d,0 ≤ g d → ∃ a : Nat,g d = (a : Int) ∧ a < m' ∧ p d = (f a : Nat) := fun d h0 => by
   obtain ⟨a,ha,ham⟩ := g1.at' h0;refine ⟨a,ha,ham,?_⟩
   show (if 0 ≤ g d then ((f (g d).toNat : Nat) : Int) else -1) = _
   rw [if_pos h0,ha,Int.toNat_natCast]
  have no : ∀ d,¬ 0 ≤ g d → p d = -1 := fun d h0 => if_neg h0
  have bk : ∀ d,0 ≤ p d → 0 ≤ g d := fun d h => by
   by_cases h0 : 0 ≤ g d
   ·exact h0
   ·have := no d h0;omega
  refine ⟨p,OkP.of (fun d => ?_) (fun d hd h0 => ?_) (fun d e hd he h0 q => ?_),?_⟩
  ·by_cases h0 : 0 ≤ g d
   ·obtain ⟨a,-,ham,e⟩ := key d h0;have := flt a ham;omega
   ·have := no d h0;omega
  ·obtain ⟨a,ea,ham,e⟩ := key d (bk d h0);rw [e];have := g1.day d hd (bk d h0);rw [ea] at this;exact (fN a ham d hd).1 this
  ·obtain ⟨a,ea,ham,e1⟩ := key d (bk d h0);obtain ⟨b,eb,hbm,e2⟩ := key e (bk e (by omega));have := finj a b ham hbm (by omega);subst this;exact g1.inj hd he (by omega) (by omega)
  ·rw [← g2];refine (worth_eq n fun d hd => ⟨⟨fun h0 => ?_,bk d⟩,fun h0 => ?_⟩).symm
   ·obtain ⟨a,-,-,e⟩ := key d h0;omega
   ·obtain ⟨a,ea,ham,e⟩ := key d h0;rw [ea,e];exact fW a ham
 ·have ch : ∀ d : Nat,∃ x : Int,(d < n ∧ 0 ≤ g d ∧ ∃ a : Nat,a < m' ∧ x = a ∧ g d = (f a : Nat)) ∨ (¬ (d < n ∧ 0 ≤ g d) ∧ x = -1) := fun d => by
   by_cases h0 : d < n ∧ 0 ≤ g d
   ·obtain ⟨j,hj,hjm⟩ := hg.at' h0.2
    by_cases hex : ∃ a,a < m' ∧ f a = j
    ·obtain ⟨a,ha,rfl⟩ := hex;exact ⟨a,.inl ⟨h0.1,h0.2,a,ha,rfl,hj⟩⟩
    ·exfalso
     have := hg.day d h0.1 h0.2;rw [hj,hout j hjm fun a ha e => hex ⟨a,ha,e⟩] at this
     cases this
   ·exact ⟨-1,.inr ⟨h0,rfl⟩⟩
  obtain ⟨p,hp⟩ := Classical.axiomOfChoice ch
  have q := h.le p (OkP.of (fun d => by
   rcases hp d with ⟨-,-,a,ha,e,-⟩ | ⟨-,e⟩ <;> omega) (fun d hd h0 => by
   rcases hp d with ⟨-,h1,a,ha,e,e2⟩ | ⟨-,e⟩
   ·rw [e];have := hg.day d hd h1;rw [e2] at this;exact (fN a ha d hd).2 this
   ·omega) (fun d e hd he h0 q => by
   rcases hp d with ⟨-,h1,a,ha,e1,e2⟩ | ⟨-,e1⟩
   ·rcases hp e with ⟨-,h1',b,hb,e1',e2'⟩ | ⟨-,e1'⟩
    ·obtain rfl : a = b := by omega
     exact hg.inj hd he h1 (by omega)
    ·omega
   ·omega))
  have e : worthW W g n = worthW W' p n := worth_eq n fun d hd => by
   rcases hp d with ⟨-,h1,a,ha,e1,e2⟩ | ⟨h1,e1⟩
   ·refine ⟨⟨fun _ => by omega,fun _ => h1⟩,fun _ => ?_⟩;rw [e1,e2];exact (fW a ha).symm
   ·exact ⟨⟨fun h0 => absurd ⟨hd,h0⟩ h1,fun h0 => by omega⟩,fun h0 => absurd ⟨hd,h0⟩ h1⟩
  omega
def shutN (N : Int → List Nat) (d : Nat) : Int → List Nat := fun j => (N j).filter fun e => !decide (e = d)
def dropN (N : Int → List Nat) (i : Int) : Int → List Nat := fun j => if j = i then [] else N j
theorem shutN_mem {N : Int → List Nat} {d e : Nat} {j : Int} : e ∈ shutN N d j ↔ e ∈ N j ∧ e ≠ d := by unfold shutN;rw [List.mem_filter];simp
theorem dropN_mem {N : Int → List Nat} {i j : Int} {e : Nat} : e ∈ dropN N i j ↔ j ≠ i ∧ e ∈ N j := by
 unfold dropN
 by_cases q : j = i
 ·rw [if_pos q];simp [q]
 ·rw [if_neg q];simp [q]
theorem updI_cases (g : Nat → Int) (d : Nat) (x : Int) (e : Nat) : (e = d ∧ updI g d x e = x) ∨ (e ≠ d ∧ updI g d x e = g e) := by
 by_cases q : e = d
 ·exact .inl ⟨q,if_pos q⟩
 ·exact .inr ⟨q,if_neg q⟩
theorem OkP.free (h : OkP N n m g) (d : Nat) : OkP (shutN N d) n m (updI g d (-1)) := by
 refine OkP.of (fun e => ?_) (fun e he h0 => ?_) (fun e k he hk h0 q => ?_)
 ·rcases updI_cases g d (-1) e with ⟨-,e1⟩ | ⟨-,e1⟩ <;> rw [e1]
  ·omega
  ·exact h.lt e
 ·rcases updI_cases g d (-1) e with ⟨-,e1⟩ | ⟨ne,e1⟩ <;> rw [e1] at h0 ⊢
  ·omega
  ·exact shutN_mem.2 ⟨h.day e he h0,ne⟩
 ·rcases updI_cases g d (-1) e with ⟨-,e1⟩ | ⟨ne,e1⟩ <;> rw [e1] at h0 q
  ·omega
  ·rcases updI_cases g d (-1) k with ⟨-,e2⟩ | ⟨nk,e2⟩ <;> rw [e2] at q
   ·omega
   ·exact h.inj he hk h0 q
theorem IsOpt.drop (h : IsOpt N n m W v) (h' : IsOpt (dropN N i) n m W v') : v' ≤ v ∧ (v' < v ↔ ∀ g,OkP N n m g → worthW W g n = v → cntN g i n ≠ 0) := by
 have hle : v' ≤ v := h'.mono h (fun j _ e _ hm => (dropN_mem.1 hm).2) fun _ _ => Int.le_refl _;refine ⟨hle,fun hlt g hg e hz => ?_,fun hall => ?_⟩
 ·have := h'.le g (hg.sub fun d hd h0 hm => dropN_mem.2 ⟨cntN_zero hz d hd,hm⟩);omega
 ·obtain ⟨g,g1,g2⟩ := h'.ex;have ok : OkP N n m g := g1.sub fun d _ _ hm => (dropN_mem.1 hm).2
  by_cases e : v' = v
  ·exact absurd (cntN_of_zero fun d hd q => by
    have := g1.day d hd (by omega)
    exact (dropN_mem.1 this).1 q) (hall g ok (by omega))
  ·omega
theorem IsOpt.split {N1 N2 : Int → List Nat} {v1 v2 : Int} (h : IsOpt N n m W v) (h1 : IsOpt N1 n m W v1) (h2 : IsOpt N2 n m W v2) (hW : ∀ j : Nat,j < m → 0 ≤ W j)
  (hs : ∀ j : Nat,j < m → (∀ d,d ∈ N j → d ∈ N1 j) ∨ (∀ d,d ∈ N j → d ∈ N2 j)) : v ≤ v1 + v2 := by
 obtain ⟨g,g1,g2⟩ := h.ex
 let P : Nat → Prop := fun d => 0 ≤ g d ∧ ∀ e,e ∈ N (g d) → e ∈ N1 (g d)
 have ch : ∀ d : Nat,∃ x : Int × Int,(P d ∧ x = (g d,-1)) ∨ (¬ P d ∧ x = (-1,g d)) := fun d => by
  by_cases h0 : P d
  ·exact ⟨_,.inl ⟨h0,rfl⟩⟩
  ·exact ⟨_,.inr ⟨h0,rfl⟩⟩
 obtain ⟨p,hp⟩ := Classical.axiomOfChoice ch
 have q1 := h1.le (fun d => (p d).1) (OkP.of (fun d => by
  have := g1.lt d
  rcases hp d with ⟨-,e⟩ | ⟨-,e⟩ <;> rw [e] <;> show -1 ≤ _ ∧ _ <;> dsimp only <;> omega) (fun d hd h0 => by
  rcases hp d with ⟨hP,e⟩ | ⟨-,e⟩ <;> rw [e] at h0 ⊢
  ·exact hP.2 d (g1.day d hd hP.1)
  ·exact absurd h0 (by dsimp only;omega)) (fun d e hd he h0 q => by
  rcases hp d with ⟨hP,e1⟩ | ⟨-,e1⟩ <;> rw [e1] at h0 q
  ·rcases hp e with ⟨hP',e2⟩ | ⟨-,e2⟩ <;> rw [e2] at q
   ·exact g1.inj hd he hP.1 q
   ·have q : g d = -1 := q;have := hP.1;omega
  ·exact absurd h0 (by dsimp only;omega)))
 have q2 := h2.le (fun d => (p d).2) (OkP.of (fun d => by
  have := g1.lt d
  rcases hp d with ⟨-,e⟩ | ⟨-,e⟩ <;> rw [e] <;> show -1 ≤ _ ∧ _ <;> dsimp only <;> omega) (fun d hd h0 => by
  rcases hp d with ⟨-,e⟩ | ⟨hP,e⟩ <;> rw [e] at h0 ⊢
  ·exact absurd h0 (by dsimp only;omega)
  ·have h0 : 0 ≤ g d := h0;obtain ⟨j,hj,hjm⟩ := g1.at' h0;have hd2 := g1.day d hd h0
   show d ∈ N2 (g d)
   rcases hs j hjm with q | q
   ·exact absurd ⟨h0,by rw [hj];exact q⟩ hP
   ·rw [hj] at hd2 ⊢;exact q d hd2) (fun d e hd he h0 q => by
  rcases hp d with ⟨-,e1⟩ | ⟨hP,e1⟩ <;> rw [e1] at h0 q
  ·exact absurd h0 (by dsimp only;omega)
  ·have h0 : 0 ≤ g d := h0
   rcases hp e with ⟨-,e2⟩ | ⟨hP',e2⟩ <;> rw [e2] at q
   ·have q : g d = -1 := q;omega
   ·exact g1.inj hd he h0 q))
 have : worthW W g n ≤ worthW W (fun d => (p d).1) n + worthW W (fun d => (p d).2) n := by
  unfold worthW;rw [← sumN_add];refine sumN_le n fun d hd => ?_
  show (if 0 ≤ g d then W (g d) else 0) ≤ (if 0 ≤ (p d).1 then W (p d).1 else 0) + if 0 ≤ (p d).2 then W (p d).2 else 0
  rcases hp d with ⟨-,e⟩ | ⟨-,e⟩ <;> rw [e] <;> dsimp only
  ·rw [if_neg (show ¬ (0 : Int) ≤ -1 by decide)];omega
  ·rw [if_neg (show ¬ (0 : Int) ≤ -1 by decide)];omega
 omega
end
theorem insQ_perm (lt : Int → Int → Bool) (l : List Int) (x : Int) : (insQ lt l x).Perm (x :: l) := by
 unfold insQ;refine List.perm_middle.trans ?_;rw [List.take_append_drop]
theorem sortQ_perm (lt : Int → Int → Bool) (l : List Int) : (sortQ lt l).Perm l := by
 have key : ∀ (l a : List Int),(l.foldl (insQ lt) a).Perm (a ++ l) := by
  intro l
  induction l with
  | nil => intro a;rw [List.append_nil];exact List.Perm.refl _
  | cons x l ih =>
    intro a;rw [List.foldl_cons];refine (ih _).trans (((insQ_perm lt a x).append_right l).trans ?_);exact List.perm_middle.symm
 have := key l [];exact this
theorem posQ_spec (lt : Int → Int → Bool) (l : List Int) (x : Int) : ∀ k,(∀ j,posQ lt l x k ≤ j → j < k → lt x (gI l j) = true) ∧ (0 < posQ lt l x k → lt x (gI l (posQ lt l x k - 1)) = false)
 | 0 => ⟨fun j _ h => absurd h (Nat.not_lt_zero _),fun h => absurd h (Nat.lt_irrefl _)⟩
 | k + 1 => by
   obtain ⟨h1,h2⟩ := posQ_spec lt l x k
   by_cases h : lt x (gI l k) = true
   ·have e : posQ lt l x (k + 1) = posQ lt l x k := if_pos h;rw [e]
    exact ⟨fun j hj hk => by
     by_cases q : j = k
     ·rw [q];exact h
     ·exact h1 j hj (by omega),h2⟩
   ·have e : posQ lt l x (k + 1) = k + 1 := if_neg h;rw [e];exact ⟨fun j hj hk => by omega,fun _ => by simpa using h⟩
theorem insQ_sorted {lt : Int → Int → Bool} {key : Int → Int} {l : List Int} {x : Int} (hl : l.Pairwise fun a b => key b ≤ key a) (hk : ∀ a ∈ l,lt x a = decide (key a < key x)) : (insQ lt l x).Pairwise fun a b => key b ≤ key a := by
 obtain ⟨h1,h2⟩ := posQ_spec lt l x l.length;have hp := posQ_le lt l x l.length;unfold insQ;have hl' := hl;rw [← List.take_append_drop (posQ lt l x l.length) l,List.pairwise_append] at hl';rw [List.pairwise_append];refine ⟨hl'.1,List.pairwise_cons.2 ⟨fun y hy => ?_,hl'.2.1⟩,fun u hu v hv => ?_⟩
 ·obtain ⟨j,hj,rfl⟩ := List.getElem_of_mem hy;rw [List.length_drop] at hj;rw [List.getElem_drop];have q := h1 (posQ lt l x l.length + j) (by omega) (by omega);rw [gI_lt (by omega),hk _ (List.getElem_mem _),decide_eq_true_iff] at q;omega
 ·rcases List.mem_cons.1 hv with rfl | hv
  ·obtain ⟨j,hj,rfl⟩ := List.getElem_of_mem hu;rw [List.length_take] at hj;rw [List.getElem_take];have q := h2 (by omega);rw [gI_lt (show posQ lt l v l.length - 1 < l.length by omega),hk _ (List.getElem_mem _),decide_eq_false_iff_not] at q
   by_cases e : j = posQ lt l v l.length - 1
   ·subst e;omega
   ·have := List.pairwise_iff_getElem.1 hl j (posQ lt l v l.length - 1) (by omega) (by omega) (by omega);omega
  ·exact hl'.2.2 u hu v hv
theorem sortQ_sorted {lt : Int → Int → Bool} {key : Int → Int} {l : List Int} (hk : ∀ a ∈ l,∀ b ∈ l,lt a b = decide (key b < key a)) : (sortQ lt l).Pairwise fun a b => key b ≤ key a := by
 have go : ∀ (r a : List Int),(∀ x ∈ a,x ∈ l) → (∀ x ∈ r,x ∈ l) → (a.Pairwise fun a b => key b ≤ key a) → (r.foldl (insQ lt) a).Pairwise fun a b => key b ≤ key a := by
  intro r
  induction r with
  | nil => intro a _ _ h;exact h
  | cons x r ih =>
    intro a ha hr h;rw [List.foldl_cons];refine ih _ (fun y hy => ?_) (fun y hy => hr y (List.mem_cons_of_mem _ hy)) (insQ_sorted h fun y hy => hk x (hr x List.mem_cons_self) y (ha y hy))
    rcases (insQ_mem lt a x y).1 hy with rfl | hy
    ·exact hr _ List.mem_cons_self
    ·exact ha y hy
 exact go l [] (fun x hx => absurd hx List.not_mem_nil) (fun x hx => hx) List.Pairwise.nil
theorem rangeI_nodup (n : Nat) : (rangeI n).Nodup := by
 unfold rangeI;rw [List.nodup_iff_pairwise_ne,List.pairwise_map];exact List.nodup_range.imp fun h e => h (by omega)
theorem ordL_nodup (fl : List Fl) : (ordL fl).Nodup := (sortQ_perm _ _).nodup_iff.2 (rangeI_nodup _)
theorem ordL_sorted (fl : List Fl) : (ordL fl).Pairwise fun a b => mAt fl b ≤ mAt fl a := sortQ_sorted fun a ha b hb => by
 obtain ⟨i,rfl,hi⟩ := rangeI_mem.1 ha;obtain ⟨j,rfl,hj⟩ := rangeI_mem.1 hb;rw [ltM_at hi hj,mAt_at hi,mAt_at hj]
theorem worthN_W (fl : List Fl) (h : Nat → Int) : ∀ k,worthN fl h k = worthW (mAt fl) h k
 | 0 => rfl
 | k + 1 => by
   show (if 0 ≤ h k then worthN fl h k + mAt fl (h k) else worthN fl h k) = worthW (mAt fl) h k + (if 0 ≤ h k then mAt fl (h k) else 0)
   rw [worthN_W fl h k]
   split
   ·rfl
   ·rw [Int.add_zero]
theorem mAt_pos {fl : List Fl} (hm : ∀ f ∈ fl,0 ≤ f.m) (x : Int) : 0 ≤ mAt fl x := by
 unfold mAt
 split
 ·rename_i f hf;exact hm f (List.mem_of_getElem? hf)
 ·exact Int.le_refl _
structure OptT (t : Tr) (n : Nat) : Prop where
 sp : ∀ f ∈ t.fl,0 ≤ f.lo ∧ f.hi < n
 mr : ∀ f ∈ t.fl,0 ≤ f.m
theorem OptT.span {t : Tr} {n : Nat} (h : OptT t n) : SpanT t n := ⟨fun k hk => h.sp _ (List.getElem_mem hk)⟩
theorem PlanT.opt {t : Tr} {n : Nat} (h : PlanT t n) : OptT t n := ⟨fun f hf => by
 obtain ⟨k,hk,rfl⟩ := List.getElem_of_mem hf;exact h.sp k hk,fun f hf => by
 obtain ⟨k,hk,rfl⟩ := List.getElem_of_mem hf;exact (h.mr k hk).1⟩
theorem bestF_C {t : Tr} {n : Nat} (h : OptT t n) : PlanC t.N n t.fl.length (fun a b => mAt t.fl b ≤ mAt t.fl a) (ordL t.fl) (bestF t n) :=
 planF_C (trN_lt h.span) (ordL_nodup _) (ordL_sorted _) fun _ hx => ordL_mem.1 hx
theorem meritF_opt {t : Tr} {n : Nat} (h : OptT t n) : IsOpt t.N n t.fl.length (mAt t.fl) (meritF t n) := by
 have hC := bestF_C h;have e : worthW (mAt t.fl) (bestF t n) n = meritF t n := (worthN_W _ _ _).symm;refine ⟨⟨_,hC.ok,e⟩,fun g hg => ?_⟩;rw [← e];refine dual_max (S := fun _ => True) hC.ok hg (fun _ _ _ => .inl trivial) (mAt_pos h.mr) fun i hi _ hz => ?_;obtain ⟨X,h1,h2,h3⟩ := hC.cert i (ordL_mem.2 ⟨i,rfl,hi⟩) hz;exact ⟨X,h1,h2,h3⟩
structure BestP (t : Tr) (n : Nat) (g : Nat → Int) : Prop where
 ok : OkP t.N n t.fl.length g
 w : worthW (mAt t.fl) g n = meritF t n
theorem bestF_best {t : Tr} {n : Nat} (h : OptT t n) : BestP t n (bestF t n) := ⟨(bestF_C h).ok,(worthN_W _ _ _).symm⟩
-- closed days
def nCl (cl : List Int) (fl : List Fl) : Int → List Nat := Tr.N ⟨0,cl,fl⟩
theorem OptT.cl {t : Tr} {n : Nat} (h : OptT t n) (k : Int) (cl : List Int) : OptT ⟨k,cl,t.fl⟩ n := ⟨h.sp,h.mr⟩
theorem OptT.keep {t : Tr} {n : Nat} (h : OptT t n) (k : Int) (cl l : List Int) : OptT ⟨k,cl,keepN l t.fl t.fl.length⟩ n :=
 ⟨fun f hf => h.sp f (keepN_mem hf),fun f hf => h.mr f (keepN_mem hf)⟩
theorem mAt_eq {fl fl' : List Fl} {a b : Nat} (h : fl[a]? = fl'[b]?) : mAt fl (a : Int) = mAt fl' (b : Int) := by unfold mAt;rw [Int.toNat_natCast,Int.toNat_natCast,h]
theorem nCl_eq {cl : List Int} {fl fl' : List Fl} {a b : Nat} (h : fl[a]? = fl'[b]?) : nCl cl fl (a : Int) = nCl cl fl' (b : Int) := by
 unfold nCl Tr.N;dsimp only;rw [Int.toNat_natCast,Int.toNat_natCast,h]
structure OnP (N : Int → List Nat) (n m : Nat) (xs : List Int) (h : Nat → Int) : Prop where
 ok : OkP N n m h
 len : xs.length = m
 on : ∀ i : Nat,i < m → (gI xs i = -1 ∧ cntN h i n = 0) ∨ ∃ d : Nat,d < n ∧ gI xs i = (d : Int) ∧ h d = (i : Int)
section
variable {N : Int → List Nat} {n m : Nat} {xs : List Int} {h : Nat → Int}
theorem OnP.cnt (q : OnP N n m xs h) {i : Nat} (hi : i < m) : cntN h i n = if 0 ≤ gI xs i then 1 else 0 := by
 rcases q.on i hi with ⟨e,hz⟩ | ⟨d,hd,e,e2⟩
 ·rw [e,hz];rfl
 ·rw [if_pos (by omega)];have := cntN_ge hd e2;have := q.ok.one i;omega
theorem OnP.has (q : OnP N n m xs h) {i : Nat} (hi : i < m) : 0 ≤ gI xs i ↔ cntN h i n ≠ 0 := by
 rw [q.cnt hi]
 split
 ·rename_i h0;exact ⟨fun _ => by decide,fun _ => h0⟩
 ·rename_i h0;exact ⟨fun x => absurd x h0,fun x => absurd rfl x⟩
theorem OnP.of_day (q : OnP N n m xs h) {d : Nat} (hd : d < n) {i : Nat} (e : h d = (i : Int)) : i < m ∧ gI xs i = (d : Int) := by
 have hi : i < m := by have := (q.ok.lt d).2;omega
 refine ⟨hi,?_⟩
 rcases q.on i hi with ⟨-,hz⟩ | ⟨d',hd',e',e2⟩
 ·exact absurd e (cntN_zero hz d hd)
 ·rw [e',q.ok.inj hd hd' (by omega) (by omega)]
theorem OnP.to_day (q : OnP N n m xs h) {i : Nat} (hi : i < m) (h0 : 0 ≤ gI xs i) : ∃ d : Nat,d < n ∧ gI xs i = (d : Int) ∧ h d = (i : Int) := by
 rcases q.on i hi with ⟨e,-⟩ | hd
 ·omega
 ·exact hd
theorem OnP.worth (q : OnP N n m xs h) (W : Int → Int) : worthW W h n = sumN (fun j => if 0 ≤ gI xs j then W (j : Int) else 0) m := by
 rw [worth_cnt n fun d _ => (q.ok.lt d).2];refine sumN_eq m fun j hj => ?_;rw [q.cnt hj]
 split
 ·exact Int.one_mul _
 ·exact Int.zero_mul _
end
theorem wrthK_sum {t : Tr} {xs : List Int} : ∀ k,k ≤ t.fl.length → wrthK t xs k = sumN (fun j => if 0 ≤ gI xs j then mAt t.fl (j : Int) else 0) k
 | 0,_ => rfl
 | k + 1,hk => by
   show wrthK t xs k + (if 0 ≤ gI xs k then (match t.fl[k]? with | some f => f.m | none => 0) else 0) = sumN _ k + (if 0 ≤ gI xs k then mAt t.fl (k : Int) else 0)
   rw [wrthK_sum k (by omega),mAt_at (show k < t.fl.length by omega),List.getElem?_eq_getElem (show k < t.fl.length by omega)]
theorem OnP.wrth {t : Tr} {n : Nat} {xs : List Int} {h : Nat → Int} (q : OnP t.N n t.fl.length xs h) : wrthK t xs t.fl.length = worthW (mAt t.fl) h n := by
 rw [wrthK_sum _ (Nat.le_refl _),q.worth]
theorem onN_spec (h : Nat → Int) (i : Nat) : ∀ k,(onN h k i = -1 ∧ ∀ d,d < k → h d ≠ (i : Int)) ∨ ∃ d : Nat,d < k ∧ onN h k i = (d : Int) ∧ h d = (i : Int)
 | 0 => .inl ⟨rfl,fun d hd => absurd hd (Nat.not_lt_zero _)⟩
 | k + 1 => by
   by_cases h0 : 0 ≤ h k
   ·have e : onN h (k + 1) = updF (onN h k) (h k).toNat (k : Int) := if_pos h0;rw [e];unfold updF
    by_cases q : i = (h k).toNat
    ·rw [if_pos q];exact .inr ⟨k,Nat.lt_succ_self _,rfl,by omega⟩
    ·rw [if_neg q]
     rcases onN_spec h i k with ⟨h1,h2⟩ | ⟨d,h1,h2,h3⟩
     ·exact .inl ⟨h1,fun d hd => by
       rcases Nat.lt_or_ge d k with q2 | q2
       ·exact h2 d q2
       ·obtain rfl : d = k := by omega
        omega⟩
     ·exact .inr ⟨d,by omega,h2,h3⟩
   ·have e : onN h (k + 1) = onN h k := if_neg h0;rw [e]
    rcases onN_spec h i k with ⟨h1,h2⟩ | ⟨d,h1,h2,h3⟩
    ·exact .inl ⟨h1,fun d hd => by
      rcases Nat.lt_or_ge d k with q2 | q2
      ·exact h2 d q2
      ·obtain rfl : d = k := by omega
       omega⟩
    ·exact .inr ⟨d,by omega,h2,h3⟩
theorem onL_on {N : Int → List Nat} {n m : Nat} {h : Nat → Int} (hh : OkP N n m h) : OnP N n m (onL h n m) h :=
 ⟨hh,onL_len,fun i hi => by
  rw [onL_at hi]
  rcases onN_spec h i n with ⟨h1,h2⟩ | h1
  ·exact .inl ⟨h1,cntN_of_zero h2⟩
  ·exact .inr h1⟩
theorem wrong_plan {t : Tr} {n : Nat} {xs : List Int} (hT : OptT t n) (hl : xs.length = t.fl.length) : wrongI t xs < 0 ↔ ∃ h,OnP t.N n t.fl.length xs h := by
 constructor
 ·intro hw;have hb := wrongI_neg (t := t) (xs := xs) (by omega)
  have good : ∀ i (hi : i < t.fl.length),gI xs i = -1 ∨ ∃ d : Nat,d < n ∧ gI xs i = (d : Int) ∧ d ∈ t.N (i : Int) ∧ ∀ j,j < i → gI xs j ≠ gI xs i := fun i hi => by
   have q := hb i (by omega);rw [badK_at hi] at q
   by_cases e : gI xs i = -1
   ·exact .inl e
   ·rw [decide_eq_true (show gI xs i ≠ -1 from e),Bool.true_and,Bool.or_eq_false_iff] at q;obtain ⟨q1,q2⟩ := q;have q1 : okDay t t.fl[i].lo t.fl[i].hi (gI xs i) = true := by simpa using q1
    unfold okDay at q1;rw [decide_eq_true_iff] at q1;have hs := hT.sp _ (List.getElem_mem hi);obtain ⟨d,hd⟩ : ∃ d : Nat,gI xs i = (d : Int) := ⟨(gI xs i).toNat,by omega⟩;refine .inr ⟨d,by omega,hd,?_,fun j hj e2 => ?_⟩
    ·rw [trN_at hi,openN_in hs.1];rw [hd] at q1;exact ⟨q1.1.1,q1.1.2,q1.2⟩
    ·rw [hd,Int.toNat_natCast] at q2;have := takN_true.2 ⟨j,hj,e2.trans hd⟩;rw [q2] at this;cases this
  have ch : ∀ d : Nat,∃ x : Int,(∃ i : Nat,i < t.fl.length ∧ x = i ∧ gI xs i = (d : Int)) ∨ ((∀ i : Nat,i < t.fl.length → gI xs i ≠ (d : Int)) ∧ x = -1) := fun d => by
   by_cases q : ∃ i : Nat,i < t.fl.length ∧ gI xs i = (d : Int)
   ·obtain ⟨i,hi,e⟩ := q;exact ⟨i,.inl ⟨i,hi,rfl,e⟩⟩
   ·exact ⟨-1,.inr ⟨fun i hi e => q ⟨i,hi,e⟩,rfl⟩⟩
  obtain ⟨p,hp⟩ := Classical.axiomOfChoice ch
  have same : ∀ i j : Nat,i < t.fl.length → j < t.fl.length → 0 ≤ gI xs i → gI xs i = gI xs j → i = j := fun i j hi hj h0 e => by
   rcases Nat.lt_trichotomy i j with q | q | q
   ·rcases good j hj with h1 | ⟨d,-,-,-,h1⟩
    ·omega
    ·exact absurd e (h1 i q)
   ·exact q
   ·rcases good i hi with h1 | ⟨d,-,-,-,h1⟩
    ·omega
    ·exact absurd e.symm (h1 j q)
  refine ⟨p,OkP.of (fun d => ?_) (fun d hd h0 => ?_) (fun d e hd he h0 q => ?_),hl,fun i hi => ?_⟩
  ·rcases hp d with ⟨i,hi,e,-⟩ | ⟨-,e⟩ <;> omega
  ·rcases hp d with ⟨i,hi,e,e2⟩ | ⟨-,e⟩
   ·rcases good i hi with h1 | ⟨d',-,h1,h2,-⟩
    ·omega
    ·obtain rfl : d' = d := by omega
     rw [e];exact h2
   ·omega
  ·rcases hp d with ⟨i,hi,e1,e2⟩ | ⟨-,e1⟩
   ·rcases hp e with ⟨j,hj,e3,e4⟩ | ⟨-,e3⟩
    ·obtain rfl : i = j := by omega
     omega
    ·omega
   ·omega
  ·rcases good i hi with h1 | ⟨d,h0,h1,h2,-⟩
   ·refine .inl ⟨h1,cntN_of_zero fun d hd q => ?_⟩
    rcases hp d with ⟨j,hj,e1,e2⟩ | ⟨-,e1⟩
    ·obtain rfl : j = i := by omega
     omega
    ·omega
   ·refine .inr ⟨d,h0,h1,?_⟩
    rcases hp d with ⟨j,hj,e1,e2⟩ | ⟨h3,-⟩
    ·rw [e1,same j i hj hi (by omega) (by omega)]
    ·exact absurd h1 (h3 i hi)
 ·rintro ⟨h,q⟩
  have : wrongI t xs = -1 := wrongI_none fun i hi => by
   have hi' : i < t.fl.length := by omega
   rw [badK_at hi']
   rcases q.on i hi' with ⟨e,-⟩ | ⟨d,hd,e,e2⟩
   ·rw [e];rfl
   ·have hs := hT.sp _ (List.getElem_mem hi');have hday := q.ok.day d hd (by omega);rw [e2,trN_at hi',openN_in hs.1] at hday;have h1 : okDay t t.fl[i].lo t.fl[i].hi (gI xs i) = true := decide_eq_true (by rw [e];exact ⟨⟨hday.1,hday.2.1⟩,hday.2.2⟩)
    have h2 : takN xs i (gI xs i).toNat = false := by
     by_cases c : takN xs i (gI xs i).toNat = true
     ·obtain ⟨j,hj,ej⟩ := takN_true.1 c
      exfalso
      rcases q.on j (by omega) with ⟨e3,-⟩ | ⟨d',hd',e3,e4⟩
      ·omega
      ·obtain rfl : d' = d := by omega
       omega
     ·simpa using c
    rw [h1,h2];simp
  omega
theorem onL_right {t : Tr} {n : Nat} {h : Nat → Int} (hT : OptT t n) (hh : OkP t.N n t.fl.length h) : wrongI t (onL h n t.fl.length) < 0 := (wrong_plan hT onL_len).2 ⟨h,onL_on hh⟩
-- full spans
theorem fullN_sum {fl : List Fl} {xs : List Int} {a b : Int} : ∀ k,k ≤ fl.length → (fullN fl xs a b k : Int) = sumN (fun j => if 0 ≤ gI xs j then inW fl a b (j : Int) else 0) k
 | 0,_ => rfl
 | k + 1,hk => by
   have ih := fullN_sum (fl := fl) (xs := xs) (a := a) (b := b) k (by omega)
   show ((if insF fl xs a b k = true then fullN fl xs a b k + 1 else fullN fl xs a b k : Nat) : Int) = sumN _ k + (if 0 ≤ gI xs k then inW fl a b (k : Int) else 0)
   rw [← ih,insF_at (show k < fl.length by omega)];unfold inW;rw [inA_at (show k < fl.length by omega)]
   by_cases h1 : 0 ≤ gI xs k
   ·rw [if_pos h1,decide_eq_true h1,Bool.true_and]
    split <;> omega
   ·rw [if_neg h1,decide_eq_false h1,Bool.false_and,if_neg (by decide)];omega
theorem lowN_false {fl : List Fl} {xs : List Int} {a b m : Int} : ∀ {k},lowN fl xs a b m k = false ↔ ∀ j,j < k → insF fl xs a b j = true → m ≤ mAt fl (j : Int)
 | 0 => ⟨fun _ j hj => absurd hj (Nat.not_lt_zero _),fun _ => rfl⟩
 | k + 1 => by
   show (lowN fl xs a b m k || (insF fl xs a b k && decide (mAt fl (k : Int) < m))) = false ↔ _
   rw [Bool.or_eq_false_iff,lowN_false (k := k),Bool.and_eq_false_iff,decide_eq_false_iff_not]
   constructor
   ·rintro ⟨h1,h2⟩ j hj hi
    rcases Nat.lt_or_ge j k with q | q
    ·exact h1 j q hi
    ·obtain rfl : j = k := by omega
     rcases h2 with h2 | h2
     ·rw [h2] at hi;cases hi
     ·omega
   ·intro h;refine ⟨fun j hj hi => h j (by omega) hi,?_⟩
    by_cases q : insF fl xs a b k = true
    ·right;have := h k (Nat.lt_succ_self _) q;omega
    ·left;simpa using q
theorem fullB_iff {t : Tr} {n a b : Nat} {xs : List Int} {h : Nat → Int} {m : Int} (hT : OptT t n) (hP : OnP t.N n t.fl.length xs h) (hb : b < n) :
  fullB t xs (a : Int) (b : Int) m = true ↔ (∀ d,a ≤ d → d ≤ b → (d : Int) ∉ t.cl → 0 ≤ h d ∧ inA t.fl a b (h d) = true ∧ m ≤ mAt t.fl (h d)) := by
 unfold fullB;rw [Bool.and_eq_true,decide_eq_true_iff,Bool.not_eq_true',lowN_false]
 have e : fullN t.fl xs a b t.fl.length = (openN t.cl a b).length ↔ worthW (inW t.fl a b) h n = ((openN t.cl (a : Int) (b : Int)).length : Int) := by
  rw [hP.worth,← fullN_sum _ (Nat.le_refl _)];omega
 rw [e,full_iff hT.span hP.ok hb]
 constructor
 ·rintro ⟨h1,h2⟩ d d1 d2 d3;obtain ⟨q1,q2⟩ := h2 d d1 d2 d3;refine ⟨q1,q2,?_⟩;obtain ⟨j,hj,hjm⟩ := hP.ok.at' q1;rw [hj] at q2 ⊢;refine h1 j hjm ?_;rw [insF_at hjm,(hP.of_day (by omega) hj).2];rw [inA_at hjm] at q2;rw [q2];simp
 ·intro hall;refine ⟨fun j hj hi => ?_,fun d d1 d2 d3 => ⟨(hall d d1 d2 d3).1,(hall d d1 d2 d3).2.1⟩⟩;rw [insF_at hj,Bool.and_eq_true,decide_eq_true_iff] at hi;obtain ⟨d,hd,e1,e2⟩ := hP.to_day hj hi.1;have hin : inA t.fl a b (h d) = true := by rw [e2,inA_at hj];exact hi.2
  have := day_in (a := a) (b := b) hT.span hP.ok hd (by omega) hin;have := (hall d this.1 this.2.1 this.2.2).2.2
  rwa [e2] at this
def FullOk (t : Tr) (xs : List Int) (z : Int × Int) (k : Nat) : Prop :=
 if 0 ≤ gI xs k then z = (0,0) else match t.fl[k]? with
 | some f => (0 ≤ z.1 ∧ z.1 ≤ z.2 ∧ z.2 < t.n) ∧ (z.1 ≤ f.lo ∧ f.hi ≤ z.2) ∧ fullB t xs z.1 z.2 f.m = true
 | none => True
theorem FullOk.at {t : Tr} {xs : List Int} {z : Int × Int} {k : Nat} (hk : k < t.fl.length) (h0 : ¬ 0 ≤ gI xs k) : FullOk t xs z k ↔ (0 ≤ z.1 ∧ z.1 ≤ z.2 ∧ z.2 < t.n) ∧ (z.1 ≤ t.fl[k].lo ∧ t.fl[k].hi ≤ z.2) ∧ fullB t xs z.1 z.2 t.fl[k].m = true := by
 unfold FullOk;rw [if_neg h0,List.getElem?_eq_getElem hk]
instance {t : Tr} {xs : List Int} {z : Int × Int} {k : Nat} : Decidable (FullOk t xs z k) := by
 unfold FullOk;split
 ·infer_instance
 ·split <;> infer_instance
def gZ (l : List (Int × Int)) (i : Nat) : Int × Int := l[i]?.getD (0,0)
theorem gZ_lt {l : List (Int × Int)} {i : Nat} (h : i < l.length) : gZ l i = l[i] := by unfold gZ;rw [List.getElem?_eq_getElem h];rfl
def ProvP (t : Tr) (m : Md) : Prop := (m.on.length = t.fl.length ∧ m.full.length = t.fl.length ∧ wrongI t m.on < 0 ∧ wrthK t m.on t.fl.length = m.mt) ∧ ∀ k,k < t.fl.length → FullOk t m.on (gZ m.full k) k
theorem prov_best {t : Tr} {n : Nat} {m : Md} (hT : OptT t n) (hn : t.n = (n : Int)) (hp : ProvP t m) : ∃ h,OnP t.N n t.fl.length m.on h ∧ BestP t n h ∧ meritF t n = m.mt := by
 obtain ⟨⟨h1,h2,h3,h4⟩,h5⟩ := hp;obtain ⟨h,hP⟩ := (wrong_plan hT h1).1 h3;have opt := meritF_opt hT
 have e : worthW (mAt t.fl) h n = meritF t n := by
  refine IsOpt.eq (N := t.N) (n := n) (m := t.fl.length) (W := mAt t.fl) ⟨⟨h,hP.ok,rfl⟩,fun g hg => ?_⟩ opt;refine dual_max (S := fun _ => True) hP.ok hg (fun _ _ _ => .inl trivial) (mAt_pos hT.mr) fun i hi _ hz => ?_;have h0 : ¬ 0 ≤ gI m.on i := fun q => (hP.has hi).1 q hz;obtain ⟨s1,s2,s3⟩ := (FullOk.at hi h0).1 (h5 i hi);obtain ⟨a,ha⟩ : ∃ a : Nat,(gZ m.full i).1 = (a : Int) := ⟨(gZ m.full i).1.toNat,by omega⟩;obtain ⟨b,hb⟩ : ∃ b : Nat,(gZ m.full i).2 = (b : Int) := ⟨(gZ m.full i).2.toNat,by omega⟩;rw [ha,hb] at s1 s2 s3;have hall := (fullB_iff hT hP (by omega)).1 s3
  have hin : ∀ j : Nat,(hj : j < t.fl.length) → inA t.fl a b (j : Int) = true → ∀ d ∈ t.N (j : Int),a ≤ d ∧ d ≤ b ∧ (d : Int) ∉ t.cl := fun j hj hi d hd => by
   rw [inA_at hj,decide_eq_true_iff] at hi;rw [trN_at hj,openN_in (hT.sp _ (List.getElem_mem hj)).1] at hd;exact ⟨by omega,by omega,hd.2.2⟩
  refine ⟨fun d => a ≤ d ∧ d ≤ b ∧ (d : Int) ∉ t.cl,fun d hd => ?_,fun d hd => ?_,fun d hd => ?_⟩
  ·obtain ⟨q1,q2,-⟩ := hall d hd.1 hd.2.1 hd.2.2;obtain ⟨j,hj,hjm⟩ := hP.ok.at' q1;refine ⟨by omega,q1,fun e he => ?_⟩;rw [hj] at q2 he;exact hin j hjm q2 e he
  ·exact hin i hi (by rw [inA_at hi,decide_eq_true_iff];exact s2) d hd
  ·rw [mAt_at hi];exact (hall d hd.1 hd.2.1 hd.2.2).2.2
 exact ⟨h,hP,⟨hP.ok,e⟩,by rw [← e,← hP.wrth,h4]⟩
theorem best_prov {t : Tr} {n : Nat} {h : Nat → Int} (hT : OptT t n) (hn : t.n = (n : Int)) (hle : ∀ f ∈ t.fl,f.lo ≤ f.hi) (hpos : ∀ f ∈ t.fl,0 < f.m) (hb : BestP t n h) : ProvP t (wholeF t n h) := by
 have hP := onL_on hb.ok;refine ⟨⟨onL_len,by show ((List.range _).map _).length = _;simp,onL_right hT hb.ok,?_⟩,fun k hk => ?_⟩
 ·show wrthK t (onL h n t.fl.length) t.fl.length = worthN t.fl h n
  rw [hP.wrth,worthN_W]
 ·have e : gZ (wholeF t n h).full k = fullS t (onL h n t.fl.length) n k := by
   show gZ ((List.range t.fl.length).map _) k = _
   rw [gZ_lt (by simpa using hk)];simp
  rw [e]
  show FullOk t (onL h n t.fl.length) _ k
  by_cases h0 : 0 ≤ gI (onL h n t.fl.length) k
  ·unfold FullOk fullS;rw [if_pos h0,if_pos h0]
  ·rw [FullOk.at hk h0]
   have hz : cntN h (k : Int) n = 0 := by
    by_cases q : cntN h (k : Int) n = 0
    ·exact q
    ·exact absurd ((hP.has hk).2 q) h0
   have opt := meritF_opt hT;obtain ⟨X,hX,hX2,hX3⟩ := max_cert (W := mAt t.fl) (trN_lt hT.span) hb.ok (fun j hj => by rw [mAt_at hj];exact hpos _ (List.getElem_mem hj)) (fun g hg => by rw [hb.w];exact opt.le g hg) k hk hz;obtain ⟨a,b,w1,w2,w3,w4⟩ := window_of hT.span (fun k hk => hle _ (List.getElem_mem hk)) hb.ok hX hk hX2
   have hful : fullB t (onL h n t.fl.length) (a : Int) (b : Int) t.fl[k].m = true := (fullB_iff hT hP w2).2 fun d d1 d2 d3 => by
    obtain ⟨q1,q2⟩ := w4 d d1 d2 d3;have := hX3 d q1;rw [mAt_at hk] at this;exact ⟨(hX d q1).2.1,q2,this⟩
   rw [inA_at hk,decide_eq_true_iff] at w3
   have hne : firstS t (onL h n t.fl.length) n t.fl[k] ≠ none := fun q => by
    unfold firstS at q;rw [List.find?_eq_none] at q;refine q (a,b) (spanU_mem.2 ⟨by show a < n;omega,w1,w2⟩) ?_
    dsimp only
    rw [hful,decide_eq_true w3];rfl
   obtain ⟨p,hp⟩ := Option.ne_none_iff_exists'.1 hne
   have e2 : fullS t (onL h n t.fl.length) n k = ((p.1 : Int),(p.2 : Int)) := by
    unfold fullS;rw [if_neg h0,List.getElem?_eq_getElem hk]
    dsimp only
    rw [hp]
   rw [e2];unfold firstS at hp;have m1 := List.mem_of_find?_eq_some hp;have m2 := List.find?_some hp;rw [spanU_mem] at m1;rw [Bool.and_eq_true,decide_eq_true_iff] at m2;exact ⟨by dsimp only;omega,m2.1,m2.2⟩
theorem GoodT.opt {t : Tr} (h : GoodT t) : OptT t t.n.toNat := ⟨fun f hf => by
 have h1 := (h.ok f hf).2.1;have := h.n;exact ⟨h1.1,by omega⟩,fun f hf => by have := (h.ok f hf).2.2;omega⟩
theorem GoodT.le {t : Tr} (h : GoodT t) : ∀ f ∈ t.fl,f.lo ≤ f.hi := fun f hf => (h.ok f hf).2.1.2.1
theorem GoodT.pos {t : Tr} (h : GoodT t) : ∀ f ∈ t.fl,0 < f.m := fun f hf => by have := (h.ok f hf).2.2;omega
theorem GoodT.nn {t : Tr} (h : GoodT t) : t.n = (t.n.toNat : Int) := by have := h.n;omega
section
variable {N : Int → List Nat} {n m : Nat}
theorem canF_plan {l : List Int} (hN : ∀ i,∀ d ∈ N i,d < n) (hd : l.Nodup) (hm : ∀ x ∈ l,∃ k : Nat,x = (k : Int) ∧ k < m) (hc : canF N n l noPlan = true) :
  OkP N n m (l.foldl (addF N n) noPlan) ∧ ∀ j : Nat,cntN (l.foldl (addF N n) noPlan) (j : Int) n = if (j : Int) ∈ l then 1 else 0 := by
 obtain ⟨h1,h2⟩ := canF_true hN l noPlan noPlan_ok hd (fun x hx => by obtain ⟨k,rfl,hk⟩ := hm x hx;exact ⟨k,rfl,hk,noPlan_cnt⟩) hc;exact ⟨h1,fun j => by rw [h2,noPlan_cnt,Int.zero_add]⟩
end
theorem OptT.wider {t : Tr} {n i : Nat} {lo hi : Int} (hT : OptT t n) (h : i < t.fl.length) (hs : 0 ≤ lo ∧ hi < n) : OptT (widerT t i lo hi) n := by
 constructor
 ·intro f hf;rw [widerT_at h] at hf
  rcases List.mem_or_eq_of_mem_set hf with hf | rfl
  ·exact hT.sp f hf
  ·exact hs
 ·intro f hf;rw [widerT_at h] at hf
  rcases List.mem_or_eq_of_mem_set hf with hf | rfl
  ·exact hT.mr f hf
  ·show 0 ≤ t.fl[i].m
   exact hT.mr _ (List.getElem_mem h)
section
variable {N N' : Int → List Nat} {n m : Nat} {W : Int → Int} {w v v' : Int} {g h : Nat → Int}
theorem OkP.up (hh : OkP N n m h) : OkP N n (m + 1) h := ⟨fun d => by have := hh.lt d;omega,hh.day,hh.one⟩
theorem IsOpt.drop_le {i : Nat} (hv : IsOpt N n m W v) (hv' : IsOpt (dropN N i) n m W v') (h0 : 0 ≤ W i) : v ≤ v' + W i := by
 obtain ⟨g,g1,g2⟩ := hv.ex
 by_cases hz : cntN g (i : Int) n = 0
 ·have := hv'.le g (g1.sub fun d hd _ hm => dropN_mem.2 ⟨cntN_zero hz d hd,hm⟩);omega
 ·obtain ⟨d,hd,e⟩ := cntN_some hz
  have q := hv'.le (updI g d (-1)) ((g1.free d).sub fun k hk hk0 hm => by
   rcases updI_cases g d (-1) k with ⟨-,e1⟩ | ⟨ne,e1⟩ <;> rw [e1] at hk0 hm ⊢
   ·omega
   ·exact dropN_mem.2 ⟨fun q => ne (g1.inj hk hd hk0 (by omega)),(shutN_mem.1 hm).1⟩)
  rw [worth_upd hd,if_neg (show ¬ (0 : Int) ≤ -1 by decide),e,if_pos (Int.natCast_nonneg i)] at q;omega
theorem later_cert (hN : ∀ i,∀ d ∈ N i,d < n) (hh : OkP N n m h) (hadd : addB N n h m = false) (hpos : ∀ j : Nat,j < m → 0 < W j) (hmax : ∀ g,OkP N n m g → worthW W g n ≤ worthW W h n) (hw0 : 0 ≤ w)
  (hw : ∀ i : Nat,i < m → cntN h i n ≠ 0 → (∃ g,OkP N n (m + 1) g ∧ cntN g (m : Nat) n = 1 ∧ ∀ j : Nat,j ≠ i → cntN h j n ≠ 0 → cntN g j n = 1) → w ≤ W i) (hg : OkP N n (m + 1) g) :
  sumN (fun j => cntN g (j : Int) n * W j) m + cntN g (m : Nat) n * w ≤ worthW W h n := by
 let W' : Int → Int := fun j => if j = (m : Int) then w else if 0 ≤ j ∧ j < m then W j else 0
 have Wm : W' (m : Int) = w := if_pos rfl
 have Wj : ∀ j : Nat,j < m → W' (j : Int) = W j := fun j hj => by
  show (if (j : Int) = m then w else if 0 ≤ (j : Int) ∧ (j : Int) < m then W j else 0) = _
  rw [if_neg (by omega),if_pos (by omega)]
 have W0 : ∀ j,0 ≤ W' j := fun j => by
  show 0 ≤ (if j = (m : Int) then w else if 0 ≤ j ∧ j < m then W j else 0)
  split
  ·exact hw0
  ·split
   ·rename_i q
    have := hpos j.toNat (by omega);rw [show ((j.toNat : Nat) : Int) = j by omega] at this;omega
   ·exact Int.le_refl _
 have hz : cntN h (m : Nat) n = 0 := cntN_of_zero fun d _ e => by have := (hh.lt d).2;omega
 have e : worthW W' h n = worthW W h n := worth_eq n fun d _ => ⟨Iff.rfl,fun h0 => by
  obtain ⟨j,hj,hjm⟩ := hh.at' h0
  rw [hj];exact Wj j hjm⟩
 have q := dual_max (W := W') (S := fun _ => True) hh.up hg (fun _ _ _ => .inl trivial) W0 (fun i hi _ hiz => by
  by_cases c : i = m
  ·subst c;obtain ⟨-,X,h2,h3,h4⟩ := add_false hN hh.up (Nat.lt_succ_self i) hz hadd;refine ⟨X,h2,h3,fun d hd => ?_⟩;have hX := h2 d hd;obtain ⟨k,hk,hkm⟩ := hh.at' hX.2.1;rw [Wm,hk,Wj k hkm];refine hw k hkm (fun q => cntN_zero q d hX.1 hk) ?_;obtain ⟨g',g1,g2⟩ := h4 d hd;refine ⟨g',g1,?_,fun j hj hjz => ?_⟩
   ·rw [g2,hz,if_neg (by omega),if_pos rfl];rfl
   ·have hji : i ≠ j := fun q => by subst q;exact hjz hz
    rw [g2,if_neg (by omega),if_neg hji];have := hh.one j;have := cntN_pos (h := h) (j := (j : Int)) (n := n);omega
  ·obtain ⟨X,h1,h2,h3⟩ := max_cert hN hh hpos hmax i (by omega) hiz;refine ⟨X,h1,h2,fun d hd => ?_⟩;have hX := h1 d hd;obtain ⟨k,hk,hkm⟩ := hh.at' hX.2.1;have := h3 d hd;rw [hk] at this ⊢
   rw [Wj k hkm,Wj i (by omega)];exact this)
 rw [e,worth_cnt n fun d _ => (hg.lt d).2] at q;have q : sumN (fun j => cntN g (j : Int) n * W' j) m + cntN g (m : Nat) n * W' m ≤ worthW W h n := q;rw [Wm,sumN_eq m (g := fun j => cntN g (j : Int) n * W j) fun j hj => by rw [Wj j hj]] at q;exact q
theorem cnt_worth {L : List Int} (hh : OkP N n m h) (hc : ∀ j : Nat,j < m → cntN h (j : Int) n = if (j : Int) ∈ L then 1 else 0) : worthW W h n = sumN (fun j => if (j : Int) ∈ L then W j else 0) m := by
 rw [worth_cnt n fun d _ => (hh.lt d).2];refine sumN_eq m fun j hj => ?_;rw [hc j hj]
 split
 ·exact Int.one_mul _
 ·exact Int.zero_mul _
end
def moreT (t : Tr) (f : Fl) : Tr := ⟨t.n,t.cl,t.fl ++ [f]⟩
section
variable {t : Tr} {f : Fl} {n : Nat}
theorem moreT_len : (moreT t f).fl.length = t.fl.length + 1 := by show (t.fl ++ [f]).length = _;rw [List.length_append,List.length_singleton]
theorem moreT_at {j : Nat} (hj : j < t.fl.length) : (moreT t f).fl[j]? = t.fl[j]? := List.getElem?_append_left hj
theorem moreT_last : (moreT t f).fl[t.fl.length]? = some f := by show (t.fl ++ [f])[t.fl.length]? = _;rw [List.getElem?_append_right (Nat.le_refl _),Nat.sub_self];rfl
theorem moreT_N {j : Nat} (hj : j < t.fl.length) : (moreT t f).N (j : Int) = t.N (j : Int) := nCl_eq (cl := t.cl) (moreT_at hj)
theorem moreT_m {j : Nat} (hj : j < t.fl.length) : mAt (moreT t f).fl (j : Int) = mAt t.fl (j : Int) := mAt_eq (moreT_at hj)
theorem moreT_mf : mAt (moreT t f).fl (t.fl.length : Int) = f.m := by unfold mAt;rw [Int.toNat_natCast,moreT_last]
theorem OkP.toMore {g : Nat → Int} (hg : OkP t.N n t.fl.length g) : OkP (moreT t f).N n t.fl.length g := hg.sub fun d _ h0 hm => by
 obtain ⟨j,hj,hjm⟩ := hg.at' h0;rw [hj] at hm ⊢;rw [moreT_N hjm];exact hm
theorem OkP.ofMore {g : Nat → Int} (hg : OkP (moreT t f).N n t.fl.length g) : OkP t.N n t.fl.length g := hg.sub fun d _ h0 hm => by
 obtain ⟨j,hj,hjm⟩ := hg.at' h0;rw [hj] at hm ⊢;rw [← moreT_N hjm];exact hm
theorem more_bounds (hT : OptT t n) (hM : OptT (moreT t f) n) : meritF t n ≤ meritF (moreT t f) n ∧ meritF (moreT t f) n ≤ meritF t n + f.m := by
 have o1 := meritF_opt hT;have o2 := meritF_opt hM
 have o3 : IsOpt (dropN (moreT t f).N (t.fl.length : Nat)) n (moreT t f).fl.length (mAt (moreT t f).fl) (meritF t n) := by
  refine IsOpt.emb (f := id) (fun a b _ _ e => e) (fun a ha => by rw [moreT_len];exact Nat.lt_succ_of_lt ha) (fun a ha d _ => ?_) (fun a ha => (moreT_m ha).symm) (fun j hj hn => ?_) o1
  ·rw [dropN_mem,id,moreT_N ha];exact ⟨fun q => ⟨by omega,q⟩,fun q => q.2⟩
  ·rw [moreT_len] at hj
   have : j = t.fl.length := by
    by_cases c : j < t.fl.length
    ·exact absurd rfl (hn j c)
    ·omega
   subst this;exact if_pos rfl
 have h1 := (o2.drop o3).1;have h2 := o2.drop_le o3 (mAt_pos hM.mr _);rw [moreT_mf] at h2;exact ⟨h1,h2⟩
end
def swapL (N : Int → List Nat) (n : Nat) (m : Int) (W : Int → Int) (l : List Int) : Nat → Nat → List Int
 | _,0 => l
 | k,u + 1 => if W m ≤ W (gI l k) then l else if canF N n (l.eraseIdx k ++ [m]) noPlan = true then l.eraseIdx k ++ [m] else swapL N n m W l (k + 1) u
def laterL (N : Int → List Nat) (n : Nat) (m : Int) (W : Int → Int) (l : List Int) : List Int := if canF N n (l ++ [m]) noPlan = true then l ++ [m] else swapL N n m W l 0 l.length
structure LatP (N : Int → List Nat) (n m : Nat) (l L : List Int) : Prop where
 can : canF N n L noPlan = true
 nd : L.Nodup
 mem : ∀ x ∈ L,x ∈ l ∨ x = (m : Int)
 one : ∀ x ∈ l,∀ y ∈ l,x ∉ L → y ∉ L → x = y
theorem nodup_snoc {l : List Int} {x : Int} (h : l.Nodup) (hx : x ∉ l) : (l ++ [x]).Nodup := by
 rw [List.nodup_append];refine ⟨h,by simp,fun a ha b hb e => ?_⟩;rw [List.mem_singleton] at hb;exact hx (by rw [← hb,← e];exact ha)
theorem mem_eraseIdx_nd {l : List Int} (h : l.Nodup) {k : Nat} (hk : k < l.length) {x : Int} : x ∈ l.eraseIdx k ↔ x ∈ l ∧ x ≠ gI l k := by
 rw [gI_lt hk,List.mem_eraseIdx_iff_getElem]
 constructor
 ·rintro ⟨i,hi,hne,rfl⟩;exact ⟨List.getElem_mem hi,fun e => hne ((List.getElem_inj h).1 e)⟩
 ·rintro ⟨hx,hne⟩;obtain ⟨i,hi,rfl⟩ := List.getElem_of_mem hx;exact ⟨i,hi,fun e => hne (by subst e;rfl),rfl⟩
section
variable {t : Tr} {f : Fl} {n : Nat} {h : Nat → Int} {l : List Int}
structure LatS (t : Tr) (f : Fl) (n : Nat) (h : Nat → Int) (l : List Int) : Prop where
 hT : OptT t n
 hM : OptT (moreT t f) n
 pos : ∀ x ∈ t.fl,0 < x.m
 hb : BestP t n h
 nd : l.Nodup
 mm : ∀ x ∈ l,∃ k : Nat,x = (k : Int) ∧ k < t.fl.length
 srt : l.Pairwise fun a b => mAt t.fl a ≤ mAt t.fl b
 cnt : ∀ j : Nat,j < t.fl.length → cntN h (j : Int) n = if (j : Int) ∈ l then 1 else 0
theorem LatS.not (s : LatS t f n h l) : ((t.fl.length : Nat) : Int) ∉ l := fun q => by
 obtain ⟨k,e,hk⟩ := s.mm _ q;omega
theorem LatS.mm' (s : LatS t f n h l) {L : List Int} (hL : ∀ x ∈ L,x ∈ l ∨ x = (t.fl.length : Int)) : ∀ x ∈ L,∃ k : Nat,x = (k : Int) ∧ k < t.fl.length + 1 := fun x hx => by
 rcases hL x hx with q | q
 ·obtain ⟨k,e,hk⟩ := s.mm x q;exact ⟨k,e,by omega⟩
 ·exact ⟨_,q,Nat.lt_succ_self _⟩
theorem LatS.in (s : LatS t f n h l) {x : Int} (hx : x ∈ l) : cntN h x n = 1 := by
 obtain ⟨k,rfl,hk⟩ := s.mm x hx;rw [s.cnt k hk,if_pos hx]
theorem LatS.worth (s : LatS t f n h l) : sumN (fun j => if (j : Int) ∈ l then mAt t.fl j else 0) t.fl.length = meritF t n := by
 rw [← s.hb.w];exact (cnt_worth s.hb.ok s.cnt).symm
theorem LatS.val (s : LatS t f n h l) {L : List Int} (hL : LatP (moreT t f).N n t.fl.length l L) : OkP (moreT t f).N n (t.fl.length + 1) (L.foldl (addF (moreT t f).N n) noPlan) ∧
  (∀ j : Nat,cntN (L.foldl (addF (moreT t f).N n) noPlan) (j : Int) n = if (j : Int) ∈ L then 1 else 0) ∧
  worthW (mAt (moreT t f).fl) (L.foldl (addF (moreT t f).N n) noPlan) n = sumN (fun j => if (j : Int) ∈ L then mAt t.fl j else 0) t.fl.length + if ((t.fl.length : Nat) : Int) ∈ L then f.m else 0 := by
 obtain ⟨h1,h2⟩ := canF_plan (m := t.fl.length + 1) (trN_lt s.hM.span) hL.nd (s.mm' hL.mem) hL.can;refine ⟨h1,h2,?_⟩;rw [cnt_worth h1 fun j _ => h2 j]
 show sumN _ t.fl.length + (if ((t.fl.length : Nat) : Int) ∈ L then mAt (moreT t f).fl (t.fl.length : Nat) else 0) = _
 rw [moreT_mf,sumN_eq t.fl.length (g := fun j => if (j : Int) ∈ L then mAt t.fl j else 0) fun j hj => by rw [moreT_m hj]]
theorem LatS.one (s : LatS t f n h l) {L : List Int} (hL : LatP (moreT t f).N n t.fl.length l L)
  (hle : ∀ g,OkP (moreT t f).N n (t.fl.length + 1) g → worthW (mAt (moreT t f).fl) g n ≤ sumN (fun j => if (j : Int) ∈ L then mAt t.fl j else 0) t.fl.length + if ((t.fl.length : Nat) : Int) ∈ L then f.m else 0) :
  BestP (moreT t f) n (L.foldl (addF (moreT t f).N n) noPlan) := by
 obtain ⟨h1,-,h3⟩ := s.val hL;have o := meritF_opt s.hM;rw [moreT_len] at o;have ok : OkP (moreT t f).N n (moreT t f).fl.length (L.foldl (addF (moreT t f).N n) noPlan) := by rw [moreT_len];exact h1
 exact ⟨ok,IsOpt.eq (N := (moreT t f).N) (n := n) (m := t.fl.length + 1) (W := mAt (moreT t f).fl) ⟨⟨_,h1,rfl⟩,fun g hg => by rw [h3];exact hle g hg⟩ o⟩
theorem sum_erase {l : List Int} {W : Int → Int} {m k : Nat} {i : Nat} (hn : l.Nodup) (hk : k < l.length) (hi : gI l k = (i : Int)) (him : i < m) :
  sumN (fun j => if (j : Int) ∈ l then W j else 0) m = sumN (fun j => if (j : Int) ∈ l.eraseIdx k then W j else 0) m + W i := by
 rw [sumN_eq m (f := fun j => if (j : Int) ∈ l then W j else 0) (g := fun j => (if (j : Int) ∈ l.eraseIdx k then W j else 0) + if j = i then W j else 0) fun j _ => by
  by_cases e : j = i
  ·subst e;rw [if_pos (by rw [← hi];exact gI_mem hk),if_neg (by rw [mem_eraseIdx_nd hn hk,hi];exact fun q => q.2 rfl),if_pos rfl,Int.zero_add]
  ·rw [if_neg e,Int.add_zero]
   by_cases c : (j : Int) ∈ l
   ·rw [if_pos c,if_pos ((mem_eraseIdx_nd hn hk).2 ⟨c,by rw [hi];omega⟩)]
   ·rw [if_neg c,if_neg fun q => c ((mem_eraseIdx_nd hn hk).1 q).1],sumN_add,sumN_one (F := fun j => W (j : Int)),if_pos him]
theorem LatS.sorted (s : LatS t f n h l) {a b : Nat} (hab : a ≤ b) (hb : b < l.length) : mAt t.fl (gI l a) ≤ mAt t.fl (gI l b) := by
 rcases Nat.lt_or_ge a b with q | q
 ·have := List.pairwise_iff_getElem.1 s.srt a b (by omega) hb q;rw [gI_lt (by omega),gI_lt hb];exact this
 ·obtain rfl : a = b := by omega
  exact Int.le_refl _
theorem LatS.swap (s : LatS t f n h l) (hno : canF (moreT t f).N n (l ++ [((t.fl.length : Nat) : Int)]) noPlan = false) : ∀ (u k : Nat),k + u = l.length →
  (∀ j,j < k → canF (moreT t f).N n (l.eraseIdx j ++ [((t.fl.length : Nat) : Int)]) noPlan = false ∧ mAt t.fl (gI l j) < f.m) →
  LatP (moreT t f).N n t.fl.length l (swapL (moreT t f).N n (t.fl.length : Nat) (mAt (moreT t f).fl) l k u) ∧ BestP (moreT t f) n ((swapL (moreT t f).N n (t.fl.length : Nat) (mAt (moreT t f).fl) l k u).foldl (addF (moreT t f).N n) noPlan) := by
 intro u k hku hbad;have hNM := trN_lt s.hM.span;have fm0 : 0 ≤ f.m := s.hM.mr f (by show f ∈ t.fl ++ [f];simp);have okM : OkP (moreT t f).N n t.fl.length h := s.hb.ok.toMore
 have hadd : addB (moreT t f).N n h ((t.fl.length : Nat) : Int) = false := by
  by_cases c : addB (moreT t f).N n h ((t.fl.length : Nat) : Int) = true
  ·exfalso
   have hz : cntN h ((t.fl.length : Nat) : Int) n = 0 := cntN_of_zero fun d _ e => by have := (s.hb.ok.lt d).2;omega
   obtain ⟨a1,a2⟩ := add_true hNM okM.up (Nat.lt_succ_self _) hz c
   have : canF (moreT t f).N n (l ++ [((t.fl.length : Nat) : Int)]) noPlan = true := (can_iff hNM (nodup_snoc s.nd s.not) (s.mm' (fun x hx => by rw [List.mem_append,List.mem_singleton] at hx;exact hx))).2 ⟨_,a1,fun x hx => by
    rw [List.mem_append,List.mem_singleton] at hx
    rcases hx with hx | hx
    ·obtain ⟨j,rfl,hj⟩ := s.mm x hx;rw [a2,s.in hx,if_neg (by omega)];rfl
    ·subst hx;rw [a2,hz,if_pos rfl];rfl⟩
   rw [hno] at this;cases this
  ·simpa using c
 have ndE : ∀ j,j < l.length → (l.eraseIdx j ++ [((t.fl.length : Nat) : Int)]).Nodup := fun j hj => nodup_snoc (s.nd.eraseIdx j) fun q => s.not ((mem_eraseIdx_nd s.nd hj).1 q).1
 have mmE : ∀ j,j < l.length → ∀ x ∈ l.eraseIdx j ++ [((t.fl.length : Nat) : Int)],x ∈ l ∨ x = ((t.fl.length : Nat) : Int) := fun j hj x hx => by
  rw [List.mem_append,List.mem_singleton] at hx;exact hx.imp (fun q => ((mem_eraseIdx_nd s.nd hj).1 q).1) id
 -- what can make room stands at k or behind
 have room : ∀ w : Int,0 ≤ w → (∀ j,k ≤ j → j < l.length → w ≤ mAt t.fl (gI l j)) → ∀ g,OkP (moreT t f).N n (t.fl.length + 1) g → sumN (fun j => cntN g (j : Int) n * mAt t.fl j) t.fl.length + cntN g ((t.fl.length : Nat) : Int) n * w ≤ meritF t n := fun w hw0 hw g hg => by
  rw [← s.hb.w];refine later_cert hNM okM hadd (fun j hj => by rw [mAt_at hj];exact s.pos _ (List.getElem_mem hj)) (fun g' hg' => by rw [s.hb.w];exact (meritF_opt s.hT).le g' hg'.ofMore) hw0 (fun i hi hiz hex => ?_) hg;obtain ⟨g',g1,g2,g3⟩ := hex
  have hil : (i : Int) ∈ l := by
   by_cases c : (i : Int) ∈ l
   ·exact c
   ·exact absurd (by rw [s.cnt i hi,if_neg c]) hiz
  obtain ⟨j,hj,e⟩ := List.getElem_of_mem hil;have ej : gI l j = (i : Int) := by rw [gI_lt hj,e]
  rw [← ej];refine hw j ?_ hj
  by_cases c : k ≤ j
  ·exact c
  ·exfalso
   have q := (hbad j (by omega)).1
   have : canF (moreT t f).N n (l.eraseIdx j ++ [((t.fl.length : Nat) : Int)]) noPlan = true := (can_iff hNM (ndE j hj) (s.mm' (mmE j hj))).2 ⟨g',g1,fun x hx => by
    rw [List.mem_append,List.mem_singleton] at hx
    rcases hx with hx | hx
    ·obtain ⟨x1,x2⟩ := (mem_eraseIdx_nd s.nd hj).1 hx;obtain ⟨b,rfl,hb⟩ := s.mm x x1;exact g3 b (by rw [ej] at x2;omega) (by rw [s.in x1];decide)
    ·subst hx;exact g2⟩
   rw [q] at this;cases this
 have sums : ∀ g,OkP (moreT t f).N n (t.fl.length + 1) g → worthW (mAt (moreT t f).fl) g n = sumN (fun j => cntN g (j : Int) n * mAt t.fl j) t.fl.length + cntN g ((t.fl.length : Nat) : Int) n * f.m := fun g hg => by
  rw [worth_cnt n fun d _ => (hg.lt d).2]
  show sumN _ t.fl.length + cntN g ((t.fl.length : Nat) : Int) n * mAt (moreT t f).fl ((t.fl.length : Nat) : Int) = _
  rw [moreT_mf,sumN_eq t.fl.length (g := fun j => cntN g (j : Int) n * mAt t.fl j) fun j hj => by rw [moreT_m hj]]
 have own : LatP (moreT t f).N n t.fl.length l l := ⟨(can_iff hNM s.nd (s.mm' fun x hx => .inl hx)).2 ⟨h,okM.up,fun x hx => s.in hx⟩,s.nd,fun x hx => .inl hx,fun x hx y _ hx' _ => absurd hx hx'⟩
 have stay : (∀ j,k ≤ j → j < l.length → f.m ≤ mAt t.fl (gI l j)) → BestP (moreT t f) n (l.foldl (addF (moreT t f).N n) noPlan) := fun hall => s.one own fun g hg => by
  rw [sums g hg,s.worth,if_neg s.not];have := room f.m fm0 hall g hg;omega
 cases u with
 | zero =>
   show LatP _ _ _ l l ∧ BestP _ _ (l.foldl _ _)
   exact ⟨own,stay fun j hj hjl => by omega⟩
 | succ u =>
   unfold swapL;rw [moreT_mf];have hkl : k < l.length := by omega
   obtain ⟨i,ei,him⟩ := s.mm _ (gI_mem hkl);have emk : mAt (moreT t f).fl (gI l k) = mAt t.fl (gI l k) := by rw [ei];exact moreT_m him
   rw [emk]
   by_cases c : f.m ≤ mAt t.fl (gI l k)
   ·rw [if_pos c];exact ⟨own,stay fun j hj hjl => by have := s.sorted hj hjl;omega⟩
   ·rw [if_neg c]
    by_cases c2 : canF (moreT t f).N n (l.eraseIdx k ++ [((t.fl.length : Nat) : Int)]) noPlan = true
    ·rw [if_pos c2]
     have lp : LatP (moreT t f).N n t.fl.length l (l.eraseIdx k ++ [((t.fl.length : Nat) : Int)]) := ⟨c2,ndE k hkl,mmE k hkl,fun x hx y hy hx' hy' => by
      have key : ∀ z ∈ l,z ∉ l.eraseIdx k ++ [((t.fl.length : Nat) : Int)] → z = gI l k := fun z hz hz' => by
       by_cases q : z = gI l k
       ·exact q
       ·exact absurd (List.mem_append_left _ ((mem_eraseIdx_nd s.nd hkl).2 ⟨hz,q⟩)) hz'
      rw [key x hx hx',key y hy hy']⟩
     refine ⟨lp,s.one lp fun g hg => ?_⟩;have w0 : 0 ≤ mAt t.fl (gI l k) := mAt_pos s.hT.mr _;have q := room (mAt t.fl (gI l k)) w0 (fun j hj hjl => s.sorted hj hjl) g hg;have q2 := sum_erase (W := mAt t.fl) s.nd hkl ei him;rw [s.worth] at q2
     have e3 : sumN (fun j => if (j : Int) ∈ l.eraseIdx k ++ [((t.fl.length : Nat) : Int)] then mAt t.fl j else 0) t.fl.length = sumN (fun j => if (j : Int) ∈ l.eraseIdx k then mAt t.fl j else 0) t.fl.length := sumN_eq _ fun j hj => by
      by_cases z : (j : Int) ∈ l.eraseIdx k
      ·rw [if_pos z,if_pos (List.mem_append_left _ z)]
      ·rw [if_neg z,if_neg (by rw [List.mem_append,List.mem_singleton];rintro (a | a);exact z a;omega)]
     rw [sums g hg,e3,if_pos (by simp)];have c1 := hg.one t.fl.length;have c0 := cntN_pos (h := g) (j := ((t.fl.length : Nat) : Int)) (n := n);rw [ei] at c q
     rcases (show cntN g ((t.fl.length : Nat) : Int) n = 0 ∨ cntN g ((t.fl.length : Nat) : Int) n = 1 by omega) with z | z
     ·rw [z,Int.zero_mul] at q ⊢;omega
     ·rw [z,Int.one_mul] at q ⊢;omega
    ·rw [if_neg c2]
     exact s.swap hno u (k + 1) (by omega) fun j hj => by
      rcases Nat.lt_or_ge j k with q | q
      ·exact hbad j q
      ·obtain rfl : j = k := by omega
       exact ⟨by simpa using c2,by omega⟩
theorem LatS.later (s : LatS t f n h l) : LatP (moreT t f).N n t.fl.length l (laterL (moreT t f).N n (t.fl.length : Nat) (mAt (moreT t f).fl) l) ∧ BestP (moreT t f) n ((laterL (moreT t f).N n (t.fl.length : Nat) (mAt (moreT t f).fl) l).foldl (addF (moreT t f).N n) noPlan) := by
 unfold laterL
 by_cases c : canF (moreT t f).N n (l ++ [((t.fl.length : Nat) : Int)]) noPlan = true
 ·rw [if_pos c];have lp : LatP (moreT t f).N n t.fl.length l (l ++ [((t.fl.length : Nat) : Int)]) := ⟨c,nodup_snoc s.nd s.not,fun x hx => by rw [List.mem_append,List.mem_singleton] at hx;exact hx,fun x hx y _ hx' _ => absurd (List.mem_append_left _ hx) hx'⟩;refine ⟨lp,s.one lp fun g hg => ?_⟩
  have e3 : sumN (fun j => if (j : Int) ∈ l ++ [((t.fl.length : Nat) : Int)] then mAt t.fl j else 0) t.fl.length = sumN (fun j => if (j : Int) ∈ l then mAt t.fl j else 0) t.fl.length := sumN_eq _ fun j hj => by
   by_cases z : (j : Int) ∈ l
   ·rw [if_pos z,if_pos (List.mem_append_left _ z)]
   ·rw [if_neg z,if_neg (by rw [List.mem_append,List.mem_singleton];rintro (a | a);exact z a;omega)]
  rw [e3,s.worth,if_pos (by simp)];have o := meritF_opt s.hM;rw [moreT_len] at o;have := o.le g hg;have := (more_bounds s.hT s.hM).2;omega
 ·rw [if_neg c];exact s.swap (by simpa using c) l.length 0 (by omega) fun j hj => absurd hj (Nat.not_lt_zero _)
end
theorem ClOk.of {n : Int} {cl : List Int} (hr : Rising cl) (hb : ∀ x ∈ cl,0 ≤ x ∧ x ≤ n - 1) : ClOk n cl := fun k hk => ⟨hb _ (gI_mem hk),fun h0 => hr (k - 1) k (by omega) hk⟩
structure InsP (a : List Int) (x : Int) (k : Nat) (Z : List Int) (put : Bool) : Prop where
 srt : Z.Pairwise (· < ·)
 mem : ∀ y,y ∈ Z ↔ y ∈ a.take k ∨ (put = true ∧ y = x)
 hi : put = true → ∀ y ∈ a.drop k,x < y
 lo : put = false → ∀ y ∈ a.take k,y < x
theorem pw_snoc {l : List Int} {x : Int} : (l ++ [x]).Pairwise (· < ·) ↔ l.Pairwise (· < ·) ∧ ∀ y ∈ l,y < x := by
 rw [List.pairwise_append]
 constructor
 ·rintro ⟨h1,-,h2⟩;exact ⟨h1,fun y hy => h2 y hy x (by simp)⟩
 ·rintro ⟨h1,h2⟩;exact ⟨h1,List.pairwise_singleton _ _,fun y hy z hz => by rw [List.mem_singleton] at hz;subst hz;exact h2 y hy⟩
section
variable {a : List Int} {x : Int} {k : Nat} {Z : List Int} {put : Bool}
theorem take_lt (ha : a.Pairwise (· < ·)) (hk : k < a.length) : ∀ y ∈ a.take k,y < a[k] := fun y hy => by
 obtain ⟨j,hj,e⟩ := List.getElem_of_mem hy;rw [List.length_take] at hj;rw [List.getElem_take] at e;rw [← e];exact List.pairwise_iff_getElem.1 ha j k (by omega) hk (by omega)
theorem InsP.on (h : InsP a x k Z put) (ha : a.Pairwise (· < ·)) (hk : k < a.length) (hx : put = true ∨ a[k] < x) : InsP a x (k + 1) (Z ++ [a[k]]) put := by
 refine ⟨pw_snoc.2 ⟨h.srt,fun y hy => ?_⟩,fun y => ?_,fun q y hy => ?_,fun q y hy => ?_⟩
 ·rcases (h.mem y).1 hy with q | ⟨q,rfl⟩
  ·exact take_lt ha hk y q
  ·exact h.hi q _ (by rw [List.drop_eq_getElem_cons hk];exact List.mem_cons_self)
 ·rw [List.mem_append,List.mem_singleton,h.mem,take_snoc hk,List.mem_append,List.mem_singleton]
  constructor
  ·rintro ((q | q) | q)
   ·exact .inl (.inl q)
   ·exact .inr q
   ·exact .inl (.inr q)
  ·rintro ((q | q) | q)
   ·exact .inl (.inl q)
   ·exact .inr q
   ·exact .inl (.inr q)
 ·exact h.hi q y (by rw [List.drop_eq_getElem_cons hk];exact List.mem_cons_of_mem _ hy)
 ·rw [take_snoc hk,List.mem_append,List.mem_singleton] at hy
  rcases hy with hy | rfl
  ·exact h.lo q y hy
  ·rcases hx with e | e
   ·rw [q] at e;cases e
   ·exact e
def insW (Z : List Int) (put : Bool) (x : Int) : List Int := if put = true then Z else Z ++ [x]
theorem InsP.done (h : InsP a x a.length Z put) : (insW Z put x).Pairwise (· < ·) ∧ ∀ y,y ∈ insW Z put x ↔ y ∈ a ∨ y = x := by
 have hm := h.mem;rw [List.take_length] at hm;unfold insW
 by_cases q : put = true
 ·rw [if_pos q];exact ⟨h.srt,fun y => by rw [hm];exact ⟨fun z => z.imp id fun z => z.2,fun z => z.imp id fun z => ⟨q,z⟩⟩⟩
 ·rw [if_neg q];have q0 : put = false := by simpa using q
  have hl := h.lo q0;rw [List.take_length] at hl;have hz : ∀ y ∈ Z,y ∈ a := fun y hy => ((hm y).1 hy).resolve_right fun z => q z.1;refine ⟨pw_snoc.2 ⟨h.srt,fun y hy => hl y (hz y hy)⟩,fun y => ?_⟩;rw [List.mem_append,List.mem_singleton,hm];exact ⟨fun z => z.elim (fun z => .inl (z.resolve_right fun z => q z.1)) .inr,fun z => z.elim (fun z => .inl (.inl z)) .inr⟩
end
end Go.Proofs.YtnklbepeoicgpaaGreat
namespace Go.Proofs.YtnklbepeoicgpaaGreat
open Go.RowKit Go.Wk Go.Proofs
attribute [local irreducible] Go.Wk.Wops Go.Wk.Wp Go.Wk.Mtree Go.Wk.Mops
set_option maxHeartbeats 8000000
set_option maxRecDepth 20000
theorem worthM_c (t : Tr) (n : Nat) (on : List Int) (v ov : Value) (w : World) (hP : PlanT t n) (hV : TourV w w.heap.size v t) (hI : IntsV w w.heap.size ov on) (hl : on.length = t.fl.length) :
  CallsV Tryz.prog 141 #[v,ov] w fun v' w' => v' = .int .i64 (wrthK t on t.fl.length) ∧ Ext w w' := by
 obtain ⟨A,c,A2,c2,rfl,hI1,hF⟩ := hV.open';obtain ⟨A1,c1,rfl,-,-⟩ := id hI;have hFS : FlawsS w w.heap.size (.slice A2 t.fl.length c2) t.fl := ⟨hF⟩;have hXS : IntsS w w.heap.size (.slice A1 on.length c1) on := ⟨hI⟩;clear hV hI1 hF hI;have hm12 := hP.fl;replace hl : ∃ _u : Unit,_ := ⟨(),hl⟩;refine Wp.fn Tryz.func141 rfl Tryz.ntmps141 (by simp) ?_;have xw := Ext.refl w;refine Wp.keep [0,1] ?_;rintro r1 ⟨e0_1,e1_1,-⟩;simp [go_sem] at e0_1 e1_1;refine sRg fun K' gd hK => ?_;refine cu1 fun K1 hK1 => ?_;go_simp;refine hK1 _ _ ?_;clear hK1 K1;refine Wops.absA fun V2_1 n2 hV2_1 => ?_;obtain ⟨q2,hV2_1,s2,kV2_1,f2,r2⟩ := hV2_1;try simp only [q2] at kV2_1 f2 r2 ⊢
 replace hFS := hFS.ext hV2_1;replace hXS := hXS.ext hV2_1;replace xw := xw.trans hV2_1;have c2_2 := kV2_1 2 _ rfl;clear kV2_1 hV2_1;clear r2;go_simp;refine hK _ _ ?_;clear hK K' gd;refine Wp.keep [1,2] ?_;rintro r2 ⟨e1_2,e2_2,-⟩;simp [go_sem,e0_1,e1_1] at e1_2 e2_2;clear e0_1 e1_1;refine sRg fun K' gd hK => ?_;go_simp;refine hK _ _ ?_;clear hK K' gd;refine Wp.keep [1,2,5] ?_;rintro r3 ⟨e1_3,e2_3,e5_3,-⟩;simp [go_sem,e1_2,e2_2] at e1_3 e2_3 e5_3;clear e1_2 e2_2;refine Wp.seq ?_;refine sRg fun K' gd hK => ?_;go_simp;refine hK _ _ ?_;clear hK K' gd;refine Wp.keep [2,5,8,9,10] ?_;rintro r4 ⟨e2_4,e5_4,e8_4,e9_4,e10_4,-⟩;simp [go_sem,e1_3,e2_3,e5_3] at e2_4 e5_4 e8_4 e9_4 e10_4;clear e1_3 e2_3 e5_3;refine Wp.block ?_;refine Wp.loop (fun k ρ ds wk => AllEq [2,8,9] ρ r4 ∧ ds = [] ∧ (Ext V2_1 wk) ∧ (ρ 10 = .int .i64 (k : Int) ∧ ρ 5 = .int .i64 (wrthK t on k))) (on.length) ?_ ?_
 ·refine ⟨AllEq.refl _ _,rfl,Ext.refl _,?_⟩;exact ⟨by rw [e10_4];rfl,by rw [e5_4];rfl⟩
 ·rintro k r5 _ wk hk ⟨hA,rfl,xl2,⟨e10,e5⟩⟩;obtain ⟨e2_5,e8_5,e9_5,-⟩ := hA;rw [e2_4] at e2_5;rw [e8_4] at e8_5;rw [e9_4] at e9_5;replace hFS := hFS.ext xl2;replace hXS := hXS.ext xl2;replace xw := Ext.trans xw xl2;replace c2_2 := Ext.cell xl2 c2_2;refine sRg fun K' gd hK => ?_;go_simp;refine hK _ _ ?_;clear hK K' gd;refine Wp.keep [2,5,8,9,10,11] ?_;rintro r6 ⟨e2_6,e5_6,e8_6,e9_6,e10_6,e11_6,-⟩;simp [go_sem,e2_5,e5,e8_5,e9_5,e10] at e2_6 e5_6 e8_6 e9_6 e10_6 e11_6;clear e2_5 e5 e8_5 e9_5 e10;refine Wp.seq ?_
  by_cases hkn : k < on.length
  ·refine cTt ?_;have hkl : (k : Int) < (on.length : Int) := by omega
   have hkf : k < t.fl.length := by have := hl.choose_spec;omega
   have hkf2 : (k : Int) < (t.fl.length : Int) := by omega
   obtain ⟨b,o,cc,ev,hb,hcc⟩ := hXS.v.get hkn
   injection ev with ev1 _ ev2
   subst ev1;subst ev2;have d1 := hcc k hkn;clear hcc;obtain ⟨b2,o2,eA,hb2,x0,x1,x2,x3⟩ := FlawsV.at hFS.v hkf;subst eA;have hmr := hP.mr k hkf;have hwl := wrthK_le hP on k (by omega)
   by_cases h0 : 0 ≤ gI on k
   ·skip;refine skN ?_;refine sBk ?_;refine sRg fun K' gd hK => ?_;go_simp;refine hK _ _ ?_;clear hK K' gd;refine Wp.keep [2,5,6,7,8,9,10] ?_;rintro r7 ⟨e2_7,e5_7,e6_7,e7_7,e8_7,e9_7,e10_7,-⟩;simp [go_sem,e2_6,e5_6,e8_6,e9_6,e10_6,e11_6] at e2_7 e5_7 e6_7 e7_7 e8_7 e9_7 e10_7;clear e2_6 e5_6 e8_6 e9_6 e10_6 e11_6;refine sRg fun K' gd hK => ?_;go_simp;refine hK _ _ ?_;clear hK K' gd;refine Wp.keep [2,5,6,8,9,10,16] ?_;rintro r8 ⟨e2_8,e5_8,e6_8,e8_8,e9_8,e10_8,e16_8,-⟩;simp [go_sem,e2_7,e5_7,e6_7,e7_7,e8_7,e9_7,e10_7] at e2_8 e5_8 e6_8 e8_8 e9_8 e10_8 e16_8;clear e2_7 e5_7 e6_7 e7_7 e8_7 e9_7 e10_7;refine cTt ?_;refine lRg fun K' gd hK => ?_;go_simp;refine hK _ _ ?_;clear hK K' gd;refine Ends.keep [2,5,8,9,10] ?_;rintro r9 ⟨e2_9,e5_9,e8_9,e9_9,e10_9,-⟩;simp [go_sem,e2_8,e5_8,e6_8,e8_8,e9_8,e10_8,e16_8] at e2_9 e5_9 e8_9 e9_9 e10_9;clear e2_8 e5_8 e6_8 e8_8 e9_8 e10_8 e16_8;refine Ends.mk ?_;refine bNo ?_;refine tNo ?_;refine lRg fun K' gd hK => ?_;go_simp;refine hK _ _ ?_;clear hK K' gd;refine Ends.keep [2,5,8,9,10] ?_;rintro r10 ⟨e2_10,e5_10,e8_10,e9_10,e10_10,-⟩
    simp [go_sem,e2_9,e5_9,e8_9,e9_9,e10_9] at e2_10 e5_10 e8_10 e9_10 e10_10;clear e2_9 e5_9 e8_9 e9_9 e10_9;refine Ends.mk ?_;refine thenK_normal ⟨by omega,⟨by rw [e2_10,e2_4],by rw [e8_10,e8_4],by rw [e9_10,e9_4],trivial⟩,rfl,xl2,?_⟩;exact ⟨by rw [e10_10,IntWalk.i64_in _ (by omega)];rfl,by rw [e5_10,wrthK_T hkf h0,IntWalk.i64_in _ (by omega)]⟩
   ·skip;refine skN ?_;refine sBk ?_;refine sRg fun K' gd hK => ?_;go_simp;refine hK _ _ ?_;clear hK K' gd;refine Wp.keep [2,5,6,7,8,9,10] ?_;rintro r11 ⟨e2_11,e5_11,e6_11,e7_11,e8_11,e9_11,e10_11,-⟩;simp [go_sem,e2_6,e5_6,e8_6,e9_6,e10_6,e11_6] at e2_11 e5_11 e6_11 e7_11 e8_11 e9_11 e10_11;clear e2_6 e5_6 e8_6 e9_6 e10_6 e11_6;refine sRg fun K' gd hK => ?_;go_simp;refine hK _ _ ?_;clear hK K' gd;refine Wp.keep [2,5,6,8,9,10,16] ?_;rintro r12 ⟨e2_12,e5_12,e6_12,e8_12,e9_12,e10_12,e16_12,-⟩;simp [go_sem,e2_11,e5_11,e6_11,e7_11,e8_11,e9_11,e10_11] at e2_12 e5_12 e6_12 e8_12 e9_12 e10_12 e16_12;clear e2_11 e5_11 e6_11 e7_11 e8_11 e9_11 e10_11;refine cFf ?_;refine Wp.skip ?_;refine bNo ?_;refine tNo ?_;refine lRg fun K' gd hK => ?_;go_simp;refine hK _ _ ?_;clear hK K' gd;refine Ends.keep [2,5,8,9,10] ?_;rintro r13 ⟨e2_13,e5_13,e8_13,e9_13,e10_13,-⟩;simp [go_sem,e2_12,e5_12,e6_12,e8_12,e9_12,e10_12,e16_12] at e2_13 e5_13 e8_13 e9_13 e10_13;clear e2_12 e5_12 e6_12 e8_12 e9_12 e10_12 e16_12;refine Ends.mk ?_;refine thenK_normal ⟨by omega,⟨by rw [e2_13,e2_4],by rw [e8_13,e8_4],by rw [e9_13,e9_4],trivial⟩,rfl,xl2,?_⟩
    exact ⟨by rw [e10_13,IntWalk.i64_in _ (by omega)];rfl,by rw [e5_13,wrthK_F h0]⟩
  ·refine cFf ?_;have hkq : ∃ _u : Unit,k = t.fl.length := ⟨(),by have := hl.choose_spec;omega⟩;refine Wp.exit ?_;refine tEx ?_;refine tEx ?_;refine blockK_here ?_;refine tNo ?_;refine sRg fun K' gd hK => ?_;go_simp;refine hK _ _ ?_;clear hK K' gd;refine Wp.keep [4] ?_;rintro r14 ⟨e4_14,-⟩;simp [go_sem,e2_6,e5_6,e8_6,e9_6,e10_6,e11_6] at e4_14;clear e2_6 e5_6 e8_6 e9_6 e10_6 e11_6;refine Wp.ret ?_;refine endK_tmp Tryz.results141 (by decide) ?_;rw [e4_14];exact ⟨by rw [hkq.choose_spec],xw⟩
instance (t : Tr) (m : Md) : Decidable (ProvP t m) := by unfold ProvP;infer_instance
theorem SpansV.at {w : World} {B : Nat} {A : Option Addr} {n c : Nat} {l : List (Int × Int)} (h : SpansV w B (.slice A n c) l) {k : Nat} (hk : k < l.length) : ∃ b o,A = some ⟨b,o,none⟩ ∧ b < B ∧
  w.cell? ⟨b,o + k * 2,none⟩ = some (.int .i64 (gZ l k).1) ∧ w.cell? ⟨b,o + k * 2 + 1,none⟩ = some (.int .i64 (gZ l k).2) := by
 obtain ⟨A',c',hv,hx,-⟩ := h
 injection hv with h1 h2 h3;subst h1
 obtain ⟨b,o,hA,hb,hc⟩ := hx (by rintro rfl;exact absurd hk (Nat.not_lt_zero _));rw [gZ_lt hk];exact ⟨b,o,hA,hb,hc k hk 0 _ rfl,hc k hk 1 _ rfl⟩
structure SpansS (w : World) (S : Nat) (v : Value) (l : List (Int × Int)) : Prop where
 v : SpansV w S v l
section
variable {w V : World} {S : Nat} {v : Value} {l : List (Int × Int)}
theorem SpansS.ext (h : SpansS w S v l) (hE : Ext w V) : SpansS V S v l := ⟨h.v.cells fun _ _ _ _ hc => hE.cell hc⟩
theorem SpansS.chg {L : List Nat} (h : SpansS w S v l) (hC : Chg L w V) (hL : ∀ b ∈ L,S ≤ b) : SpansS V S v l := ⟨h.v.cells fun b _ _ hb hc => Chg.cell hC hc fun hm => by have := hL b hm;omega⟩
theorem SpansS.put {b i : Nat} {vs : List Value} (h : SpansS w S v l) (p : Put w V b i vs) (hb : S ≤ b) : SpansS V S v l := h.chg p.chg (by simpa using hb)
end
theorem prov_no1 {t : Tr} {m : Md} (h : ¬ m.on.length = t.fl.length) : decide (ProvP t m) = false := decide_eq_false fun q => h q.1.1
theorem prov_no2 {t : Tr} {m : Md} (h : ¬ m.full.length = t.fl.length) : decide (ProvP t m) = false := decide_eq_false fun q => h q.1.2.1
theorem prov_no3 {t : Tr} {m : Md} (h : 0 ≤ wrongI t m.on) : decide (ProvP t m) = false := decide_eq_false fun q => by have := q.1.2.2.1;omega
theorem prov_no4 {t : Tr} {m : Md} (h : ¬ wrthK t m.on t.fl.length = m.mt) : decide (ProvP t m) = false := decide_eq_false fun q => h q.1.2.2.2
theorem prov_no5 {t : Tr} {m : Md} {k : Nat} (hk : k < t.fl.length) (h : ¬ FullOk t m.on (gZ m.full k) k) : decide (ProvP t m) = false := decide_eq_false fun q => h (q.2 k hk)
theorem full_yes {t : Tr} {xs : List Int} {z : Int × Int} {k : Nat} (h0 : 0 ≤ gI xs k) : FullOk t xs z k ↔ z = (0,0) := by unfold FullOk;rw [if_pos h0]
theorem full_T {t : Tr} {xs : List Int} {lo : Nat} {hi m : Int} {A : Option Addr} {c : Nat} {A2 : Option Addr} {c2 : Nat} {A3 : Option Addr} {c3 : Nat} {w : World} {b : Bool} (hb : fullB t xs (lo : Int) hi m = b) (hT : TourV w w.heap.size (.agg #[.int .i64 t.n,.slice A t.cl.length c,.slice A2 t.fl.length c2]) t)
  (hI : IntsV w w.heap.size (.slice A t.cl.length c) t.cl) (hF : FlawsV w w.heap.size (.slice A2 t.fl.length c2) t.fl) (hX : IntsV w w.heap.size (.slice A3 xs.length c3) xs) (hxl : xs.length = t.fl.length) (hfl : t.fl.length ≤ 12) (hcl : t.cl.length ≤ 1000000000000000) (hhi : hi ≤ 1000000) :
  CallsV Tryz.prog 157 #[.agg #[.int .i64 t.n,.slice A t.cl.length c,.slice A2 t.fl.length c2],.slice A3 xs.length c3,.agg #[.int .i64 (lo : Int),.int .i64 hi],.int .i64 m] w fun v w' => v = .bool b ∧ Ext w w' := by
 rw [← hb];exact full_c t xs lo hi m A c A2 c2 A3 c3 w hT hI hF hX hxl hfl hcl hhi
theorem in_T {a b c d : Int} {r : Bool} (h : decide (c ≤ a ∧ b ≤ d) = r) (w : World) : CallsV Tryz.prog 156 #[.agg #[.int .i64 a,.int .i64 b],.agg #[.int .i64 c,.int .i64 d]] w fun v w' => v = .bool r ∧ Ext w w' := by rw [← h];exact in_c a b c d w
theorem proved_c (t : Tr) (m : Md) (v mv : Value) (w : World) (hg : GoodT t) (hl12 : t.fl.length ≤ 12) (hV : TourV w w.heap.size v t) (hM : MendV w w.heap.size mv m) :
  CallsV Tryz.prog 82 #[v,mv] w fun v' w' => v' = .bool (decide (ProvP t m)) ∧ Ext w w' := by
 obtain ⟨A,c,A2,c2,rfl,hCl,hF⟩ := hV.open';obtain ⟨xv,zv,rfl,hX,hZ⟩ := hM;obtain ⟨A3,c3,rfl,-,-⟩ := id hX;obtain ⟨A4,c4,rfl,-,-⟩ := id hZ;have hTS : TourS w w.heap.size (.agg #[.int .i64 t.n,.slice A t.cl.length c,.slice A2 t.fl.length c2]) t := ⟨hV⟩;have hFS : FlawsS w w.heap.size (.slice A2 t.fl.length c2) t.fl := ⟨hF⟩;have hCS : IntsS w w.heap.size (.slice A t.cl.length c) t.cl := ⟨hCl⟩;have hXS : IntsS w w.heap.size (.slice A3 m.on.length c3) m.on := ⟨hX⟩;have hZS : SpansS w w.heap.size (.slice A4 m.full.length c4) m.full := ⟨hZ⟩;clear hV hX hZ hF hCl;have hP := hg.plan hl12;have hn60 := hg.n;have hcl9 := hP.cl;refine Wp.fn Tryz.func82 rfl Tryz.ntmps82 (by simp) ?_;have xw := Ext.refl w;refine Wp.keep [0,1] ?_;rintro r1 ⟨e0_1,e1_1,-⟩;simp [go_sem] at e0_1 e1_1;refine sRg fun K' gd hK => ?_;refine cu1 fun K1 hK1 => ?_;go_simp;refine hK1 _ _ ?_;clear hK1 K1;refine Wops.absA fun V2_1 n2 hV2_1 => ?_;obtain ⟨q2,hV2_1,s2,kV2_1,f2,r2⟩ := hV2_1;try simp only [q2] at kV2_1 f2 r2 ⊢
 replace hTS := hTS.ext hV2_1;replace hFS := hFS.ext hV2_1;replace hCS := hCS.ext hV2_1;replace hXS := hXS.ext hV2_1;replace hZS := hZS.ext hV2_1;replace xw := xw.trans hV2_1;have c2_0 := kV2_1 0 _ rfl;have c2_1 := kV2_1 1 _ rfl;have c2_2 := kV2_1 2 _ rfl;clear kV2_1 hV2_1;clear r2;refine cu1 fun K1 hK1 => ?_;go_simp;refine hK1 _ _ ?_;clear hK1 K1;refine Wops.absA fun V3_2 n3 hV3_2 => ?_;obtain ⟨q3,hV3_2,s3,kV3_2,f3,r3⟩ := hV3_2;try simp only [q3] at kV3_2 f3 r3 ⊢
 replace hTS := hTS.ext hV3_2;replace hFS := hFS.ext hV3_2;replace hCS := hCS.ext hV3_2;replace hXS := hXS.ext hV3_2;replace hZS := hZS.ext hV3_2;replace xw := xw.trans hV3_2;replace c2_0 := hV3_2.cell c2_0;replace c2_1 := hV3_2.cell c2_1;replace c2_2 := hV3_2.cell c2_2;have c3_0 := kV3_2 0 _ rfl;have c3_1 := kV3_2 1 _ rfl;have c3_2 := kV3_2 2 _ rfl;clear kV3_2 hV3_2;clear r3;go_simp;refine hK _ _ ?_;clear hK K' gd;refine Wp.keep [2,3] ?_;rintro r2 ⟨e2_2,e3_2,-⟩;simp [go_sem,e0_1,e1_1] at e2_2 e3_2;clear e0_1 e1_1;refine Wp.seq ?_
 by_cases h1 : m.on.length = t.fl.length
 ·skip;replace h1 : ∃ _u : Unit,_ := ⟨(),h1⟩;have h1i : ((m.on.length : Int) = (t.fl.length : Int)) = True := by simp [h1.choose_spec]
  by_cases h2 : m.full.length = t.fl.length
  ·skip;replace h2 : ∃ _u : Unit,_ := ⟨(),h2⟩;have h2i : ((m.full.length : Int) = (t.fl.length : Int)) = True := by simp [h2.choose_spec]
   obtain ⟨wi,hwi⟩ : ∃ wi : Int,∃ _u : Unit,wrongI t m.on = wi := ⟨_,(),rfl⟩;obtain ⟨wt,hwt⟩ : ∃ wt : Int,∃ _u : Unit,wrthK t m.on t.fl.length = wt := ⟨_,(),rfl⟩
   by_cases h3 : 0 ≤ wi
   ·skip;refine Wp.seqDraw (.inl rfl) mixed [([0,1,2,3,4],none),([5,6,7],none),([8,9,10,11,12],none),([13,14,15,16],none),([17,18,19],some (20,false)),([21,22,23],none),([24,25,26,28,29],some (27,false)),([30,31],none)] (by kernel_rfl) fun K' gd hK hg => ?_;have g7 : gd 7 = some 14 := hg 7;have g16 : gd 16 = some 23 := hg 16;have g23 : gd 23 = some 30 := hg 23;clear hg;simp only [pick,nth,List.map_cons,List.map_nil,Option.map_none,Option.map_some];refine Mops.absD fun D3 hD3 zD3 => ?_;replace hTS := hTS.ext hD3;replace hXS := hXS.ext hD3;replace xw := xw.trans hD3;replace c2_0 := hD3.cell c2_0;replace c2_1 := hD3.cell c2_1;replace c2_2 := hD3.cell c2_2;replace c3_0 := hD3.cell c3_0;replace c3_2 := hD3.cell c3_2;clear hD3;refine mNo ?_
    apply Mops.none
    ·intro w' hE';go_simp;with_reducible rfl
    refine mNo ?_
    apply Mops.none
    ·intro w' hE';go_simp;with_reducible rfl
    refine mAc ?_
    intro K1 hK1;go_simp;refine Wcall (.inl rfl) (wrong_c t t.n.toNat m.on _ _ _ hP (hTS.v.more (Below.size (XE))) (hXS.v.more (Below.size (XE))) h1.choose_spec) ?_;rintro v w3 ⟨hv,hE⟩;rw [hwi.choose_spec] at hv;subst hv;go_simp;refine hK1 _ _ (by assumption) ?_;clear hK1 K1;replace xw := xw.trans hE;clear hE;apply Mops.none
    ·intro w' hE';go_simp;with_reducible rfl
    apply Mops.act
    ·intro w' hE';go_simp;with_reducible rfl
    intro K1 hK1;go_simp;refine hK1 _ _ (Ext.refl _) ?_;clear hK1 K1;apply Mops.none
    ·intro w' hE';go_simp;with_reducible rfl
    refine Mops.done ?_;refine hK _ _ ?_;clear hK K' gd g7 g16 g23;refine Wp.keep [2,3,38] ?_;rintro r4 ⟨e2_4,e3_4,e38_4,-⟩;simp [go_sem,e2_2,e3_2] at e2_4 e3_4 e38_4;clear e2_2 e3_2;refine cTt ?_;refine sRg fun K' gd hK => ?_;go_simp;refine hK _ _ ?_;clear hK K' gd;refine Wp.keep [4] ?_;rintro r5 ⟨e4_5,-⟩;simp [go_sem,e2_4,e3_4,e38_4] at e4_5;clear e2_4 e3_4 e38_4;refine Wp.ret ?_;refine tRe ?_;refine endK_tmp Tryz.results82 (by decide) ?_;rw [e4_5];exact ⟨by rw [prov_no3 (by rw [hwi.choose_spec];exact h3)],xw⟩
   ·skip
    by_cases h4 : wt = m.mt
    ·skip;subst h4;refine Wp.seqDraw (.inl rfl) mixed [([0,1,2,3,4],none),([5,6,7],none),([8,9,10,11,12],none),([13,14,15,16],none),([17,18,19],some (20,false)),([21,22,23],none),([24,25,26,28,29],some (27,false)),([30,31],none)] (by kernel_rfl) fun K' gd hK hg => ?_;have g7 : gd 7 = some 14 := hg 7;have g16 : gd 16 = some 23 := hg 16;have g23 : gd 23 = some 30 := hg 23;clear hg;simp only [pick,nth,List.map_cons,List.map_nil,Option.map_none,Option.map_some];refine Mops.absD fun D4 hD4 zD4 => ?_;replace hTS := hTS.ext hD4;replace hFS := hFS.ext hD4;replace hCS := hCS.ext hD4;replace hXS := hXS.ext hD4;replace hZS := hZS.ext hD4;replace xw := xw.trans hD4;replace c2_0 := hD4.cell c2_0;replace c2_1 := hD4.cell c2_1;replace c2_2 := hD4.cell c2_2;replace c3_0 := hD4.cell c3_0;replace c3_1 := hD4.cell c3_1;replace c3_2 := hD4.cell c3_2;clear hD4;refine mNo ?_
     apply Mops.none
     ·intro w' hE';go_simp;with_reducible rfl
     refine mNo ?_
     apply Mops.none
     ·intro w' hE';go_simp;with_reducible rfl
     refine mAc ?_
     intro K1 hK1;go_simp;refine Wcall (.inl rfl) (wrong_c t t.n.toNat m.on _ _ _ hP (hTS.v.more (Below.size (XE))) (hXS.v.more (Below.size (XE))) h1.choose_spec) ?_;rintro v w3 ⟨hv,hE⟩;rw [hwi.choose_spec] at hv;subst hv;go_simp;refine hK1 _ _ (by assumption) ?_;clear hK1 K1;have z6 := Below.size hE;replace hTS := hTS.ext hE;replace hFS := hFS.ext hE;replace hCS := hCS.ext hE;replace hXS := hXS.ext hE;replace hZS := hZS.ext hE;replace xw := xw.trans hE;replace c2_0 := hE.cell c2_0;replace c2_1 := hE.cell c2_1;replace c2_2 := hE.cell c2_2;replace c3_0 := hE.cell c3_0;replace c3_1 := hE.cell c3_1;replace c3_2 := hE.cell c3_2;clear hE;apply Mops.none
     ·intro w' hE';go_simp;with_reducible rfl
     refine mAc ?_
     intro K1 hK1;go_simp;refine Wcall (.inl rfl) (worthM_c t t.n.toNat m.on _ _ _ hP (hTS.v.more (Below.size (XE))) (hXS.v.more (Below.size (XE))) h1.choose_spec) ?_;rintro v w4 ⟨hv,hE⟩;rw [hwt.choose_spec] at hv;subst hv;go_simp;refine hK1 _ _ (by assumption) ?_;clear hK1 K1;have z7 := Below.size hE;replace hTS := hTS.ext hE;replace hFS := hFS.ext hE;replace hCS := hCS.ext hE;replace hXS := hXS.ext hE;replace hZS := hZS.ext hE;replace xw := xw.trans hE;replace c2_0 := hE.cell c2_0;replace c2_1 := hE.cell c2_1;replace c2_2 := hE.cell c2_2;replace c3_0 := hE.cell c3_0;replace c3_2 := hE.cell c3_2;clear hE;apply Mops.none
     ·intro w' hE';go_simp;with_reducible rfl
     refine Mops.done ?_;refine hK _ _ ?_;clear hK K' gd g7 g16 g23;refine Wp.keep [2,3,38] ?_;rintro r8 ⟨e2_8,e3_8,e38_8,-⟩;simp [go_sem,e2_2,e3_2] at e2_8 e3_8 e38_8;clear e2_2 e3_2;refine cFf ?_;refine skN ?_;refine Wp.seq ?_;refine sRg fun K' gd hK => ?_;go_simp;refine hK _ _ ?_;clear hK K' gd;refine Wp.keep [2,3,40,41,42] ?_;rintro r9 ⟨e2_9,e3_9,e40_9,e41_9,e42_9,-⟩;simp [go_sem,e2_8,e3_8,e38_8] at e2_9 e3_9 e40_9 e41_9 e42_9;clear e2_8 e3_8 e38_8;refine Wp.block ?_;refine Wp.loop (fun k ρ ds wk => AllEq [2,3,40,41] ρ r9 ∧ ds = [] ∧ (Ext w4 wk) ∧ (ρ 42 = .int .i64 (k : Int) ∧ (∃ _u : Unit,∀ j,j < k → FullOk t m.on (gZ m.full j) j))) (t.fl.length) ?_ ?_
     ·refine ⟨AllEq.refl _ _,rfl,Ext.refl _,?_⟩;exact ⟨by rw [e42_9];rfl,(),fun j hj => absurd hj (Nat.not_lt_zero _)⟩
     ·rintro k r10 _ wk hk ⟨hA,rfl,xl5,⟨e42,hq⟩⟩;obtain ⟨e2_10,e3_10,e40_10,e41_10,-⟩ := hA;rw [e2_9] at e2_10;rw [e3_9] at e3_10;rw [e40_9] at e40_10;rw [e41_9] at e41_10;have zxl5 := Below.size xl5;replace hTS := hTS.ext xl5;replace hFS := hFS.ext xl5;replace hCS := hCS.ext xl5;replace hXS := hXS.ext xl5;replace hZS := hZS.ext xl5;replace xw := Ext.trans xw xl5;replace c2_0 := Ext.cell xl5 c2_0;replace c2_1 := Ext.cell xl5 c2_1;replace c2_2 := Ext.cell xl5 c2_2;replace c3_0 := Ext.cell xl5 c3_0;replace c3_2 := Ext.cell xl5 c3_2
      by_cases hkf : k < t.fl.length
      ·skip;have hkl : (k : Int) < (m.full.length : Int) := by have := h2.choose_spec;omega
       have hkm : k < m.full.length := by omega
       refine sRg fun K' gd hK => ?_;go_simp;refine hK _ _ ?_;clear hK K' gd;refine Wp.keep [2,3,40,41,42,43] ?_;rintro r11 ⟨e2_11,e3_11,e40_11,e41_11,e42_11,e43_11,-⟩;simp [go_sem,e2_10,e3_10,e40_10,e41_10,e42] at e2_11 e3_11 e40_11 e41_11 e42_11 e43_11;clear e2_10 e3_10 e40_10 e41_10 e42;refine Wp.seq ?_;refine cTt ?_;have hkf2 : (k : Int) < (t.fl.length : Int) := by omega
       have hkx : k < m.on.length := by have := h1.choose_spec;omega
       have hkx2 : (k : Int) < (m.on.length : Int) := by omega
       obtain ⟨b2,o2,eA,hb2,x0,x1,x2,x3⟩ := FlawsV.at hFS.v hkf;subst eA;obtain ⟨b3,o3,eA,hb3,z1,z2⟩ := SpansV.at hZS.v hkm;subst eA;obtain ⟨b4,o4,cc,ev,hb4,hcc⟩ := hXS.v.get hkx
       injection ev with ev1 _ ev2
       subst ev1;subst ev2;have d1 := hcc k hkx;clear hcc;obtain ⟨⟨p,q⟩,hpq⟩ : ∃ z : Int × Int,∃ _u : Unit,gZ m.full k = z := ⟨_,(),rfl⟩;rw [hpq.choose_spec] at z1 z2
       dsimp only at z1 z2
       obtain ⟨G,hG⟩ : ∃ G,∃ _u : Unit,t.fl[k] = G := ⟨_,(),rfl⟩;rw [hG.choose_spec] at x0 x1 x2 x3
       by_cases h5 : 0 ≤ gI m.on k
       ·skip;refine skN ?_;refine sBk ?_;refine sRg fun K' gd hK => ?_;refine cu4 fun K1 hK1 => ?_;go_simp;refine hK1 _ _ ?_;clear hK1 K1;refine Wops.absA fun V6_6 n6 hV6_6 => ?_;obtain ⟨q6,hV6_6,s6,kV6_6,f6,r6⟩ := hV6_6;try simp only [q6] at kV6_6 f6 r6 ⊢
        replace xw := xw.trans hV6_6;replace xl5 := xl5.trans hV6_6;replace c3_0 := hV6_6.cell c3_0;replace x1 := hV6_6.cell x1;replace x2 := hV6_6.cell x2;replace x3 := hV6_6.cell x3;replace z1 := hV6_6.cell z1;replace z2 := hV6_6.cell z2;replace d1 := hV6_6.cell d1;have c6_0 := kV6_6 0 _ rfl;have c6_1 := kV6_6 1 _ rfl;clear kV6_6 hV6_6;clear r6;refine cu2 fun K1 hK1 => ?_;go_simp;refine hK1 _ _ ?_;clear hK1 K1;refine Wops.absS (b := n6) (i := 0) [_,_] (somes [cellVal c6_0,cellVal c6_1] (by simp) (by intro j v hj;match j,hj with | 0,hj => (simp at hj;subst hj;exact c6_0) | 1,hj => (simp at hj;subst hj;exact c6_1))) fun P7 hP7 => ?_;have zP7 := hP7.same;replace xw := Put.to xw hP7 (by omega);replace xl5 := Put.to xl5 hP7 (by omega);replace c3_0 := hP7.cell c3_0 (by omega);replace x1 := hP7.cell x1 (by omega);replace x2 := hP7.cell x2 (by omega);replace x3 := hP7.cell x3 (by omega);replace z1 := hP7.cell z1 (by omega);replace z2 := hP7.cell z2 (by omega);replace d1 := hP7.cell d1 (by omega);clear c6_0;clear c6_1;have c6_0 := hP7.new 0 _ rfl;try simp only [Nat.reduceAdd,Nat.zero_add,Nat.add_zero] at c6_0
        have c6_1 := hP7.new 1 _ rfl;try simp only [Nat.reduceAdd,Nat.zero_add,Nat.add_zero] at c6_1
        clear hP7;try simp only [Wops_nil,updO_some,updO_none]
        refine hK _ _ ?_;clear hK K' gd;refine Wp.keep [2,3,5,6,40,41,42] ?_;rintro r12 ⟨e2_12,e3_12,e5_12,e6_12,e40_12,e41_12,e42_12,-⟩;simp [go_sem,e2_11,e3_11,e40_11,e41_11,e42_11,e43_11] at e2_12 e3_12 e5_12 e6_12 e40_12 e41_12 e42_12;clear e2_11 e3_11 e40_11 e41_11 e42_11 e43_11;refine Wp.seq ?_;refine sRg fun K' gd hK => ?_;go_simp;refine hK _ _ ?_;clear hK K' gd;refine Wp.keep [2,3,5,6,40,41,42,52] ?_;rintro r13 ⟨e2_13,e3_13,e5_13,e6_13,e40_13,e41_13,e42_13,e52_13,-⟩;simp [go_sem,e2_12,e3_12,e5_12,e6_12,e40_12,e41_12,e42_12] at e2_13 e3_13 e5_13 e6_13 e40_13 e41_13 e42_13 e52_13;clear e2_12 e3_12 e5_12 e6_12 e40_12 e41_12 e42_12;refine cTt ?_
        by_cases h6 : p = 0
        ·skip
         by_cases h7 : q = 0
         ·skip;refine Wp.seq ?_;refine sRg fun K' gd hK => ?_;go_simp;refine hK _ _ ?_;clear hK K' gd;refine Wp.keep [2,3,40,41,42,55] ?_;rintro r14 ⟨e2_14,e3_14,e40_14,e41_14,e42_14,e55_14,-⟩;simp [go_sem,e2_13,e3_13,e5_13,e6_13,e40_13,e41_13,e42_13,e52_13] at e2_14 e3_14 e40_14 e41_14 e42_14 e55_14;clear e2_13 e3_13 e5_13 e6_13 e40_13 e41_13 e42_13 e52_13;refine cFf ?_;refine skN ?_;refine Wp.exit ?_;refine tEx ?_;refine blockK_here ?_;refine tNo ?_;refine lRg fun K' gd hK => ?_;go_simp;refine hK _ _ ?_;clear hK K' gd;refine Ends.keep [2,3,40,41,42] ?_;rintro r15 ⟨e2_15,e3_15,e40_15,e41_15,e42_15,-⟩;simp [go_sem,e2_14,e3_14,e40_14,e41_14,e42_14,e55_14] at e2_15 e3_15 e40_15 e41_15 e42_15;clear e2_14 e3_14 e40_14 e41_14 e42_14 e55_14;refine Ends.mk ?_;refine thenK_normal ⟨by omega,⟨by rw [e2_15,e2_9],by rw [e3_15,e3_9],by rw [e40_15,e40_9],by rw [e41_15,e41_9],trivial⟩,rfl,xl5,?_⟩;exact ⟨by rw [e42_15,IntWalk.i64_in _ (by omega)];rfl,(),fun j hj => by by_cases e : j = k;(subst e;rw [full_yes h5,hpq.choose_spec,h6,h7]);exact hq.choose_spec j (by omega)⟩
         ·skip;refine Wp.seq ?_;refine sRg fun K' gd hK => ?_;go_simp;refine hK _ _ ?_;clear hK K' gd;refine Wp.keep [2,3,40,41,42,55] ?_;rintro r16 ⟨e2_16,e3_16,e40_16,e41_16,e42_16,e55_16,-⟩;simp [go_sem,e2_13,e3_13,e5_13,e6_13,e40_13,e41_13,e42_13,e52_13] at e2_16 e3_16 e40_16 e41_16 e42_16 e55_16;clear e2_13 e3_13 e5_13 e6_13 e40_13 e41_13 e42_13 e52_13;refine cTt ?_;refine sRg fun K' gd hK => ?_;go_simp;refine hK _ _ ?_;clear hK K' gd;refine Wp.keep [4] ?_;rintro r17 ⟨e4_17,-⟩;simp [go_sem,e2_16,e3_16,e40_16,e41_16,e42_16,e55_16] at e4_17;clear e2_16 e3_16 e40_16 e41_16 e42_16 e55_16;refine Wp.ret ?_;refine tRe ?_;refine tRe ?_;refine bRe ?_;refine tRe ?_;refine tRe ?_;refine bRe ?_;refine tRe ?_;refine endK_tmp Tryz.results82 (by decide) ?_;rw [e4_17];exact ⟨by rw [prov_no5 hkf (by rw [full_yes h5,hpq.choose_spec];intro e;injection e with e1 e2;exact h7 e2)],xw⟩
        ·skip;refine Wp.seq ?_;refine sRg fun K' gd hK => ?_;go_simp;refine hK _ _ ?_;clear hK K' gd;refine Wp.keep [2,3,40,41,42,55] ?_;rintro r18 ⟨e2_18,e3_18,e40_18,e41_18,e42_18,e55_18,-⟩;simp [go_sem,e2_13,e3_13,e5_13,e6_13,e40_13,e41_13,e42_13,e52_13] at e2_18 e3_18 e40_18 e41_18 e42_18 e55_18;clear e2_13 e3_13 e5_13 e6_13 e40_13 e41_13 e42_13 e52_13;refine cTt ?_;refine sRg fun K' gd hK => ?_;go_simp;refine hK _ _ ?_;clear hK K' gd;refine Wp.keep [4] ?_;rintro r19 ⟨e4_19,-⟩;simp [go_sem,e2_18,e3_18,e40_18,e41_18,e42_18,e55_18] at e4_19;clear e2_18 e3_18 e40_18 e41_18 e42_18 e55_18;refine Wp.ret ?_;refine tRe ?_;refine tRe ?_;refine bRe ?_;refine tRe ?_;refine tRe ?_;refine bRe ?_;refine tRe ?_;refine endK_tmp Tryz.results82 (by decide) ?_;rw [e4_19];exact ⟨by rw [prov_no5 hkf (by rw [full_yes h5,hpq.choose_spec];intro e;injection e with e1 e2;exact h6 e1)],xw⟩
       ·skip;refine skN ?_;refine sBk ?_;refine sRg fun K' gd hK => ?_;refine cu4 fun K1 hK1 => ?_;go_simp;refine hK1 _ _ ?_;clear hK1 K1;refine Wops.absA fun V6_8 n6 hV6_8 => ?_;obtain ⟨q6,hV6_8,s6,kV6_8,f6,r6⟩ := hV6_8;try simp only [q6] at kV6_8 f6 r6 ⊢
        replace hTS := hTS.ext hV6_8;replace hFS := hFS.ext hV6_8;replace hCS := hCS.ext hV6_8;replace hXS := hXS.ext hV6_8;replace xw := xw.trans hV6_8;replace xl5 := xl5.trans hV6_8;replace c2_0 := hV6_8.cell c2_0;replace c2_1 := hV6_8.cell c2_1;replace c2_2 := hV6_8.cell c2_2;replace c3_0 := hV6_8.cell c3_0;replace x1 := hV6_8.cell x1;replace x2 := hV6_8.cell x2;replace x3 := hV6_8.cell x3;replace z1 := hV6_8.cell z1;replace z2 := hV6_8.cell z2;replace d1 := hV6_8.cell d1;have c6_0 := kV6_8 0 _ rfl;have c6_1 := kV6_8 1 _ rfl;clear kV6_8 hV6_8;clear r6;refine cu2 fun K1 hK1 => ?_;go_simp;refine hK1 _ _ ?_;clear hK1 K1;refine Wops.absS (b := n6) (i := 0) [_,_] (somes [cellVal c6_0,cellVal c6_1] (by simp) (by intro j v hj;match j,hj with | 0,hj => (simp at hj;subst hj;exact c6_0) | 1,hj => (simp at hj;subst hj;exact c6_1))) fun P9 hP9 => ?_;have zP9 := hP9.same;replace hTS := hTS.put hP9 (by omega);replace hFS := hFS.put hP9 (by omega);replace hCS := hCS.put hP9 (by omega);replace hXS := hXS.put hP9 (by omega);replace xw := Put.to xw hP9 (by omega);replace xl5 := Put.to xl5 hP9 (by omega);replace c2_0 := hP9.cell c2_0 (by omega);replace c2_1 := hP9.cell c2_1 (by omega);replace c2_2 := hP9.cell c2_2 (by omega);replace c3_0 := hP9.cell c3_0 (by omega);replace x1 := hP9.cell x1 (by omega)
        replace x2 := hP9.cell x2 (by omega);replace x3 := hP9.cell x3 (by omega);replace z1 := hP9.cell z1 (by omega);replace z2 := hP9.cell z2 (by omega);replace d1 := hP9.cell d1 (by omega);clear c6_0;clear c6_1;have c6_0 := hP9.new 0 _ rfl;try simp only [Nat.reduceAdd,Nat.zero_add,Nat.add_zero] at c6_0
        have c6_1 := hP9.new 1 _ rfl;try simp only [Nat.reduceAdd,Nat.zero_add,Nat.add_zero] at c6_1
        clear hP9;try simp only [Wops_nil,updO_some,updO_none]
        refine hK _ _ ?_;clear hK K' gd;refine Wp.keep [2,3,5,6,40,41,42] ?_;rintro r20 ⟨e2_20,e3_20,e5_20,e6_20,e40_20,e41_20,e42_20,-⟩;simp [go_sem,e2_11,e3_11,e40_11,e41_11,e42_11,e43_11] at e2_20 e3_20 e5_20 e6_20 e40_20 e41_20 e42_20;clear e2_11 e3_11 e40_11 e41_11 e42_11 e43_11;refine Wp.seq ?_;refine sRg fun K' gd hK => ?_;go_simp;refine hK _ _ ?_;clear hK K' gd;refine Wp.keep [2,3,5,6,40,41,42,52] ?_;rintro r21 ⟨e2_21,e3_21,e5_21,e6_21,e40_21,e41_21,e42_21,e52_21,-⟩;simp [go_sem,e2_20,e3_20,e5_20,e6_20,e40_20,e41_20,e42_20] at e2_21 e3_21 e5_21 e6_21 e40_21 e41_21 e42_21 e52_21;clear e2_20 e3_20 e5_20 e6_20 e40_20 e41_20 e42_20;refine cFf ?_;have hfa : ∃ _u : Unit,FullOk t m.on (gZ m.full k) k ↔ (0 ≤ p ∧ p ≤ q ∧ q < t.n) ∧ (p ≤ G.lo ∧ G.hi ≤ q) ∧ fullB t m.on p q G.m = true := ⟨(),by rw [FullOk.at hkf h5,hpq.choose_spec,hG.choose_spec]⟩
        by_cases s1 : 0 ≤ p ∧ p ≤ q ∧ q < t.n
        ·skip;obtain ⟨a,ha⟩ : ∃ a : Nat,p = (a : Int) := ⟨p.toNat,by omega⟩;subst ha
         by_cases s2 : (a : Int) ≤ G.lo ∧ G.hi ≤ q
         ·skip
          by_cases s3 : fullB t m.on (a : Int) q G.m = true
          ·skip;refine skN ?_;refine Wp.seqDraw (.inl rfl) mixed [([0,1],some (2,false)),([3,4],none),([5,6,7,8,9],none),([10,11],some (12,false)),([13,14,15],none),([16,17,18,19,20],none),([21,22,23,24,25],some (26,false)),([27,28],none)] (by kernel_rfl) fun K' gd hK hg => ?_;have g4 : gd 4 = some 60 := hg 4;have g15 : gd 15 = some 71 := hg 15;clear hg;simp only [pick,nth,List.map_cons,List.map_nil,Option.map_none,Option.map_some];refine Mops.absD fun D10 hD10 zD10 => ?_;replace hTS := hTS.ext hD10;replace hFS := hFS.ext hD10;replace hCS := hCS.ext hD10;replace hXS := hXS.ext hD10;replace xw := xw.trans hD10;replace xl5 := xl5.trans hD10;replace c2_0 := hD10.cell c2_0;replace c2_1 := hD10.cell c2_1;replace c2_2 := hD10.cell c2_2;replace c3_0 := hD10.cell c3_0;replace x1 := hD10.cell x1;replace x2 := hD10.cell x2;replace x3 := hD10.cell x3;replace z1 := hD10.cell z1;replace z2 := hD10.cell z2;replace d1 := hD10.cell d1;replace c6_0 := hD10.cell c6_0;replace c6_1 := hD10.cell c6_1;clear hD10;refine mAc ?_
           intro K1 hK1;go_simp;refine Wcall (.inl rfl) (span_T s1 _) ?_;rintro v w5 ⟨rfl,hE⟩;go_simp;refine hK1 _ _ (by assumption) ?_;clear hK1 K1;replace hTS := hTS.ext hE;replace hFS := hFS.ext hE;replace hCS := hCS.ext hE;replace hXS := hXS.ext hE;replace xw := xw.trans hE;replace xl5 := xl5.trans hE;replace c2_0 := hE.cell c2_0;replace c2_1 := hE.cell c2_1;replace c2_2 := hE.cell c2_2;replace c3_0 := hE.cell c3_0;replace x1 := hE.cell x1;replace x2 := hE.cell x2;replace x3 := hE.cell x3;replace z1 := hE.cell z1;replace z2 := hE.cell z2;replace d1 := hE.cell d1;replace c6_0 := hE.cell c6_0;replace c6_1 := hE.cell c6_1;clear hE;apply Mops.none
           ·intro w' hE';go_simp;with_reducible rfl
           refine mNo ?_
           refine mAc ?_
           intro K1 hK1;go_simp;refine Wcall (.inl rfl) (in_T (decide_eq_true s2) _) ?_;rintro v w6 ⟨rfl,hE⟩;go_simp;refine hK1 _ _ (by assumption) ?_;clear hK1 K1;replace hTS := hTS.ext hE;replace hFS := hFS.ext hE;replace hCS := hCS.ext hE;replace hXS := hXS.ext hE;replace xw := xw.trans hE;replace xl5 := xl5.trans hE;replace c2_0 := hE.cell c2_0;replace c2_1 := hE.cell c2_1;replace c2_2 := hE.cell c2_2;replace c3_0 := hE.cell c3_0;replace x1 := hE.cell x1;replace x2 := hE.cell x2;replace x3 := hE.cell x3;replace z1 := hE.cell z1;replace z2 := hE.cell z2;replace d1 := hE.cell d1;replace c6_0 := hE.cell c6_0;replace c6_1 := hE.cell c6_1;clear hE;apply Mops.none
           ·intro w' hE';go_simp;with_reducible rfl
           refine mNo ?_
           refine mAc ?_
           intro K1 hK1;go_simp;refine Wcall (.inl rfl) (full_T s3 (hTS.v.more (Below.size (XE))) (hCS.v.more (Below.size (XE))) (hFS.v.more (Below.size (XE))) (hXS.v.more (Below.size (XE))) h1.choose_spec hl12 hcl9 (by omega)) ?_;rintro v w7 ⟨rfl,hE⟩;go_simp;refine hK1 _ _ (by assumption) ?_;clear hK1 K1;replace xw := xw.trans hE;replace xl5 := xl5.trans hE;replace x1 := hE.cell x1;replace x2 := hE.cell x2;replace x3 := hE.cell x3;replace z1 := hE.cell z1;replace z2 := hE.cell z2;replace d1 := hE.cell d1;clear hE;apply Mops.none
           ·intro w' hE';go_simp;with_reducible rfl
           refine Mops.done ?_;refine hK _ _ ?_;clear hK K' gd g4 g15;refine Wp.keep [2,3,40,41,42,84] ?_;rintro r25 ⟨e2_25,e3_25,e40_25,e41_25,e42_25,e84_25,-⟩;simp [go_sem,e2_21,e3_21,e5_21,e6_21,e40_21,e41_21,e42_21,e52_21] at e2_25 e3_25 e40_25 e41_25 e42_25 e84_25;clear e2_21 e3_21 e5_21 e6_21 e40_21 e41_21 e42_21 e52_21;refine cFf ?_;refine Wp.skip ?_;refine bNo ?_;refine tNo ?_;refine lRg fun K' gd hK => ?_;go_simp;refine hK _ _ ?_;clear hK K' gd;refine Ends.keep [2,3,40,41,42] ?_;rintro r26 ⟨e2_26,e3_26,e40_26,e41_26,e42_26,-⟩;simp [go_sem,e2_25,e3_25,e40_25,e41_25,e42_25,e84_25] at e2_26 e3_26 e40_26 e41_26 e42_26;clear e2_25 e3_25 e40_25 e41_25 e42_25 e84_25;refine Ends.mk ?_;refine thenK_normal ⟨by omega,⟨by rw [e2_26,e2_9],by rw [e3_26,e3_9],by rw [e40_26,e40_9],by rw [e41_26,e41_9],trivial⟩,rfl,xl5,?_⟩;exact ⟨by rw [e42_26,IntWalk.i64_in _ (by omega)];rfl,(),fun j hj => by by_cases e : j = k;(subst e;exact hfa.choose_spec.2 ⟨s1,s2,s3⟩);exact hq.choose_spec j (by omega)⟩
          ·skip;refine skN ?_;refine Wp.seqDraw (.inl rfl) mixed [([0,1],some (2,false)),([3,4],none),([5,6,7,8,9],none),([10,11],some (12,false)),([13,14,15],none),([16,17,18,19,20],none),([21,22,23,24,25],some (26,false)),([27,28],none)] (by kernel_rfl) fun K' gd hK hg => ?_;have g4 : gd 4 = some 60 := hg 4;have g15 : gd 15 = some 71 := hg 15;clear hg;simp only [pick,nth,List.map_cons,List.map_nil,Option.map_none,Option.map_some];refine Mops.absD fun D11 hD11 zD11 => ?_;replace hTS := hTS.ext hD11;replace hFS := hFS.ext hD11;replace hCS := hCS.ext hD11;replace hXS := hXS.ext hD11;replace xw := xw.trans hD11;replace xl5 := xl5.trans hD11;replace c2_0 := hD11.cell c2_0;replace c2_1 := hD11.cell c2_1;replace c2_2 := hD11.cell c2_2;replace c3_0 := hD11.cell c3_0;replace x1 := hD11.cell x1;replace x2 := hD11.cell x2;replace x3 := hD11.cell x3;replace c6_0 := hD11.cell c6_0;replace c6_1 := hD11.cell c6_1;clear hD11;refine mAc ?_
           intro K1 hK1;go_simp;refine Wcall (.inl rfl) (span_T s1 _) ?_;rintro v w5 ⟨rfl,hE⟩;go_simp;refine hK1 _ _ (by assumption) ?_;clear hK1 K1;replace hTS := hTS.ext hE;replace hFS := hFS.ext hE;replace hCS := hCS.ext hE;replace hXS := hXS.ext hE;replace xw := xw.trans hE;replace xl5 := xl5.trans hE;replace c2_0 := hE.cell c2_0;replace c2_1 := hE.cell c2_1;replace c2_2 := hE.cell c2_2;replace c3_0 := hE.cell c3_0;replace x1 := hE.cell x1;replace x2 := hE.cell x2;replace x3 := hE.cell x3;replace c6_0 := hE.cell c6_0;replace c6_1 := hE.cell c6_1;clear hE;apply Mops.none
           ·intro w' hE';go_simp;with_reducible rfl
           refine mNo ?_
           refine mAc ?_
           intro K1 hK1;go_simp;refine Wcall (.inl rfl) (in_T (decide_eq_true s2) _) ?_;rintro v w6 ⟨rfl,hE⟩;go_simp;refine hK1 _ _ (by assumption) ?_;clear hK1 K1;replace hTS := hTS.ext hE;replace hFS := hFS.ext hE;replace hCS := hCS.ext hE;replace hXS := hXS.ext hE;replace xw := xw.trans hE;replace xl5 := xl5.trans hE;replace c2_0 := hE.cell c2_0;replace c2_1 := hE.cell c2_1;replace c2_2 := hE.cell c2_2;replace c3_0 := hE.cell c3_0;replace x3 := hE.cell x3;replace c6_0 := hE.cell c6_0;replace c6_1 := hE.cell c6_1;clear hE;apply Mops.none
           ·intro w' hE';go_simp;with_reducible rfl
           refine mNo ?_
           refine mAc ?_
           intro K1 hK1;go_simp;refine Wcall (.inl rfl) (full_T (show fullB t m.on (a : Int) q G.m = false by simpa using s3) (hTS.v.more (Below.size (XE))) (hCS.v.more (Below.size (XE))) (hFS.v.more (Below.size (XE))) (hXS.v.more (Below.size (XE))) h1.choose_spec hl12 hcl9 (by omega)) ?_;rintro v w7 ⟨rfl,hE⟩;go_simp;refine hK1 _ _ (by assumption) ?_;clear hK1 K1;replace xw := xw.trans hE;replace xl5 := xl5.trans hE;clear hE;apply Mops.none
           ·intro w' hE';go_simp;with_reducible rfl
           refine Mops.done ?_;refine hK _ _ ?_;clear hK K' gd g4 g15;refine Wp.keep [2,3,40,41,42,84] ?_;rintro r30 ⟨e2_30,e3_30,e40_30,e41_30,e42_30,e84_30,-⟩;simp [go_sem,e2_21,e3_21,e5_21,e6_21,e40_21,e41_21,e42_21,e52_21] at e2_30 e3_30 e40_30 e41_30 e42_30 e84_30;clear e2_21 e3_21 e5_21 e6_21 e40_21 e41_21 e42_21 e52_21;refine cTt ?_;refine sRg fun K' gd hK => ?_;go_simp;refine hK _ _ ?_;clear hK K' gd;refine Wp.keep [4] ?_;rintro r31 ⟨e4_31,-⟩;simp [go_sem,e2_30,e3_30,e40_30,e41_30,e42_30,e84_30] at e4_31;clear e2_30 e3_30 e40_30 e41_30 e42_30 e84_30;refine Wp.ret ?_;refine bRe ?_;refine tRe ?_;refine tRe ?_;refine bRe ?_;refine tRe ?_;refine endK_tmp Tryz.results82 (by decide) ?_;rw [e4_31];exact ⟨by rw [prov_no5 hkf fun e => s3 (hfa.choose_spec.1 e).2.2],xw⟩
         ·skip;refine skN ?_;refine Wp.seqDraw (.inl rfl) mixed [([0,1],some (2,false)),([3,4],none),([5,6,7,8,9],none),([10,11],some (12,false)),([13,14,15],none),([16,17,18,19,20],none),([21,22,23,24,25],some (26,false)),([27,28],none)] (by kernel_rfl) fun K' gd hK hg => ?_;have g4 : gd 4 = some 60 := hg 4;have g15 : gd 15 = some 71 := hg 15;clear hg;simp only [pick,nth,List.map_cons,List.map_nil,Option.map_none,Option.map_some];refine Mops.absD fun D12 hD12 zD12 => ?_;replace xw := xw.trans hD12;replace xl5 := xl5.trans hD12;replace c2_0 := hD12.cell c2_0;replace c2_1 := hD12.cell c2_1;replace c2_2 := hD12.cell c2_2;replace x1 := hD12.cell x1;replace x2 := hD12.cell x2;replace c6_0 := hD12.cell c6_0;replace c6_1 := hD12.cell c6_1;clear hD12;refine mAc ?_
          intro K1 hK1;go_simp;refine Wcall (.inl rfl) (span_T s1 _) ?_;rintro v w5 ⟨rfl,hE⟩;go_simp;refine hK1 _ _ (by assumption) ?_;clear hK1 K1;replace xw := xw.trans hE;replace xl5 := xl5.trans hE;replace c2_2 := hE.cell c2_2;replace x1 := hE.cell x1;replace x2 := hE.cell x2;replace c6_0 := hE.cell c6_0;replace c6_1 := hE.cell c6_1;clear hE;apply Mops.none
          ·intro w' hE';go_simp;with_reducible rfl
          refine mNo ?_
          refine mAc ?_
          intro K1 hK1;go_simp;refine Wcall (.inl rfl) (in_T (decide_eq_false s2) _) ?_;rintro v w6 ⟨rfl,hE⟩;go_simp;refine hK1 _ _ (by assumption) ?_;clear hK1 K1;replace xw := xw.trans hE;replace xl5 := xl5.trans hE;clear hE;apply Mops.none
          ·intro w' hE';go_simp;with_reducible rfl
          apply Mops.none
          ·intro w' hE';go_simp;with_reducible rfl
          apply Mops.act
          ·intro w' hE';go_simp;with_reducible rfl
          intro K1 hK1;go_simp;refine hK1 _ _ (Ext.refl _) ?_;clear hK1 K1;apply Mops.none
          ·intro w' hE';go_simp;with_reducible rfl
          refine Mops.done ?_;refine hK _ _ ?_;clear hK K' gd g4 g15;refine Wp.keep [2,3,40,41,42,84] ?_;rintro r34 ⟨e2_34,e3_34,e40_34,e41_34,e42_34,e84_34,-⟩;simp [go_sem,e2_21,e3_21,e5_21,e6_21,e40_21,e41_21,e42_21,e52_21] at e2_34 e3_34 e40_34 e41_34 e42_34 e84_34;clear e2_21 e3_21 e5_21 e6_21 e40_21 e41_21 e42_21 e52_21;refine cTt ?_;refine sRg fun K' gd hK => ?_;go_simp;refine hK _ _ ?_;clear hK K' gd;refine Wp.keep [4] ?_;rintro r35 ⟨e4_35,-⟩;simp [go_sem,e2_34,e3_34,e40_34,e41_34,e42_34,e84_34] at e4_35;clear e2_34 e3_34 e40_34 e41_34 e42_34 e84_34;refine Wp.ret ?_;refine bRe ?_;refine tRe ?_;refine tRe ?_;refine bRe ?_;refine tRe ?_;refine endK_tmp Tryz.results82 (by decide) ?_;rw [e4_35];exact ⟨by rw [prov_no5 hkf fun e => s2 (hfa.choose_spec.1 e).2.1],xw⟩
        ·skip;refine skN ?_;refine Wp.seqDraw (.inl rfl) mixed [([0,1],some (2,false)),([3,4],none),([5,6,7,8,9],none),([10,11],some (12,false)),([13,14,15],none),([16,17,18,19,20],none),([21,22,23,24,25],some (26,false)),([27,28],none)] (by kernel_rfl) fun K' gd hK hg => ?_;have g4 : gd 4 = some 60 := hg 4;have g15 : gd 15 = some 71 := hg 15;clear hg;simp only [pick,nth,List.map_cons,List.map_nil,Option.map_none,Option.map_some];refine Mops.absD fun D13 hD13 zD13 => ?_;replace xw := xw.trans hD13;replace xl5 := xl5.trans hD13;replace c2_0 := hD13.cell c2_0;replace c2_1 := hD13.cell c2_1;replace c2_2 := hD13.cell c2_2;replace c6_0 := hD13.cell c6_0;replace c6_1 := hD13.cell c6_1;clear hD13;refine mAc ?_
         intro K1 hK1;go_simp;refine Wcall (.inl rfl) (span_F s1 _) ?_;rintro v w5 ⟨rfl,hE⟩;go_simp;refine hK1 _ _ (by assumption) ?_;clear hK1 K1;replace xw := xw.trans hE;replace xl5 := xl5.trans hE;clear hE;apply Mops.none
         ·intro w' hE';go_simp;with_reducible rfl
         apply Mops.none
         ·intro w' hE';go_simp;with_reducible rfl
         apply Mops.act
         ·intro w' hE';go_simp;with_reducible rfl
         intro K1 hK1;go_simp;refine hK1 _ _ (Ext.refl _) ?_;clear hK1 K1;apply Mops.none
         ·intro w' hE';go_simp;with_reducible rfl
         apply Mops.none
         ·intro w' hE';go_simp;with_reducible rfl
         apply Mops.act
         ·intro w' hE';go_simp;with_reducible rfl
         intro K1 hK1;go_simp;refine hK1 _ _ (Ext.refl _) ?_;clear hK1 K1;apply Mops.none
         ·intro w' hE';go_simp;with_reducible rfl
         refine Mops.done ?_;refine hK _ _ ?_;clear hK K' gd g4 g15;refine Wp.keep [2,3,40,41,42,84] ?_;rintro r37 ⟨e2_37,e3_37,e40_37,e41_37,e42_37,e84_37,-⟩;simp [go_sem,e2_21,e3_21,e5_21,e6_21,e40_21,e41_21,e42_21,e52_21] at e2_37 e3_37 e40_37 e41_37 e42_37 e84_37;clear e2_21 e3_21 e5_21 e6_21 e40_21 e41_21 e42_21 e52_21;refine cTt ?_;refine sRg fun K' gd hK => ?_;go_simp;refine hK _ _ ?_;clear hK K' gd;refine Wp.keep [4] ?_;rintro r38 ⟨e4_38,-⟩;simp [go_sem,e2_37,e3_37,e40_37,e41_37,e42_37,e84_37] at e4_38;clear e2_37 e3_37 e40_37 e41_37 e42_37 e84_37;refine Wp.ret ?_;refine bRe ?_;refine tRe ?_;refine tRe ?_;refine bRe ?_;refine tRe ?_;refine endK_tmp Tryz.results82 (by decide) ?_;rw [e4_38];exact ⟨by rw [prov_no5 hkf fun e => s1 (hfa.choose_spec.1 e).1],xw⟩
      ·skip;have hkq : ∃ _u : Unit,k = t.fl.length := ⟨(),by omega⟩;have hkl : ¬ (k : Int) < (m.full.length : Int) := by have := h2.choose_spec;omega
       refine sRg fun K' gd hK => ?_;go_simp;refine hK _ _ ?_;clear hK K' gd;refine Wp.keep [2,3,40,41,42,43] ?_;rintro r39 ⟨e2_39,e3_39,e40_39,e41_39,e42_39,e43_39,-⟩;simp [go_sem,e2_10,e3_10,e40_10,e41_10,e42] at e2_39 e3_39 e40_39 e41_39 e42_39 e43_39;clear e2_10 e3_10 e40_10 e41_10 e42;refine Wp.seq ?_;refine cFf ?_;refine Wp.exit ?_;refine tEx ?_;refine tEx ?_;refine blockK_here ?_;refine tNo ?_;refine sRg fun K' gd hK => ?_;go_simp;refine hK _ _ ?_;clear hK K' gd;refine Wp.keep [4] ?_;rintro r40 ⟨e4_40,-⟩;simp [go_sem,e2_39,e3_39,e40_39,e41_39,e42_39,e43_39] at e4_40;clear e2_39 e3_39 e40_39 e41_39 e42_39 e43_39;refine Wp.ret ?_;refine endK_tmp Tryz.results82 (by decide) ?_;rw [e4_40];exact ⟨by rw [decide_eq_true (show ProvP t m from ⟨⟨h1.choose_spec,h2.choose_spec,by rw [hwi.choose_spec];omega,hwt.choose_spec⟩,fun j hj => hq.choose_spec j (by rw [hkq.choose_spec];exact hj)⟩)],xw⟩
    ·skip;refine Wp.seqDraw (.inl rfl) mixed [([0,1,2,3,4],none),([5,6,7],none),([8,9,10,11,12],none),([13,14,15,16],none),([17,18,19],some (20,false)),([21,22,23],none),([24,25,26,28,29],some (27,false)),([30,31],none)] (by kernel_rfl) fun K' gd hK hg => ?_;have g7 : gd 7 = some 14 := hg 7;have g16 : gd 16 = some 23 := hg 16;have g23 : gd 23 = some 30 := hg 23;clear hg;simp only [pick,nth,List.map_cons,List.map_nil,Option.map_none,Option.map_some];refine Mops.absD fun D14 hD14 zD14 => ?_;replace hTS := hTS.ext hD14;replace hXS := hXS.ext hD14;replace xw := xw.trans hD14;replace c2_0 := hD14.cell c2_0;replace c2_1 := hD14.cell c2_1;replace c2_2 := hD14.cell c2_2;replace c3_0 := hD14.cell c3_0;replace c3_1 := hD14.cell c3_1;replace c3_2 := hD14.cell c3_2;clear hD14;refine mNo ?_
     apply Mops.none
     ·intro w' hE';go_simp;with_reducible rfl
     refine mNo ?_
     apply Mops.none
     ·intro w' hE';go_simp;with_reducible rfl
     refine mAc ?_
     intro K1 hK1;go_simp;refine Wcall (.inl rfl) (wrong_c t t.n.toNat m.on _ _ _ hP (hTS.v.more (Below.size (XE))) (hXS.v.more (Below.size (XE))) h1.choose_spec) ?_;rintro v w3 ⟨hv,hE⟩;rw [hwi.choose_spec] at hv;subst hv;go_simp;refine hK1 _ _ (by assumption) ?_;clear hK1 K1;replace hTS := hTS.ext hE;replace hXS := hXS.ext hE;replace xw := xw.trans hE;replace c2_0 := hE.cell c2_0;replace c2_1 := hE.cell c2_1;replace c2_2 := hE.cell c2_2;replace c3_0 := hE.cell c3_0;replace c3_1 := hE.cell c3_1;clear hE;apply Mops.none
     ·intro w' hE';go_simp;with_reducible rfl
     refine mAc ?_
     intro K1 hK1;go_simp;refine Wcall (.inl rfl) (worthM_c t t.n.toNat m.on _ _ _ hP (hTS.v.more (Below.size (XE))) (hXS.v.more (Below.size (XE))) h1.choose_spec) ?_;rintro v w4 ⟨hv,hE⟩;rw [hwt.choose_spec] at hv;subst hv;go_simp;refine hK1 _ _ (by assumption) ?_;clear hK1 K1;replace xw := xw.trans hE;clear hE;apply Mops.none
     ·intro w' hE';go_simp;with_reducible rfl
     refine Mops.done ?_;refine hK _ _ ?_;clear hK K' gd g7 g16 g23;refine Wp.keep [2,3,38] ?_;rintro r43 ⟨e2_43,e3_43,e38_43,-⟩;simp [go_sem,e2_2,e3_2] at e2_43 e3_43 e38_43;clear e2_2 e3_2;refine cTt ?_;refine sRg fun K' gd hK => ?_;go_simp;refine hK _ _ ?_;clear hK K' gd;refine Wp.keep [4] ?_;rintro r44 ⟨e4_44,-⟩;simp [go_sem,e2_43,e3_43,e38_43] at e4_44;clear e2_43 e3_43 e38_43;refine Wp.ret ?_;refine tRe ?_;refine endK_tmp Tryz.results82 (by decide) ?_;rw [e4_44];exact ⟨by rw [prov_no4 (by rw [hwt.choose_spec];exact h4)],xw⟩
  ·skip;have h2i : ((m.full.length : Int) = (t.fl.length : Int)) = False := by simp;omega
   refine Wp.seqDraw (.inl rfl) mixed [([0,1,2,3,4],none),([5,6,7],none),([8,9,10,11,12],none),([13,14,15,16],none),([17,18,19],some (20,false)),([21,22,23],none),([24,25,26,28,29],some (27,false)),([30,31],none)] (by kernel_rfl) fun K' gd hK hg => ?_;have g7 : gd 7 = some 14 := hg 7;have g16 : gd 16 = some 23 := hg 16;have g23 : gd 23 = some 30 := hg 23;clear hg;simp only [pick,nth,List.map_cons,List.map_nil,Option.map_none,Option.map_some];refine Mops.absD fun D15 hD15 zD15 => ?_;replace xw := xw.trans hD15;replace c2_2 := hD15.cell c2_2;replace c3_0 := hD15.cell c3_0;replace c3_2 := hD15.cell c3_2;clear hD15;refine mNo ?_
   apply Mops.none
   ·intro w' hE';go_simp;with_reducible rfl
   refine mNo ?_
   apply Mops.none
   ·intro w' hE';go_simp;with_reducible rfl
   apply Mops.act
   ·intro w' hE';go_simp;with_reducible rfl
   intro K1 hK1;go_simp;refine hK1 _ _ (Ext.refl _) ?_;clear hK1 K1;apply Mops.none
   ·intro w' hE';go_simp;with_reducible rfl
   apply Mops.act
   ·intro w' hE';go_simp;with_reducible rfl
   intro K1 hK1;go_simp;refine hK1 _ _ (Ext.refl _) ?_;clear hK1 K1;apply Mops.none
   ·intro w' hE';go_simp;with_reducible rfl
   refine Mops.done ?_;refine hK _ _ ?_;clear hK K' gd g7 g16 g23;refine Wp.keep [2,3,38] ?_;rintro r45 ⟨e2_45,e3_45,e38_45,-⟩;simp [go_sem,e2_2,e3_2] at e2_45 e3_45 e38_45;clear e2_2 e3_2;refine cTt ?_;refine sRg fun K' gd hK => ?_;go_simp;refine hK _ _ ?_;clear hK K' gd;refine Wp.keep [4] ?_;rintro r46 ⟨e4_46,-⟩;simp [go_sem,e2_45,e3_45,e38_45] at e4_46;clear e2_45 e3_45 e38_45;refine Wp.ret ?_;refine tRe ?_;refine endK_tmp Tryz.results82 (by decide) ?_;rw [e4_46];exact ⟨by rw [prov_no2 h2],xw⟩
 ·skip;have h1i : ((m.on.length : Int) = (t.fl.length : Int)) = False := by simp;omega
  refine Wp.seqDraw (.inl rfl) mixed [([0,1,2,3,4],none),([5,6,7],none),([8,9,10,11,12],none),([13,14,15,16],none),([17,18,19],some (20,false)),([21,22,23],none),([24,25,26,28,29],some (27,false)),([30,31],none)] (by kernel_rfl) fun K' gd hK hg => ?_;have g7 : gd 7 = some 14 := hg 7;have g16 : gd 16 = some 23 := hg 16;have g23 : gd 23 = some 30 := hg 23;clear hg;simp only [pick,nth,List.map_cons,List.map_nil,Option.map_none,Option.map_some];refine Mops.absD fun D16 hD16 zD16 => ?_;replace xw := xw.trans hD16;replace c2_2 := hD16.cell c2_2;replace c3_0 := hD16.cell c3_0;clear hD16;refine mNo ?_
  apply Mops.none
  ·intro w' hE';go_simp;with_reducible rfl
  apply Mops.none
  ·intro w' hE';go_simp;with_reducible rfl
  apply Mops.none
  ·intro w' hE';go_simp;with_reducible rfl
  apply Mops.act
  ·intro w' hE';go_simp;with_reducible rfl
  intro K1 hK1;go_simp;refine hK1 _ _ (Ext.refl _) ?_;clear hK1 K1;apply Mops.none
  ·intro w' hE';go_simp;with_reducible rfl
  apply Mops.act
  ·intro w' hE';go_simp;with_reducible rfl
  intro K1 hK1;go_simp;refine hK1 _ _ (Ext.refl _) ?_;clear hK1 K1;apply Mops.none
  ·intro w' hE';go_simp;with_reducible rfl
  refine Mops.done ?_;refine hK _ _ ?_;clear hK K' gd g7 g16 g23;refine Wp.keep [2,3,38] ?_;rintro r47 ⟨e2_47,e3_47,e38_47,-⟩;simp [go_sem,e2_2,e3_2] at e2_47 e3_47 e38_47;clear e2_2 e3_2;refine cTt ?_;refine sRg fun K' gd hK => ?_;go_simp;refine hK _ _ ?_;clear hK K' gd;refine Wp.keep [4] ?_;rintro r48 ⟨e4_48,-⟩;simp [go_sem,e2_47,e3_47,e38_47] at e4_48;clear e2_47 e3_47 e38_47;refine Wp.ret ?_;refine tRe ?_;refine endK_tmp Tryz.results82 (by decide) ?_;rw [e4_48];exact ⟨by rw [prov_no1 h1],xw⟩
def bestE (t : Tr) (m : Md) : Int := if checkT t ≠ 0 then checkT t else if ProvP t m then 0 else 8
theorem CheckBest_c (t : Tr) (m : Md) (v mv : Value) (w : World) (hV : TourV w w.heap.size v t) (hM : MendV w w.heap.size mv m) (hf : FitT t) (hl : checkT t = 0 → t.fl.length ≤ 12) :
  CallsV Tryz.prog 18 #[v,mv] w fun v' w' => v' = .int .i64 (bestE t m) ∧ Ext w w' := by
 obtain ⟨A,c,A2,c2,rfl,hCl,hF⟩ := hV.open';obtain ⟨xv,zv,rfl,hX,hZ⟩ := id hM;obtain ⟨A3,c3,rfl,-,-⟩ := id hX;obtain ⟨A4,c4,rfl,-,-⟩ := id hZ;refine Wp.fn Tryz.func18 rfl Tryz.ntmps18 (by simp) ?_;have xw := Ext.refl w;refine Wp.keep [0,1] ?_;rintro r1 ⟨e0_1,e1_1,-⟩;simp [go_sem] at e0_1 e1_1;refine sRg fun K' gd hK => ?_;refine cu1 fun K1 hK1 => ?_;go_simp;refine hK1 _ _ ?_;clear hK1 K1;refine Wops.absA fun V2_1 n2 hV2_1 => ?_;obtain ⟨q2,hV2_1,s2,kV2_1,f2,r2⟩ := hV2_1;try simp only [q2] at kV2_1 f2 r2 ⊢
 replace xw := xw.trans hV2_1;have c2_0 := kV2_1 0 _ rfl;have c2_1 := kV2_1 1 _ rfl;have c2_2 := kV2_1 2 _ rfl;clear kV2_1 hV2_1;clear r2;refine cu1 fun K1 hK1 => ?_;go_simp;refine hK1 _ _ ?_;clear hK1 K1;refine Wops.absA fun V3_2 n3 hV3_2 => ?_;obtain ⟨q3,hV3_2,s3,kV3_2,f3,r3⟩ := hV3_2;try simp only [q3] at kV3_2 f3 r3 ⊢
 replace xw := xw.trans hV3_2;replace c2_0 := hV3_2.cell c2_0;replace c2_1 := hV3_2.cell c2_1;replace c2_2 := hV3_2.cell c2_2;have c3_0 := kV3_2 0 _ rfl;have c3_1 := kV3_2 1 _ rfl;have c3_2 := kV3_2 2 _ rfl;clear kV3_2 hV3_2;clear r3;go_simp;refine hK _ _ ?_;clear hK K' gd;refine Wp.keep [2,3] ?_;rintro r2 ⟨e2_2,e3_2,-⟩;simp [go_sem,e0_1,e1_1] at e2_2 e3_2;clear e0_1 e1_1;refine Wp.seq ?_;refine sRg fun K' gd hK => ?_;refine cu2 fun K1 hK1 => ?_;go_simp;refine Wcall (.inl rfl) (check_c t _ _ (hV.ext xw) hf) ?_;rintro v w2 ⟨rfl,hE⟩;go_simp;refine hK1 _ _ ?_;clear hK1 K1;replace xw := xw.trans hE;replace c2_0 := hE.cell c2_0;replace c2_1 := hE.cell c2_1;replace c2_2 := hE.cell c2_2;replace c3_0 := hE.cell c3_0;replace c3_1 := hE.cell c3_1;replace c3_2 := hE.cell c3_2;clear hE;go_simp;refine hK _ _ ?_;clear hK K' gd;refine Wp.keep [2,3,5] ?_;rintro r4 ⟨e2_4,e3_4,e5_4,-⟩;simp [go_sem,e2_2,e3_2] at e2_4 e3_4 e5_4;clear e2_2 e3_2
 by_cases h0 : checkT t = 0
 ·skip;have hg := checkT_zero.1 h0;have hbe : ∃ _u : Unit,bestE t m = if ProvP t m then 0 else 8 := ⟨(),by unfold bestE;rw [if_neg (not_not_intro h0)]⟩;refine sRg fun K' gd hK => ?_;go_simp;refine hK _ _ ?_;clear hK K' gd;refine Wp.keep [2,3,5,9] ?_;rintro r5 ⟨e2_5,e3_5,e5_5,e9_5,-⟩;simp [go_sem,e2_4,e3_4,e5_4] at e2_5 e3_5 e5_5 e9_5;clear e2_4 e3_4 e5_4;refine cFf ?_;refine skN ?_;refine Wp.seq ?_;refine sRg fun K' gd hK => ?_;refine cu3 fun K1 hK1 => ?_;go_simp;refine Wcall (.inl rfl) (proved_c t m _ _ _ hg (hl h0) (hV.ext xw) (hM.ext xw)) ?_;rintro v w3 ⟨hv,hE⟩;obtain ⟨p,hp⟩ : ∃ p : Bool,∃ _u : Unit,decide (ProvP t m) = p := ⟨_,(),rfl⟩;rw [hp.choose_spec] at hv;subst hv;go_simp;refine hK1 _ _ ?_;clear hK1 K1;replace xw := xw.trans hE;clear hE;go_simp;refine hK _ _ ?_;clear hK K' gd;refine Wp.keep [14] ?_;rintro r7 ⟨e14_7,-⟩;simp [go_sem,e2_5,e3_5,e5_5,e9_5] at e14_7;clear e2_5 e3_5 e5_5 e9_5
  by_cases h1 : p = true
  ·skip;refine cFf ?_;refine skN ?_;refine sRg fun K' gd hK => ?_;go_simp;refine hK _ _ ?_;clear hK K' gd;refine Wp.keep [4] ?_;rintro r8 ⟨e4_8,-⟩;simp [go_sem,e14_7] at e4_8;clear e14_7;refine Wp.ret ?_;refine endK_tmp Tryz.results18 (by decide) ?_;rw [e4_8];exact ⟨by rw [hbe.choose_spec,if_pos (of_decide_eq_true (hp.choose_spec.trans h1))],xw⟩
  ·skip;refine cTt ?_;refine sRg fun K' gd hK => ?_;go_simp;refine hK _ _ ?_;clear hK K' gd;refine Wp.keep [4] ?_;rintro r9 ⟨e4_9,-⟩;simp [go_sem,e14_7] at e4_9;clear e14_7;refine Wp.ret ?_;refine tRe ?_;refine endK_tmp Tryz.results18 (by decide) ?_;rw [e4_9];exact ⟨by rw [hbe.choose_spec,if_neg (of_decide_eq_false (hp.choose_spec.trans (by simpa using h1)))],xw⟩
 ·skip;refine sRg fun K' gd hK => ?_;go_simp;refine hK _ _ ?_;clear hK K' gd;refine Wp.keep [2,3,5,9] ?_;rintro r10 ⟨e2_10,e3_10,e5_10,e9_10,-⟩;simp [go_sem,e2_4,e3_4,e5_4] at e2_10 e3_10 e5_10 e9_10;clear e2_4 e3_4 e5_4;refine cTt ?_;refine sRg fun K' gd hK => ?_;go_simp;refine hK _ _ ?_;clear hK K' gd;refine Wp.keep [4] ?_;rintro r11 ⟨e4_11,-⟩;simp [go_sem,e2_10,e3_10,e5_10,e9_10] at e4_11;clear e2_10 e3_10 e5_10 e9_10;refine Wp.ret ?_;refine tRe ?_;refine endK_tmp Tryz.results18 (by decide) ?_;rw [e4_11];exact ⟨by unfold bestE;rw [if_pos h0],xw⟩
end Go.Proofs.YtnklbepeoicgpaaGreat
namespace Go.Proofs.YtnklbepeoicgpaaGreat
theorem bestE_plan {t : Tr} {m : Md} (h : bestE t m = 0) : GoodT t ∧ ∃ g,OnP t.N t.n.toNat t.fl.length m.on g ∧ BestP t t.n.toNat g ∧ meritF t t.n.toNat = m.mt := by
 unfold bestE at h
 by_cases hc : checkT t = 0
 ·have hg := checkT_zero.1 hc;rw [if_neg (not_not_intro hc)] at h
  by_cases hp : ProvP t m
  ·exact ⟨hg,prov_best hg.opt hg.nn hp⟩
  ·rw [if_neg hp] at h;cases h
 ·rw [if_pos hc] at h;exact absurd h hc
theorem whole_best {t : Tr} (hg : GoodT t) : bestE t (wholeF t t.n.toNat (bestF t t.n.toNat)) = 0 ∧ (wholeF t t.n.toNat (bestF t t.n.toNat)).mt = meritF t t.n.toNat ∧ (wholeF t t.n.toNat (bestF t t.n.toNat)).on.length = t.fl.length := by
 have hp := best_prov hg.opt hg.nn hg.le hg.pos (bestF_best hg.opt);refine ⟨?_,rfl,onL_len⟩;unfold bestE;rw [if_neg (not_not_intro (checkT_zero.2 hg)),if_pos hp]
end Go.Proofs.YtnklbepeoicgpaaGreat
namespace Go.Proofs.YtnklbepeoicgpaaGreat
open Go.RowKit Go.Wk Go.Proofs
attribute [local irreducible] Go.Wk.Wops Go.Wk.Wp Go.Wk.Mtree Go.Wk.Mops
set_option maxHeartbeats 8000000
set_option maxRecDepth 20000
def smallM (m : Md) : Prop := m.on.length ≤ 60 ∧ m.full.length ≤ 60
instance (m : Md) : Decidable (smallM m) := by unfold smallM;infer_instance
theorem small_c (m : Md) (v : Value) (w : World) (hM : MendV w w.heap.size v m) :
  CallsV Tryz.prog 43 #[v] w fun v' w' => v' = .bool (decide (smallM m)) ∧ Ext w w' := by
 obtain ⟨xv,zv,rfl,hX,hZ⟩ := hM;obtain ⟨A3,c3,rfl,-,-⟩ := id hX;obtain ⟨A4,c4,rfl,-,-⟩ := id hZ;clear hX hZ;refine Wp.fn Tryz.func43 rfl Tryz.ntmps43 (by simp) ?_;have xw := Ext.refl w;refine Wp.keep [0] ?_;rintro r1 ⟨e0_1,-⟩;simp [go_sem] at e0_1;refine sRg fun K' gd hK => ?_;refine cu1 fun K1 hK1 => ?_;go_simp;refine hK1 _ _ ?_;clear hK1 K1;refine Wops.absA fun V1_1 n1 hV1_1 => ?_;obtain ⟨q1,hV1_1,s1,kV1_1,f1,r1⟩ := hV1_1;try simp only [q1] at kV1_1 f1 r1 ⊢
 replace xw := xw.trans hV1_1;have c1_0 := kV1_1 0 _ rfl;have c1_2 := kV1_1 2 _ rfl;clear kV1_1 hV1_1;clear r1;go_simp;refine hK _ _ ?_;clear hK K' gd;refine Wp.keep [1] ?_;rintro r2 ⟨e1_2,-⟩;simp [go_sem,e0_1] at e1_2;clear e0_1
 by_cases h1 : (m.on.length : Int) ≤ 60
 ·skip
  by_cases h2 : (m.full.length : Int) ≤ 60
  ·skip;refine sRh fun K' gd hK hg => ?_;have g4 : gd 4 = some 7 := hg 4;clear hg;go_simp;refine hK _ _ ?_;clear hK K' gd g4;refine Wp.keep [2] ?_;rintro r3 ⟨e2_3,-⟩;simp [go_sem,e1_2] at e2_3;clear e1_2;refine Wp.ret ?_;refine endK_tmp Tryz.results43 (by decide) ?_;rw [e2_3];exact ⟨by rw [decide_eq_true (show smallM m from ⟨by omega,by omega⟩)],xw⟩
  ·skip;refine sRh fun K' gd hK hg => ?_;have g4 : gd 4 = some 7 := hg 4;clear hg;go_simp;refine hK _ _ ?_;clear hK K' gd g4;refine Wp.keep [2] ?_;rintro r4 ⟨e2_4,-⟩;simp [go_sem,e1_2] at e2_4;clear e1_2;refine Wp.ret ?_;refine endK_tmp Tryz.results43 (by decide) ?_;rw [e2_4];exact ⟨by rw [decide_eq_false (fun h : smallM m => by unfold smallM at h;omega)],xw⟩
 ·skip;refine sRh fun K' gd hK hg => ?_;have g4 : gd 4 = some 7 := hg 4;clear hg;go_simp;refine hK _ _ ?_;clear hK K' gd g4;refine Wp.keep [2] ?_;rintro r5 ⟨e2_5,-⟩;simp [go_sem,e1_2] at e2_5;clear e1_2;refine Wp.ret ?_;refine endK_tmp Tryz.results43 (by decide) ?_;rw [e2_5];exact ⟨by rw [decide_eq_false (fun h : smallM m => by unfold smallM at h;omega)],xw⟩
theorem later1_c (f g : Fl) (hf : 0 ≤ f.m ∧ f.m ≤ 1000) (hg : 0 ≤ g.m ∧ g.m ≤ 1000) (w : World) : CallsV Tryz.prog 146 #[flV f,flV g] w fun v w' => (∃ r : Int,v = .int .i64 r ∧ decide (r < 0) = decide (f.m < g.m)) ∧ Ext w w' := by
 unfold flV;have hw : IntKind.i64.wrap (f.m - g.m) = f.m - g.m := IntWalk.i64_in _ (by omega);refine Wp.fn Tryz.func146 rfl Tryz.ntmps146 (by simp) ?_;have xw := Ext.refl w;refine Wp.keep [0,1] ?_;rintro r1 ⟨e0_1,e1_1,-⟩;simp [go_sem] at e0_1 e1_1;refine sRg fun K' gd hK => ?_;refine cu1 fun K1 hK1 => ?_;go_simp;refine hK1 _ _ ?_;clear hK1 K1;refine Wops.absA fun V2_1 n2 hV2_1 => ?_;obtain ⟨q2,hV2_1,s2,kV2_1,f2,r2⟩ := hV2_1;try simp only [q2] at kV2_1 f2 r2 ⊢
 replace xw := xw.trans hV2_1;have c2_0 := kV2_1 0 _ rfl;have c2_1 := kV2_1 1 _ rfl;have c2_2 := kV2_1 2 _ rfl;have c2_3 := kV2_1 3 _ rfl;clear kV2_1 hV2_1;clear r2;refine cu1 fun K1 hK1 => ?_;go_simp;refine hK1 _ _ ?_;clear hK1 K1;refine Wops.absA fun V3_2 n3 hV3_2 => ?_;obtain ⟨q3,hV3_2,s3,kV3_2,f3,r3⟩ := hV3_2;try simp only [q3] at kV3_2 f3 r3 ⊢
 replace f2 := hV3_2.fz c2_0 f2;replace xw := xw.trans hV3_2;replace c2_0 := hV3_2.cell c2_0;replace c2_1 := hV3_2.cell c2_1;replace c2_2 := hV3_2.cell c2_2;replace c2_3 := hV3_2.cell c2_3;have c3_0 := kV3_2 0 _ rfl;have c3_1 := kV3_2 1 _ rfl;have c3_2 := kV3_2 2 _ rfl;have c3_3 := kV3_2 3 _ rfl;clear kV3_2 hV3_2;clear r3;go_simp;refine hK _ _ ?_;clear hK K' gd;refine Wp.keep [2,3] ?_;rintro r2 ⟨e2_2,e3_2,-⟩;simp [go_sem,e0_1,e1_1] at e2_2 e3_2;clear e0_1 e1_1;refine sRg fun K' gd hK => ?_;go_simp;refine hK _ _ ?_;clear hK K' gd;refine Wp.keep [4] ?_;rintro r3 ⟨e4_3,-⟩;simp [go_sem,e2_2,e3_2] at e4_3;clear e2_2 e3_2;refine Wp.ret ?_;refine endK_tmp Tryz.results146 (by decide) ?_;rw [e4_3];exact ⟨⟨_,rfl,decide_eq_decide.2 (by omega)⟩,xw⟩
theorem later1_enters : ∀ args w,(callFunc 146 args).run Tryz.prog w = .ok (.enter 146 args) w := enters_of Tryz.func146 (by kernel_rfl) rfl
theorem lat1_c (t : Tr) (S pb n i : Nat) (A : Option Addr) (c : Nat) (A2 : Option Addr) (c2 : Nat) (h : Nat → Int) (w : World) (hT : PlanT t n) (hi : i < t.fl.length) (hhl : ∀ d,h d < t.fl.length) (hP : PlanF w S pb n A c A2 c2 t h) :
  CallsV Tryz.prog 148 #[.int .i64 (i : Int),.pointer (some ⟨pb,0,none⟩)] w fun v w' =>
   v = .bool (!addB t.N n h i) ∧ PlanF w' S pb n A c A2 c2 t (addF t.N n h i) ∧ Chg [pb] w w' := by
 replace hhl : ∃ _u : Unit,_ := ⟨(),hhl⟩;have lb : pb < w.heap.size := cell_lt hP.k0;refine Wp.fn Tryz.func148 rfl Tryz.ntmps148 (by simp) ?_;have xw := Ext.refl w;refine Wp.keep [0,1] ?_;rintro r1 ⟨e0_1,e1_1,-⟩;simp [go_sem] at e0_1 e1_1;have xq := Chg.refl [pb] w;refine sRg fun K' gd hK => ?_;go_simp;refine hK _ _ ?_;clear hK K' gd;refine Wp.keep [0,1] ?_;rintro r2 ⟨e0_2,e1_2,-⟩;simp [go_sem,e0_1,e1_1] at e0_2 e1_2;clear e0_1 e1_1;refine sRg fun K' gd hK => ?_;refine cu2 fun K1 hK1 => ?_;go_simp;refine Wcall (.inl rfl) (add_c t S pb n i A c A2 c2 h _ hT.n2 hT.cl (by have := hT.fl;omega) hT.sp hi hhl.choose_spec (hP.ext xw)) ?_;rintro v w5 ⟨rfl,hP2,hE⟩;go_simp;refine hK1 _ _ ?_;clear hK1 K1;have z3 := Chg.size hE;clear xw;replace xq := Chg.more xq hE (by intro b hm;simp only [List.mem_cons,List.not_mem_nil,or_false] at hm;first | (left;omega) | (right;simp [hm];done) | (rcases hm with hm | hm <;> first | (left;omega) | (right;simp [hm])));go_simp;refine hK _ _ ?_;clear hK K' gd;refine Wp.keep [3] ?_;rintro r4 ⟨e3_4,-⟩;simp [go_sem,e0_2,e1_2] at e3_4;clear e0_2 e1_2;refine Wp.ret ?_;refine endK_tmp Tryz.results148 (by decide) ?_;rw [e3_4];exact ⟨rfl,hP2,xq⟩
theorem latI_c (t : Tr) (S pb n : Nat) (A : Option Addr) (c : Nat) (A2 : Option Addr) (c2 : Nat) (xs : List Int) (v : Value) (w : World) (hT : PlanT t n) (hx : IntsV w S v xs) (hm : ∀ x ∈ xs,∃ k : Nat,x = (k : Int) ∧ k < t.fl.length) (hl : xs.length ≤ 1000)
  (hP : PlanF w S pb n A c A2 c2 t noPlan) :
  CallsV Tryz.prog 159 #[v,.func (.func 148) #[] #[.pointer (some ⟨pb,0,none⟩)]] w fun v' w' =>
   (∃ r : Int,v' = .int .i64 r ∧ canF t.N n xs noPlan = decide (r < 0)) ∧ (∃ h,PlanF w' S pb n A c A2 c2 t h) ∧ Chg [pb] w w' := by
 obtain ⟨A1,c1,rfl,-,-⟩ := id hx;have heg : ∀ args w,(callFunc 148 args).run Tryz.prog w = .ok (.enter 148 args) w := enters_of Tryz.func148 (by kernel_rfl) rfl;have lb : pb < w.heap.size := cell_lt hP.k0;have hs := hP.s;have hXS : IntsS w S (.slice A1 xs.length c1) xs := ⟨hx⟩;replace hm : ∃ _u : Unit,_ := ⟨(),hm⟩;clear hx;refine Wp.fn Tryz.func159 rfl Tryz.ntmps159 (by simp) ?_;have xw := Ext.refl w;refine Wp.keep [0,1] ?_;rintro r1 ⟨e0_1,e1_1,-⟩;simp [go_sem] at e0_1 e1_1;have xq := Chg.refl [pb] w;refine sRg fun K' gd hK => ?_;go_simp;refine hK _ _ ?_;clear hK K' gd;refine Wp.keep [0,1] ?_;rintro r2 ⟨e0_2,e1_2,-⟩;simp [go_sem,e0_1,e1_1] at e0_2 e1_2;clear e0_1 e1_1;refine Wp.seq ?_;refine sRg fun K' gd hK => ?_;go_simp;refine hK _ _ ?_;clear hK K' gd;refine Wp.keep [0,1,7,8] ?_;rintro r3 ⟨e0_3,e1_3,e7_3,e8_3,-⟩;simp [go_sem,e0_2,e1_2] at e0_3 e1_3 e7_3 e8_3;clear e0_2 e1_2;refine Wp.block ?_;refine Wp.loop (fun k ρ ds wk => AllEq [0,1,7] ρ r3 ∧ ds = [] ∧ (Chg [pb] w wk) ∧ (ρ 8 = .int .i64 (k : Int) ∧ IntsS wk S (.slice A1 xs.length c1) xs ∧ PlanF wk S pb n A c A2 c2 t ((xs.take k).foldl (addF t.N n) noPlan) ∧ (∃ _u : Unit,canF t.N n xs noPlan = canF t.N n (xs.drop k) ((xs.take k).foldl (addF t.N n) noPlan)))) (xs.length) ?_ ?_
 ·refine ⟨AllEq.refl _ _,rfl,Chg.refl _ _,?_⟩;exact ⟨by rw [e8_3];rfl,hXS,hP,(),rfl⟩
 ·rintro k r4 _ wk hk ⟨hA,rfl,xl2,⟨e8,hXS,hP,hq⟩⟩;obtain ⟨e0_4,e1_4,e7_4,-⟩ := hA;rw [e0_3] at e0_4;rw [e1_3] at e1_4;rw [e7_3] at e7_4;have zxl2 := Chg.size xl2;clear xw;replace xq := Chg.more xq xl2 (by intro b hm;simp only [List.mem_cons,List.not_mem_nil,or_false] at hm;first | (left;omega) | (right;simp [hm];done) | (rcases hm with hm | hm <;> first | (left;omega) | (right;simp [hm])));refine sRg fun K' gd hK => ?_;go_simp;refine hK _ _ ?_;clear hK K' gd;refine Wp.keep [0,1,7,8,9] ?_;rintro r5 ⟨e0_5,e1_5,e7_5,e8_5,e9_5,-⟩;simp [go_sem,e0_4,e1_4,e7_4,e8] at e0_5 e1_5 e7_5 e8_5 e9_5;clear e0_4 e1_4 e7_4 e8;refine Wp.seq ?_
  by_cases hk : k < xs.length
  ·refine cTt ?_;obtain ⟨b,o,cc,ev,hb,hcc⟩ := hXS.v.get hk
   injection ev with ev1 _ ev2
   subst ev1;subst ev2;have d1 := hcc k hk;obtain ⟨i,hi1,hi2⟩ := hm.choose_spec _ (gI_mem hk);rw [hi1] at d1;have hkl : (k : Int) < (xs.length : Int) := by omega
   replace hi1 : ∃ _u : Unit,xs[k] = (i : Int) := ⟨(),by rw [← gI_lt hk];exact hi1⟩;clear hcc;have hstep : ∃ _u : Unit,canF t.N n xs noPlan = (addB t.N n ((xs.take k).foldl (addF t.N n) noPlan) (i : Int) && canF t.N n (xs.drop (k + 1)) ((xs.take (k + 1)).foldl (addF t.N n) noPlan)) := ⟨(),by rw [hq.choose_spec,drop_cons hk,canF,take_snoc hk,List.foldl_append,hi1.choose_spec];rfl⟩;have hvl := foldl_vals (N := t.N) (n := n) (P := fun y => y < (t.fl.length : Int)) (xs.take k) noPlan (fun x hx => by obtain ⟨q,rfl,hq⟩ := hm.choose_spec x (List.mem_of_mem_take hx);omega) (fun d => by show (-1 : Int) < _;omega)
   by_cases hb1 : addB t.N n ((xs.take k).foldl (addF t.N n) noPlan) (i : Int) = true
   ·skip;refine skN ?_;refine sBk ?_;refine sRg fun K' gd hK => ?_;go_simp;refine hK _ _ ?_;clear hK K' gd;refine Wp.keep [0,1,5,7,8] ?_;rintro r6 ⟨e0_6,e1_6,e5_6,e7_6,e8_6,-⟩;simp [go_sem,e0_5,e1_5,e7_5,e8_5,e9_5] at e0_6 e1_6 e5_6 e7_6 e8_6;clear e0_5 e1_5 e7_5 e8_5 e9_5;refine sRg fun K' gd hK => ?_;refine cu6 fun K1 hK1 => ?_;go_simp;refine Wcall (.inl rfl) (lat1_c t S pb n i A c A2 c2 _ _ hT hi2 hvl hP) ?_;rintro v w5 ⟨rfl,hP2,hE⟩;rw [hb1];go_simp;refine hK1 _ _ ?_;clear hK1 K1;have z7 := Chg.size hE;replace hXS := hXS.chg hE XB;replace xq := Chg.more xq hE (by intro b hm;simp only [List.mem_cons,List.not_mem_nil,or_false] at hm;first | (left;omega) | (right;simp [hm];done) | (rcases hm with hm | hm <;> first | (left;omega) | (right;simp [hm])));replace xl2 := Chg.more xl2 hE (by intro b hm;simp only [List.mem_cons,List.not_mem_nil,or_false] at hm;first | (left;omega) | (right;simp [hm];done) | (rcases hm with hm | hm <;> first | (left;omega) | (right;simp [hm])));replace d1 := Chg.cell hE d1 XN;try simp only [Wops_nil,updO_some,updO_none]
    refine hK _ _ ?_;clear hK K' gd;refine Wp.keep [0,1,5,7,8,16] ?_;rintro r8 ⟨e0_8,e1_8,e5_8,e7_8,e8_8,e16_8,-⟩;simp [go_sem,e0_6,e1_6,e5_6,e7_6,e8_6] at e0_8 e1_8 e5_8 e7_8 e8_8 e16_8;clear e0_6 e1_6 e5_6 e7_6 e8_6;refine cFf ?_;refine Wp.skip ?_;refine bNo ?_;refine tNo ?_;refine lRg fun K' gd hK => ?_;go_simp;refine hK _ _ ?_;clear hK K' gd;refine Ends.keep [0,1,7,8] ?_;rintro r9 ⟨e0_9,e1_9,e7_9,e8_9,-⟩;simp [go_sem,e0_8,e1_8,e5_8,e7_8,e8_8,e16_8] at e0_9 e1_9 e7_9 e8_9;clear e0_8 e1_8 e5_8 e7_8 e8_8 e16_8;refine Ends.mk ?_;refine thenK_normal ⟨by omega,⟨by rw [e0_9,e0_3],by rw [e1_9,e1_3],by rw [e7_9,e7_3],trivial⟩,rfl,xl2,?_⟩;exact ⟨by rw [e8_9,IntWalk.i64_in _ (by omega)];rfl,hXS,by rw [take_snoc hk,List.foldl_append,hi1.choose_spec];exact hP2,(),by rw [hstep.choose_spec,hb1];rfl⟩
   ·skip;refine skN ?_;refine sBk ?_;refine sRg fun K' gd hK => ?_;go_simp;refine hK _ _ ?_;clear hK K' gd;refine Wp.keep [0,1,5,7,8] ?_;rintro r10 ⟨e0_10,e1_10,e5_10,e7_10,e8_10,-⟩;simp [go_sem,e0_5,e1_5,e7_5,e8_5,e9_5] at e0_10 e1_10 e5_10 e7_10 e8_10;clear e0_5 e1_5 e7_5 e8_5 e9_5;refine sRg fun K' gd hK => ?_;refine cu6 fun K1 hK1 => ?_;go_simp;refine Wcall (.inl rfl) (lat1_c t S pb n i A c A2 c2 _ _ hT hi2 hvl hP) ?_;rintro v w5 ⟨rfl,hP2,hE⟩;rw [show addB t.N n ((xs.take k).foldl (addF t.N n) noPlan) (i : Int) = false by simpa using hb1];go_simp;refine hK1 _ _ ?_;clear hK1 K1;have z11 := Chg.size hE;replace hXS := hXS.chg hE XB;replace xq := Chg.more xq hE (by intro b hm;simp only [List.mem_cons,List.not_mem_nil,or_false] at hm;first | (left;omega) | (right;simp [hm];done) | (rcases hm with hm | hm <;> first | (left;omega) | (right;simp [hm])));replace xl2 := Chg.more xl2 hE (by intro b hm;simp only [List.mem_cons,List.not_mem_nil,or_false] at hm;first | (left;omega) | (right;simp [hm];done) | (rcases hm with hm | hm <;> first | (left;omega) | (right;simp [hm])));replace d1 := Chg.cell hE d1 XN;try simp only [Wops_nil,updO_some,updO_none]
    refine hK _ _ ?_;clear hK K' gd;refine Wp.keep [0,1,5,7,8,16] ?_;rintro r12 ⟨e0_12,e1_12,e5_12,e7_12,e8_12,e16_12,-⟩;simp [go_sem,e0_10,e1_10,e5_10,e7_10,e8_10] at e0_12 e1_12 e5_12 e7_12 e8_12 e16_12;clear e0_10 e1_10 e5_10 e7_10 e8_10;refine cTt ?_;refine sRg fun K' gd hK => ?_;go_simp;refine hK _ _ ?_;clear hK K' gd;refine Wp.keep [4] ?_;rintro r13 ⟨e4_13,-⟩;simp [go_sem,e0_12,e1_12,e5_12,e7_12,e8_12,e16_12] at e4_13;clear e0_12 e1_12 e5_12 e7_12 e8_12 e16_12;refine Wp.ret ?_;refine bRe ?_;refine tRe ?_;refine tRe ?_;refine bRe ?_;refine tRe ?_;refine endK_tmp Tryz.results159 (by decide) ?_;rw [e4_13];exact ⟨⟨_,rfl,by rw [hstep.choose_spec,show addB t.N n ((xs.take k).foldl (addF t.N n) noPlan) (i : Int) = false by simpa using hb1,Bool.false_and,decide_eq_false (by omega)]⟩,⟨_,hP2⟩,xq⟩
  ·refine cFf ?_;have hkk : k = xs.length := by omega
   refine Wp.exit ?_;refine tEx ?_;refine tEx ?_;refine blockK_here ?_;refine tNo ?_;refine sRg fun K' gd hK => ?_;go_simp;refine hK _ _ ?_;clear hK K' gd;refine Wp.keep [4] ?_;rintro r14 ⟨e4_14,-⟩;simp [go_sem,e0_5,e1_5,e7_5,e8_5,e9_5] at e4_14;clear e0_5 e1_5 e7_5 e8_5 e9_5;refine Wp.ret ?_;refine endK_tmp Tryz.results159 (by decide) ?_;rw [e4_14];exact ⟨⟨_,rfl,by rw [hq.choose_spec,hkk,List.drop_length,canF];rfl⟩,⟨_,hP⟩,xq⟩
theorem latC_c (t : Tr) (S pb n : Nat) (A : Option Addr) (c : Nat) (A2 : Option Addr) (c2 : Nat) (xs : List Int) (v : Value) (w : World) (hT : PlanT t n) (hx : IntsV w S v xs) (hm : ∀ x ∈ xs,∃ k : Nat,x = (k : Int) ∧ k < t.fl.length) (hl : xs.length ≤ 1000)
  (hP : PlanF w S pb n A c A2 c2 t noPlan) :
  CallsV Tryz.prog 84 #[v,.func (.func 148) #[] #[.pointer (some ⟨pb,0,none⟩)]] w fun v' w' =>
   v' = .bool (!canF t.N n xs noPlan) ∧ (∃ h,PlanF w' S pb n A c A2 c2 t h) ∧ Chg [pb] w w' := by
 have lb : pb < w.heap.size := cell_lt hP.k0;have hs := hP.s;refine Wp.fn Tryz.func84 rfl Tryz.ntmps84 (by simp) ?_;have xw := Ext.refl w;refine Wp.keep [0,1] ?_;rintro r1 ⟨e0_1,e1_1,-⟩;simp [go_sem] at e0_1 e1_1;have xq := Chg.refl [pb] w;refine sRg fun K' gd hK => ?_;go_simp;refine hK _ _ ?_;clear hK K' gd;refine Wp.keep [0,1] ?_;rintro r2 ⟨e0_2,e1_2,-⟩;simp [go_sem,e0_1,e1_1] at e0_2 e1_2;clear e0_1 e1_1;refine sRg fun K' gd hK => ?_;refine cu3 fun K1 hK1 => ?_;go_simp;refine Wcall (.inl rfl) (latI_c t S pb n A c A2 c2 xs v _ hT (hx.cells fun _ _ _ _ hc => xw.cell hc) hm hl (hP.ext xw)) ?_;rintro v w5 ⟨⟨r,rfl,hr⟩,⟨h5,hP5⟩,hE⟩;go_simp;refine hK1 _ _ ?_;clear hK1 K1;have z3 := Chg.size hE;clear xw;replace xq := Chg.more xq hE (by intro b hm;simp only [List.mem_cons,List.not_mem_nil,or_false] at hm;first | (left;omega) | (right;simp [hm];done) | (rcases hm with hm | hm <;> first | (left;omega) | (right;simp [hm])));go_simp;refine hK _ _ ?_;clear hK K' gd;refine Wp.keep [4] ?_;rintro r4 ⟨e4_4,-⟩;simp [go_sem,e0_2,e1_2] at e4_4;clear e0_2 e1_2;refine Wp.ret ?_;refine endK_tmp Tryz.results84 (by decide) ?_;rw [e4_4];exact ⟨by rw [hr];by_cases e : r < 0 <;> simp [e] <;> omega,⟨_,hP5⟩,xq⟩
def andL (L : List Int) (o : Int) : List Int := if 0 ≤ o then L ++ [o] else L
theorem chg4 {V : World} {q : Nat} {a b c d : Value} : Chg [q] V ((((V.setCell ⟨q,0,none⟩ a).setCell ⟨q,1,none⟩ b).setCell ⟨q,2,none⟩ c).setCell ⟨q,3,none⟩ d) := ((((Chg.refl [q] V).setC (by simp)).setC (by simp)).setC (by simp)).setC (by simp)
theorem planOf_c (t : Tr) (n : Nat) (L : List Int) (o : Int) (A : Option Addr) (c : Nat) (A2 : Option Addr) (c2 : Nat) (A3 : Option Addr) (l3 c3 : Nat) (lv : Value) (w : World) (hT : PlanT t n) (hV : TourV w w.heap.size (.agg #[.int .i64 t.n,.slice A t.cl.length c,.slice A2 t.fl.length c2]) t)
  (hL : IntsV w w.heap.size lv L) (hm : ∀ x ∈ L,∃ k : Nat,x = (k : Int) ∧ k < t.fl.length) (ho : o = -1 ∨ ∃ k : Nat,o = (k : Int) ∧ k < t.fl.length) (hl : L.length ≤ 1000) :
  CallsV Tryz.prog 149 #[.agg #[.int .i64 (n : Int),.slice A t.cl.length c,.slice A2 t.fl.length c2,.slice A3 l3 c3],lv,.int .i64 o] w fun v' w' => (∃ g,v' = .agg #[.int .i64 (n : Int),.slice A t.cl.length c,.slice A2 t.fl.length c2,.slice (some ⟨g,0,none⟩) n n] ∧ HasF w' g n ((andL L o).foldl (addF t.N n) noPlan) ∧ w.heap.size ≤ g) ∧ Ext w w' := by
 obtain ⟨A1,c1,rfl,-,-⟩ := id hL;have hn1 := hT.n1;have hn2 := hT.n2;replace hm : ∃ _u : Unit,_ := ⟨(),hm⟩;refine Wp.fn Tryz.func149 rfl Tryz.ntmps149 (by simp) ?_;have xw := Ext.refl w;refine Wp.keep [0,1,2] ?_;rintro r1 ⟨e0_1,e1_1,e2_1,-⟩;simp [go_sem] at e0_1 e1_1 e2_1;refine sRg fun K' gd hK => ?_;refine cu1 fun K1 hK1 => ?_;go_simp;refine hK1 _ _ ?_;clear hK1 K1;refine Wops.absA fun V3_1 n3 hV3_1 => ?_;obtain ⟨q3,hV3_1,s3,kV3_1,f3,r3⟩ := hV3_1;try simp only [q3] at kV3_1 f3 r3 ⊢
 replace xw := xw.trans hV3_1;have c3_0 := kV3_1 0 _ rfl;have c3_1 := kV3_1 1 _ rfl;have c3_2 := kV3_1 2 _ rfl;have c3_3 := kV3_1 3 _ rfl;clear kV3_1 hV3_1;clear r3;refine cu1 fun K1 hK1 => ?_;go_simp;refine hK1 _ _ ?_;clear hK1 K1;refine Wops.absA fun V6_2 n6 hV6_2 => ?_;obtain ⟨q6,hV6_2,s6,kV6_2,f6,r6⟩ := hV6_2;try simp only [q6] at kV6_2 f6 r6 ⊢
 replace f3 := hV6_2.fz c3_0 f3;replace xw := xw.trans hV6_2;replace c3_0 := hV6_2.cell c3_0;replace c3_1 := hV6_2.cell c3_1;replace c3_2 := hV6_2.cell c3_2;replace c3_3 := hV6_2.cell c3_3;have c6_0 := kV6_2 0 _ rfl;have c6_1 := kV6_2 1 _ rfl;have c6_2 := kV6_2 2 _ rfl;have c6_3 := kV6_2 3 _ rfl;clear kV6_2 hV6_2;clear r6;try simp only [Wops_nil,updO_some,updO_none]
 refine hK _ _ ?_;clear hK K' gd;refine Wp.keep [1,2,3,6] ?_;rintro r2 ⟨e1_2,e2_2,e3_2,e6_2,-⟩;simp [go_sem,e0_1,e1_1,e2_1] at e1_2 e2_2 e3_2 e6_2;clear e0_1 e1_1 e2_1;obtain ⟨S,hS1,hS2⟩ : ∃ S,S ≤ V6_2.heap.size ∧ V6_2.heap.size ≤ S := ⟨_,Nat.le_refl _,Nat.le_refl _⟩;have hTS : TourS V6_2 S (.agg #[.int .i64 t.n,.slice A t.cl.length c,.slice A2 t.fl.length c2]) t := ⟨(hV.ext xw).more hS2⟩;have l6 : n6 < S := by have := cell_lt c6_0;omega
 have hLS : IntsS V6_2 S (.slice A1 L.length c1) L := ⟨(hL.ext xw).more hS2⟩;refine sRg fun K' gd hK => ?_;refine cu3 fun K1 hK1 => ?_;go_simp;refine Wcall (.inl rfl) (newPlan_c n ⟨hn1,hn2⟩ A A2 t.cl.length c t.fl.length c2 _) ?_;rintro v w2 ⟨⟨g,rfl,hH,hg⟩,hE⟩;have hgl := hH.r.lt;go_simp;refine hK1 _ _ ?_;clear hK1 K1;have z3 := Below.size hE;replace f3 := hE.fz c3_0 f3;replace f6 := hE.fz c6_0 f6;replace hTS := hTS.ext hE;replace hLS := hLS.ext hE;replace xw := xw.trans hE;replace c3_0 := hE.cell c3_0;replace c3_1 := hE.cell c3_1;replace c3_2 := hE.cell c3_2;replace c3_3 := hE.cell c3_3;replace c6_0 := hE.cell c6_0;replace c6_1 := hE.cell c6_1;replace c6_2 := hE.cell c6_2;replace c6_3 := hE.cell c6_3;clear hE;refine cu2 fun K1 hK1 => ?_;go_simp;refine hK1 _ _ ?_;clear hK1 K1;refine Wops.absA fun V7_3 n7 hV7_3 => ?_;obtain ⟨q7,hV7_3,s7,kV7_3,f7,r7⟩ := hV7_3;try simp only [q7] at kV7_3 f7 r7 ⊢
 replace f3 := hV7_3.fz c3_0 f3;replace f6 := hV7_3.fz c6_0 f6;replace hTS := hTS.ext hV7_3;replace hLS := hLS.ext hV7_3;replace hH := hH.ext hV7_3;replace xw := xw.trans hV7_3;replace c3_0 := hV7_3.cell c3_0;replace c3_1 := hV7_3.cell c3_1;replace c3_2 := hV7_3.cell c3_2;replace c3_3 := hV7_3.cell c3_3;replace c6_0 := hV7_3.cell c6_0;replace c6_1 := hV7_3.cell c6_1;replace c6_2 := hV7_3.cell c6_2;replace c6_3 := hV7_3.cell c6_3;have c7_0 := kV7_3 0 _ rfl;have c7_1 := kV7_3 1 _ rfl;have c7_2 := kV7_3 2 _ rfl;have c7_3 := kV7_3 3 _ rfl;clear kV7_3 hV7_3;clear r7;try simp only [Wops_nil,updO_some,updO_none]
 refine hK _ _ ?_;clear hK K' gd;refine Wp.keep [1,2,6,7] ?_;rintro r4 ⟨e1_4,e2_4,e6_4,e7_4,-⟩;simp [go_sem,e1_2,e2_2,e3_2,e6_2] at e1_4 e2_4 e6_4 e7_4;clear e1_2 e2_2 e3_2 e6_2;have hP : PlanF V7_3 S n7 n A c A2 c2 t noPlan := ⟨by rw [hT.tn];exact c7_0,c7_1,c7_2,⟨g,c7_3,hH,by omega,by omega⟩,f7,hTS,⟨by omega,by omega⟩⟩;refine Wp.seq ?_;refine sRg fun K' gd hK => ?_;go_simp;refine hK _ _ ?_;clear hK K' gd;refine Wp.keep [2,6,7,13,14,15] ?_;rintro r5 ⟨e2_5,e6_5,e7_5,e13_5,e14_5,e15_5,-⟩;simp [go_sem,e1_4,e2_4,e6_4,e7_4] at e2_5 e6_5 e7_5 e13_5 e14_5 e15_5;clear e1_4 e2_4 e6_4 e7_4;refine Wp.block ?_;refine Wp.loop (fun k ρ ds wk => AllEq [2,6,7,13,14] ρ r5 ∧ ds = [] ∧ (Chg [n7] V7_3 wk) ∧ (ρ 15 = .int .i64 (k : Int) ∧ PlanF wk S n7 n A c A2 c2 t ((L.take k).foldl (addF t.N n) noPlan))) (L.length) ?_ ?_
 ·refine ⟨AllEq.refl _ _,rfl,Chg.refl _ _,?_⟩;exact ⟨by rw [e15_5];rfl,hP⟩
 ·rintro k r6 _ wk hk ⟨hA,rfl,xl4,⟨e15,hP⟩⟩;obtain ⟨e2_6,e6_6,e7_6,e13_6,e14_6,-⟩ := hA;rw [e2_5] at e2_6;rw [e6_5] at e6_6;rw [e7_5] at e7_6;rw [e13_5] at e13_6;rw [e14_5] at e14_6;have zxl4 := Chg.size xl4;replace f3 := Chg.fz xl4 c3_0 f3 XN;replace f6 := Chg.fz xl4 c6_0 f6 XN;replace hLS := hLS.chg xl4 XB;replace xw := Chg.to xw xl4 XL;replace c3_0 := Chg.cell xl4 c3_0 XN;replace c3_1 := Chg.cell xl4 c3_1 XN;replace c3_2 := Chg.cell xl4 c3_2 XN;replace c3_3 := Chg.cell xl4 c3_3 XN;replace c6_0 := Chg.cell xl4 c6_0 XN;replace c6_1 := Chg.cell xl4 c6_1 XN;replace c6_2 := Chg.cell xl4 c6_2 XN;replace c6_3 := Chg.cell xl4 c6_3 XN;refine sRg fun K' gd hK => ?_;go_simp;refine hK _ _ ?_;clear hK K' gd;refine Wp.keep [2,6,7,13,14,15,16] ?_;rintro r7 ⟨e2_7,e6_7,e7_7,e13_7,e14_7,e15_7,e16_7,-⟩;simp [go_sem,e2_6,e6_6,e7_6,e13_6,e14_6,e15] at e2_7 e6_7 e7_7 e13_7 e14_7 e15_7 e16_7;clear e2_6 e6_6 e7_6 e13_6 e14_6 e15;refine Wp.seq ?_
  by_cases h : k < L.length
  ·refine cTt ?_;obtain ⟨b,o9,cc,ev,hb,hcc⟩ := hLS.v.get h
   injection ev with ev1 _ ev2
   subst ev1;subst ev2;have d1 := hcc k h;obtain ⟨i,hi1,hi2⟩ := hm.choose_spec _ (gI_mem h);rw [hi1] at d1;have hkl : (k : Int) < (L.length : Int) := by omega
   replace hi1 : ∃ _u : Unit,L[k] = (i : Int) := ⟨(),by rw [← gI_lt h];exact hi1⟩;clear hcc;refine skN ?_;refine sBk ?_;refine sRg fun K' gd hK => ?_;go_simp;refine hK _ _ ?_;clear hK K' gd;refine Wp.keep [2,6,7,9,13,14,15] ?_;rintro r8 ⟨e2_8,e6_8,e7_8,e9_8,e13_8,e14_8,e15_8,-⟩;simp [go_sem,e2_7,e6_7,e7_7,e13_7,e14_7,e15_7,e16_7] at e2_8 e6_8 e7_8 e9_8 e13_8 e14_8 e15_8;clear e2_7 e6_7 e7_7 e13_7 e14_7 e15_7 e16_7;refine lRg fun K' gd hK => ?_;refine cu2 fun K1 hK1 => ?_;go_simp;refine Wcall (.inl rfl) (add_c t S n7 n i A c A2 c2 _ _ hT.n2 hT.cl (by have := hT.fl;omega) hT.sp hi2 (foldl_vals (P := fun y => y < (t.fl.length : Int)) _ _ (fun x hx => by obtain ⟨q,rfl,hq⟩ := hm.choose_spec x (List.mem_of_mem_take hx);omega) (fun d => by show (-1 : Int) < _;omega)) hP) ?_;rintro v w5 ⟨rfl,hP2,hE⟩;go_simp;refine hK1 _ _ ?_;clear hK1 K1;have z9 := Chg.size hE;replace f3 := Chg.fz hE c3_0 f3 XN;replace f6 := Chg.fz hE c6_0 f6 XN;replace hLS := hLS.chg hE XB;replace xw := Chg.to xw hE XL;replace xl4 := Chg.more xl4 hE (by intro b hm;simp only [List.mem_cons,List.not_mem_nil,or_false] at hm;first | (left;omega) | (right;simp [hm];done) | (rcases hm with hm | hm <;> first | (left;omega) | (right;simp [hm])))
   replace c3_0 := Chg.cell hE c3_0 XN;replace c3_1 := Chg.cell hE c3_1 XN;replace c3_2 := Chg.cell hE c3_2 XN;replace c3_3 := Chg.cell hE c3_3 XN;replace c6_0 := Chg.cell hE c6_0 XN;replace c6_1 := Chg.cell hE c6_1 XN;replace c6_2 := Chg.cell hE c6_2 XN;replace c6_3 := Chg.cell hE c6_3 XN;try simp only [Wops_nil,updO_some,updO_none]
   refine hK _ _ ?_;clear hK K' gd;refine Ends.keep [2,6,7,13,14,15] ?_;rintro r10 ⟨e2_10,e6_10,e7_10,e13_10,e14_10,e15_10,-⟩;simp [go_sem,e2_8,e6_8,e7_8,e9_8,e13_8,e14_8,e15_8] at e2_10 e6_10 e7_10 e13_10 e14_10 e15_10;clear e2_8 e6_8 e7_8 e9_8 e13_8 e14_8 e15_8;refine Ends.mk ?_;refine bNo ?_;refine tNo ?_;refine lRg fun K' gd hK => ?_;go_simp;refine hK _ _ ?_;clear hK K' gd;refine Ends.keep [2,6,7,13,14,15] ?_;rintro r11 ⟨e2_11,e6_11,e7_11,e13_11,e14_11,e15_11,-⟩;simp [go_sem,e2_10,e6_10,e7_10,e13_10,e14_10,e15_10] at e2_11 e6_11 e7_11 e13_11 e14_11 e15_11;clear e2_10 e6_10 e7_10 e13_10 e14_10 e15_10;refine Ends.mk ?_;refine thenK_normal ⟨by omega,⟨by rw [e2_11,e2_5],by rw [e6_11,e6_5],by rw [e7_11,e7_5],by rw [e13_11,e13_5],by rw [e14_11,e14_5],trivial⟩,rfl,xl4,?_⟩;exact ⟨by rw [e15_11,IntWalk.i64_in _ (by omega)];rfl,by rw [take_snoc h,List.foldl_append,hi1.choose_spec];exact hP2⟩
  ·refine cFf ?_;obtain rfl : k = L.length := by omega
   rw [List.take_length] at hP
   by_cases ho0 : 0 ≤ o
   ·skip;obtain ⟨i,hi1,hi2⟩ := ho.resolve_left (by omega);subst hi1;have han : ∃ _u : Unit,(andL L (i : Int)).foldl (addF t.N n) noPlan = addF t.N n (L.foldl (addF t.N n) noPlan) (i : Int) := ⟨(),by unfold andL;rw [if_pos ho0,List.foldl_append];rfl⟩;refine Wp.exit ?_;refine tEx ?_;refine tEx ?_;refine blockK_here ?_;refine tNo ?_;refine Wp.seq ?_;refine sRg fun K' gd hK => ?_;go_simp;refine hK _ _ ?_;clear hK K' gd;refine Wp.keep [2,6,7,23] ?_;rintro r12 ⟨e2_12,e6_12,e7_12,e23_12,-⟩;simp [go_sem,e2_7,e6_7,e7_7,e13_7,e14_7,e15_7,e16_7] at e2_12 e6_12 e7_12 e23_12;clear e2_7 e6_7 e7_7 e13_7 e14_7 e15_7 e16_7;refine cTt ?_;refine lRg fun K' gd hK => ?_;refine cu2 fun K1 hK1 => ?_;go_simp;refine Wcall (.inl rfl) (add_c t S n7 n i A c A2 c2 _ _ hT.n2 hT.cl (by have := hT.fl;omega) hT.sp hi2 (foldl_vals (P := fun y => y < (t.fl.length : Int)) _ _ (fun x hx => by obtain ⟨q,rfl,hq⟩ := hm.choose_spec x hx;omega) (fun d => by show (-1 : Int) < _;omega)) hP) ?_;rintro v w5 ⟨rfl,hP2,hE⟩;go_simp;refine hK1 _ _ ?_;clear hK1 K1;have z13 := Chg.size hE;replace f3 := Chg.fz hE c3_0 f3 XN;replace f6 := Chg.fz hE c6_0 f6 XN;replace xw := Chg.to xw hE XL;replace xl4 := Chg.more xl4 hE (by intro b hm;simp only [List.mem_cons,List.not_mem_nil,or_false] at hm;first | (left;omega) | (right;simp [hm];done) | (rcases hm with hm | hm <;> first | (left;omega) | (right;simp [hm])))
    replace c3_0 := Chg.cell hE c3_0 XN;replace c3_1 := Chg.cell hE c3_1 XN;replace c3_2 := Chg.cell hE c3_2 XN;replace c3_3 := Chg.cell hE c3_3 XN;replace c6_0 := Chg.cell hE c6_0 XN;replace c6_1 := Chg.cell hE c6_1 XN;replace c6_2 := Chg.cell hE c6_2 XN;replace c6_3 := Chg.cell hE c6_3 XN;try simp only [Wops_nil,updO_some,updO_none]
    refine hK _ _ ?_;clear hK K' gd;refine Ends.keep [6,7] ?_;rintro r14 ⟨e6_14,e7_14,-⟩;simp [go_sem,e2_12,e6_12,e7_12,e23_12] at e6_14 e7_14;clear e2_12 e6_12 e7_12 e23_12;refine Ends.mk ?_;refine tNo ?_;obtain ⟨hb3,y3,hH3,hs3,hne3⟩ := hP2.ex;have y0 := hP2.k0;have y1 := hP2.k1;have y2 := hP2.k2;rw [hT.tn] at y0;refine sRg fun K' gd hK => ?_;refine cu2 fun K1 hK1 => ?_;go_simp;refine hK1 _ _ ?_;clear hK1 K1;refine Wops.absS (b := n6) (i := 0) [_,_,_,_] (somes [cellVal c6_0,cellVal c6_1,cellVal c6_2,cellVal c6_3] (by simp) (by intro j v hj;match j,hj with | 0,hj => (simp at hj;subst hj;exact c6_0) | 1,hj => (simp at hj;subst hj;exact c6_1) | 2,hj => (simp at hj;subst hj;exact c6_2) | 3,hj => (simp at hj;subst hj;exact c6_3))) fun P5 hP5 => ?_;have zP5 := hP5.same;replace f3 := hP5.frz f3;replace f6 := hP5.frz f6;replace hH3 := hH3.put hP5 (by omega);replace xw := Put.to xw hP5 (by omega);clear xl4;replace c3_0 := hP5.cell c3_0 (by omega);replace c3_1 := hP5.cell c3_1 (by omega);replace c3_2 := hP5.cell c3_2 (by omega);replace c3_3 := hP5.cell c3_3 (by omega);clear c6_0;clear c6_1;clear c6_2;clear c6_3;replace y0 := hP5.cell y0 (by omega);replace y1 := hP5.cell y1 (by omega);replace y2 := hP5.cell y2 (by omega)
    replace y3 := hP5.cell y3 (by omega);have c6_0 := hP5.new 0 _ rfl;try simp only [Nat.reduceAdd,Nat.zero_add,Nat.add_zero] at c6_0
    have c6_1 := hP5.new 1 _ rfl;try simp only [Nat.reduceAdd,Nat.zero_add,Nat.add_zero] at c6_1
    have c6_2 := hP5.new 2 _ rfl;try simp only [Nat.reduceAdd,Nat.zero_add,Nat.add_zero] at c6_2
    have c6_3 := hP5.new 3 _ rfl;try simp only [Nat.reduceAdd,Nat.zero_add,Nat.add_zero] at c6_3
    clear hP5;try simp only [Wops_nil,updO_some,updO_none]
    refine hK _ _ ?_;clear hK K' gd;refine Wp.keep [6] ?_;rintro r15 ⟨e6_15,-⟩;simp [go_sem,e6_14,e7_14] at e6_15;clear e6_14 e7_14;refine Wp.ret ?_;refine endK_cell (v := .agg #[cellVal c6_0,cellVal c6_1,cellVal c6_2,cellVal c6_3]) Tryz.results149 (by decide) e6_15 (by dsimp only [cellVal];go_simp) ?_
    dsimp only [cellVal]
    exact ⟨⟨hb3,rfl,by rw [han.choose_spec];exact hH3,(by omega : w.heap.size ≤ hb3)⟩,xw⟩
   ·skip;refine Wp.exit ?_;refine tEx ?_;refine tEx ?_;refine blockK_here ?_;refine tNo ?_;refine Wp.seq ?_;refine sRg fun K' gd hK => ?_;go_simp;refine hK _ _ ?_;clear hK K' gd;refine Wp.keep [2,6,7,23] ?_;rintro r16 ⟨e2_16,e6_16,e7_16,e23_16,-⟩;simp [go_sem,e2_7,e6_7,e7_7,e13_7,e14_7,e15_7,e16_7] at e2_16 e6_16 e7_16 e23_16;clear e2_7 e6_7 e7_7 e13_7 e14_7 e15_7 e16_7;refine cFf ?_;obtain ⟨hb3,y3,hH3,hs3,hne3⟩ := hP.ex;have y0 := hP.k0;have y1 := hP.k1;have y2 := hP.k2;rw [hT.tn] at y0;refine skN ?_;refine sRg fun K' gd hK => ?_;refine cu2 fun K1 hK1 => ?_;go_simp;refine hK1 _ _ ?_;clear hK1 K1;refine Wops.absS (b := n6) (i := 0) [_,_,_,_] (somes [cellVal c6_0,cellVal c6_1,cellVal c6_2,cellVal c6_3] (by simp) (by intro j v hj;match j,hj with | 0,hj => (simp at hj;subst hj;exact c6_0) | 1,hj => (simp at hj;subst hj;exact c6_1) | 2,hj => (simp at hj;subst hj;exact c6_2) | 3,hj => (simp at hj;subst hj;exact c6_3))) fun P6 hP6 => ?_;have zP6 := hP6.same;replace f3 := hP6.frz f3;replace f6 := hP6.frz f6;replace hH3 := hH3.put hP6 (by omega);replace xw := Put.to xw hP6 (by omega);clear xl4;replace c3_0 := hP6.cell c3_0 (by omega)
    replace c3_1 := hP6.cell c3_1 (by omega);replace c3_2 := hP6.cell c3_2 (by omega);replace c3_3 := hP6.cell c3_3 (by omega);clear c6_0;clear c6_1;clear c6_2;clear c6_3;replace y0 := hP6.cell y0 (by omega);replace y1 := hP6.cell y1 (by omega);replace y2 := hP6.cell y2 (by omega);replace y3 := hP6.cell y3 (by omega);have c6_0 := hP6.new 0 _ rfl;try simp only [Nat.reduceAdd,Nat.zero_add,Nat.add_zero] at c6_0
    have c6_1 := hP6.new 1 _ rfl;try simp only [Nat.reduceAdd,Nat.zero_add,Nat.add_zero] at c6_1
    have c6_2 := hP6.new 2 _ rfl;try simp only [Nat.reduceAdd,Nat.zero_add,Nat.add_zero] at c6_2
    have c6_3 := hP6.new 3 _ rfl;try simp only [Nat.reduceAdd,Nat.zero_add,Nat.add_zero] at c6_3
    clear hP6;try simp only [Wops_nil,updO_some,updO_none]
    refine hK _ _ ?_;clear hK K' gd;refine Wp.keep [6] ?_;rintro r17 ⟨e6_17,-⟩;simp [go_sem,e2_16,e6_16,e7_16,e23_16] at e6_17;clear e2_16 e6_16 e7_16 e23_16;refine Wp.ret ?_;refine endK_cell (v := .agg #[cellVal c6_0,cellVal c6_1,cellVal c6_2,cellVal c6_3]) Tryz.results149 (by decide) e6_17 (by dsimp only [cellVal];go_simp) ?_
    dsimp only [cellVal]
    exact ⟨⟨hb3,rfl,by unfold andL;rw [if_neg ho0];exact hH3,(by omega : w.heap.size ≤ hb3)⟩,xw⟩
theorem made_c (t : Tr) (n pq : Nat) (L : List Int) (A : Option Addr) (c : Nat) (A2 : Option Addr) (c2 : Nat) (lv : Value) (w : World) (hT : PlanT t n) (hV : TourV w w.heap.size (.agg #[.int .i64 t.n,.slice A t.cl.length c,.slice A2 t.fl.length c2]) t)
  (h0 : w.cell? ⟨pq,0,none⟩ = some (.int .i64 t.n)) (h1 : w.cell? ⟨pq,1,none⟩ = some (.slice A t.cl.length c)) (h2 : w.cell? ⟨pq,2,none⟩ = some (.slice A2 t.fl.length c2))
  (hL : IntsV w w.heap.size lv L) (hm : ∀ x ∈ L,∃ k : Nat,x = (k : Int) ∧ k < t.fl.length) (hl : L.length ≤ 1000) :
  CallsV Tryz.prog 147 #[lv,.pointer (some ⟨pq,0,none⟩)] w fun v' w' => (∃ A3 l3 c3,v' = .tuple #[.agg #[.int .i64 (n : Int),.slice A t.cl.length c,.slice A2 t.fl.length c2,.slice A3 l3 c3],.bool (canF t.N n L noPlan)]) ∧ Ext w w' := by
 obtain ⟨A1,c1,rfl,-,-⟩ := id hL;have hn1 := hT.n1;have hn2 := hT.n2;rw [hT.tn] at h0;replace hm : ∃ _u : Unit,_ := ⟨(),hm⟩;refine Wp.fn Tryz.func147 rfl Tryz.ntmps147 (by simp) ?_;have xw := Ext.refl w;refine Wp.keep [0,1] ?_;rintro r1 ⟨e0_1,e1_1,-⟩;simp [go_sem] at e0_1 e1_1;refine sRg fun K' gd hK => ?_;refine cu1 fun K1 hK1 => ?_;go_simp;refine hK1 _ _ ?_;clear hK1 K1;refine Wops.absA fun V3_1 n3 hV3_1 => ?_;obtain ⟨q3,hV3_1,s3,kV3_1,f3,r3⟩ := hV3_1;try simp only [q3] at kV3_1 f3 r3 ⊢
 replace xw := xw.trans hV3_1;replace h0 := hV3_1.cell h0;replace h1 := hV3_1.cell h1;replace h2 := hV3_1.cell h2;have c3_0 := kV3_1 0 _ rfl;have c3_1 := kV3_1 1 _ rfl;have c3_2 := kV3_1 2 _ rfl;have c3_3 := kV3_1 3 _ rfl;clear kV3_1 hV3_1;clear r3;go_simp;refine hK _ _ ?_;clear hK K' gd;refine Wp.keep [0,1,3] ?_;rintro r2 ⟨e0_2,e1_2,e3_2,-⟩;simp [go_sem,e0_1,e1_1] at e0_2 e1_2 e3_2;clear e0_1 e1_1;obtain ⟨S,hS1,hS2⟩ : ∃ S,S ≤ V3_1.heap.size ∧ V3_1.heap.size ≤ S := ⟨_,Nat.le_refl _,Nat.le_refl _⟩;have hTS : TourS V3_1 S (.agg #[.int .i64 t.n,.slice A t.cl.length c,.slice A2 t.fl.length c2]) t := ⟨(hV.ext xw).more hS2⟩;have hLS : IntsS V3_1 S (.slice A1 L.length c1) L := ⟨(hL.ext xw).more hS2⟩;refine sRg fun K' gd hK => ?_;refine cu2 fun K1 hK1 => ?_;go_simp;refine Wcall (.inl rfl) (newPlan_c n ⟨hn1,hn2⟩ A A2 t.cl.length c t.fl.length c2 _) ?_;rintro v w2 ⟨⟨g,rfl,hH,hg⟩,hE⟩;have hgl := hH.r.lt;go_simp;refine hK1 _ _ ?_;clear hK1 K1;have z3 := Below.size hE;replace f3 := hE.fz c3_0 f3;replace hTS := hTS.ext hE;replace hLS := hLS.ext hE;replace xw := xw.trans hE;replace h0 := hE.cell h0;replace h1 := hE.cell h1;replace h2 := hE.cell h2;replace c3_0 := hE.cell c3_0;replace c3_1 := hE.cell c3_1;replace c3_2 := hE.cell c3_2
 replace c3_3 := hE.cell c3_3;clear hE;refine cu2 fun K1 hK1 => ?_;go_simp;refine hK1 _ _ ?_;clear hK1 K1;refine Wops.absA fun V5_2 n5 hV5_2 => ?_;obtain ⟨q5,hV5_2,s5,kV5_2,f5,r5⟩ := hV5_2;try simp only [q5] at kV5_2 f5 r5 ⊢
 replace f3 := hV5_2.fz c3_0 f3;replace hTS := hTS.ext hV5_2;replace hLS := hLS.ext hV5_2;replace hH := hH.ext hV5_2;replace xw := xw.trans hV5_2;replace h0 := hV5_2.cell h0;replace h1 := hV5_2.cell h1;replace h2 := hV5_2.cell h2;replace c3_0 := hV5_2.cell c3_0;replace c3_1 := hV5_2.cell c3_1;replace c3_2 := hV5_2.cell c3_2;replace c3_3 := hV5_2.cell c3_3;have c5_0 := kV5_2 0 _ rfl;have c5_1 := kV5_2 1 _ rfl;have c5_2 := kV5_2 2 _ rfl;have c5_3 := kV5_2 3 _ rfl;clear kV5_2 hV5_2;clear r5;try simp only [Wops_nil,updO_some,updO_none]
 refine hK _ _ ?_;clear hK K' gd;refine Wp.keep [0,3,5] ?_;rintro r4 ⟨e0_4,e3_4,e5_4,-⟩;simp [go_sem,e0_2,e1_2,e3_2] at e0_4 e3_4 e5_4;clear e0_2 e1_2 e3_2;have hP : PlanF V5_2 S n5 n A c A2 c2 t noPlan := ⟨by rw [hT.tn];exact c5_0,c5_1,c5_2,⟨g,c5_3,hH,by omega,by omega⟩,f5,hTS,⟨by omega,by omega⟩⟩;have l3 : n3 < V5_2.heap.size := cell_lt c3_0;have hPD := hP.ext ((Ext.refl V5_2).drew);have hLD : IntsV V5_2.drew S (.slice A1 L.length c1) L := hLS.v.cells fun _ _ _ _ hc => cell_drew hc;refine Wp.seqDrawT (.inl rfl) mixed (.rd [1,2] (.both (.act 0 false (.act 3 true (.both (.act 4 true (.act 5 true (.act 6 true .done))) (.act 5 true (.act 4 true (.act 6 true .done)))))) (.act 3 true (.both (.act 0 false (.both (.act 4 true (.act 5 true (.act 6 true .done))) (.act 5 true (.act 4 true (.act 6 true .done))))) (.act 4 true (.act 0 false (.act 5 true (.act 6 true .done)))))))) (by kernel_rfl) (fun ρ W => AllEq [3] ρ r4 ∧ (Chg [n3,n5] V5_2 W ∧ ∃ A3 l3 c3,W.cell? ⟨n3,0,none⟩ = some (.int .i64 (n : Int)) ∧ W.cell? ⟨n3,1,none⟩ = some (.slice A t.cl.length c) ∧ W.cell? ⟨n3,2,none⟩ = some (.slice A2 t.fl.length c2) ∧ W.cell? ⟨n3,3,none⟩ = some (.slice A3 l3 c3) ∧ ρ 4 = .bool (canF t.N n L noPlan))) (fun K' gd hK hg => ?_) ?_
 ·skip;clear hg;simp only [pickT,nth,List.map_cons,List.map_nil];apply Mtree.reads
  ·intro w' hE';have hC' := hE'.cellsS;go_simp;with_reducible rfl
  refine Mtree.two ?_ ?_
  ·skip;refine Mtree.stepH fun K1 hK1 => ?_;go_simp;refine hK1.h _ _ XA ?_;clear hK1 K1;refine Mtree.stepTH fun K1 hK1 => ?_;go_simp;refine Wcall (.inl rfl) (latC_c t S n5 n A c A2 c2 L _ _ hT hLD hm.choose_spec hl hPD) ?_;rintro v w5 ⟨rfl,⟨h5,hP5⟩,hC5⟩;obtain ⟨hb5,x3,-,-,-⟩ := hP5.ex;have x0 := hP5.k0;have x1 := hP5.k1;have x2 := hP5.k2;rw [hT.tn] at x0;have l35 : n3 < w5.heap.size := by have := Chg.size hC5;have := drew_size V5_2;omega
   have y90 := Chg.cell hC5 (cell_drew c3_0) (by simp;omega);have y91 := Chg.cell hC5 (cell_drew c3_1) (by simp;omega);have y92 := Chg.cell hC5 (cell_drew c3_2) (by simp;omega);have y93 := Chg.cell hC5 (cell_drew c3_3) (by simp;omega);have y9f := Chg.fz hC5 (cell_drew c3_0) f3 (by simp;omega);go_simp;refine hK1.h _ _ ?_;clear hK1 K1;refine Mtree.two ?_ ?_
   ·skip;refine Mtree.stepTH fun K1 hK1 => ?_;go_simp;refine hK1.h _ _ ?_;clear hK1 K1;refine Mtree.stepTH fun K1 hK1 => ?_;go_simp;refine hK1.h _ _ ?_;clear hK1 K1;refine Mtree.stepTH fun K1 hK1 => ?_;go_simp;refine hK1.h _ _ ?_;clear hK1 K1;refine Mtree.fin ?_;refine hK _ _ ⟨by simp [AllEq,go_sem],?_⟩;refine ⟨Chg.more (Chg.more ((Chg.refl [n3,n5] _).drew) hC5 (by simp)) chg4 (by simp),?_⟩
    first | exact ⟨some ⟨g,0,none⟩,n,n,by first | (go_simp;done) | (go_simp;rfl),by first | (go_simp;done) | (go_simp;rfl),by first | (go_simp;done) | (go_simp;rfl),by first | (go_simp;done) | (go_simp;rfl),by first | rfl | go_simp⟩ | exact ⟨some ⟨hb5,0,none⟩,n,n,by first | (go_simp;done) | (go_simp;rfl),by first | (go_simp;done) | (go_simp;rfl),by first | (go_simp;done) | (go_simp;rfl),by first | (go_simp;done) | (go_simp;rfl),by first | rfl | go_simp⟩
   ·skip;refine Mtree.stepTH fun K1 hK1 => ?_;go_simp;refine hK1.h _ _ ?_;clear hK1 K1;refine Mtree.stepTH fun K1 hK1 => ?_;go_simp;refine hK1.h _ _ ?_;clear hK1 K1;refine Mtree.stepTH fun K1 hK1 => ?_;go_simp;refine hK1.h _ _ ?_;clear hK1 K1;refine Mtree.fin ?_;refine hK _ _ ⟨by simp [AllEq,go_sem],?_⟩;refine ⟨Chg.more (Chg.more ((Chg.refl [n3,n5] _).drew) hC5 (by simp)) chg4 (by simp),?_⟩
    first | exact ⟨some ⟨g,0,none⟩,n,n,by first | (go_simp;done) | (go_simp;rfl),by first | (go_simp;done) | (go_simp;rfl),by first | (go_simp;done) | (go_simp;rfl),by first | (go_simp;done) | (go_simp;rfl),by first | rfl | go_simp⟩ | exact ⟨some ⟨hb5,0,none⟩,n,n,by first | (go_simp;done) | (go_simp;rfl),by first | (go_simp;done) | (go_simp;rfl),by first | (go_simp;done) | (go_simp;rfl),by first | (go_simp;done) | (go_simp;rfl),by first | rfl | go_simp⟩
  ·skip;refine Mtree.stepTH fun K1 hK1 => ?_;go_simp;refine Wcall (.inl rfl) (latC_c t S n5 n A c A2 c2 L _ _ hT hLD hm.choose_spec hl hPD) ?_;rintro v w5 ⟨rfl,⟨h5,hP5⟩,hC5⟩;obtain ⟨hb5,x3,-,-,-⟩ := hP5.ex;have x0 := hP5.k0;have x1 := hP5.k1;have x2 := hP5.k2;rw [hT.tn] at x0;have l35 : n3 < w5.heap.size := by have := Chg.size hC5;have := drew_size V5_2;omega
   have y90 := Chg.cell hC5 (cell_drew c3_0) (by simp;omega);have y91 := Chg.cell hC5 (cell_drew c3_1) (by simp;omega);have y92 := Chg.cell hC5 (cell_drew c3_2) (by simp;omega);have y93 := Chg.cell hC5 (cell_drew c3_3) (by simp;omega);have y9f := Chg.fz hC5 (cell_drew c3_0) f3 (by simp;omega);go_simp;refine hK1.h _ _ ?_;clear hK1 K1;refine Mtree.two ?_ ?_
   ·skip;refine Mtree.stepH fun K1 hK1 => ?_;go_simp;refine hK1.h _ _ XA ?_;clear hK1 K1;refine Mtree.two ?_ ?_
    ·skip;refine Mtree.stepTH fun K1 hK1 => ?_;go_simp;refine hK1.h _ _ ?_;clear hK1 K1;refine Mtree.stepTH fun K1 hK1 => ?_;go_simp;refine hK1.h _ _ ?_;clear hK1 K1;refine Mtree.stepTH fun K1 hK1 => ?_;go_simp;refine hK1.h _ _ ?_;clear hK1 K1;refine Mtree.fin ?_;refine hK _ _ ⟨by simp [AllEq,go_sem],?_⟩;refine ⟨Chg.more (Chg.more ((Chg.refl [n3,n5] _).drew) hC5 (by simp)) chg4 (by simp),?_⟩
     first | exact ⟨some ⟨g,0,none⟩,n,n,by first | (go_simp;done) | (go_simp;rfl),by first | (go_simp;done) | (go_simp;rfl),by first | (go_simp;done) | (go_simp;rfl),by first | (go_simp;done) | (go_simp;rfl),by first | rfl | go_simp⟩ | exact ⟨some ⟨hb5,0,none⟩,n,n,by first | (go_simp;done) | (go_simp;rfl),by first | (go_simp;done) | (go_simp;rfl),by first | (go_simp;done) | (go_simp;rfl),by first | (go_simp;done) | (go_simp;rfl),by first | rfl | go_simp⟩
    ·skip;refine Mtree.stepTH fun K1 hK1 => ?_;go_simp;refine hK1.h _ _ ?_;clear hK1 K1;refine Mtree.stepTH fun K1 hK1 => ?_;go_simp;refine hK1.h _ _ ?_;clear hK1 K1;refine Mtree.stepTH fun K1 hK1 => ?_;go_simp;refine hK1.h _ _ ?_;clear hK1 K1;refine Mtree.fin ?_;refine hK _ _ ⟨by simp [AllEq,go_sem],?_⟩;refine ⟨Chg.more (Chg.more ((Chg.refl [n3,n5] _).drew) hC5 (by simp)) chg4 (by simp),?_⟩
     first | exact ⟨some ⟨g,0,none⟩,n,n,by first | (go_simp;done) | (go_simp;rfl),by first | (go_simp;done) | (go_simp;rfl),by first | (go_simp;done) | (go_simp;rfl),by first | (go_simp;done) | (go_simp;rfl),by first | rfl | go_simp⟩ | exact ⟨some ⟨hb5,0,none⟩,n,n,by first | (go_simp;done) | (go_simp;rfl),by first | (go_simp;done) | (go_simp;rfl),by first | (go_simp;done) | (go_simp;rfl),by first | (go_simp;done) | (go_simp;rfl),by first | rfl | go_simp⟩
   ·skip;refine Mtree.stepTH fun K1 hK1 => ?_;go_simp;refine hK1.h _ _ ?_;clear hK1 K1;refine Mtree.stepH fun K1 hK1 => ?_;go_simp;refine hK1.h _ _ XA ?_;clear hK1 K1;refine Mtree.stepTH fun K1 hK1 => ?_;go_simp;refine hK1.h _ _ ?_;clear hK1 K1;refine Mtree.stepTH fun K1 hK1 => ?_;go_simp;refine hK1.h _ _ ?_;clear hK1 K1;refine Mtree.fin ?_;refine hK _ _ ⟨by simp [AllEq,go_sem],?_⟩;refine ⟨Chg.more (Chg.more ((Chg.refl [n3,n5] _).drew) hC5 (by simp)) chg4 (by simp),?_⟩
    first | exact ⟨some ⟨g,0,none⟩,n,n,by first | (go_simp;done) | (go_simp;rfl),by first | (go_simp;done) | (go_simp;rfl),by first | (go_simp;done) | (go_simp;rfl),by first | (go_simp;done) | (go_simp;rfl),by first | rfl | go_simp⟩ | exact ⟨some ⟨hb5,0,none⟩,n,n,by first | (go_simp;done) | (go_simp;rfl),by first | (go_simp;done) | (go_simp;rfl),by first | (go_simp;done) | (go_simp;rfl),by first | (go_simp;done) | (go_simp;rfl),by first | rfl | go_simp⟩
 ·rintro r5 W ⟨hA,hT3,A3,l3,c3,y0,y1,y2,y3,e4⟩;obtain ⟨e3_5,-⟩ := hA;rw [e3_4] at e3_5;clear e0_4 e3_4 e5_4;have zhT3 := Chg.size hT3;clear f3;clear f5;replace hH := hH.chg hT3 XB;replace xw := Chg.to xw hT3 XL;clear c3_0;clear c3_1;clear c3_2;clear c3_3;clear c5_0;clear c5_1;clear c5_2;clear c5_3;have c3_0 := y0;have c3_1 := y1;have c3_2 := y2;have c3_3 := y3;refine Wp.ret ?_;refine endK_cell_tmp (v := .agg #[cellVal c3_0,cellVal c3_1,cellVal c3_2,cellVal c3_3]) Tryz.results147 (by decide) (by decide) e3_5 (by dsimp only [cellVal];go_simp) ?_;rw [e4]
  dsimp only [cellVal]
  exact ⟨⟨_,_,_,rfl⟩,xw⟩
theorem ownsRow_beyond {w V : World} {base e size n c b i : Nat} {xs vs : List Value} (h : w.ownsRow base e size (.slice (some ⟨b,0,none⟩) n c) n xs) (p : Put w V b i vs) (hi : n * size ≤ i) :
  V.ownsRow base e size (.slice (some ⟨b,0,none⟩) n c) n xs := by
 obtain ⟨h1,h2⟩ := h;refine ⟨h1,?_⟩
 rcases h2 with ⟨h2,-⟩ | ⟨g,cap,cur,hv,hb,hg,hnc,hcm,hcs,htake⟩
 ·cases h2
 ·injection hv with e1 e2 e3
  injection e1 with e1;injection e1 with e1
  subst e1;subst e3;obtain ⟨cs',hV,hsz⟩ := p.row cur e hg;refine .inr ⟨b,c,cs',rfl,hb,hV,hnc,hcm,by rw [hsz,hcs],?_⟩;have cw : ∀ j,w.cell? ⟨b,j,none⟩ = cur[j]? := fun j => by simp [World.cell?,hg]
  have cV : ∀ j,V.cell? ⟨b,j,none⟩ = cs'[j]? := fun j => by simp [World.cell?,hV]
  rw [← htake];apply List.ext_getElem?;intro j;rw [List.getElem?_take,List.getElem?_take]
  by_cases hj : j < n * size
  ·rw [if_pos hj,if_pos hj,Array.getElem?_toList,Array.getElem?_toList,← cV,← cw,p.old j (.inl (by omega))]
  ·rw [if_neg hj,if_neg hj]
theorem ownsRow_part {w : World} {base e size n c b k : Nat} {xs : List Value} (h : w.ownsRow base e size (.slice (some ⟨b,0,none⟩) n c) n xs) (hk : k ≤ n) : w.ownsRow base e size (.slice (some ⟨b,0,none⟩) k c) k (xs.take (k * size)) := by
 obtain ⟨h1,h2⟩ := h;have hks := Nat.mul_le_mul_right size hk;refine ⟨by rw [List.length_take];omega,?_⟩
 rcases h2 with ⟨h2,-⟩ | ⟨g,cap,cur,hv,hb,hg,hnc,hcm,hcs,htake⟩
 ·cases h2
 ·injection hv with e1 e2 e3
  subst e3;rw [e1];exact .inr ⟨g,c,cur,rfl,hb,hg,by omega,hcm,hcs,by rw [← htake,List.take_take,Nat.min_eq_left hks]⟩
theorem ownsRow_cap {w : World} {base e size n c b : Nat} {xs : List Value} (h : w.ownsRow base e size (.slice (some ⟨b,0,none⟩) n c) n xs) : n ≤ c ∧ b < w.heap.size ∧ ∀ j,j < c * size → (w.cell? ⟨b,j,none⟩).isSome = true := by
 rcases h.2 with ⟨h2,-⟩ | ⟨g,cap,cur,hv,hb,hg,hnc,hcm,hcs,htake⟩
 ·cases h2
 ·injection hv with e1 e2 e3
  injection e1 with e1;injection e1 with e1
  subst e1;subst e3;exact ⟨hnc,(Array.getElem?_eq_some_iff.1 hg).1,fun j hj => by simp [World.cell?,hg,hcs,hj]⟩
theorem app_fits {P : Program} {t e : TypeId} {size : Nat} (T : ElemT P t e size) {w : World} {base g n cap : Nat} {xs : List Value} (hown : w.ownsRow base e size (.slice (some ⟨g,0,none⟩) n cap) n xs)
  (a : Addr) (m c : Nat) (news : List Value) (ty : TypeId) (hl : news.length = m * size) (hnews : ∀ j u,news[j]? = some u → w.cell? (a.add j) = some u) (h1 : ∀ u ∈ news,u.oneCell' = true) (hroom : n + m ≤ cap) :
  ∃ w',(Builtin.append_ #[t,t] ty #[.slice (some ⟨g,0,none⟩) n cap,.slice (some a) m c]).run P w = .ok (.slice (some ⟨g,0,none⟩) (n + m) cap) w' ∧
   w'.ownsRow base e size (.slice (some ⟨g,0,none⟩) (n + m) cap) (n + m) (xs ++ news) ∧ w.grownBy w' (some g) := by
 obtain ⟨i,z,h1',h2,h3,h4,h5,h6,h7⟩ := T.ex;exact run_append_fits w base t ty e i size h1' h2 h4 g n cap xs hown a m c news hl hnews h1 hroom
theorem delI_c (b n c i base : Nat) (xs : List Int) (w : World) (hO : w.ownsRow base 3 1 (.slice (some ⟨b,0,none⟩) n c) n (xs.map (Value.int .i64))) (hn : n = xs.length) (hi : i < n) (hn9 : n ≤ 1000) :
  CallsV Tryz.prog 150 #[.slice (some ⟨b,0,none⟩) n c,.int .i64 (i : Int),.int .i64 ((i : Int) + 1)] w fun v w' =>
   (v = .slice (some ⟨b,0,none⟩) (n - 1) c ∧ w'.ownsRow base 3 1 (.slice (some ⟨b,0,none⟩) (n - 1) c) (n - 1) ((xs.eraseIdx i).map (Value.int .i64))) ∧ Chg [b] w w' := by
 obtain ⟨hnc,hbl,hcs⟩ := ownsRow_cap hO;obtain ⟨m,rfl⟩ : ∃ m,n = m + 1 := ⟨n - 1,by omega⟩;simp only [Nat.add_sub_cancel];replace hn : ∃ _u : Unit,_ := ⟨(),hn⟩;have a1 : (0 : Int) ≤ (i : Int) := by omega
 have a2 : (i : Int) ≤ (i : Int) + 1 := by omega
 have a3 : (i : Int) + 1 ≤ (m : Int) + 1 := by omega
 have a4 : ¬ (i : Int) = (i : Int) + 1 := by omega
 have a5 : (i : Int) ≤ (m : Int) + 1 := by omega
 have a6 : ((i : Int) + 1).toNat = i + 1 := by omega
 have a7 : 0 ≤ (i : Int) + 1 := by omega
 have a8 : (i : Int) ≤ (m : Int) := by omega
 have a9 : ((m : Int) + 1).toNat = m + 1 := by omega
 have a10 : (m : Int) ≤ (m : Int) + 1 := by omega
 have a11 : (m : Int) + 1 ≤ (c : Int) := by omega
 have a12 : (i : Int) ≤ (c : Int) := by omega
 have a13 : (m : Int) ≤ (c : Int) := by omega
 have a14 : (i : Int) + 1 ≤ (c : Int) := by omega
 have a15 : ¬ c = m := by omega
 have e9 : ∃ _u : Unit,(xs.eraseIdx i).map (Value.int .i64) = (xs.map (Value.int .i64)).take i ++ (xs.map (Value.int .i64)).drop (i + 1) := ⟨(),by rw [List.eraseIdx_eq_take_drop_succ,List.map_append,List.map_take,List.map_drop]⟩;obtain ⟨cs,hcs9⟩ : ∃ cs,∃ _u : Unit,xs.map (Value.int .i64) = cs ∧ cs.length = m + 1 ∧ ∀ u ∈ cs,u.oneCell' = true := ⟨_,(),rfl,by rw [List.length_map];exact hn.choose_spec.symm,one_ints⟩;rw [hcs9.choose_spec.1] at hO e9;rw [e9.choose_spec];refine Wp.fn Tryz.func150 rfl Tryz.ntmps150 (by simp) ?_;have xw := Ext.refl w;refine Wp.keep [0,1,2] ?_;rintro r1 ⟨e0_1,e1_1,e2_1,-⟩;simp [go_sem] at e0_1 e1_1 e2_1;have xb := Chg.refl [b] w;refine sRg fun K' gd hK => ?_;go_simp;refine hK _ _ ?_;clear hK K' gd;refine Wp.keep [0,1,2] ?_;rintro r2 ⟨e0_2,e1_2,e2_2,-⟩;simp [go_sem,e0_1,e1_1,e2_1] at e0_2 e1_2 e2_2;clear e0_1 e1_1 e2_1;refine sRg fun K' gd hK => ?_;go_simp;refine hK _ _ ?_;clear hK K' gd;refine Wp.keep [0,1,2] ?_;rintro r3 ⟨e0_3,e1_3,e2_3,-⟩;simp [go_sem,e0_2,e1_2,e2_2] at e0_3 e1_3 e2_3;clear e0_2 e1_2 e2_2;refine Wp.seq ?_;refine sRg fun K' gd hK => ?_;go_simp;refine hK _ _ ?_;clear hK K' gd;refine Wp.keep [0,1,2,16] ?_;rintro r4 ⟨e0_4,e1_4,e2_4,e16_4,-⟩
 simp [go_sem,e0_3,e1_3,e2_3] at e0_4 e1_4 e2_4 e16_4;clear e0_3 e1_3 e2_3;refine cFf ?_;have hown := ownsRow_part (k := i) hO (by omega);rw [Nat.mul_one] at hown
 by_cases hin : i = m
 ·skip;subst hin;have hd9 : ∃ _u : Unit,cs.take i ++ cs.drop (i + 1) = cs.take i ++ [] := ⟨(),by rw [List.drop_of_length_le (by have := hcs9.choose_spec.2.1;omega)]⟩;rw [hd9.choose_spec]
  by_cases hce : c = i + 1
  ·skip;subst hce;refine skN ?_;refine sRg fun K' gd hK => ?_;go_simp;refine hK _ _ ?_;clear hK K' gd;refine Wp.keep [0,1,2,7] ?_;rintro r5 ⟨e0_5,e1_5,e2_5,e7_5,-⟩;simp [go_sem,e0_4,e1_4,e2_4,e16_4] at e0_5 e1_5 e2_5 e7_5;clear e0_4 e1_4 e2_4 e16_4;refine Wp.seqDraw (.inl rfl) mixed [([0,1,2,3,4],none),([5],some (6,true)),([],some (7,true))] (by kernel_rfl) fun K' gd hK hg => ?_;clear hg;simp only [pick,nth,List.map_cons,List.map_nil,Option.map_none,Option.map_some];refine Mops.absD fun D2 hD2 zD2 => ?_;replace hown := hown.ext hD2;replace xw := xw.trans hD2;replace xb := Chg.ext xb hD2;clear hD2;apply Mops.none
   ·intro w' hE';go_simp;with_reducible rfl
   apply Mops.last
   ·intro w' hE';go_simp;with_reducible rfl
   intro K1 hK1;obtain ⟨w1,hrun,hown2,hgr⟩ := app_fits ints_T hown ⟨b,0,none⟩ 0 0 [] 22 rfl (by intro j u hu;simp at hu) (by simp) (by omega);refine if_pos_of rfl (Wstep.law (exec_append2 rfl hrun (by go_simp) (by go_simp)) ?_);refine hK1 _ _ ?_;clear hK1 K1;replace xb := Chg.more xb (grown_chg hgr) (by first | exact lt_gm (fun k hk => show b ≤ k ∧ k < b + 1 from by injection hk with hk;omega) (by omega) | simp);rw [Nat.add_zero] at hown2;obtain ⟨-,-,hsm⟩ := ownsRow_cap hown2;apply Mops.last
   ·exact fun _ _ => Rops_done
   intro K1 hK1;go_simp;refine hK1 _ _ ?_;clear hK1 K1;refine Mops.done ?_;refine hK _ _ ?_;clear hK K' gd;refine Wp.keep [0,7] ?_;rintro r7 ⟨e0_7,e7_7,-⟩;simp [go_sem,e0_5,e1_5,e2_5,e7_5] at e0_7 e7_7;clear e0_5 e1_5 e2_5 e7_5;refine sRg fun K' gd hK => ?_;refine cu6 fun K1 hK1 => ?_;refine Wops.cut 5 fun K2 hK2 => ?_;simp only [tSC,tZ];go_simp;refine hK2 _ _ ?_;clear hK2 K2;simp only [dSC,dZ];obtain hrun := run_clearI w1 22 b i 1 1 (by omega) (fun j hj => hsm _ (by omega)) (fun j _ => own_fz hown2 _);refine Wops.law rfl (exec_clear rfl hrun (by go_simp)) ?_;simp only [updO_some,Wops_nil];refine hK1 _ _ ?_;clear hK1 K1;refine Wops.absS (b := b) (i := i) (zerosI 1) (fun j hj => hsm _ (by unfold zerosI at hj;simp at hj;omega)) fun Pc hPc => ?_;replace xb := Put.more xb hPc (.inr (by simp));try simp only [Wops_nil,updO_some,updO_none]
   refine hK _ _ ?_;clear hK K' gd;refine Wp.keep [0] ?_;rintro r8 ⟨e0_8,-⟩;simp [go_sem,e0_7,e7_7] at e0_8;clear e0_7 e7_7;refine sRg fun K' gd hK => ?_;go_simp;refine hK _ _ ?_;clear hK K' gd;refine Wp.keep [6] ?_;rintro r9 ⟨e6_9,-⟩;simp [go_sem,e0_8] at e6_9;clear e0_8;refine Wp.ret ?_;refine endK_tmp Tryz.results150 (by decide) ?_;rw [e6_9];exact ⟨⟨rfl,ownsRow_beyond hown2 hPc (by omega)⟩,xb⟩
  ·skip;refine skN ?_;refine sRg fun K' gd hK => ?_;go_simp;refine hK _ _ ?_;clear hK K' gd;refine Wp.keep [0,1,2,7] ?_;rintro r10 ⟨e0_10,e1_10,e2_10,e7_10,-⟩;simp [go_sem,e0_4,e1_4,e2_4,e16_4] at e0_10 e1_10 e2_10 e7_10;clear e0_4 e1_4 e2_4 e16_4;refine Wp.seqDraw (.inl rfl) mixed [([0,1,2,3,4],none),([5],some (6,true)),([],some (7,true))] (by kernel_rfl) fun K' gd hK hg => ?_;clear hg;simp only [pick,nth,List.map_cons,List.map_nil,Option.map_none,Option.map_some];refine Mops.absD fun D4 hD4 zD4 => ?_;replace hown := hown.ext hD4;replace xw := xw.trans hD4;replace xb := Chg.ext xb hD4;clear hD4;apply Mops.none
   ·intro w' hE';go_simp;with_reducible rfl
   apply Mops.last
   ·intro w' hE';go_simp;with_reducible rfl
   intro K1 hK1;obtain ⟨w1,hrun,hown2,hgr⟩ := app_fits ints_T hown ⟨b,i + 1,none⟩ 0 (c - (i + 1)) [] 22 rfl (by intro j u hu;simp at hu) (by simp) (by omega);refine if_pos_of rfl (Wstep.law (exec_append2 rfl hrun (by go_simp) (by go_simp)) ?_);refine hK1 _ _ ?_;clear hK1 K1;replace xb := Chg.more xb (grown_chg hgr) (by first | exact lt_gm (fun k hk => show b ≤ k ∧ k < b + 1 from by injection hk with hk;omega) (by omega) | simp);rw [Nat.add_zero] at hown2;obtain ⟨-,-,hsm⟩ := ownsRow_cap hown2;apply Mops.last
   ·exact fun _ _ => Rops_done
   intro K1 hK1;go_simp;refine hK1 _ _ ?_;clear hK1 K1;refine Mops.done ?_;refine hK _ _ ?_;clear hK K' gd;refine Wp.keep [0,7] ?_;rintro r12 ⟨e0_12,e7_12,-⟩;simp [go_sem,e0_10,e1_10,e2_10,e7_10] at e0_12 e7_12;clear e0_10 e1_10 e2_10 e7_10;refine sRg fun K' gd hK => ?_;refine cu6 fun K1 hK1 => ?_;refine Wops.cut 5 fun K2 hK2 => ?_;simp only [tSC,tZ];go_simp;refine hK2 _ _ ?_;clear hK2 K2;simp only [dSC,dZ];obtain hrun := run_clearI w1 22 b i 1 (c - i) (by omega) (fun j hj => hsm _ (by omega)) (fun j _ => own_fz hown2 _);refine Wops.law rfl (exec_clear rfl hrun (by go_simp)) ?_;simp only [updO_some,Wops_nil];refine hK1 _ _ ?_;clear hK1 K1;refine Wops.absS (b := b) (i := i) (zerosI 1) (fun j hj => hsm _ (by unfold zerosI at hj;simp at hj;omega)) fun Pc hPc => ?_;replace xb := Put.more xb hPc (.inr (by simp));try simp only [Wops_nil,updO_some,updO_none]
   refine hK _ _ ?_;clear hK K' gd;refine Wp.keep [0] ?_;rintro r13 ⟨e0_13,-⟩;simp [go_sem,e0_12,e7_12] at e0_13;clear e0_12 e7_12;refine sRg fun K' gd hK => ?_;go_simp;refine hK _ _ ?_;clear hK K' gd;refine Wp.keep [6] ?_;rintro r14 ⟨e6_14,-⟩;simp [go_sem,e0_13] at e6_14;clear e0_13;refine Wp.ret ?_;refine endK_tmp Tryz.results150 (by decide) ?_;rw [e6_14];exact ⟨⟨rfl,ownsRow_beyond hown2 hPc (by omega)⟩,xb⟩
 ·skip;have hi9 : i + (m - i) = m := by omega
  have hmi : ¬ m = i := by omega
  have hci : ¬ c = i + 1 := by omega
  refine skN ?_;refine sRg fun K' gd hK => ?_;go_simp;refine hK _ _ ?_;clear hK K' gd;refine Wp.keep [0,1,2,7] ?_;rintro r15 ⟨e0_15,e1_15,e2_15,e7_15,-⟩;simp [go_sem,e0_4,e1_4,e2_4,e16_4] at e0_15 e1_15 e2_15 e7_15;clear e0_4 e1_4 e2_4 e16_4;refine Wp.seqDraw (.inl rfl) mixed [([0,1,2,3,4],none),([5],some (6,true)),([],some (7,true))] (by kernel_rfl) fun K' gd hK hg => ?_;clear hg;simp only [pick,nth,List.map_cons,List.map_nil,Option.map_none,Option.map_some];refine Mops.absD fun D6 hD6 zD6 => ?_;replace hO := hO.ext hD6;replace hown := hown.ext hD6;replace xw := xw.trans hD6;replace xb := Chg.ext xb hD6;clear hD6;apply Mops.none
  ·intro w' hE';go_simp;with_reducible rfl
  apply Mops.last
  ·intro w' hE';go_simp;with_reducible rfl
  intro K1 hK1;obtain ⟨w1,hrun,hown2,hgr⟩ := app_fits ints_T hown ⟨b,i + 1,none⟩ (m - i) (c - (i + 1)) (cs.drop (i + 1)) 22 (by rw [List.length_drop,hcs9.choose_spec.2.1];omega) (by intro j u hu;rw [Addr.add_lit];rw [List.getElem?_drop] at hu;have := World.ownsRow.cells hO (g := b) rfl (i + 1 + j) u hu;rw [Addr.add_lit,Nat.zero_add] at this;exact this) (fun u hu => hcs9.choose_spec.2.2 u (List.mem_of_mem_drop hu)) (by omega);refine if_pos_of rfl (Wstep.law (exec_append2 rfl hrun (by go_simp) (by go_simp)) ?_);refine hK1 _ _ ?_;clear hK1 K1;replace xb := Chg.more xb (grown_chg hgr) (by first | exact lt_gm (fun k hk => show b ≤ k ∧ k < b + 1 from by injection hk with hk;omega) (by omega) | simp);rw [hi9] at hown2;obtain ⟨-,-,hsm⟩ := ownsRow_cap hown2;apply Mops.last
  ·exact fun _ _ => Rops_done
  intro K1 hK1;go_simp;refine hK1 _ _ ?_;clear hK1 K1;refine Mops.done ?_;refine hK _ _ ?_;clear hK K' gd;refine Wp.keep [0,7] ?_;rintro r17 ⟨e0_17,e7_17,-⟩;simp [go_sem,e0_15,e1_15,e2_15,e7_15] at e0_17 e7_17;clear e0_15 e1_15 e2_15 e7_15;refine sRg fun K' gd hK => ?_;refine cu6 fun K1 hK1 => ?_;refine Wops.cut 5 fun K2 hK2 => ?_;simp only [tSC,tZ];go_simp;refine hK2 _ _ ?_;clear hK2 K2;simp only [dSC,dZ];obtain hrun := run_clearI w1 22 b m 1 (c - m) (by omega) (fun j hj => hsm _ (by omega)) (fun j _ => own_fz hown2 _);refine Wops.law rfl (exec_clear rfl hrun (by go_simp)) ?_;simp only [updO_some,Wops_nil];refine hK1 _ _ ?_;clear hK1 K1;refine Wops.absS (b := b) (i := m) (zerosI 1) (fun j hj => hsm _ (by unfold zerosI at hj;simp at hj;omega)) fun Pc hPc => ?_;replace xb := Put.more xb hPc (.inr (by simp));try simp only [Wops_nil,updO_some,updO_none]
  refine hK _ _ ?_;clear hK K' gd;refine Wp.keep [0] ?_;rintro r18 ⟨e0_18,-⟩;simp [go_sem,e0_17,e7_17] at e0_18;clear e0_17 e7_17;refine sRg fun K' gd hK => ?_;go_simp;refine hK _ _ ?_;clear hK K' gd;refine Wp.keep [6] ?_;rintro r19 ⟨e6_19,-⟩;simp [go_sem,e0_18] at e6_19;clear e0_18;refine Wp.ret ?_;refine endK_tmp Tryz.results150 (by decide) ?_;rw [e6_19];exact ⟨⟨rfl,ownsRow_beyond hown2 hPc (by omega)⟩,xb⟩
end Go.Proofs.YtnklbepeoicgpaaGreat
