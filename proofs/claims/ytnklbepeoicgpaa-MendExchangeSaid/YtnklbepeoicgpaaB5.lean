/- A tour without some of its flaws; days that fit a tour. Whether some flaws can be mended together. The flaws that each copy has still: the walk. The laws' own small functions. The worth of days. Two lists of lists compared. The laws' example. A table of our own reads as lists. What the copies have still: plain laws. The chapter's examples: head. Small lemmas of the laws. What the greatest plan is worth: other names of the flaws, fewer days, a day that is taken. What a tour's best mending is worth: the greatest plan; with a day closed or open, without flaws, on a day. Days for the flaws and pla -/
import Derived.Test.YtnklbepeoicgpaaB4
import Derived.Test.YtnklbepeoicgpaaBw1
import Derived.Test.YtnklbepeoicgpaaB3
set_option linter.all false
namespace Go.Proofs.Ytnklbepeoicgpaa
open Go.RowKit Go.Wk Go.Proofs
attribute [local irreducible] Go.Wk.Wops Go.Wk.Wp Go.Wk.Mtree Go.Wk.Mops
set_option maxHeartbeats 8000000
set_option maxRecDepth 20000
def outT (t : Tr) (ids : List Int) : Tr := if listE t ids = 0 then withoutT t (listI t ids) else ⟨0, [], []⟩
theorem Without_c (t : Tr) (ids : List Int) (v iv : Value) (w : World) (hV : TourV w w.heap.size v t) (hI : IntsV w w.heap.size iv ids) (hf : FitT t) (hl : ids.length ≤ 1000) :
    CallsV Try.prog 18 #[v, iv] w fun v' w' => (∃ tv, v' = .tuple #[tv, .int .i64 (listE t ids)] ∧ TourB w' w.heap.size tv (outT t ids)) ∧ Ext w w' := by
  obtain ⟨A, c, A2, c2, rfl, hI1, hF⟩ := hV.open'; obtain ⟨A1, c1, rfl, -, -⟩ := id hI; have hTS : TourS w w.heap.size (.agg #[.int .i64 t.n, .slice A t.cl.length c, .slice A2 t.fl.length c2]) t := ⟨hV⟩; have hIS : IntsS w w.heap.size (.slice A1 ids.length c1) ids := ⟨hI⟩; clear hV hI hI1 hF; have hll := listI_len (t := t) (ids := ids); have hff := hf.fl; refine Wp.fn Try.func18 rfl Try.ntmps18 (by simp) ?_; have xw := Ext.refl w; refine Wp.keep [0, 1] ?_; rintro r1 ⟨e0_1, e1_1, -⟩; simp [go_sem] at e0_1 e1_1; refine sRg fun K' gd hK => ?_; refine cu1 fun K1 hK1 => ?_; go_simp; refine hK1 _ _ ?_; clear hK1 K1; refine Wops.absA fun V2_1 n2 hV2_1 => ?_; obtain ⟨q2, hV2_1, s2, kV2_1, f2, r2⟩ := hV2_1; try simp only [q2] at kV2_1 f2 r2 ⊢
  replace hTS := hTS.ext hV2_1; replace hIS := hIS.ext hV2_1; replace xw := xw.trans hV2_1; have c2_0 := kV2_1 0 _ rfl; have c2_1 := kV2_1 1 _ rfl; have c2_2 := kV2_1 2 _ rfl; clear kV2_1 hV2_1; clear r2; refine cu1 fun K1 hK1 => ?_; go_simp; refine hK1 _ _ ?_; clear hK1 K1; refine Wops.absA fun V4_2 n4 hV4_2 => ?_; obtain ⟨q4, hV4_2, s4, kV4_2, f4, r4⟩ := hV4_2; try simp only [q4] at kV4_2 f4 r4 ⊢
  replace f2 := hV4_2.fz c2_0 f2; replace hTS := hTS.ext hV4_2; replace hIS := hIS.ext hV4_2; replace xw := xw.trans hV4_2; replace c2_0 := hV4_2.cell c2_0; replace c2_1 := hV4_2.cell c2_1; replace c2_2 := hV4_2.cell c2_2; have c4_0 := kV4_2 0 _ rfl; have c4_1 := kV4_2 1 _ rfl; have c4_2 := kV4_2 2 _ rfl; clear kV4_2 hV4_2; clear r4; go_simp; refine hK _ _ ?_; clear hK K' gd; refine Wp.keep [1, 2, 4] ?_; rintro r2 ⟨e1_2, e2_2, e4_2, -⟩; simp [go_sem, e0_1, e1_1] at e1_2 e2_2 e4_2; clear e0_1 e1_1; refine sRg fun K' gd hK => ?_; refine cu3 fun K1 hK1 => ?_; go_simp; refine Wcall (.inl rfl) (flaws_c t ids _ _ _ (hTS.v.more (Below.size (XE))) (hIS.v.more (Below.size (XE))) hf hl) ?_; rintro v w2 ⟨⟨lv, rfl, hL⟩, hE⟩; obtain ⟨A5, c5, rfl⟩ := hL.slice; go_simp; refine hK1 _ _ ?_; clear hK1 K1; have z3 := Below.size hE; replace f2 := hE.fz c2_0 f2; replace f4 := hE.fz c4_0 f4; replace hTS := hTS.ext hE; replace hIS := hIS.ext hE; replace xw := xw.trans hE; replace c2_0 := hE.cell c2_0; replace c2_1 := hE.cell c2_1; replace c2_2 := hE.cell c2_2; replace c4_0 := hE.cell c4_0; replace c4_1 := hE.cell c4_1; replace c4_2 := hE.cell c4_2; clear hE; go_simp; refine hK _ _ ?_; clear hK K' gd; refine Wp.keep [2, 4, 6, 7] ?_; rintro r4 ⟨e2_4, e4_4, e6_4, e7_4, -⟩
  simp [go_sem, e1_2, e2_2, e4_2] at e2_4 e4_4 e6_4 e7_4; clear e1_2 e2_2 e4_2
  by_cases h0 : listE t ids = 0
  · skip; refine Wp.seq ?_; refine sRg fun K' gd hK => ?_; go_simp; refine hK _ _ ?_; clear hK K' gd; refine Wp.keep [2, 4, 6, 7, 15] ?_; rintro r5 ⟨e2_5, e4_5, e6_5, e7_5, e15_5, -⟩; simp [go_sem, e2_4, e4_4, e6_4, e7_4] at e2_5 e4_5 e6_5 e7_5 e15_5; clear e2_4 e4_4 e6_4 e7_4; refine cFf ?_; have hg := checkT_zero.1 (listE_zero.1 h0).1; have hm12 := hg.fl; have hcl9 := hg.len; refine skN ?_; refine sRg fun K' gd hK => ?_; refine cu3 fun K1 hK1 => ?_; go_simp; refine Wcall (.inl rfl) (without_c t (listI t ids) _ _ _ (hTS.v.more (Below.size (XE))) hL.ints (by omega) (by omega) (by omega)) ?_; rintro v w4 ⟨⟨cv, fv, rfl, g1, g2⟩, hE⟩; obtain ⟨A6, c6, rfl⟩ := g1.slice; obtain ⟨A7, c7, rfl⟩ := OwnF.slice g2; go_simp; refine hK1 _ _ ?_; clear hK1 K1; have z6 := Below.size hE; replace f2 := hE.fz c2_0 f2; replace f4 := hE.fz c4_0 f4; replace hTS := hTS.ext hE; replace hIS := hIS.ext hE; replace hL := hL.ext hE; replace xw := xw.trans hE; replace c2_0 := hE.cell c2_0; replace c2_1 := hE.cell c2_1; replace c2_2 := hE.cell c2_2; replace c4_0 := hE.cell c4_0; replace c4_1 := hE.cell c4_1; replace c4_2 := hE.cell c4_2; clear hE; refine cu1 fun K1 hK1 => ?_
    go_simp; refine hK1 _ _ ?_; clear hK1 K1; refine Wops.absS (b := n4) (i := 0) [_, _, _] (somes [cellVal c4_0, cellVal c4_1, cellVal c4_2] (by simp) (by intro j v hj; match j, hj with | 0, hj => (simp at hj; subst hj; exact c4_0) | 1, hj => (simp at hj; subst hj; exact c4_1) | 2, hj => (simp at hj; subst hj; exact c4_2))) fun P3 hP3 => ?_; have zP3 := hP3.same; replace f2 := hP3.frz f2; replace f4 := hP3.frz f4; replace hTS := hTS.put hP3 (by omega); replace hIS := hIS.put hP3 (by omega); replace hL := hL.put hP3 (by omega); replace g1 := g1.put hP3 (by omega); replace g2 := g2.put hP3 (by omega); replace xw := Put.to xw hP3 (by omega); replace c2_0 := hP3.cell c2_0 (by omega); replace c2_1 := hP3.cell c2_1 (by omega); replace c2_2 := hP3.cell c2_2 (by omega); clear c4_0; clear c4_1; clear c4_2; have c4_0 := hP3.new 0 _ rfl; try simp only [Nat.reduceAdd, Nat.zero_add, Nat.add_zero] at c4_0
    have c4_1 := hP3.new 1 _ rfl; try simp only [Nat.reduceAdd, Nat.zero_add, Nat.add_zero] at c4_1
    have c4_2 := hP3.new 2 _ rfl; try simp only [Nat.reduceAdd, Nat.zero_add, Nat.add_zero] at c4_2
    clear hP3; go_simp; refine hK _ _ ?_; clear hK K' gd; refine Wp.keep [4, 5] ?_; rintro r7 ⟨e4_7, e5_7, -⟩; simp [go_sem, e2_5, e4_5, e6_5, e7_5, e15_5] at e4_7 e5_7; clear e2_5 e4_5 e6_5 e7_5 e15_5; refine Wp.ret ?_; refine endK_cell_tmp (v := .agg #[cellVal c4_0, cellVal c4_1, cellVal c4_2]) Try.results18 (by decide) (by decide) e4_7 (by dsimp only [cellVal]; go_simp) ?_; rw [e5_7]
    dsimp only [cellVal]
    exact ⟨⟨_, by rw [h0], by unfold outT; rw [if_pos h0]; exact ⟨⟨_, _, rfl, g1.less (by omega), (OwnF.flawsB g2).less (by omega)⟩⟩⟩, xw⟩
  · skip; refine Wp.seq ?_; refine sRg fun K' gd hK => ?_; go_simp; refine hK _ _ ?_; clear hK K' gd; refine Wp.keep [2, 4, 6, 7, 15] ?_; rintro r8 ⟨e2_8, e4_8, e6_8, e7_8, e15_8, -⟩; simp [go_sem, e2_4, e4_4, e6_4, e7_4] at e2_8 e4_8 e6_8 e7_8 e15_8; clear e2_4 e4_4 e6_4 e7_4; refine cTt ?_; refine sRg fun K' gd hK => ?_; refine cu3 fun K1 hK1 => ?_; go_simp; refine hK1 _ _ ?_; clear hK1 K1; refine Wops.absS (b := n4) (i := 0) [_, _, _] (somes [cellVal c4_0, cellVal c4_1, cellVal c4_2] (by simp) (by intro j v hj; match j, hj with | 0, hj => (simp at hj; subst hj; exact c4_0) | 1, hj => (simp at hj; subst hj; exact c4_1) | 2, hj => (simp at hj; subst hj; exact c4_2))) fun P4 hP4 => ?_; have zP4 := hP4.same; replace f2 := hP4.frz f2; replace f4 := hP4.frz f4; replace hTS := hTS.put hP4 (by omega); replace hIS := hIS.put hP4 (by omega); replace hL := hL.put hP4 (by omega); replace xw := Put.to xw hP4 (by omega); replace c2_0 := hP4.cell c2_0 (by omega); replace c2_1 := hP4.cell c2_1 (by omega); replace c2_2 := hP4.cell c2_2 (by omega); clear c4_0; clear c4_1; clear c4_2; have c4_0 := hP4.new 0 _ rfl; try simp only [Nat.reduceAdd, Nat.zero_add, Nat.add_zero] at c4_0
    have c4_1 := hP4.new 1 _ rfl; try simp only [Nat.reduceAdd, Nat.zero_add, Nat.add_zero] at c4_1
    have c4_2 := hP4.new 2 _ rfl; try simp only [Nat.reduceAdd, Nat.zero_add, Nat.add_zero] at c4_2
    clear hP4; go_simp; refine hK _ _ ?_; clear hK K' gd; refine Wp.keep [4, 5] ?_; rintro r9 ⟨e4_9, e5_9, -⟩; simp [go_sem, e2_8, e4_8, e6_8, e7_8, e15_8] at e4_9 e5_9; clear e2_8 e4_8 e6_8 e7_8 e15_8; refine Wp.ret ?_; refine tRe ?_; refine endK_cell_tmp (v := .agg #[cellVal c4_0, cellVal c4_1, cellVal c4_2]) Try.results18 (by decide) (by decide) e4_9 (by dsimp only [cellVal]; go_simp) ?_; rw [e5_9]
    dsimp only [cellVal]
    exact ⟨⟨_, rfl, by unfold outT; rw [if_neg h0]; exact ⟨⟨_, _, rfl, IntsB.nil _ _, ⟨none, 0, rfl, fun h => absurd rfl h, Nat.le_refl _⟩⟩⟩⟩, xw⟩
def fitsE (t : Tr) (xs : List Int) : Int := if checkT t ≠ 0 then checkT t else if xs.length ≠ t.fl.length then 1 else 0
def fitsI (t : Tr) (xs : List Int) : Int := if fitsE t xs ≠ 0 then 0 else if wrongI t xs < 0 then 0 else idAt t.fl (wrongI t xs).toNat
def fitsB (t : Tr) (xs : List Int) : Bool := decide (fitsE t xs = 0 ∧ wrongI t xs < 0)
theorem wrongI_lt {t : Tr} {xs : List Int} {i : Nat} (h : wrongI t xs = (i : Int)) : i < xs.length := by
  unfold wrongI at h
  cases e : (List.range xs.length).find? (badK t xs) with
  | none => rw [e] at h; exact absurd h (by show ¬ ((-1 : Int) = _); omega)
  | some j => rw [e] at h; have := List.mem_range.1 (List.mem_of_find?_eq_some e); have : (j : Int) = (i : Int) := h; omega
theorem Fits_c (t : Tr) (xs : List Int) (v xv : Value) (w : World) (hV : TourV w w.heap.size v t) (hX : IntsV w w.heap.size xv xs) (hf : FitT t) (hl : checkT t = 0 → t.fl.length ≤ 12) :
    CallsV Try.prog 22 #[v, xv] w fun v' w' => v' = .tuple #[.int .i64 (fitsI t xs), .bool (fitsB t xs), .int .i64 (fitsE t xs)] ∧ Ext w w' := by
  obtain ⟨A, c, A2, c2, rfl, hI1, hF⟩ := hV.open'; obtain ⟨A1, c1, rfl, -, -⟩ := id hX; have hTS : TourS w w.heap.size (.agg #[.int .i64 t.n, .slice A t.cl.length c, .slice A2 t.fl.length c2]) t := ⟨hV⟩; have hFS : FlawsS w w.heap.size (.slice A2 t.fl.length c2) t.fl := ⟨hF⟩; have hXS : IntsS w w.heap.size (.slice A1 xs.length c1) xs := ⟨hX⟩; clear hV hX hI1 hF; obtain ⟨n, hn⟩ : ∃ n, ∃ _u : Unit, t.n.toNat = n := ⟨_, (), rfl⟩; refine Wp.fn Try.func22 rfl Try.ntmps22 (by simp) ?_; have xw := Ext.refl w; refine Wp.keep [0, 1] ?_; rintro r1 ⟨e0_1, e1_1, -⟩; simp [go_sem] at e0_1 e1_1; refine sRg fun K' gd hK => ?_; refine cu1 fun K1 hK1 => ?_; go_simp; refine hK1 _ _ ?_; clear hK1 K1; refine Wops.absA fun V2_1 n2 hV2_1 => ?_; obtain ⟨q2, hV2_1, s2, kV2_1, f2, r2⟩ := hV2_1; try simp only [q2] at kV2_1 f2 r2 ⊢
  replace hTS := hTS.ext hV2_1; replace hFS := hFS.ext hV2_1; replace hXS := hXS.ext hV2_1; replace xw := xw.trans hV2_1; have c2_0 := kV2_1 0 _ rfl; have c2_1 := kV2_1 1 _ rfl; have c2_2 := kV2_1 2 _ rfl; clear kV2_1 hV2_1; clear r2; go_simp; refine hK _ _ ?_; clear hK K' gd; refine Wp.keep [1, 2] ?_; rintro r2 ⟨e1_2, e2_2, -⟩; simp [go_sem, e0_1, e1_1] at e1_2 e2_2; clear e0_1 e1_1; refine Wp.seq ?_; refine sRg fun K' gd hK => ?_; refine cu2 fun K1 hK1 => ?_; go_simp; refine Wcall (.inl rfl) (check_c t _ _ (hTS.v.more (Below.size (XE))) hf) ?_; rintro v w2 ⟨rfl, hE⟩; go_simp; refine hK1 _ _ ?_; clear hK1 K1; have z3 := Below.size hE; replace f2 := hE.fz c2_0 f2; replace hTS := hTS.ext hE; replace hFS := hFS.ext hE; replace hXS := hXS.ext hE; replace xw := xw.trans hE; replace c2_0 := hE.cell c2_0; replace c2_1 := hE.cell c2_1; replace c2_2 := hE.cell c2_2; clear hE; go_simp; refine hK _ _ ?_; clear hK K' gd; refine Wp.keep [1, 2, 7] ?_; rintro r4 ⟨e1_4, e2_4, e7_4, -⟩; simp [go_sem, e1_2, e2_2] at e1_4 e2_4 e7_4; clear e1_2 e2_2
  by_cases h0 : checkT t = 0
  · skip; have hg := checkT_zero.1 h0; have hP : PlanT t n := by rw [← hn.choose_spec]; exact hg.plan (hl h0)
    refine sRg fun K' gd hK => ?_; go_simp; refine hK _ _ ?_; clear hK K' gd; refine Wp.keep [1, 2, 7, 12] ?_; rintro r5 ⟨e1_5, e2_5, e7_5, e12_5, -⟩; simp [go_sem, e1_4, e2_4, e7_4] at e1_5 e2_5 e7_5 e12_5; clear e1_4 e2_4 e7_4; refine cFf ?_
    by_cases h1 : xs.length = t.fl.length
    · skip; rw [h1] at hXS; refine skN ?_; refine Wp.seq ?_; refine sRg fun K' gd hK => ?_; go_simp; refine hK _ _ ?_; clear hK K' gd; refine Wp.keep [1, 2, 19] ?_; rintro r6 ⟨e1_6, e2_6, e19_6, -⟩; simp [go_sem, e1_5, e2_5, e7_5, e12_5] at e1_6 e2_6 e19_6; clear e1_5 e2_5 e7_5 e12_5; refine cFf ?_; refine skN ?_; refine Wp.seq ?_; refine sRg fun K' gd hK => ?_; refine cu3 fun K1 hK1 => ?_; go_simp; refine Wcall (.inl rfl) (wrong_c t n xs _ _ _ hP (hTS.v.more (Below.size (XE))) (hXS.v.more (Below.size (XE))) h1) ?_; rintro v w4 ⟨rfl, hE⟩; go_simp; refine hK1 _ _ ?_; clear hK1 K1; have z7 := Below.size hE; replace f2 := hE.fz c2_0 f2; replace hTS := hTS.ext hE; replace hFS := hFS.ext hE; replace hXS := hXS.ext hE; replace xw := xw.trans hE; replace c2_0 := hE.cell c2_0; replace c2_1 := hE.cell c2_1; replace c2_2 := hE.cell c2_2; clear hE; go_simp; refine hK _ _ ?_; clear hK K' gd; refine Wp.keep [2, 8] ?_; rintro r8 ⟨e2_8, e8_8, -⟩; simp [go_sem, e1_6, e2_6, e19_6] at e2_8 e8_8; clear e1_6 e2_6 e19_6
      by_cases h2 : wrongI t xs < 0
      · skip; refine sRg fun K' gd hK => ?_; go_simp; refine hK _ _ ?_; clear hK K' gd; refine Wp.keep [2, 8, 24] ?_; rintro r9 ⟨e2_9, e8_9, e24_9, -⟩; simp [go_sem, e2_8, e8_8] at e2_9 e8_9 e24_9; clear e2_8 e8_8; refine cFf ?_; refine skN ?_; refine sRg fun K' gd hK => ?_; go_simp; refine hK _ _ ?_; clear hK K' gd; refine Wp.keep [4, 5, 6] ?_; rintro r10 ⟨e4_10, e5_10, e6_10, -⟩; simp [go_sem, e2_9, e8_9, e24_9] at e4_10 e5_10 e6_10; clear e2_9 e8_9 e24_9; refine Wp.ret ?_; refine endK_tmp3 Try.results22 (by decide) (by decide) (by decide) ?_; rw [e4_10, e5_10, e6_10]; exact ⟨by unfold fitsI fitsB fitsE; rw [if_neg (not_not_intro h0), if_neg (not_not_intro h1), if_neg (by decide), if_pos h2]; simp [h2], xw⟩
      · skip; obtain ⟨i, hi⟩ : ∃ i : Nat, ∃ _u : Unit, wrongI t xs = (i : Int) := ⟨(wrongI t xs).toNat, (), by omega⟩; have hil : i < t.fl.length := by have := wrongI_lt (t := t) (xs := xs) hi.choose_spec; omega
        obtain ⟨b2, o2, eA, hb2, x0, x1, x2, x3⟩ := FlawsV.at hFS.v hil; subst eA; rw [hi.choose_spec] at e8_8; refine sRg fun K' gd hK => ?_; go_simp; refine hK _ _ ?_; clear hK K' gd; refine Wp.keep [2, 8, 24] ?_; rintro r11 ⟨e2_11, e8_11, e24_11, -⟩; simp [go_sem, e2_8, e8_8] at e2_11 e8_11 e24_11; clear e2_8 e8_8; refine cTt ?_; refine sRg fun K' gd hK => ?_; go_simp; refine hK _ _ ?_; clear hK K' gd; refine Wp.keep [4, 5, 6] ?_; rintro r12 ⟨e4_12, e5_12, e6_12, -⟩; simp [go_sem, e2_11, e8_11, e24_11] at e4_12 e5_12 e6_12; clear e2_11 e8_11 e24_11; refine Wp.ret ?_; refine tRe ?_; refine endK_tmp3 Try.results22 (by decide) (by decide) (by decide) ?_; rw [e4_12, e5_12, e6_12]; exact ⟨by unfold fitsI fitsB fitsE; rw [if_neg (not_not_intro h0), if_neg (not_not_intro h1), if_neg (by decide), if_neg h2]; rw [decide_eq_false (fun h => h2 h.2), hi.choose_spec, Int.toNat_natCast]; unfold idAt; rw [List.getElem?_eq_getElem hil], xw⟩
    · skip; have h1i : ¬ (xs.length : Int) = (t.fl.length : Int) := by omega
      refine skN ?_; refine Wp.seq ?_; refine sRg fun K' gd hK => ?_; go_simp; refine hK _ _ ?_; clear hK K' gd; refine Wp.keep [1, 2, 19] ?_; rintro r13 ⟨e1_13, e2_13, e19_13, -⟩; simp [go_sem, e1_5, e2_5, e7_5, e12_5] at e1_13 e2_13 e19_13; clear e1_5 e2_5 e7_5 e12_5; refine cTt ?_; refine sRg fun K' gd hK => ?_; go_simp; refine hK _ _ ?_; clear hK K' gd; refine Wp.keep [4, 5, 6] ?_; rintro r14 ⟨e4_14, e5_14, e6_14, -⟩; simp [go_sem, e1_13, e2_13, e19_13] at e4_14 e5_14 e6_14; clear e1_13 e2_13 e19_13; refine Wp.ret ?_; refine tRe ?_; refine endK_tmp3 Try.results22 (by decide) (by decide) (by decide) ?_; rw [e4_14, e5_14, e6_14]; exact ⟨by unfold fitsI fitsB fitsE; rw [if_neg (not_not_intro h0), if_pos h1, if_pos (by decide)]; rfl, xw⟩
  · skip; refine sRg fun K' gd hK => ?_; go_simp; refine hK _ _ ?_; clear hK K' gd; refine Wp.keep [1, 2, 7, 12] ?_; rintro r15 ⟨e1_15, e2_15, e7_15, e12_15, -⟩; simp [go_sem, e1_4, e2_4, e7_4] at e1_15 e2_15 e7_15 e12_15; clear e1_4 e2_4 e7_4; refine cTt ?_; refine sRg fun K' gd hK => ?_; go_simp; refine hK _ _ ?_; clear hK K' gd; refine Wp.keep [4, 5, 6] ?_; rintro r16 ⟨e4_16, e5_16, e6_16, -⟩; simp [go_sem, e1_15, e2_15, e7_15, e12_15] at e4_16 e5_16 e6_16; clear e1_15 e2_15 e7_15 e12_15; refine Wp.ret ?_; refine tRe ?_; refine endK_tmp3 Try.results22 (by decide) (by decide) (by decide) ?_; rw [e4_16, e5_16, e6_16]; exact ⟨by unfold fitsI fitsB fitsE; rw [if_pos h0, if_pos h0, decide_eq_false (fun h => h0 h.1)], xw⟩
theorem can1_c (t : Tr) (S pb n i : Nat) (A : Option Addr) (c : Nat) (A2 : Option Addr) (c2 : Nat) (h : Nat → Int) (w : World) (hT : PlanT t n) (hi : i < t.fl.length) (hhl : ∀ d, h d < t.fl.length) (hP : PlanF w S pb n A c A2 c2 t h) :
    CallsV Try.prog 47 #[.int .i64 (i : Int), .pointer (some ⟨pb, 0, none⟩)] w fun v w' =>
      v = .bool (!addB t.N n h i) ∧ PlanF w' S pb n A c A2 c2 t (addF t.N n h i) ∧ Chg [pb] w w' := by
  replace hhl : ∃ _u : Unit, _ := ⟨(), hhl⟩; have lb : pb < w.heap.size := cell_lt hP.k0; refine Wp.fn Try.func47 rfl Try.ntmps47 (by simp) ?_; have xw := Ext.refl w; refine Wp.keep [0, 1] ?_; rintro r1 ⟨e0_1, e1_1, -⟩; simp [go_sem] at e0_1 e1_1; have xq := Chg.refl [pb] w; refine sRg fun K' gd hK => ?_; go_simp; refine hK _ _ ?_; clear hK K' gd; refine Wp.keep [0, 1] ?_; rintro r2 ⟨e0_2, e1_2, -⟩; simp [go_sem, e0_1, e1_1] at e0_2 e1_2; clear e0_1 e1_1; refine sRg fun K' gd hK => ?_; refine cu2 fun K1 hK1 => ?_; go_simp; refine Wcall (.inl rfl) (add_c t S pb n i A c A2 c2 h _ hT.n2 hT.cl (by have := hT.fl; omega) hT.sp hi hhl.choose_spec (hP.ext xw)) ?_; rintro v w5 ⟨rfl, hP2, hE⟩; go_simp; refine hK1 _ _ ?_; clear hK1 K1; have z3 := Chg.size hE; clear xw; replace xq := Chg.more xq hE (by intro b hm; simp only [List.mem_cons, List.not_mem_nil, or_false] at hm; first | (left; omega) | (right; simp [hm])); go_simp; refine hK _ _ ?_; clear hK K' gd; refine Wp.keep [3] ?_; rintro r4 ⟨e3_4, -⟩; simp [go_sem, e0_2, e1_2] at e3_4; clear e0_2 e1_2; refine Wp.ret ?_; refine endK_tmp Try.results47 (by decide) ?_; rw [e3_4]; exact ⟨rfl, hP2, xq⟩
theorem canI_c (t : Tr) (S pb n : Nat) (A : Option Addr) (c : Nat) (A2 : Option Addr) (c2 : Nat) (xs : List Int) (v : Value) (w : World) (hT : PlanT t n) (hx : IntsV w S v xs) (hm : ∀ x ∈ xs, ∃ k : Nat, x = (k : Int) ∧ k < t.fl.length) (hl : xs.length ≤ 1000)
    (hP : PlanF w S pb n A c A2 c2 t noPlan) :
    CallsV Try.prog 64 #[v, .func (.func 47) #[] #[.pointer (some ⟨pb, 0, none⟩)]] w fun v' w' =>
      (∃ r : Int, v' = .int .i64 r ∧ canF t.N n xs noPlan = decide (r < 0)) ∧ Chg [pb] w w' := by
  obtain ⟨A1, c1, rfl, -, -⟩ := id hx; have heg : ∀ args w, (callFunc 47 args).run Try.prog w = .ok (.enter 47 args) w := enters_of Try.func47 (by kernel_rfl) rfl; have lb : pb < w.heap.size := cell_lt hP.k0; have hs := hP.s; have hXS : IntsS w S (.slice A1 xs.length c1) xs := ⟨hx⟩; replace hm : ∃ _u : Unit, _ := ⟨(), hm⟩; clear hx; refine Wp.fn Try.func64 rfl Try.ntmps64 (by simp) ?_; have xw := Ext.refl w; refine Wp.keep [0, 1] ?_; rintro r1 ⟨e0_1, e1_1, -⟩; simp [go_sem] at e0_1 e1_1; have xq := Chg.refl [pb] w; refine sRg fun K' gd hK => ?_; go_simp; refine hK _ _ ?_; clear hK K' gd; refine Wp.keep [0, 1] ?_; rintro r2 ⟨e0_2, e1_2, -⟩; simp [go_sem, e0_1, e1_1] at e0_2 e1_2; clear e0_1 e1_1; refine Wp.seq ?_; refine sRg fun K' gd hK => ?_; go_simp; refine hK _ _ ?_; clear hK K' gd; refine Wp.keep [0, 1, 7, 8] ?_; rintro r3 ⟨e0_3, e1_3, e7_3, e8_3, -⟩; simp [go_sem, e0_2, e1_2] at e0_3 e1_3 e7_3 e8_3; clear e0_2 e1_2; refine Wp.block ?_; refine Wp.loop (fun k ρ ds wk => AllEq [0, 1, 7] ρ r3 ∧ ds = [] ∧ (Chg [pb] w wk) ∧ (ρ 8 = .int .i64 (k : Int) ∧ IntsS wk S (.slice A1 xs.length c1) xs ∧ PlanF wk S pb n A c A2 c2 t ((xs.take k).foldl (addF t.N n) noPlan) ∧ (∃ _u : Unit, canF t.N n xs noPlan = canF t.N n (xs.drop k) ((xs.take k).foldl (addF t.N n) noPlan)))) (xs.length) ?_ ?_
  · refine ⟨AllEq.refl _ _, rfl, Chg.refl _ _, ?_⟩; exact ⟨by rw [e8_3]; rfl, hXS, hP, (), rfl⟩
  · rintro k r4 _ wk hk ⟨hA, rfl, xl2, ⟨e8, hXS, hP, hq⟩⟩; obtain ⟨e0_4, e1_4, e7_4, -⟩ := hA; rw [e0_3] at e0_4; rw [e1_3] at e1_4; rw [e7_3] at e7_4; have zxl2 := Chg.size xl2; clear xw; replace xq := Chg.more xq xl2 (by intro b hm; simp only [List.mem_cons, List.not_mem_nil, or_false] at hm; first | (left; omega) | (right; simp [hm])); refine sRg fun K' gd hK => ?_; go_simp; refine hK _ _ ?_; clear hK K' gd; refine Wp.keep [0, 1, 7, 8, 9] ?_; rintro r5 ⟨e0_5, e1_5, e7_5, e8_5, e9_5, -⟩; simp [go_sem, e0_4, e1_4, e7_4, e8] at e0_5 e1_5 e7_5 e8_5 e9_5; clear e0_4 e1_4 e7_4 e8; refine Wp.seq ?_
    by_cases hk : k < xs.length
    · refine cTt ?_; obtain ⟨b, o, cc, ev, hb, hcc⟩ := hXS.v.get hk
      injection ev with ev1 _ ev2
      subst ev1; subst ev2; have d1 := hcc k hk; obtain ⟨i, hi1, hi2⟩ := hm.choose_spec _ (gI_mem hk); rw [hi1] at d1; have hkl : (k : Int) < (xs.length : Int) := by omega
      replace hi1 : ∃ _u : Unit, xs[k] = (i : Int) := ⟨(), by rw [← gI_lt hk]; exact hi1⟩; clear hcc; have hstep : ∃ _u : Unit, canF t.N n xs noPlan = (addB t.N n ((xs.take k).foldl (addF t.N n) noPlan) (i : Int) && canF t.N n (xs.drop (k + 1)) ((xs.take (k + 1)).foldl (addF t.N n) noPlan)) := ⟨(), by rw [hq.choose_spec, drop_cons hk, canF, take_snoc hk, List.foldl_append, hi1.choose_spec]; rfl⟩; have hvl := foldl_vals (N := t.N) (n := n) (P := fun y => y < (t.fl.length : Int)) (xs.take k) noPlan (fun x hx => by obtain ⟨q, rfl, hq⟩ := hm.choose_spec x (List.mem_of_mem_take hx); omega) (fun d => by show (-1 : Int) < _; omega)
      by_cases hb1 : addB t.N n ((xs.take k).foldl (addF t.N n) noPlan) (i : Int) = true
      · skip; refine skN ?_; refine sBk ?_; refine sRg fun K' gd hK => ?_; go_simp; refine hK _ _ ?_; clear hK K' gd; refine Wp.keep [0, 1, 5, 7, 8] ?_; rintro r6 ⟨e0_6, e1_6, e5_6, e7_6, e8_6, -⟩; simp [go_sem, e0_5, e1_5, e7_5, e8_5, e9_5] at e0_6 e1_6 e5_6 e7_6 e8_6; clear e0_5 e1_5 e7_5 e8_5 e9_5; refine sRg fun K' gd hK => ?_; refine cu6 fun K1 hK1 => ?_; go_simp; refine Wcall (.inl rfl) (can1_c t S pb n i A c A2 c2 _ _ hT hi2 hvl hP) ?_; rintro v w5 ⟨rfl, hP2, hE⟩; rw [hb1]; go_simp; refine hK1 _ _ ?_; clear hK1 K1; have z7 := Chg.size hE; replace hXS := hXS.chg hE XB; replace xq := Chg.more xq hE (by intro b hm; simp only [List.mem_cons, List.not_mem_nil, or_false] at hm; first | (left; omega) | (right; simp [hm])); replace xl2 := Chg.more xl2 hE (by intro b hm; simp only [List.mem_cons, List.not_mem_nil, or_false] at hm; first | (left; omega) | (right; simp [hm])); replace d1 := Chg.cell hE d1 XN; try simp only [Wops_nil, updO_some, updO_none]
        refine hK _ _ ?_; clear hK K' gd; refine Wp.keep [0, 1, 5, 7, 8, 16] ?_; rintro r8 ⟨e0_8, e1_8, e5_8, e7_8, e8_8, e16_8, -⟩; simp [go_sem, e0_6, e1_6, e5_6, e7_6, e8_6] at e0_8 e1_8 e5_8 e7_8 e8_8 e16_8; clear e0_6 e1_6 e5_6 e7_6 e8_6; refine cFf ?_; refine Wp.skip ?_; refine bNo ?_; refine tNo ?_; refine lRg fun K' gd hK => ?_; go_simp; refine hK _ _ ?_; clear hK K' gd; refine Ends.keep [0, 1, 7, 8] ?_; rintro r9 ⟨e0_9, e1_9, e7_9, e8_9, -⟩; simp [go_sem, e0_8, e1_8, e5_8, e7_8, e8_8, e16_8] at e0_9 e1_9 e7_9 e8_9; clear e0_8 e1_8 e5_8 e7_8 e8_8 e16_8; refine Ends.mk ?_; refine thenK_normal ⟨by omega, ⟨by rw [e0_9, e0_3], by rw [e1_9, e1_3], by rw [e7_9, e7_3], trivial⟩, rfl, xl2, ?_⟩; exact ⟨by rw [e8_9, IntWalk.i64_in _ (by omega)]; rfl, hXS, by rw [take_snoc hk, List.foldl_append, hi1.choose_spec]; exact hP2, (), by rw [hstep.choose_spec, hb1]; rfl⟩
      · skip; refine skN ?_; refine sBk ?_; refine sRg fun K' gd hK => ?_; go_simp; refine hK _ _ ?_; clear hK K' gd; refine Wp.keep [0, 1, 5, 7, 8] ?_; rintro r10 ⟨e0_10, e1_10, e5_10, e7_10, e8_10, -⟩; simp [go_sem, e0_5, e1_5, e7_5, e8_5, e9_5] at e0_10 e1_10 e5_10 e7_10 e8_10; clear e0_5 e1_5 e7_5 e8_5 e9_5; refine sRg fun K' gd hK => ?_; refine cu6 fun K1 hK1 => ?_; go_simp; refine Wcall (.inl rfl) (can1_c t S pb n i A c A2 c2 _ _ hT hi2 hvl hP) ?_; rintro v w5 ⟨rfl, hP2, hE⟩; rw [show addB t.N n ((xs.take k).foldl (addF t.N n) noPlan) (i : Int) = false by simpa using hb1]; go_simp; refine hK1 _ _ ?_; clear hK1 K1; have z11 := Chg.size hE; replace hXS := hXS.chg hE XB; replace xq := Chg.more xq hE (by intro b hm; simp only [List.mem_cons, List.not_mem_nil, or_false] at hm; first | (left; omega) | (right; simp [hm])); replace xl2 := Chg.more xl2 hE (by intro b hm; simp only [List.mem_cons, List.not_mem_nil, or_false] at hm; first | (left; omega) | (right; simp [hm])); replace d1 := Chg.cell hE d1 XN; try simp only [Wops_nil, updO_some, updO_none]
        refine hK _ _ ?_; clear hK K' gd; refine Wp.keep [0, 1, 5, 7, 8, 16] ?_; rintro r12 ⟨e0_12, e1_12, e5_12, e7_12, e8_12, e16_12, -⟩; simp [go_sem, e0_10, e1_10, e5_10, e7_10, e8_10] at e0_12 e1_12 e5_12 e7_12 e8_12 e16_12; clear e0_10 e1_10 e5_10 e7_10 e8_10; refine cTt ?_; refine sRg fun K' gd hK => ?_; go_simp; refine hK _ _ ?_; clear hK K' gd; refine Wp.keep [4] ?_; rintro r13 ⟨e4_13, -⟩; simp [go_sem, e0_12, e1_12, e5_12, e7_12, e8_12, e16_12] at e4_13; clear e0_12 e1_12 e5_12 e7_12 e8_12 e16_12; refine Wp.ret ?_; refine bRe ?_; refine tRe ?_; refine tRe ?_; refine bRe ?_; refine tRe ?_; refine endK_tmp Try.results64 (by decide) ?_; rw [e4_13]; exact ⟨⟨_, rfl, by rw [hstep.choose_spec, show addB t.N n ((xs.take k).foldl (addF t.N n) noPlan) (i : Int) = false by simpa using hb1, Bool.false_and, decide_eq_false (by omega)]⟩, xq⟩
    · refine cFf ?_; have hkk : k = xs.length := by omega
      refine Wp.exit ?_; refine tEx ?_; refine tEx ?_; refine blockK_here ?_; refine tNo ?_; refine sRg fun K' gd hK => ?_; go_simp; refine hK _ _ ?_; clear hK K' gd; refine Wp.keep [4] ?_; rintro r14 ⟨e4_14, -⟩; simp [go_sem, e0_5, e1_5, e7_5, e8_5, e9_5] at e4_14; clear e0_5 e1_5 e7_5 e8_5 e9_5; refine Wp.ret ?_; refine endK_tmp Try.results64 (by decide) ?_; rw [e4_14]; exact ⟨⟨_, rfl, by rw [hq.choose_spec, hkk, List.drop_length, canF]; rfl⟩, xq⟩
theorem canC_c (t : Tr) (S pb n : Nat) (A : Option Addr) (c : Nat) (A2 : Option Addr) (c2 : Nat) (xs : List Int) (v : Value) (w : World) (hT : PlanT t n) (hx : IntsV w S v xs) (hm : ∀ x ∈ xs, ∃ k : Nat, x = (k : Int) ∧ k < t.fl.length) (hl : xs.length ≤ 1000)
    (hP : PlanF w S pb n A c A2 c2 t noPlan) :
    CallsV Try.prog 46 #[v, .func (.func 47) #[] #[.pointer (some ⟨pb, 0, none⟩)]] w fun v' w' =>
      v' = .bool (!canF t.N n xs noPlan) ∧ Chg [pb] w w' := by
  have lb : pb < w.heap.size := cell_lt hP.k0; have hs := hP.s; refine Wp.fn Try.func46 rfl Try.ntmps46 (by simp) ?_; have xw := Ext.refl w; refine Wp.keep [0, 1] ?_; rintro r1 ⟨e0_1, e1_1, -⟩; simp [go_sem] at e0_1 e1_1; have xq := Chg.refl [pb] w; refine sRg fun K' gd hK => ?_; go_simp; refine hK _ _ ?_; clear hK K' gd; refine Wp.keep [0, 1] ?_; rintro r2 ⟨e0_2, e1_2, -⟩; simp [go_sem, e0_1, e1_1] at e0_2 e1_2; clear e0_1 e1_1; refine sRg fun K' gd hK => ?_; refine cu3 fun K1 hK1 => ?_; go_simp; refine Wcall (.inl rfl) (canI_c t S pb n A c A2 c2 xs v _ hT (hx.cells fun _ _ _ _ hc => xw.cell hc) hm hl (hP.ext xw)) ?_; rintro v w5 ⟨⟨r, rfl, hr⟩, hE⟩; go_simp; refine hK1 _ _ ?_; clear hK1 K1; have z3 := Chg.size hE; clear xw; replace xq := Chg.more xq hE (by intro b hm; simp only [List.mem_cons, List.not_mem_nil, or_false] at hm; first | (left; omega) | (right; simp [hm])); go_simp; refine hK _ _ ?_; clear hK K' gd; refine Wp.keep [4] ?_; rintro r4 ⟨e4_4, -⟩; simp [go_sem, e0_2, e1_2] at e4_4; clear e0_2 e1_2; refine Wp.ret ?_; refine endK_tmp Try.results46 (by decide) ?_; rw [e4_4]; exact ⟨by rw [hr]; by_cases e : r < 0 <;> simp [e] <;> omega, xq⟩
def canP (t : Tr) (ids : List Int) : Bool := if listE t ids = 0 then canF t.N t.n.toNat (listI t ids) noPlan else false
theorem Can_c (t : Tr) (ids : List Int) (v iv : Value) (w : World) (hV : TourV w w.heap.size v t) (hI : IntsV w w.heap.size iv ids) (hf : FitT t) (hl : ids.length ≤ 1000) (hl2 : checkT t = 0 → t.fl.length ≤ 12) :
    CallsV Try.prog 20 #[v, iv] w fun v' w' => v' = .tuple #[.bool (canP t ids), .int .i64 (listE t ids)] ∧ Ext w w' := by
  obtain ⟨A, c, A2, c2, rfl, hI1, hF⟩ := hV.open'; obtain ⟨A1, c1, rfl, -, -⟩ := id hI; have hTS : TourS w w.heap.size (.agg #[.int .i64 t.n, .slice A t.cl.length c, .slice A2 t.fl.length c2]) t := ⟨hV⟩; have hIS : IntsS w w.heap.size (.slice A1 ids.length c1) ids := ⟨hI⟩; clear hV hI hI1 hF; obtain ⟨n, hn⟩ : ∃ n, ∃ _u : Unit, t.n.toNat = n := ⟨_, (), rfl⟩; have hll := listI_len (t := t) (ids := ids); refine Wp.fn Try.func20 rfl Try.ntmps20 (by simp) ?_; have xw := Ext.refl w; refine Wp.keep [0, 1] ?_; rintro r1 ⟨e0_1, e1_1, -⟩; simp [go_sem] at e0_1 e1_1; refine sRg fun K' gd hK => ?_; refine cu1 fun K1 hK1 => ?_; go_simp; refine hK1 _ _ ?_; clear hK1 K1; refine Wops.absA fun V2_1 n2 hV2_1 => ?_; obtain ⟨q2, hV2_1, s2, kV2_1, f2, r2⟩ := hV2_1; try simp only [q2] at kV2_1 f2 r2 ⊢
  replace hTS := hTS.ext hV2_1; replace hIS := hIS.ext hV2_1; replace xw := xw.trans hV2_1; have c2_0 := kV2_1 0 _ rfl; have c2_1 := kV2_1 1 _ rfl; have c2_2 := kV2_1 2 _ rfl; clear kV2_1 hV2_1; clear r2; go_simp; refine hK _ _ ?_; clear hK K' gd; refine Wp.keep [1, 2] ?_; rintro r2 ⟨e1_2, e2_2, -⟩; simp [go_sem, e0_1, e1_1] at e1_2 e2_2; clear e0_1 e1_1; refine sRg fun K' gd hK => ?_; refine cu3 fun K1 hK1 => ?_; go_simp; refine Wcall (.inl rfl) (flaws_c t ids _ _ _ (hTS.v.more (Below.size (XE))) (hIS.v.more (Below.size (XE))) hf hl) ?_; rintro v w2 ⟨⟨lv, rfl, hL⟩, hE⟩; obtain ⟨A5, c5, rfl⟩ := hL.slice; go_simp; refine hK1 _ _ ?_; clear hK1 K1; have z3 := Below.size hE; replace f2 := hE.fz c2_0 f2; replace hTS := hTS.ext hE; replace hIS := hIS.ext hE; replace xw := xw.trans hE; replace c2_0 := hE.cell c2_0; replace c2_1 := hE.cell c2_1; replace c2_2 := hE.cell c2_2; clear hE; go_simp; refine hK _ _ ?_; clear hK K' gd; refine Wp.keep [2, 6, 7] ?_; rintro r4 ⟨e2_4, e6_4, e7_4, -⟩; simp [go_sem, e1_2, e2_2] at e2_4 e6_4 e7_4; clear e1_2 e2_2
  by_cases h0 : listE t ids = 0
  · skip; have hg := checkT_zero.1 (listE_zero.1 h0).1; have hP : PlanT t n := by rw [← hn.choose_spec]; exact hg.plan (hl2 (listE_zero.1 h0).1)
    have hm := listI_mem h0; obtain ⟨S, hS1, hS2⟩ : ∃ S, S ≤ w2.heap.size ∧ w2.heap.size ≤ S := ⟨_, Nat.le_refl _, Nat.le_refl _⟩; have hTS2 : TourS w2 S (.agg #[.int .i64 t.n, .slice A t.cl.length c, .slice A2 t.fl.length c2]) t := ⟨hTS.v.more (by have := Below.size xw; omega)⟩; have hLS : IntsS w2 S (.slice A5 (listI t ids).length c5) (listI t ids) := ⟨hL.ints.more hS2⟩; have htn : ∃ _u : Unit, t.n = (n : Int) := ⟨(), by have := hg.n; have := hn.choose_spec; omega⟩; rw [htn.choose_spec] at c2_0; refine Wp.seq ?_; refine sRg fun K' gd hK => ?_; go_simp; refine hK _ _ ?_; clear hK K' gd; refine Wp.keep [2, 6, 7, 16] ?_; rintro r5 ⟨e2_5, e6_5, e7_5, e16_5, -⟩; simp [go_sem, e2_4, e6_4, e7_4] at e2_5 e6_5 e7_5 e16_5; clear e2_4 e6_4 e7_4; refine cFf ?_; refine skN ?_; refine sRg fun K' gd hK => ?_; refine cu2 fun K1 hK1 => ?_; go_simp; refine Wcall (.inl rfl) (newPlan_c n ⟨hP.n1, hP.n2⟩ A A2 t.cl.length c t.fl.length c2 _) ?_; rintro v w4 ⟨⟨g, rfl, hH, hg4⟩, hE⟩; have hgl := hH.r.lt; go_simp; refine hK1 _ _ ?_; clear hK1 K1; have z6 := Below.size hE; replace f2 := hE.fz c2_0 f2; replace hTS := hTS.ext hE; replace hIS := hIS.ext hE; replace hTS2 := hTS2.ext hE; replace hLS := hLS.ext hE; replace xw := xw.trans hE
    replace c2_0 := hE.cell c2_0; replace c2_1 := hE.cell c2_1; replace c2_2 := hE.cell c2_2; clear hE; refine cu2 fun K1 hK1 => ?_; go_simp; refine hK1 _ _ ?_; clear hK1 K1; refine Wops.absA fun V8_2 n8 hV8_2 => ?_; obtain ⟨q8, hV8_2, s8, kV8_2, f8, r8⟩ := hV8_2; try simp only [q8] at kV8_2 f8 r8 ⊢
    replace f2 := hV8_2.fz c2_0 f2; replace hTS := hTS.ext hV8_2; replace hIS := hIS.ext hV8_2; replace hTS2 := hTS2.ext hV8_2; replace hLS := hLS.ext hV8_2; replace hH := hH.ext hV8_2; replace xw := xw.trans hV8_2; replace c2_0 := hV8_2.cell c2_0; replace c2_1 := hV8_2.cell c2_1; replace c2_2 := hV8_2.cell c2_2; have c8_0 := kV8_2 0 _ rfl; have c8_1 := kV8_2 1 _ rfl; have c8_2 := kV8_2 2 _ rfl; have c8_3 := kV8_2 3 _ rfl; clear kV8_2 hV8_2; clear r8; try simp only [Wops_nil, updO_some, updO_none]
    refine hK _ _ ?_; clear hK K' gd; refine Wp.keep [6, 8] ?_; rintro r7 ⟨e6_7, e8_7, -⟩; simp [go_sem, e2_5, e6_5, e7_5, e16_5] at e6_7 e8_7; clear e2_5 e6_5 e7_5 e16_5; have hPF : PlanF V8_2 S n8 n A c A2 c2 t noPlan := ⟨by rw [htn.choose_spec]; exact c8_0, c8_1, c8_2, ⟨g, c8_3, hH, by omega, by omega⟩, f8, hTS2, ⟨by omega, by omega⟩⟩; refine sRg fun K' gd hK => ?_; refine cu3 fun K1 hK1 => ?_; go_simp; refine Wcall (.inl rfl) (canC_c t S n8 n A c A2 c2 (listI t ids) _ _ hP hLS.v hm (by omega) hPF) ?_; rintro v w5 ⟨rfl, hE⟩; go_simp; refine hK1 _ _ ?_; clear hK1 K1; have z8 := Chg.size hE; replace f2 := Chg.fz hE c2_0 f2 XN; replace hTS := hTS.chg hE XB; replace hIS := hIS.chg hE XB; replace hLS := hLS.chg hE XB; replace xw := Chg.to xw hE XL; replace c2_0 := Chg.cell hE c2_0 XN; replace c2_1 := Chg.cell hE c2_1 XN; replace c2_2 := Chg.cell hE c2_2 XN; go_simp; refine hK _ _ ?_; clear hK K' gd; refine Wp.keep [4, 5] ?_; rintro r9 ⟨e4_9, e5_9, -⟩; simp [go_sem, e6_7, e8_7] at e4_9 e5_9; clear e6_7 e8_7; refine Wp.ret ?_; refine endK_tmp2 Try.results20 (by decide) (by decide) ?_; rw [e4_9, e5_9]; exact ⟨by unfold canP; rw [if_pos h0, hn.choose_spec, h0], xw⟩
  · skip; refine Wp.seq ?_; refine sRg fun K' gd hK => ?_; go_simp; refine hK _ _ ?_; clear hK K' gd; refine Wp.keep [2, 6, 7, 16] ?_; rintro r10 ⟨e2_10, e6_10, e7_10, e16_10, -⟩; simp [go_sem, e2_4, e6_4, e7_4] at e2_10 e6_10 e7_10 e16_10; clear e2_4 e6_4 e7_4; refine cTt ?_; refine sRg fun K' gd hK => ?_; go_simp; refine hK _ _ ?_; clear hK K' gd; refine Wp.keep [4, 5] ?_; rintro r11 ⟨e4_11, e5_11, -⟩; simp [go_sem, e2_10, e6_10, e7_10, e16_10] at e4_11 e5_11; clear e2_10 e6_10 e7_10 e16_10; refine Wp.ret ?_; refine tRe ?_; refine endK_tmp2 Try.results20 (by decide) (by decide) ?_; rw [e4_11, e5_11]; exact ⟨by unfold canP; rw [if_neg h0], xw⟩
theorem tbl_T : ElemT Try.prog 34 22 1 := elemT_of (by kernel_rfl)
theorem IntMap.congr {P : Program} {tk te : TypeId} {w : World} {b k : Nat} {f g : Int → Int} (h : IntMap P tk te w b k f) (hg : ∀ x, f x = g x) : IntMap P tk te w b k g := by
  rwa [show g = f from funext fun x => (hg x).symm]
structure OwnTb (w : World) (base : Nat) (v : Value) (ls : List (List Int)) : Prop where
  ex : ∃ vs : List Value, w.ownsRow base 22 1 v ls.length vs ∧ vs.length = ls.length ∧ ∀ i (h : i < vs.length) (h' : i < ls.length), IntsB w base vs[i] ls[i] ∧ (ls[i] ≠ [] → ∀ b, vs[i].ownBlock = some b → v.ownBlock ≠ some b)
section
variable {w w' : World} {base b2 : Nat} {v : Value} {ls : List (List Int)}
theorem IntsB.chgN {xs : List Int} {L : List Nat} (h : IntsB w base v xs) (hC : Chg L w w') (hL : xs ≠ [] → ∀ b, v.ownBlock = some b → b ∉ L) : IntsB w' base v xs := by
  obtain ⟨A, c, rfl, hx, hcap⟩ := h
  exact ⟨A, c, rfl, fun hne => by
    obtain ⟨b, o, rfl, h1, h2, h3⟩ := hx hne
    exact ⟨b, o, rfl, h1, Nat.lt_of_lt_of_le h2 hC.size, fun k hk => Chg.cell hC (h3 k hk) (hL hne b rfl)⟩, hcap⟩
theorem IntsB.blk {xs : List Int} (h : IntsB w base v xs) (hne : xs ≠ []) {b : Nat} (hb : v.ownBlock = some b) : base ≤ b ∧ b < w.heap.size := by
  obtain ⟨A, c, rfl, hx, hcap⟩ := h; obtain ⟨b', o, rfl, h1, h2, h3⟩ := hx hne; obtain rfl : b' = b := by injection hb
  exact ⟨h1, h2⟩
theorem OwnTb.nil (w : World) (base : Nat) : OwnTb w base (.slice none 0 0) [] := ⟨[], World.ownsRow_nil _ _ _ _, rfl, fun i h => absurd h (Nat.not_lt_zero _)⟩
theorem OwnTb.ext (h : OwnTb w base v ls) (hE : Ext w w') : OwnTb w' base v ls := by
  obtain ⟨vs, h1, h2, h3⟩ := h.ex; exact ⟨vs, ownsRow_ext h1 hE, h2, fun i a b => ⟨(h3 i a b).1.ext hE, (h3 i a b).2⟩⟩
theorem OwnTb.less (h : OwnTb w base v ls) (hb : b2 ≤ base) : OwnTb w b2 v ls := by
  obtain ⟨vs, h1, h2, h3⟩ := h.ex; exact ⟨vs, ownsRow_less h1 hb, h2, fun i a b => ⟨(h3 i a b).1.less hb, (h3 i a b).2⟩⟩
theorem OwnTb.lt (h : OwnTb w base v ls) : ∀ k, v.ownBlock = some k → base ≤ k ∧ k < w.heap.size := by
  obtain ⟨vs, h1, h2, h3⟩ := h.ex; exact World.ownsRow.lt h1
theorem OwnTb.push (h : OwnTb w base v ls) {n c : Nat} {u : Value} {z : List Int} (ty : TypeId) (hc : w.cell? ⟨n, 0, none⟩ = some u) (hu : u.oneCell' = true) (hz : IntsB w base u z) (hne : z ≠ [] → ∀ b, u.ownBlock = some b → v.ownBlock ≠ some b) (hl : ls.length ≤ 1000) (hb : base ≤ w.heap.size) :
    ∃ v' w', (Builtin.append_ #[34, 34] ty #[v, .slice (some ⟨n, 0, none⟩) 1 c]).run Try.prog w = .ok v' w' ∧ OwnTb w' base v' (ls ++ [z]) ∧ w.grownBy w' v.ownBlock := by
  obtain ⟨vs, h1, h2, h3⟩ := h.ex; obtain ⟨v', w', hrun, hO, hg, hbk⟩ := app_run2 tbl_T h1 ⟨n, 0, none⟩ 1 c [u] ty rfl (news_one hc) (one_one hu) (by omega) hb; have hC := grown_chg hg; have hL : ∀ b, b ∈ v.ownBlock.toList → v.ownBlock = some b := fun b hm => by simpa using hm
  have key : ∀ {x : Value} {y : List Int}, IntsB w base x y → (y ≠ [] → ∀ b, x.ownBlock = some b → v.ownBlock ≠ some b) → IntsB w' base x y ∧ (y ≠ [] → ∀ b, x.ownBlock = some b → v'.ownBlock ≠ some b) := fun hx hn =>
    ⟨hx.chgN hC fun e b hb2 hm => hn e b hb2 (hL b hm), fun e b hb2 => by
      rcases hbk with q | q
      · rw [q]; exact hn e b hb2
      · rw [q]; intro e2; injection e2 with e2; have := (hx.blk e hb2).2; omega⟩
  refine ⟨v', w', hrun, ⟨vs ++ [u], by rw [List.length_append]; exact hO, by simp [h2], fun i a b => ?_⟩, hg⟩
  by_cases e : i < vs.length
  · rw [List.getElem_append_left e]; simp only [List.getElem_append_left (show i < ls.length by omega)]; exact key (h3 i e (by omega)).1 (h3 i e (by omega)).2
  · have hi : i = vs.length := by simp at a; omega
    subst hi; have e1 : (vs ++ [u])[vs.length]'a = u := by simp
    have e2 : (ls ++ [z])[vs.length]'b = z := by simp [h2]
    rw [e1, e2]; exact key hz hne
end
theorem OwnTb.slice {w : World} {base : Nat} {v : Value} {ls : List (List Int)} {k : Nat} (h : OwnTb w base v ls) (hk : ls.length = k) : ∃ A c, v = .slice A k c := by
  obtain ⟨vs, h1, h2, h3⟩ := h.ex
  rcases h1.2 with ⟨rfl, hn⟩ | ⟨g, cap, cur, rfl, hb, hg, hnc, hcm, hcs, htake⟩
  · exact ⟨none, 0, by rw [← hk, hn]⟩
  · exact ⟨_, _, by rw [hk]⟩
theorem listed_id {t : Tr} (hg : GoodT t) {ids : List Int} (h : ListOk t.fl ids) : ∀ a ∈ ids, 1 ≤ a ∧ a ≤ 1099511627776 := by
  intro a ha; obtain ⟨k, hk, rfl⟩ := List.getElem_of_mem ha; have h1 := (h k hk).1; rw [gI_lt hk] at h1
  rcases posF_cases t.fl ids[k] with ⟨i, hi, _, e⟩ | ⟨e, _⟩
  · have := (hg.ok _ (List.getElem_mem hi)).1; rw [e] at this; exact this
  · omega
theorem spread_1 {t : Tr} {m : Md} {l : List Tk} (h : ¬ checkT t = 0) : spreadE t m l = checkT t := if_pos h
theorem spread_2 {t : Tr} {m : Md} {l : List Tk} (h : checkT t = 0) (h2 : m.on.length ≠ t.fl.length ∨ 0 ≤ wrongI t m.on) : spreadE t m l = 1 := by unfold spreadE; rw [if_neg (not_not_intro h), if_pos h2]
theorem spread_3 {t : Tr} {m : Md} {l : List Tk} (h : checkT t = 0) (h1 : m.on.length = t.fl.length) (h2 : ¬ 0 ≤ wrongI t m.on) : spreadE t m l = takE t l := by unfold spreadE; rw [if_neg (not_not_intro h), if_neg (fun q => q.elim (fun e => e h1) h2)]
theorem spread_no {t : Tr} {m : Md} {l : List Tk} {w : World} {base : Nat} (h : ¬ spreadE t m l = 0) : OwnTb w base (.slice none 0 0) (spreadL t m l) := by unfold spreadL; rw [if_neg h]; exact OwnTb.nil _ _
theorem Spread_c (t : Tr) (m : Md) (l : List Tk) (v mv lv : Value) (w : World) (hV : TourV w w.heap.size v t) (hX : MendV w w.heap.size mv m) (hL : TakersV w w.heap.size lv l) (hf : FitT t) (hl : checkT t = 0 → t.fl.length ≤ 12) (hl2 : ∀ x ∈ l, x.fl.length ≤ 1000) :
    CallsV Try.prog 11 #[v, mv, lv] w fun v' w' => (∃ tv, v' = .tuple #[tv, .int .i64 (spreadE t m l)] ∧ OwnTb w' w.heap.size tv (spreadL t m l)) ∧ Ext w w' := by
  obtain ⟨A, c, A2, c2, rfl, hI, hF⟩ := hV.open'; obtain ⟨mx, mz, rfl, hX, hZ⟩ := hX; obtain ⟨A1, c1, rfl, -, -⟩ := id hL; obtain ⟨A3, c3, rfl, -, -⟩ := id hX; have hTS : TourS w w.heap.size (.agg #[.int .i64 t.n, .slice A t.cl.length c, .slice A2 t.fl.length c2]) t := ⟨hV⟩; have hFS : FlawsS w w.heap.size (.slice A2 t.fl.length c2) t.fl := ⟨hF⟩; have hLS : TakersS w w.heap.size (.slice A1 l.length c1) l := ⟨hL⟩; have hXS : IntsS w w.heap.size (.slice A3 m.on.length c3) m.on := ⟨hX⟩; clear hV hI hF hL hX hZ; replace hl2 : ∃ _u : Unit, _ := ⟨(), hl2⟩; obtain ⟨n, hn⟩ : ∃ n, ∃ _u : Unit, t.n.toNat = n := ⟨_, (), rfl⟩; refine Wp.fn Try.func11 rfl Try.ntmps11 (by simp) ?_; have xw := Ext.refl w; refine Wp.keep [0, 1, 2] ?_; rintro r1 ⟨e0_1, e1_1, e2_1, -⟩; simp [go_sem] at e0_1 e1_1 e2_1; refine sRg fun K' gd hK => ?_; refine cu1 fun K1 hK1 => ?_; go_simp; refine hK1 _ _ ?_; clear hK1 K1; refine Wops.absA fun V3_1 n3 hV3_1 => ?_; obtain ⟨q3, hV3_1, s3, kV3_1, f3, r3⟩ := hV3_1; try simp only [q3] at kV3_1 f3 r3 ⊢
  replace hTS := hTS.ext hV3_1; replace hFS := hFS.ext hV3_1; replace hLS := hLS.ext hV3_1; replace hXS := hXS.ext hV3_1; replace xw := xw.trans hV3_1; have c3_0 := kV3_1 0 _ rfl; have c3_1 := kV3_1 1 _ rfl; have c3_2 := kV3_1 2 _ rfl; clear kV3_1 hV3_1; clear r3; refine cu1 fun K1 hK1 => ?_; go_simp; refine hK1 _ _ ?_; clear hK1 K1; refine Wops.absA fun V4_2 n4 hV4_2 => ?_; obtain ⟨q4, hV4_2, s4, kV4_2, f4, r4⟩ := hV4_2; try simp only [q4] at kV4_2 f4 r4 ⊢
  replace f3 := hV4_2.fz c3_0 f3; replace hTS := hTS.ext hV4_2; replace hFS := hFS.ext hV4_2; replace hLS := hLS.ext hV4_2; replace hXS := hXS.ext hV4_2; replace xw := xw.trans hV4_2; replace c3_0 := hV4_2.cell c3_0; replace c3_1 := hV4_2.cell c3_1; replace c3_2 := hV4_2.cell c3_2; have c4_0 := kV4_2 0 _ rfl; have c4_1 := kV4_2 1 _ rfl; have c4_2 := kV4_2 2 _ rfl; clear kV4_2 hV4_2; clear r4; go_simp; refine hK _ _ ?_; clear hK K' gd; refine Wp.keep [2, 3, 4] ?_; rintro r2 ⟨e2_2, e3_2, e4_2, -⟩; simp [go_sem, e0_1, e1_1, e2_1] at e2_2 e3_2 e4_2; clear e0_1 e1_1 e2_1; refine Wp.seq ?_; refine sRg fun K' gd hK => ?_; refine cu2 fun K1 hK1 => ?_; go_simp; refine Wcall (.inl rfl) (check_c t _ _ (hTS.v.more (Below.size (XE))) hf) ?_; rintro v w2 ⟨rfl, hE⟩; go_simp; refine hK1 _ _ ?_; clear hK1 K1; have z3 := Below.size hE; replace f3 := hE.fz c3_0 f3; replace f4 := hE.fz c4_0 f4; replace hTS := hTS.ext hE; replace hFS := hFS.ext hE; replace hLS := hLS.ext hE; replace hXS := hXS.ext hE; replace xw := xw.trans hE; replace c3_0 := hE.cell c3_0; replace c3_1 := hE.cell c3_1; replace c3_2 := hE.cell c3_2; replace c4_0 := hE.cell c4_0; replace c4_1 := hE.cell c4_1; replace c4_2 := hE.cell c4_2; clear hE; go_simp; refine hK _ _ ?_; clear hK K' gd; refine Wp.keep [2, 3, 4, 8] fun r4 hkeep => ?_
  obtain ⟨e2_4, e3_4, e4_4, e8_4, -⟩ := hkeep; simp [go_sem, e2_2, e3_2, e4_2] at e2_4 e3_4 e4_4 e8_4; clear e2_2 e3_2 e4_2
  by_cases h0 : checkT t = 0
  · skip; have hg := checkT_zero.1 h0; have hP : PlanT t n := by rw [← hn.choose_spec]; exact hg.plan (hl h0)
    have hm12 := hP.fl; refine sRg fun K' gd hK => ?_; go_simp; refine hK _ _ ?_; clear hK K' gd; refine Wp.keep [2, 3, 4, 8, 19] ?_; rintro r5 ⟨e2_5, e3_5, e4_5, e8_5, e19_5, -⟩; simp [go_sem, e2_4, e3_4, e4_4, e8_4] at e2_5 e3_5 e4_5 e8_5 e19_5; clear e2_4 e3_4 e4_4 e8_4; refine cFf ?_
    by_cases h1 : m.on.length = t.fl.length
    · skip; replace h1 : ∃ _u : Unit, _ := ⟨(), h1⟩; have h1i : ((m.on.length : Int) = (t.fl.length : Int)) = True := by simp [h1.choose_spec]
      refine skN ?_; refine Wp.seq ?_; refine sRh fun K' gd hK hg => ?_; have g7 : gd 7 = some 28 := hg 7; clear hg; refine cu12 fun K1 hK1 => ?_; go_simp; refine Wcall (.inl rfl) (wrong_c t n m.on _ _ _ hP (hTS.v.more (Below.size (XE))) (hXS.v.more (Below.size (XE))) h1.choose_spec) ?_; rintro v w4 ⟨rfl, hE⟩; go_simp; refine hK1 _ _ ?_; clear hK1 K1; have z6 := Below.size hE; replace f3 := hE.fz c3_0 f3; replace f4 := hE.fz c4_0 f4; replace hTS := hTS.ext hE; replace hFS := hFS.ext hE; replace hLS := hLS.ext hE; replace hXS := hXS.ext hE; replace xw := xw.trans hE; replace c3_0 := hE.cell c3_0; replace c3_1 := hE.cell c3_1; replace c3_2 := hE.cell c3_2; replace c4_0 := hE.cell c4_0; replace c4_1 := hE.cell c4_1; replace c4_2 := hE.cell c4_2; clear hE; go_simp; refine hK _ _ ?_; clear hK K' gd g7; refine Wp.keep [2, 3, 4, 34] ?_; rintro r7 ⟨e2_7, e3_7, e4_7, e34_7, -⟩; simp [go_sem, e2_5, e3_5, e4_5, e8_5, e19_5] at e2_7 e3_7 e4_7 e34_7; clear e2_5 e3_5 e4_5 e8_5 e19_5
      by_cases h2 : 0 ≤ wrongI t m.on
      · skip; have hse := spread_2 (m := m) (l := l) h0 (.inr h2); replace hse : ∃ _u : Unit, _ := ⟨(), hse⟩; refine cTt ?_; refine sRg fun K' gd hK => ?_; go_simp; refine hK _ _ ?_; clear hK K' gd; refine Wp.keep [6, 7] ?_; rintro r8 ⟨e6_8, e7_8, -⟩; simp [go_sem, e2_7, e3_7, e4_7, e34_7] at e6_8 e7_8; clear e2_7 e3_7 e4_7 e34_7; refine Wp.ret ?_; refine tRe ?_; refine endK_tmp2 Try.results11 (by decide) (by decide) ?_; rw [e6_8, e7_8]; exact ⟨⟨_, by rw [hse.choose_spec], spread_no (by rw [hse.choose_spec]; decide)⟩, xw⟩
      · skip; have hse : ∃ _u : Unit, spreadE t m l = takE t l := ⟨(), spread_3 h0 h1.choose_spec h2⟩; refine cFf ?_; refine skN ?_; refine Wp.seq ?_; refine sRg fun K' gd hK => ?_; refine cu3 fun K1 hK1 => ?_; go_simp; refine Wcall (.inl rfl) (takers_c t l _ _ _ hg (hTS.v.more (Below.size (XE))) (hLS.v.more (Below.size (XE))) hl2.choose_spec) ?_; rintro v w5 ⟨rfl, hE⟩; go_simp; refine hK1 _ _ ?_; clear hK1 K1; have z9 := Below.size hE; replace f3 := hE.fz c3_0 f3; replace f4 := hE.fz c4_0 f4; replace hTS := hTS.ext hE; replace hFS := hFS.ext hE; replace hLS := hLS.ext hE; replace hXS := hXS.ext hE; replace xw := xw.trans hE; replace c3_0 := hE.cell c3_0; replace c3_1 := hE.cell c3_1; replace c3_2 := hE.cell c3_2; replace c4_0 := hE.cell c4_0; replace c4_1 := hE.cell c4_1; replace c4_2 := hE.cell c4_2; clear hE; go_simp; refine hK _ _ ?_; clear hK K' gd; refine Wp.keep [2, 3, 4, 9] ?_; rintro r10 ⟨e2_10, e3_10, e4_10, e9_10, -⟩; simp [go_sem, e2_7, e3_7, e4_7, e34_7] at e2_10 e3_10 e4_10 e9_10; clear e2_7 e3_7 e4_7 e34_7
        by_cases h3 : takE t l = 0
        · skip; obtain ⟨hl40, htok⟩ := takE_zero h3; replace htok : ∃ _u : Unit, _ := ⟨(), htok⟩; refine sRg fun K' gd hK => ?_; go_simp; refine hK _ _ ?_; clear hK K' gd; refine Wp.keep [2, 3, 4, 9, 39] ?_; rintro r11 ⟨e2_11, e3_11, e4_11, e9_11, e39_11, -⟩; simp [go_sem, e2_10, e3_10, e4_10, e9_10] at e2_11 e3_11 e4_11 e9_11 e39_11; clear e2_10 e3_10 e4_10 e9_10; refine cFf ?_; have f3_xa := f3; have f4_xa := f4; have hTS_xa := hTS; have hFS_xa := hFS; have hLS_xa := hLS; have hXS_xa := hXS; have xw_xa := xw; have c3_0_xa := c3_0; have c3_1_xa := c3_1; have c3_2_xa := c3_2; have c4_0_xa := c4_0; have c4_1_xa := c4_1; have c4_2_xa := c4_2; have xa := Ext.refl w5; refine skN ?_; refine sRg fun K' gd hK => ?_; refine cu1 fun K1 hK1 => ?_; go_simp; refine hK1 _ _ ?_; clear hK1 K1; refine Wops.absI fun V41_4 n41 hV41_4 => ?_; obtain ⟨q41, hV41_4, s41, m41⟩ := hV41_4; try simp only [q41] at m41 ⊢
          replace f3 := hV41_4.fz c3_0 f3; replace f4 := hV41_4.fz c4_0 f4; replace hTS := hTS.ext hV41_4; replace hFS := hFS.ext hV41_4; replace hLS := hLS.ext hV41_4; replace hXS := hXS.ext hV41_4; replace xw := xw.trans hV41_4; replace xa := xa.trans hV41_4; replace c3_0 := hV41_4.cell c3_0; replace c3_1 := hV41_4.cell c3_1; replace c3_2 := hV41_4.cell c3_2; replace c4_0 := hV41_4.cell c4_0; replace c4_1 := hV41_4.cell c4_1; replace c4_2 := hV41_4.cell c4_2; clear hV41_4; have hM41 := m41 Try.prog 3 3; clear m41; refine cu2 fun K1 hK1 => ?_; go_simp; refine hK1 _ _ ?_; clear hK1 K1; refine Wops.absA fun V10_5 n10 hV10_5 => ?_; obtain ⟨q10, hV10_5, s10, kV10_5, f10, r10⟩ := hV10_5; try simp only [q10] at kV10_5 f10 r10 ⊢
          replace f3 := hV10_5.fz c3_0 f3; replace f4 := hV10_5.fz c4_0 f4; replace hTS := hTS.ext hV10_5; replace hFS := hFS.ext hV10_5; replace hLS := hLS.ext hV10_5; replace hXS := hXS.ext hV10_5; replace hM41 := hM41.ext hV10_5; replace xw := xw.trans hV10_5; replace xa := xa.trans hV10_5; replace c3_0 := hV10_5.cell c3_0; replace c3_1 := hV10_5.cell c3_1; replace c3_2 := hV10_5.cell c3_2; replace c4_0 := hV10_5.cell c4_0; replace c4_1 := hV10_5.cell c4_1; replace c4_2 := hV10_5.cell c4_2; have c10_0 := kV10_5 0 _ rfl; clear kV10_5 hV10_5; clear r10; try simp only [Wops_nil, updO_some, updO_none]
          refine hK _ _ ?_; clear hK K' gd; refine Wp.keep [2, 3, 4, 10] ?_; rintro r12 ⟨e2_12, e3_12, e4_12, e10_12, -⟩; simp [go_sem, e2_11, e3_11, e4_11, e9_11, e39_11] at e2_12 e3_12 e4_12 e10_12; clear e2_11 e3_11 e4_11 e9_11 e39_11; refine Wp.seq ?_; refine sRg fun K' gd hK => ?_; go_simp; refine hK _ _ ?_; clear hK K' gd; refine Wp.keep [2, 4, 10, 43, 44, 45] ?_; rintro r13 ⟨e2_13, e4_13, e10_13, e43_13, e44_13, e45_13, -⟩; simp [go_sem, e2_12, e3_12, e4_12, e10_12] at e2_13 e4_13 e10_13 e43_13 e44_13 e45_13; clear e2_12 e3_12 e4_12 e10_12; refine Wp.block ?_; refine Wp.loop (fun k ρ ds wk => AllEq [2, 4, 10, 43, 44] ρ r13 ∧ ds = [] ∧ (Ext w5 wk) ∧ (ρ 45 = .int .i64 (k : Int) ∧ IntMap Try.prog 3 3 wk n41 k (mapN t.fl m.on k) ∧ wk.cell? ⟨n10, 0, none⟩ = some (.map (some n41)))) (t.fl.length) ?_ ?_
          · refine ⟨AllEq.refl _ _, rfl, xa, ?_⟩; exact ⟨by rw [e45_13]; rfl, hM41, c10_0⟩
          · rintro k r14 _ wk hk ⟨hA, rfl, xo, ⟨e45, hM, z10⟩⟩; obtain ⟨e2_14, e4_14, e10_14, e43_14, e44_14, -⟩ := hA; rw [e2_13] at e2_14; rw [e4_13] at e4_14; rw [e10_13] at e10_14; rw [e43_13] at e43_14; rw [e44_13] at e44_14; have zxo := Below.size xo; have f3 := f3_xa; have f4 := f4_xa; have hTS := hTS_xa; have hFS := hFS_xa; have hLS := hLS_xa; have hXS := hXS_xa; have xw := xw_xa; have c3_0 := c3_0_xa; have c3_1 := c3_1_xa; have c3_2 := c3_2_xa; have c4_0 := c4_0_xa; have c4_1 := c4_1_xa; have c4_2 := c4_2_xa; replace f3 := Ext.fz xo c3_0 f3; replace f4 := Ext.fz xo c4_0 f4; replace hTS := hTS.ext xo; replace hFS := hFS.ext xo; replace hLS := hLS.ext xo; replace hXS := hXS.ext xo; replace xw := Ext.trans xw xo; replace c3_0 := Ext.cell xo c3_0; replace c3_1 := Ext.cell xo c3_1; replace c3_2 := Ext.cell xo c3_2; replace c4_0 := Ext.cell xo c4_0; replace c4_1 := Ext.cell xo c4_1; replace c4_2 := Ext.cell xo c4_2; refine sRg fun K' gd hK => ?_; go_simp; refine hK _ _ ?_; clear hK K' gd; refine Wp.keep [2, 4, 10, 43, 44, 45, 46] ?_; rintro r15 ⟨e2_15, e4_15, e10_15, e43_15, e44_15, e45_15, e46_15, -⟩; simp [go_sem, e2_14, e4_14, e10_14, e43_14, e44_14, e45] at e2_15 e4_15 e10_15 e43_15 e44_15 e45_15 e46_15; clear e2_14 e4_14 e10_14 e43_14 e44_14 e45; refine Wp.seq ?_
            by_cases hk : k < t.fl.length
            · refine cTt ?_; have hkl : (k : Int) < (t.fl.length : Int) := by omega
              have hkx : k < m.on.length := by have := h1.choose_spec; omega
              have hkm : (k : Int) < (m.on.length : Int) := by omega
              obtain ⟨b, o, cc, ev, hb, hcc⟩ := hXS.v.get hkx
              injection ev with ev1 _ ev2
              subst ev1; subst ev2; have d1 := hcc k hkx; clear hcc; obtain ⟨b2, o2, eA, hb2, x0, x1, x2, x3⟩ := FlawsV.at hFS.v hk; subst eA; have hid := (hg.ok _ (List.getElem_mem hk)).1; have hday := day_ok hP h1.choose_spec h2 hkx; have hlM := hM.lt; have lz10 : n10 < wk.heap.size := cell_lt z10; refine skN ?_; refine sBk ?_; refine sRg fun K' gd hK => ?_; refine cu4 fun K1 hK1 => ?_; go_simp; refine hK1 _ _ ?_; clear hK1 K1; refine Wops.absA fun V12_7 n12 hV12_7 => ?_; obtain ⟨q12, hV12_7, s12, kV12_7, f12, r12⟩ := hV12_7; try simp only [q12] at kV12_7 f12 r12 ⊢
              replace f3 := hV12_7.fz c3_0 f3; replace f4 := hV12_7.fz c4_0 f4; replace hTS := hTS.ext hV12_7; replace hFS := hFS.ext hV12_7; replace hLS := hLS.ext hV12_7; replace hXS := hXS.ext hV12_7; replace hM := hM.ext hV12_7; replace xw := xw.trans hV12_7; replace xo := xo.trans hV12_7; replace c3_0 := hV12_7.cell c3_0; replace c3_1 := hV12_7.cell c3_1; replace c3_2 := hV12_7.cell c3_2; replace c4_0 := hV12_7.cell c4_0; replace c4_1 := hV12_7.cell c4_1; replace c4_2 := hV12_7.cell c4_2; replace d1 := hV12_7.cell d1; replace x0 := hV12_7.cell x0; replace x1 := hV12_7.cell x1; replace x2 := hV12_7.cell x2; replace x3 := hV12_7.cell x3; replace z10 := hV12_7.cell z10; have c12_0 := kV12_7 0 _ rfl; have c12_1 := kV12_7 1 _ rfl; have c12_2 := kV12_7 2 _ rfl; have c12_3 := kV12_7 3 _ rfl; clear kV12_7 hV12_7; clear r12; refine cu2 fun K1 hK1 => ?_; go_simp; refine hK1 _ _ ?_; clear hK1 K1; refine Wops.absS (b := n12) (i := 0) [_, _, _, _] (somes [cellVal c12_0, cellVal c12_1, cellVal c12_2, cellVal c12_3] (by simp) (by intro j v hj; match j, hj with | 0, hj => (simp at hj; subst hj; exact c12_0) | 1, hj => (simp at hj; subst hj; exact c12_1) | 2, hj => (simp at hj; subst hj; exact c12_2) | 3, hj => (simp at hj; subst hj; exact c12_3))) fun P8 hP8 => ?_; have zP8 := hP8.same; replace f3 := hP8.frz f3; replace f4 := hP8.frz f4
              replace f12 := hP8.frz f12; replace hTS := hTS.put hP8 (by omega); replace hFS := hFS.put hP8 (by omega); replace hLS := hLS.put hP8 (by omega); replace hXS := hXS.put hP8 (by omega); replace hM := hM.put hP8 (by omega); replace xw := Put.to xw hP8 (by omega); replace xo := Put.to xo hP8 (by omega); replace c3_0 := hP8.cell c3_0 (by omega); replace c3_1 := hP8.cell c3_1 (by omega); replace c3_2 := hP8.cell c3_2 (by omega); replace c4_0 := hP8.cell c4_0 (by omega); replace c4_1 := hP8.cell c4_1 (by omega); replace c4_2 := hP8.cell c4_2 (by omega); replace d1 := hP8.cell d1 (by omega); replace x0 := hP8.cell x0 (by omega); replace x1 := hP8.cell x1 (by omega); replace x2 := hP8.cell x2 (by omega); replace x3 := hP8.cell x3 (by omega); replace z10 := hP8.cell z10 (by omega); clear c12_0; clear c12_1; clear c12_2; clear c12_3; have c12_0 := hP8.new 0 _ rfl; try simp only [Nat.reduceAdd, Nat.zero_add, Nat.add_zero] at c12_0
              have c12_1 := hP8.new 1 _ rfl; try simp only [Nat.reduceAdd, Nat.zero_add, Nat.add_zero] at c12_1
              have c12_2 := hP8.new 2 _ rfl; try simp only [Nat.reduceAdd, Nat.zero_add, Nat.add_zero] at c12_2
              have c12_3 := hP8.new 3 _ rfl; try simp only [Nat.reduceAdd, Nat.zero_add, Nat.add_zero] at c12_3
              clear hP8; try simp only [Wops_nil, updO_some, updO_none]
              refine hK _ _ ?_; clear hK K' gd; refine Wp.keep [2, 4, 10, 11, 12, 43, 44, 45] ?_; rintro r16 ⟨e2_16, e4_16, e10_16, e11_16, e12_16, e43_16, e44_16, e45_16, -⟩; simp [go_sem, e2_15, e4_15, e10_15, e43_15, e44_15, e45_15, e46_15] at e2_16 e4_16 e10_16 e11_16 e12_16 e43_16 e44_16 e45_16; clear e2_15 e4_15 e10_15 e43_15 e44_15 e45_15 e46_15; refine Wp.loneDraw (.inl rfl) mixed [([0, 1, 2, 3, 4], none), ([5, 6, 7], some (8, true))] (by kernel_rfl) fun K' gd hK hg => ?_; clear hg; simp only [pick, nth, List.map_cons, List.map_nil, Option.map_none, Option.map_some]; refine Mops.absD fun D9 hD9 zD9 => ?_; replace f3 := hD9.fz c3_0 f3; replace f4 := hD9.fz c4_0 f4; replace f12 := hD9.fz c12_0 f12; replace hTS := hTS.ext hD9; replace hFS := hFS.ext hD9; replace hLS := hLS.ext hD9; replace hXS := hXS.ext hD9; replace hM := hM.ext hD9; replace xw := xw.trans hD9; replace xo := xo.trans hD9; replace c3_0 := hD9.cell c3_0; replace c3_1 := hD9.cell c3_1; replace c3_2 := hD9.cell c3_2; replace c4_0 := hD9.cell c4_0; replace c4_1 := hD9.cell c4_1; replace c4_2 := hD9.cell c4_2; replace d1 := hD9.cell d1; replace x0 := hD9.cell x0; replace x1 := hD9.cell x1; replace x2 := hD9.cell x2; replace x3 := hD9.cell x3; replace z10 := hD9.cell z10; replace c12_0 := hD9.cell c12_0; replace c12_1 := hD9.cell c12_1; replace c12_2 := hD9.cell c12_2; replace c12_3 := hD9.cell c12_3; clear hD9
              refine mNo ?_
              refine mLa ?_
              intro K1 hK1; obtain ⟨w7, hrun, hM2, hgr⟩ := hM.add Try.underlying3 Try.underlying3 Try.underlying78 (by omega) (wfI (x := t.fl[k].id) (by omega)) (wfI (x := gI m.on k) (by omega)); refine if_pos_of rfl (Wstep.lawS (exec_mapUpdate2 rfl hrun (by go_simp) (by go_simp) (by go_simp)) ?_); refine hK1 _ _ ?_; clear hK1 K1; have z17 := World.grownBy.size hgr; replace f3 := Chg.fz (grown_chg hgr) c3_0 f3 (lt_off (show ∀ k, some n41 = some k → n41 ≤ k ∧ k < n41 + 1 from fun k hk => by injection hk with hk; omega) (by omega)); replace f4 := Chg.fz (grown_chg hgr) c4_0 f4 (lt_off (show ∀ k, some n41 = some k → n41 ≤ k ∧ k < n41 + 1 from fun k hk => by injection hk with hk; omega) (by omega)); replace f12 := Chg.fz (grown_chg hgr) c12_0 f12 (lt_off (show ∀ k, some n41 = some k → n41 ≤ k ∧ k < n41 + 1 from fun k hk => by injection hk with hk; omega) (by omega)); replace hTS := hTS.chg (grown_chg hgr) (by first | (intro b hb; exact lt_off (show ∀ k, some n41 = some k → n41 ≤ k ∧ k < n41 + 1 from fun k hk => by injection hk with hk; omega) (by omega)) | exact lt_off (show ∀ k, some n41 = some k → n41 ≤ k ∧ k < n41 + 1 from fun k hk => by injection hk with hk; omega) (by omega) | exact lt_ge (show ∀ k, some n41 = some k → n41 ≤ k ∧ k < n41 + 1 from fun k hk => by injection hk with hk; omega) (by omega) | exact fun b hb => .inr (lt_ge (show ∀ k, some n41 = some k → n41 ≤ k ∧ k < n41 + 1 from fun k hk => by injection hk with hk; omega) (by omega) b hb)); replace hFS := hFS.chg (grown_chg hgr) (by first | (intro b hb; exact lt_off (show ∀ k, some n41 = some k → n41 ≤ k ∧ k < n41 + 1 from fun k hk => by injection hk with hk; omega) (by omega)) | exact lt_off (show ∀ k, some n41 = some k → n41 ≤ k ∧ k < n41 + 1 from fun k hk => by injection hk with hk; omega) (by omega) | exact lt_ge (show ∀ k, some n41 = some k → n41 ≤ k ∧ k < n41 + 1 from fun k hk => by injection hk with hk; omega) (by omega) | exact fun b hb => .inr (lt_ge (show ∀ k, some n41 = some k → n41 ≤ k ∧ k < n41 + 1 from fun k hk => by injection hk with hk; omega) (by omega) b hb))
              replace hLS := hLS.chg (grown_chg hgr) (by first | (intro b hb; exact lt_off (show ∀ k, some n41 = some k → n41 ≤ k ∧ k < n41 + 1 from fun k hk => by injection hk with hk; omega) (by omega)) | exact lt_off (show ∀ k, some n41 = some k → n41 ≤ k ∧ k < n41 + 1 from fun k hk => by injection hk with hk; omega) (by omega) | exact lt_ge (show ∀ k, some n41 = some k → n41 ≤ k ∧ k < n41 + 1 from fun k hk => by injection hk with hk; omega) (by omega) | exact fun b hb => .inr (lt_ge (show ∀ k, some n41 = some k → n41 ≤ k ∧ k < n41 + 1 from fun k hk => by injection hk with hk; omega) (by omega) b hb)); replace hXS := hXS.chg (grown_chg hgr) (by first | (intro b hb; exact lt_off (show ∀ k, some n41 = some k → n41 ≤ k ∧ k < n41 + 1 from fun k hk => by injection hk with hk; omega) (by omega)) | exact lt_off (show ∀ k, some n41 = some k → n41 ≤ k ∧ k < n41 + 1 from fun k hk => by injection hk with hk; omega) (by omega) | exact lt_ge (show ∀ k, some n41 = some k → n41 ≤ k ∧ k < n41 + 1 from fun k hk => by injection hk with hk; omega) (by omega) | exact fun b hb => .inr (lt_ge (show ∀ k, some n41 = some k → n41 ≤ k ∧ k < n41 + 1 from fun k hk => by injection hk with hk; omega) (by omega) b hb)); replace xw := Chg.to xw (grown_chg hgr) (lt_ge (show ∀ k, some n41 = some k → n41 ≤ k ∧ k < n41 + 1 from fun k hk => by injection hk with hk; omega) (by omega)); replace xo := Chg.to xo (grown_chg hgr) (lt_ge (show ∀ k, some n41 = some k → n41 ≤ k ∧ k < n41 + 1 from fun k hk => by injection hk with hk; omega) (by omega))
              replace c3_0 := Chg.cell (grown_chg hgr) c3_0 (lt_off (show ∀ k, some n41 = some k → n41 ≤ k ∧ k < n41 + 1 from fun k hk => by injection hk with hk; omega) (by omega)); replace c3_1 := Chg.cell (grown_chg hgr) c3_1 (lt_off (show ∀ k, some n41 = some k → n41 ≤ k ∧ k < n41 + 1 from fun k hk => by injection hk with hk; omega) (by omega)); replace c3_2 := Chg.cell (grown_chg hgr) c3_2 (lt_off (show ∀ k, some n41 = some k → n41 ≤ k ∧ k < n41 + 1 from fun k hk => by injection hk with hk; omega) (by omega)); replace c4_0 := Chg.cell (grown_chg hgr) c4_0 (lt_off (show ∀ k, some n41 = some k → n41 ≤ k ∧ k < n41 + 1 from fun k hk => by injection hk with hk; omega) (by omega)); replace c4_1 := Chg.cell (grown_chg hgr) c4_1 (lt_off (show ∀ k, some n41 = some k → n41 ≤ k ∧ k < n41 + 1 from fun k hk => by injection hk with hk; omega) (by omega)); replace c4_2 := Chg.cell (grown_chg hgr) c4_2 (lt_off (show ∀ k, some n41 = some k → n41 ≤ k ∧ k < n41 + 1 from fun k hk => by injection hk with hk; omega) (by omega)); replace d1 := Chg.cell (grown_chg hgr) d1 (lt_off (show ∀ k, some n41 = some k → n41 ≤ k ∧ k < n41 + 1 from fun k hk => by injection hk with hk; omega) (by omega)); replace x0 := Chg.cell (grown_chg hgr) x0 (lt_off (show ∀ k, some n41 = some k → n41 ≤ k ∧ k < n41 + 1 from fun k hk => by injection hk with hk; omega) (by omega)); replace x1 := Chg.cell (grown_chg hgr) x1 (lt_off (show ∀ k, some n41 = some k → n41 ≤ k ∧ k < n41 + 1 from fun k hk => by injection hk with hk; omega) (by omega))
              replace x2 := Chg.cell (grown_chg hgr) x2 (lt_off (show ∀ k, some n41 = some k → n41 ≤ k ∧ k < n41 + 1 from fun k hk => by injection hk with hk; omega) (by omega)); replace x3 := Chg.cell (grown_chg hgr) x3 (lt_off (show ∀ k, some n41 = some k → n41 ≤ k ∧ k < n41 + 1 from fun k hk => by injection hk with hk; omega) (by omega)); replace z10 := Chg.cell (grown_chg hgr) z10 (lt_off (show ∀ k, some n41 = some k → n41 ≤ k ∧ k < n41 + 1 from fun k hk => by injection hk with hk; omega) (by omega)); replace c12_0 := Chg.cell (grown_chg hgr) c12_0 (lt_off (show ∀ k, some n41 = some k → n41 ≤ k ∧ k < n41 + 1 from fun k hk => by injection hk with hk; omega) (by omega)); replace c12_1 := Chg.cell (grown_chg hgr) c12_1 (lt_off (show ∀ k, some n41 = some k → n41 ≤ k ∧ k < n41 + 1 from fun k hk => by injection hk with hk; omega) (by omega)); replace c12_2 := Chg.cell (grown_chg hgr) c12_2 (lt_off (show ∀ k, some n41 = some k → n41 ≤ k ∧ k < n41 + 1 from fun k hk => by injection hk with hk; omega) (by omega)); replace c12_3 := Chg.cell (grown_chg hgr) c12_3 (lt_off (show ∀ k, some n41 = some k → n41 ≤ k ∧ k < n41 + 1 from fun k hk => by injection hk with hk; omega) (by omega)); refine Mops.done ?_; refine hK _ _ ?_; clear hK K' gd; refine Ends.keep [2, 4, 10, 43, 44, 45] ?_; rintro r18 ⟨e2_18, e4_18, e10_18, e43_18, e44_18, e45_18, -⟩; simp [go_sem, e2_16, e4_16, e10_16, e11_16, e12_16, e43_16, e44_16, e45_16] at e2_18 e4_18 e10_18 e43_18 e44_18 e45_18; clear e2_16 e4_16 e10_16 e11_16 e12_16 e43_16 e44_16 e45_16
              refine Ends.mk ?_; refine bNo ?_; refine tNo ?_; refine lRg fun K' gd hK => ?_; go_simp; refine hK _ _ ?_; clear hK K' gd; refine Ends.keep [2, 4, 10, 43, 44, 45] ?_; rintro r19 ⟨e2_19, e4_19, e10_19, e43_19, e44_19, e45_19, -⟩; simp [go_sem, e2_18, e4_18, e10_18, e43_18, e44_18, e45_18] at e2_19 e4_19 e10_19 e43_19 e44_19 e45_19; clear e2_18 e4_18 e10_18 e43_18 e44_18 e45_18; refine Ends.mk ?_; refine thenK_normal ⟨by omega, ⟨by rw [e2_19, e2_13], by rw [e4_19, e4_13], by rw [e10_19, e10_13], by rw [e43_19, e43_13], by rw [e44_19, e44_13], trivial⟩, rfl, xo, ?_⟩; exact ⟨by rw [e45_19, IntWalk.i64_in _ (by omega)]; rfl, IntMap.congr hM2 fun y => by rw [mapN, idAt_at hk], z10⟩
            · refine cFf ?_; obtain rfl : k = t.fl.length := by omega
              have hlM := hM.lt; have lz10 : n10 < wk.heap.size := cell_lt z10; refine Wp.exit ?_; refine tEx ?_; refine tEx ?_; refine blockK_here ?_; refine tNo ?_; refine sRg fun K' gd hK => ?_; go_simp; refine hK _ _ ?_; clear hK K' gd; refine Wp.keep [2, 10, 13] ?_; rintro r20 ⟨e2_20, e10_20, e13_20, -⟩; simp [go_sem, e2_15, e4_15, e10_15, e43_15, e44_15, e45_15, e46_15] at e2_20 e10_20 e13_20; clear e2_15 e4_15 e10_15 e43_15 e44_15 e45_15 e46_15; refine Wp.seq ?_; obtain ⟨B0, hB0, hB1⟩ : ∃ B0 : Nat, B0 ≤ wk.heap.size ∧ wk.heap.size ≤ B0 := ⟨_, Nat.le_refl _, Nat.le_refl _⟩; have f3_xb := f3; have f4_xb := f4; have hTS_xb := hTS; have hFS_xb := hFS; have hLS_xb := hLS; have hXS_xb := hXS; have xw_xb := xw; have c3_0_xb := c3_0; have c3_1_xb := c3_1; have c3_2_xb := c3_2; have c4_0_xb := c4_0; have c4_1_xb := c4_1; have c4_2_xb := c4_2; have xo_xb := xo; have hM_xb := hM; have z10_xb := z10; have xb := Ext.refl wk; refine sRg fun K' gd hK => ?_; go_simp; refine hK _ _ ?_; clear hK K' gd; refine Wp.keep [10, 13, 59, 60, 61] ?_; rintro r21 ⟨e10_21, e13_21, e59_21, e60_21, e61_21, -⟩; simp [go_sem, e2_20, e10_20, e13_20] at e10_21 e13_21 e59_21 e60_21 e61_21; clear e2_20 e10_20 e13_20; refine Wp.block ?_; refine Wp.loop (fun i ρ ds wi => AllEq [10, 59, 60] ρ r21 ∧ ds = [] ∧ (Ext wk wi) ∧ (∃ (A5 : Option Addr) (c5 : Nat), ρ 61 = .int .i64 (i : Int) ∧ ρ 13 = .slice A5 i c5 ∧ OwnTb wi B0 (.slice A5 i c5) ((l.take i).map (leftL t m.on)))) (l.length) ?_ ?_
              · refine ⟨AllEq.refl _ _, rfl, xb, ?_⟩; exact ⟨none, 0, by rw [e61_21]; rfl, by rw [e13_21], OwnTb.nil _ _⟩
              · rintro i r22 _ wi hi ⟨hA, rfl, xp, ⟨A5, c5, e61, e13, hT⟩⟩; obtain ⟨e10_22, e59_22, e60_22, -⟩ := hA; rw [e10_21] at e10_22; rw [e59_21] at e59_22; rw [e60_21] at e60_22; have zxp := Below.size xp; have f3 := f3_xb; have f4 := f4_xb; have hTS := hTS_xb; have hFS := hFS_xb; have hLS := hLS_xb; have hXS := hXS_xb; have xw := xw_xb; have c3_0 := c3_0_xb; have c3_1 := c3_1_xb; have c3_2 := c3_2_xb; have c4_0 := c4_0_xb; have c4_1 := c4_1_xb; have c4_2 := c4_2_xb; have xo := xo_xb; have hM := hM_xb; have z10 := z10_xb; replace f3 := Ext.fz xp c3_0 f3; replace f4 := Ext.fz xp c4_0 f4; replace hTS := hTS.ext xp; replace hFS := hFS.ext xp; replace hLS := hLS.ext xp; replace hXS := hXS.ext xp; replace hM := hM.ext xp; replace xw := Ext.trans xw xp; replace xo := Ext.trans xo xp; replace c3_0 := Ext.cell xp c3_0; replace c3_1 := Ext.cell xp c3_1; replace c3_2 := Ext.cell xp c3_2; replace c4_0 := Ext.cell xp c4_0; replace c4_1 := Ext.cell xp c4_1; replace c4_2 := Ext.cell xp c4_2; replace z10 := Ext.cell xp z10; refine sRg fun K' gd hK => ?_; go_simp; refine hK _ _ ?_; clear hK K' gd; refine Wp.keep [10, 13, 59, 60, 61, 62] ?_; rintro r23 ⟨e10_23, e13_23, e59_23, e60_23, e61_23, e62_23, -⟩; simp [go_sem, e10_22, e13, e59_22, e60_22, e61] at e10_23 e13_23 e59_23 e60_23 e61_23 e62_23; clear e10_22 e13 e59_22 e60_22 e61; refine Wp.seq ?_
                by_cases hi : i < l.length
                · refine cTt ?_; have hil : (i : Int) < (l.length : Int) := by omega
                  obtain ⟨b2, o2, A6, c6, eA, hb2, x0, x1, x2, hI3⟩ := TakersV.at hLS.v hi; subst eA; obtain ⟨G, hG⟩ : ∃ G, ∃ _u : Unit, l[i] = G := ⟨_, (), rfl⟩; rw [hG.choose_spec] at x0 x1 x2 hI3; have hGl : G.fl.length ≤ 1000 := by rw [← hG.choose_spec]; exact hl2.choose_spec _ (List.getElem_mem hi)
                  have hIS : IntsS wi w.heap.size (.slice A6 G.fl.length c6) G.fl := ⟨hI3⟩; clear hI3; have hGt : ∃ _u : Unit, TakOk t G := ⟨(), by rw [← hG.choose_spec]; exact htok.choose_spec _ (List.getElem_mem hi)⟩; have xv := Ext.refl wi; refine skN ?_; refine sBk ?_; refine sRg fun K' gd hK => ?_; refine cu4 fun K1 hK1 => ?_; go_simp; refine hK1 _ _ ?_; clear hK1 K1; refine Wops.absA fun V15_13 n15 hV15_13 => ?_; obtain ⟨q15, hV15_13, s15, kV15_13, f15, r15⟩ := hV15_13; try simp only [q15] at kV15_13 f15 r15 ⊢
                  replace f3 := hV15_13.fz c3_0 f3; replace f4 := hV15_13.fz c4_0 f4; replace hTS := hTS.ext hV15_13; replace hFS := hFS.ext hV15_13; replace hLS := hLS.ext hV15_13; replace hXS := hXS.ext hV15_13; replace hM := hM.ext hV15_13; replace hIS := hIS.ext hV15_13; replace xw := xw.trans hV15_13; replace xo := xo.trans hV15_13; replace xp := xp.trans hV15_13; replace xv := xv.trans hV15_13; replace c3_0 := hV15_13.cell c3_0; replace c3_1 := hV15_13.cell c3_1; replace c3_2 := hV15_13.cell c3_2; replace c4_0 := hV15_13.cell c4_0; replace c4_1 := hV15_13.cell c4_1; replace c4_2 := hV15_13.cell c4_2; replace z10 := hV15_13.cell z10; replace x0 := hV15_13.cell x0; replace x1 := hV15_13.cell x1; replace x2 := hV15_13.cell x2; have c15_0 := kV15_13 0 _ rfl; have c15_1 := kV15_13 1 _ rfl; have c15_2 := kV15_13 2 _ rfl; clear kV15_13 hV15_13; clear r15; try simp only [Wops_nil, updO_some, updO_none]
                  refine hK _ _ ?_; clear hK K' gd; refine Wp.keep [10, 13, 15, 59, 60, 61] ?_; rintro r24 ⟨e10_24, e13_24, e15_24, e59_24, e60_24, e61_24, -⟩; simp [go_sem, e10_23, e13_23, e59_23, e60_23, e61_23, e62_23] at e10_24 e13_24 e15_24 e59_24 e60_24 e61_24; clear e10_23 e13_23 e59_23 e60_23 e61_23 e62_23; have ln15 : n15 < V15_13.heap.size := cell_lt c15_0; have hids := listed_id hg hGt.choose_spec.1; have ltT := OwnTb.lt hT; refine lRg fun K' gd hK => ?_; refine cu4 fun K1 hK1 => ?_; go_simp; refine Wcall (.inl rfl) (cloneI_c (.slice A6 G.fl.length c6) G.fl _ (hIS.v.more (Below.size (XE))) (by omega)) ?_; rintro v w3 ⟨hO0, hE⟩; have hO := OwnI.less (b2 := n15 + 1) hO0 (by omega); clear hO0; obtain ⟨A7, c7, rfl⟩ := OwnI.slice hO; obtain ⟨g, hg1, hg3, hg2⟩ := own_blk hO (by have := Below.size hE; omega); go_simp; refine hK1 _ _ ?_; clear hK1 K1; have z25 := Below.size hE; replace f3 := hE.fz c3_0 f3; replace f4 := hE.fz c4_0 f4; replace f15 := hE.fz c15_0 f15; replace hTS := hTS.ext hE; replace hFS := hFS.ext hE; replace hLS := hLS.ext hE; replace hXS := hXS.ext hE; replace hM := hM.ext hE; replace hIS := hIS.ext hE; replace xw := xw.trans hE; replace xo := xo.trans hE; replace xp := xp.trans hE; replace xv := xv.trans hE; replace c3_0 := hE.cell c3_0; replace c3_1 := hE.cell c3_1
                  replace c3_2 := hE.cell c3_2; replace c4_0 := hE.cell c4_0; replace c4_1 := hE.cell c4_1; replace c4_2 := hE.cell c4_2; replace z10 := hE.cell z10; replace x0 := hE.cell x0; replace x1 := hE.cell x1; replace x2 := hE.cell x2; replace c15_0 := hE.cell c15_0; replace c15_1 := hE.cell c15_1; replace c15_2 := hE.cell c15_2; clear hE; refine cu2 fun K1 hK1 => ?_; go_simp; refine Wcall (.inl rfl) (deleteO2_c (.slice A7 G.fl.length c7) G.fl (leftP t m.on G.day) 36 (n15 + 1) g #[.pointer (some ⟨n10, 0, none⟩), .pointer (some ⟨n15, 0, none⟩)] _ hO hg2 (by omega) (enters_of Try.func36 (by kernel_rfl) rfl) (fun a ha W hW => spread1_c t m.on a G.day n10 n15 n41 t.fl.length W (hids a ha) (Chg.cell hW z10 (by simp; omega)) (Chg.cell hW c15_1 (by simp; omega)) (hM.chg hW (by simp; omega)))) ?_; rintro v w4 ⟨⟨hD, hbk⟩, hC⟩; obtain ⟨A8, c8, rfl⟩ := hD.slice; go_simp; refine hK1 _ _ ?_; clear hK1 K1; have z26 := Chg.size hC; replace f3 := Chg.fz hC c3_0 f3 XN; replace f4 := Chg.fz hC c4_0 f4 XN; replace f15 := Chg.fz hC c15_0 f15 XN; replace hTS := hTS.chg hC XB; replace hFS := hFS.chg hC XB; replace hLS := hLS.chg hC XB; replace hXS := hXS.chg hC XB; replace hM := hM.chg hC XB; replace hIS := hIS.chg hC XB; replace xw := Chg.to xw hC XL; replace xo := Chg.to xo hC XL; replace xp := Chg.to xp hC XL; replace xv := Chg.to xv hC XL; replace c3_0 := Chg.cell hC c3_0 XN
                  replace c3_1 := Chg.cell hC c3_1 XN; replace c3_2 := Chg.cell hC c3_2 XN; replace c4_0 := Chg.cell hC c4_0 XN; replace c4_1 := Chg.cell hC c4_1 XN; replace c4_2 := Chg.cell hC c4_2 XN; replace z10 := Chg.cell hC z10 XN; replace x0 := Chg.cell hC x0 XN; replace x1 := Chg.cell hC x1 XN; replace x2 := Chg.cell hC x2 XN; replace c15_0 := Chg.cell hC c15_0 XN; replace c15_1 := Chg.cell hC c15_1 XN; replace c15_2 := Chg.cell hC c15_2 XN; refine cu1 fun K1 hK1 => ?_; go_simp; refine hK1 _ _ ?_; clear hK1 K1; refine Wops.absA fun V71_15 n71 hV71_15 => ?_; obtain ⟨q71, hV71_15, s71, kV71_15, f71, r71⟩ := hV71_15; try simp only [q71] at kV71_15 f71 r71 ⊢
                  replace f3 := hV71_15.fz c3_0 f3; replace f4 := hV71_15.fz c4_0 f4; replace f15 := hV71_15.fz c15_0 f15; replace hTS := hTS.ext hV71_15; replace hFS := hFS.ext hV71_15; replace hLS := hLS.ext hV71_15; replace hXS := hXS.ext hV71_15; replace hM := hM.ext hV71_15; replace hIS := hIS.ext hV71_15; replace hD := hD.ext hV71_15; replace xw := xw.trans hV71_15; replace xo := xo.trans hV71_15; replace xp := xp.trans hV71_15; replace xv := xv.trans hV71_15; replace c3_0 := hV71_15.cell c3_0; replace c3_1 := hV71_15.cell c3_1; replace c3_2 := hV71_15.cell c3_2; replace c4_0 := hV71_15.cell c4_0; replace c4_1 := hV71_15.cell c4_1; replace c4_2 := hV71_15.cell c4_2; replace z10 := hV71_15.cell z10; replace x0 := hV71_15.cell x0; replace x1 := hV71_15.cell x1; replace x2 := hV71_15.cell x2; replace c15_0 := hV71_15.cell c15_0; replace c15_1 := hV71_15.cell c15_1; replace c15_2 := hV71_15.cell c15_2; clear hV71_15 f71; have c71_0 := kV71_15 0 _ rfl; clear kV71_15; refine cu1 fun K1 hK1 => ?_; obtain ⟨v', w7, hrun, hT2, hgr⟩ := OwnTb.push (c := 1) (hT.ext xv) 34 c71_0 rfl (hD.less (b2 := B0) (by omega)) (fun _ b hb e => by have := hg2 b (by rw [← hbk]; exact hb); have := (ltT b e).2; omega) (by rw [List.length_map, List.length_take]; omega) (by omega); refine Wops.law rfl (exec_append2 rfl hrun (by go_simp) (by go_simp)) ?_; simp only [updO_some, Wops_nil]
                  refine hK1 _ _ ?_; clear hK1 K1; have z27 := World.grownBy.size hgr; replace f3 := Chg.fz (grown_chg hgr) c3_0 f3 (lt_off ltT (by omega)); replace f4 := Chg.fz (grown_chg hgr) c4_0 f4 (lt_off ltT (by omega)); replace f15 := Chg.fz (grown_chg hgr) c15_0 f15 (lt_off ltT (by omega)); replace hTS := hTS.chg (grown_chg hgr) (by first | (intro b hb; exact lt_off ltT (by omega)) | exact lt_off ltT (by omega) | exact lt_ge ltT (by omega) | exact fun b hb => .inr (lt_ge ltT (by omega) b hb)); replace hFS := hFS.chg (grown_chg hgr) (by first | (intro b hb; exact lt_off ltT (by omega)) | exact lt_off ltT (by omega) | exact lt_ge ltT (by omega) | exact fun b hb => .inr (lt_ge ltT (by omega) b hb)); replace hLS := hLS.chg (grown_chg hgr) (by first | (intro b hb; exact lt_off ltT (by omega)) | exact lt_off ltT (by omega) | exact lt_ge ltT (by omega) | exact fun b hb => .inr (lt_ge ltT (by omega) b hb)); replace hXS := hXS.chg (grown_chg hgr) (by first | (intro b hb; exact lt_off ltT (by omega)) | exact lt_off ltT (by omega) | exact lt_ge ltT (by omega) | exact fun b hb => .inr (lt_ge ltT (by omega) b hb)); replace hM := hM.chg (grown_chg hgr) (by first | (intro b hb; exact lt_off ltT (by omega)) | exact lt_off ltT (by omega) | exact lt_ge ltT (by omega) | exact fun b hb => .inr (lt_ge ltT (by omega) b hb)); replace hIS := hIS.chg (grown_chg hgr) (by first | (intro b hb; exact lt_off ltT (by omega)) | exact lt_off ltT (by omega) | exact lt_ge ltT (by omega) | exact fun b hb => .inr (lt_ge ltT (by omega) b hb))
                  replace xw := Chg.to xw (grown_chg hgr) (lt_ge ltT (by omega)); replace xo := Chg.to xo (grown_chg hgr) (lt_ge ltT (by omega)); replace xp := Chg.to xp (grown_chg hgr) (lt_ge ltT (by omega)); replace c3_0 := Chg.cell (grown_chg hgr) c3_0 (lt_off ltT (by omega)); replace c3_1 := Chg.cell (grown_chg hgr) c3_1 (lt_off ltT (by omega)); replace c3_2 := Chg.cell (grown_chg hgr) c3_2 (lt_off ltT (by omega)); replace c4_0 := Chg.cell (grown_chg hgr) c4_0 (lt_off ltT (by omega)); replace c4_1 := Chg.cell (grown_chg hgr) c4_1 (lt_off ltT (by omega)); replace c4_2 := Chg.cell (grown_chg hgr) c4_2 (lt_off ltT (by omega)); replace z10 := Chg.cell (grown_chg hgr) z10 (lt_off ltT (by omega)); replace x0 := Chg.cell (grown_chg hgr) x0 (lt_off ltT (by omega)); replace x1 := Chg.cell (grown_chg hgr) x1 (lt_off ltT (by omega)); replace x2 := Chg.cell (grown_chg hgr) x2 (lt_off ltT (by omega)); replace c15_0 := Chg.cell (grown_chg hgr) c15_0 (lt_off ltT (by omega)); replace c15_1 := Chg.cell (grown_chg hgr) c15_1 (lt_off ltT (by omega)); replace c15_2 := Chg.cell (grown_chg hgr) c15_2 (lt_off ltT (by omega)); obtain ⟨A9, c9, rfl⟩ := OwnTb.slice (k := i + 1) hT2 (by rw [List.length_append, List.length_map, List.length_take, Nat.min_eq_left (by omega)]; rfl); go_simp; refine hK _ _ ?_; clear hK K' gd; refine Ends.keep [10, 13, 59, 60, 61] ?_; rintro r28 ⟨e10_28, e13_28, e59_28, e60_28, e61_28, -⟩; simp [go_sem, e10_24, e13_24, e15_24, e59_24, e60_24, e61_24] at e10_28 e13_28 e59_28 e60_28 e61_28
                  clear e10_24 e13_24 e15_24 e59_24 e60_24 e61_24; refine Ends.mk ?_; refine bNo ?_; refine tNo ?_; refine lRg fun K' gd hK => ?_; go_simp; refine hK _ _ ?_; clear hK K' gd; refine Ends.keep [10, 13, 59, 60, 61] ?_; rintro r29 ⟨e10_29, e13_29, e59_29, e60_29, e61_29, -⟩; simp [go_sem, e10_28, e13_28, e59_28, e60_28, e61_28] at e10_29 e13_29 e59_29 e60_29 e61_29; clear e10_28 e13_28 e59_28 e60_28 e61_28; refine Ends.mk ?_; refine thenK_normal ⟨by omega, ⟨by rw [e10_29, e10_21], by rw [e59_29, e59_21], by rw [e60_29, e60_21], trivial⟩, rfl, xp, ?_⟩; exact ⟨A9, c9, by rw [e61_29, IntWalk.i64_in _ (by omega)]; rfl, by rw [e13_29], by rw [take_snoc hi, List.map_append, hG.choose_spec]; exact hT2⟩
                · refine cFf ?_; obtain rfl : i = l.length := by omega
                  refine Wp.exit ?_; refine tEx ?_; refine tEx ?_; refine blockK_here ?_; refine tNo ?_; refine sRg fun K' gd hK => ?_; go_simp; refine hK _ _ ?_; clear hK K' gd; refine Wp.keep [6, 7] ?_; rintro r30 ⟨e6_30, e7_30, -⟩; simp [go_sem, e10_23, e13_23, e59_23, e60_23, e61_23, e62_23] at e6_30 e7_30; clear e10_23 e13_23 e59_23 e60_23 e61_23 e62_23; refine Wp.ret ?_; refine endK_tmp2 Try.results11 (by decide) (by decide) ?_; rw [e6_30, e7_30]; exact ⟨⟨_, by rw [hse.choose_spec, h3], by unfold spreadL; rw [if_pos (by rw [hse.choose_spec]; exact h3)]; rw [List.take_length] at hT; exact hT.less (by omega)⟩, xw⟩
        · skip; refine sRg fun K' gd hK => ?_; go_simp; refine hK _ _ ?_; clear hK K' gd; refine Wp.keep [2, 3, 4, 9, 39] ?_; rintro r31 ⟨e2_31, e3_31, e4_31, e9_31, e39_31, -⟩; simp [go_sem, e2_10, e3_10, e4_10, e9_10] at e2_31 e3_31 e4_31 e9_31 e39_31; clear e2_10 e3_10 e4_10 e9_10; refine cTt ?_; refine sRg fun K' gd hK => ?_; go_simp; refine hK _ _ ?_; clear hK K' gd; refine Wp.keep [6, 7] ?_; rintro r32 ⟨e6_32, e7_32, -⟩; simp [go_sem, e2_31, e3_31, e4_31, e9_31, e39_31] at e6_32 e7_32; clear e2_31 e3_31 e4_31 e9_31 e39_31; refine Wp.ret ?_; refine tRe ?_; refine endK_tmp2 Try.results11 (by decide) (by decide) ?_; rw [e6_32, e7_32]; exact ⟨⟨_, by rw [hse.choose_spec], spread_no (by rw [hse.choose_spec]; exact h3)⟩, xw⟩
    · skip; have h1i : ((m.on.length : Int) = (t.fl.length : Int)) = False := by simp; omega
      have hse : ∃ _u : Unit, spreadE t m l = 1 := ⟨(), spread_2 h0 (.inl h1)⟩; refine skN ?_; refine Wp.seq ?_; refine sRh fun K' gd hK hg => ?_; have g7 : gd 7 = some 28 := hg 7; clear hg; refine cu12 fun K1 hK1 => ?_; go_simp; refine hK1 _ _ ?_; clear hK1 K1; go_simp; refine hK _ _ ?_; clear hK K' gd g7; refine Wp.keep [2, 3, 4, 34] ?_; rintro r33 ⟨e2_33, e3_33, e4_33, e34_33, -⟩; simp [go_sem, e2_5, e3_5, e4_5, e8_5, e19_5] at e2_33 e3_33 e4_33 e34_33; clear e2_5 e3_5 e4_5 e8_5 e19_5; refine cTt ?_; refine sRg fun K' gd hK => ?_; go_simp; refine hK _ _ ?_; clear hK K' gd; refine Wp.keep [6, 7] ?_; rintro r34 ⟨e6_34, e7_34, -⟩; simp [go_sem, e2_33, e3_33, e4_33, e34_33] at e6_34 e7_34; clear e2_33 e3_33 e4_33 e34_33; refine Wp.ret ?_; refine tRe ?_; refine endK_tmp2 Try.results11 (by decide) (by decide) ?_; rw [e6_34, e7_34]; exact ⟨⟨_, by rw [hse.choose_spec], spread_no (by rw [hse.choose_spec]; decide)⟩, xw⟩
  · skip; refine sRg fun K' gd hK => ?_; go_simp; refine hK _ _ ?_; clear hK K' gd; refine Wp.keep [2, 3, 4, 8, 19] ?_; rintro r35 ⟨e2_35, e3_35, e4_35, e8_35, e19_35, -⟩; simp [go_sem, e2_4, e3_4, e4_4, e8_4] at e2_35 e3_35 e4_35 e8_35 e19_35; clear e2_4 e3_4 e4_4 e8_4; refine cTt ?_; refine sRg fun K' gd hK => ?_; go_simp; refine hK _ _ ?_; clear hK K' gd; refine Wp.keep [6, 7] ?_; rintro r36 ⟨e6_36, e7_36, -⟩; simp [go_sem, e2_35, e3_35, e4_35, e8_35, e19_35] at e6_36 e7_36; clear e2_35 e3_35 e4_35 e8_35 e19_35; refine Wp.ret ?_; refine tRe ?_; refine endK_tmp2 Try.results11 (by decide) (by decide) ?_; rw [e6_36, e7_36]; exact ⟨⟨_, by rw [spread_1 h0], spread_no (by rw [spread_1 h0]; exact h0)⟩, xw⟩
theorem list_gI {l k : List Int} (h : l.length = k.length) (hg : ∀ i, i < l.length → gI l i = gI k i) : l = k := by
  apply List.ext_getElem h; intro i h1 h2; have := hg i h1; unfold gI at this; rw [List.getElem?_eq_getElem h1, List.getElem?_eq_getElem h2] at this; exact this
theorem sameInts_c (x y : Value) (xs ys : List Int) (w : World) (hx : IntsV w w.heap.size x xs) (hy : IntsV w w.heap.size y ys) (hl : xs.length ≤ 1000000000000000) :
    CallsV Try.prog 13 #[x, y] w fun v w' => v = .bool (decide (xs = ys)) ∧ Ext w w' := by
  obtain ⟨A, c, rfl, -, -⟩ := id hx; obtain ⟨A2, c2, rfl, -, -⟩ := id hy; refine Wp.fn Try.func13 rfl Try.ntmps13 (by simp) ?_; have xw := Ext.refl w; refine Wp.keep [0, 1] ?_; rintro r1 ⟨e0_1, e1_1, -⟩; simp [go_sem] at e0_1 e1_1
  by_cases he : (xs.length : Int) = (ys.length : Int)
  · skip; refine sRg fun K' gd hK => ?_; go_simp; refine hK _ _ ?_; clear hK K' gd; refine Wp.keep [0, 1] ?_; rintro r2 ⟨e0_2, e1_2, -⟩; simp [go_sem, e0_1, e1_1] at e0_2 e1_2; clear e0_1 e1_1; refine Wp.seq ?_; refine sRg fun K' gd hK => ?_; go_simp; refine hK _ _ ?_; clear hK K' gd; refine Wp.keep [0, 1, 10] ?_; rintro r3 ⟨e0_3, e1_3, e10_3, -⟩; simp [go_sem, e0_2, e1_2] at e0_3 e1_3 e10_3; clear e0_2 e1_2; refine cFf ?_; replace he : ∃ _u : Unit, xs.length = ys.length := ⟨(), by omega⟩; refine skN ?_; refine Wp.seq ?_; refine sRg fun K' gd hK => ?_; go_simp; refine hK _ _ ?_; clear hK K' gd; refine Wp.keep [0, 1, 5] ?_; rintro r4 ⟨e0_4, e1_4, e5_4, -⟩; simp [go_sem, e0_3, e1_3, e10_3] at e0_4 e1_4 e5_4; clear e0_3 e1_3 e10_3; refine Wp.block ?_; refine Wp.loop (fun k ρ ds wk => AllEq [0, 1] ρ r4 ∧ ds = [] ∧ (Ext w wk) ∧ (ρ 5 = .int .i64 (k : Int) ∧ (∀ j, j < k → gI xs j = gI ys j))) (xs.length) ?_ ?_
    · refine ⟨AllEq.refl _ _, rfl, Ext.refl _, ?_⟩; exact ⟨by rw [e5_4]; rfl, fun j hj => absurd hj (Nat.not_lt_zero _)⟩
    · rintro k r5 _ wk hk ⟨hA, rfl, xl1, ⟨e5, hn⟩⟩; obtain ⟨e0_5, e1_5, -⟩ := hA; rw [e0_4] at e0_5; rw [e1_4] at e1_5; have zxl1 := Below.size xl1; replace xw := Ext.trans xw xl1; refine Wp.seq ?_; refine sRg fun K' gd hK => ?_; go_simp; refine hK _ _ ?_; clear hK K' gd; refine Wp.keep [0, 1, 5, 14] ?_; rintro r6 ⟨e0_6, e1_6, e5_6, e14_6, -⟩; simp [go_sem, e0_5, e1_5, e5] at e0_6 e1_6 e5_6 e14_6; clear e0_5 e1_5 e5
      by_cases h : k < xs.length
      · refine cTt ?_; have hye : k < ys.length := by rw [← he.choose_spec]; exact h
        obtain ⟨b, o, c5, e1, hb, hc⟩ := hx.get h
        injection e1 with e1 _ e2
        subst e1; subst e2; obtain ⟨b2, o2, c6, e1, hb2, hc2⟩ := hy.get hye
        injection e1 with e1 _ e2
        subst e1; subst e2; have d1 := xw.cell (hc k h); have d2 := xw.cell (hc2 k hye); clear hc hc2
        by_cases hq : gI xs k = gI ys k
        · skip; refine skN ?_; refine sBk ?_; refine Wp.seqDraw (.inl rfl) mixed [([0, 1, 2, 3, 4], none), ([5, 6, 7, 8], none)] (by kernel_rfl) fun K' gd hK hg => ?_; clear hg; simp only [pick, nth, List.map_cons, List.map_nil, Option.map_none, Option.map_some]; refine Mops.absD fun D2 hD2 zD2 => ?_; replace xw := xw.trans hD2; replace xl1 := xl1.trans hD2; replace d1 := hD2.cell d1; replace d2 := hD2.cell d2; clear hD2; refine mNo ?_
          refine mNo ?_
          refine Mops.done ?_; refine hK _ _ ?_; clear hK K' gd; refine Wp.keep [0, 1, 5, 25] ?_; rintro r7 ⟨e0_7, e1_7, e5_7, e25_7, -⟩; simp [go_sem, e0_6, e1_6, e5_6, e14_6] at e0_7 e1_7 e5_7 e25_7; clear e0_6 e1_6 e5_6 e14_6; refine cFf ?_; refine Wp.skip ?_; refine bNo ?_; refine tNo ?_; refine lRg fun K' gd hK => ?_; go_simp; refine hK _ _ ?_; clear hK K' gd; refine Ends.keep [0, 1, 5] ?_; rintro r8 ⟨e0_8, e1_8, e5_8, -⟩; simp [go_sem, e0_7, e1_7, e5_7, e25_7] at e0_8 e1_8 e5_8; clear e0_7 e1_7 e5_7 e25_7; refine Ends.mk ?_; refine thenK_normal ⟨by omega, ⟨by rw [e0_8, e0_4], by rw [e1_8, e1_4], trivial⟩, rfl, xl1, ?_⟩; exact ⟨by rw [e5_8, IntWalk.i64_in _ (by omega)]; rfl, fun j hj => by rcases Nat.lt_succ_iff_lt_or_eq.1 hj with hj | rfl; exact hn j hj; exact hq⟩
        · skip; refine skN ?_; refine sBk ?_; refine Wp.seqDraw (.inl rfl) mixed [([0, 1, 2, 3, 4], none), ([5, 6, 7, 8], none)] (by kernel_rfl) fun K' gd hK hg => ?_; clear hg; simp only [pick, nth, List.map_cons, List.map_nil, Option.map_none, Option.map_some]; refine Mops.absD fun D3 hD3 zD3 => ?_; replace xw := xw.trans hD3; replace xl1 := xl1.trans hD3; replace d1 := hD3.cell d1; replace d2 := hD3.cell d2; clear hD3; refine mNo ?_
          refine mNo ?_
          refine Mops.done ?_; refine hK _ _ ?_; clear hK K' gd; refine Wp.keep [0, 1, 5, 25] ?_; rintro r9 ⟨e0_9, e1_9, e5_9, e25_9, -⟩; simp [go_sem, e0_6, e1_6, e5_6, e14_6] at e0_9 e1_9 e5_9 e25_9; clear e0_6 e1_6 e5_6 e14_6; refine cTt ?_; refine sRg fun K' gd hK => ?_; go_simp; refine hK _ _ ?_; clear hK K' gd; refine Wp.keep [4] ?_; rintro r10 ⟨e4_10, -⟩; simp [go_sem, e0_9, e1_9, e5_9, e25_9] at e4_10; clear e0_9 e1_9 e5_9 e25_9; refine Wp.ret ?_; refine bRe ?_; refine tRe ?_; refine tRe ?_; refine bRe ?_; refine tRe ?_; refine endK_tmp Try.results13 (by decide) ?_; rw [e4_10]; exact ⟨by rw [decide_eq_false fun e => hq (by rw [e])], xw⟩
      · refine cFf ?_; obtain rfl : k = xs.length := by omega
        refine Wp.exit ?_; refine tEx ?_; refine tEx ?_; refine blockK_here ?_; refine tNo ?_; refine sRg fun K' gd hK => ?_; go_simp; refine hK _ _ ?_; clear hK K' gd; refine Wp.keep [4] ?_; rintro r11 ⟨e4_11, -⟩; simp [go_sem, e0_6, e1_6, e5_6, e14_6] at e4_11; clear e0_6 e1_6 e5_6 e14_6; refine Wp.ret ?_; refine endK_tmp Try.results13 (by decide) ?_; rw [e4_11]; exact ⟨by rw [decide_eq_true (list_gI he.choose_spec hn)], xw⟩
  · skip; refine sRg fun K' gd hK => ?_; go_simp; refine hK _ _ ?_; clear hK K' gd; refine Wp.keep [0, 1] ?_; rintro r12 ⟨e0_12, e1_12, -⟩; simp [go_sem, e0_1, e1_1] at e0_12 e1_12; clear e0_1 e1_1; refine Wp.seq ?_; refine sRg fun K' gd hK => ?_; go_simp; refine hK _ _ ?_; clear hK K' gd; refine Wp.keep [0, 1, 10] ?_; rintro r13 ⟨e0_13, e1_13, e10_13, -⟩; simp [go_sem, e0_12, e1_12] at e0_13 e1_13 e10_13; clear e0_12 e1_12; refine cTt ?_; refine sRg fun K' gd hK => ?_; go_simp; refine hK _ _ ?_; clear hK K' gd; refine Wp.keep [4] ?_; rintro r14 ⟨e4_14, -⟩; simp [go_sem, e0_13, e1_13, e10_13] at e4_14; clear e0_13 e1_13 e10_13; refine Wp.ret ?_; refine tRe ?_; refine endK_tmp Try.results13 (by decide) ?_; rw [e4_14]; exact ⟨by rw [decide_eq_false fun e => he (by rw [e])], xw⟩
theorem has_c (x : Value) (xs : List Int) (d : Int) (w : World) (hx : IntsV w w.heap.size x xs) (hl : xs.length ≤ 1000000000000000) :
    CallsV Try.prog 12 #[x, .int .i64 d] w fun v w' => v = .bool (decide (d ∈ xs)) ∧ Ext w w' := by
  obtain ⟨A, c, rfl, -, -⟩ := id hx; refine Wp.fn Try.func12 rfl Try.ntmps12 (by simp) ?_; have xw := Ext.refl w; refine Wp.keep [0, 1] ?_; rintro r1 ⟨e0_1, e1_1, -⟩; simp [go_sem] at e0_1 e1_1; refine sRg fun K' gd hK => ?_; go_simp; refine hK _ _ ?_; clear hK K' gd; refine Wp.keep [0, 1] ?_; rintro r2 ⟨e0_2, e1_2, -⟩; simp [go_sem, e0_1, e1_1] at e0_2 e1_2; clear e0_1 e1_1; refine Wp.seq ?_; refine sRg fun K' gd hK => ?_; go_simp; refine hK _ _ ?_; clear hK K' gd; refine Wp.keep [0, 1, 5] ?_; rintro r3 ⟨e0_3, e1_3, e5_3, -⟩; simp [go_sem, e0_2, e1_2] at e0_3 e1_3 e5_3; clear e0_2 e1_2; refine Wp.block ?_; refine Wp.loop (fun k ρ ds wk => AllEq [0, 1] ρ r3 ∧ ds = [] ∧ (Ext w wk) ∧ (ρ 5 = .int .i64 (k : Int) ∧ d ∉ xs.take k)) (xs.length) ?_ ?_
  · refine ⟨AllEq.refl _ _, rfl, Ext.refl _, ?_⟩; exact ⟨by rw [e5_3]; rfl, by simp⟩
  · rintro k r4 _ wk hk ⟨hA, rfl, xl1, ⟨e5, hn⟩⟩; obtain ⟨e0_4, e1_4, -⟩ := hA; rw [e0_3] at e0_4; rw [e1_3] at e1_4; have zxl1 := Below.size xl1; replace xw := Ext.trans xw xl1; refine Wp.seq ?_; refine sRg fun K' gd hK => ?_; go_simp; refine hK _ _ ?_; clear hK K' gd; refine Wp.keep [0, 1, 5, 9] ?_; rintro r5 ⟨e0_5, e1_5, e5_5, e9_5, -⟩; simp [go_sem, e0_4, e1_4, e5] at e0_5 e1_5 e5_5 e9_5; clear e0_4 e1_4 e5
    by_cases h : k < xs.length
    · refine cTt ?_; obtain ⟨b, o, c5, e1, hb, hc⟩ := hx.get h
      injection e1 with e1 _ e2
      subst e1; subst e2; have d1 := xw.cell (hc k h); rw [gI_lt h] at d1; clear hc
      by_cases h1 : xs[k] = d
      · skip; refine skN ?_; refine sBk ?_; refine sRg fun K' gd hK => ?_; go_simp; refine hK _ _ ?_; clear hK K' gd; refine Wp.keep [0, 1, 5, 17] ?_; rintro r6 ⟨e0_6, e1_6, e5_6, e17_6, -⟩; simp [go_sem, e0_5, e1_5, e5_5, e9_5] at e0_6 e1_6 e5_6 e17_6; clear e0_5 e1_5 e5_5 e9_5; refine cTt ?_; refine sRg fun K' gd hK => ?_; go_simp; refine hK _ _ ?_; clear hK K' gd; refine Wp.keep [4] ?_; rintro r7 ⟨e4_7, -⟩; simp [go_sem, e0_6, e1_6, e5_6, e17_6] at e4_7; clear e0_6 e1_6 e5_6 e17_6; refine Wp.ret ?_; refine bRe ?_; refine tRe ?_; refine tRe ?_; refine bRe ?_; refine tRe ?_; refine endK_tmp Try.results12 (by decide) ?_; rw [e4_7]; exact ⟨by rw [decide_eq_true (show d ∈ xs by rw [← h1]; exact List.getElem_mem h)], xw⟩
      · skip; refine skN ?_; refine sBk ?_; refine sRg fun K' gd hK => ?_; go_simp; refine hK _ _ ?_; clear hK K' gd; refine Wp.keep [0, 1, 5, 17] ?_; rintro r8 ⟨e0_8, e1_8, e5_8, e17_8, -⟩; simp [go_sem, e0_5, e1_5, e5_5, e9_5] at e0_8 e1_8 e5_8 e17_8; clear e0_5 e1_5 e5_5 e9_5; refine cFf ?_; refine Wp.skip ?_; refine bNo ?_; refine tNo ?_; refine lRg fun K' gd hK => ?_; go_simp; refine hK _ _ ?_; clear hK K' gd; refine Ends.keep [0, 1, 5] ?_; rintro r9 ⟨e0_9, e1_9, e5_9, -⟩; simp [go_sem, e0_8, e1_8, e5_8, e17_8] at e0_9 e1_9 e5_9; clear e0_8 e1_8 e5_8 e17_8; refine Ends.mk ?_; refine thenK_normal ⟨by omega, ⟨by rw [e0_9, e0_3], by rw [e1_9, e1_3], trivial⟩, rfl, xl1, ?_⟩; exact ⟨by rw [e5_9, IntWalk.i64_in _ (by omega)]; rfl, by rw [take_snoc h, List.mem_append, List.mem_singleton]; rintro (h2 | h2); exact hn h2; exact h1 h2.symm⟩
    · refine cFf ?_; obtain rfl : k = xs.length := by omega
      rw [List.take_length] at hn; refine Wp.exit ?_; refine tEx ?_; refine tEx ?_; refine blockK_here ?_; refine tNo ?_; refine sRg fun K' gd hK => ?_; go_simp; refine hK _ _ ?_; clear hK K' gd; refine Wp.keep [4] ?_; rintro r10 ⟨e4_10, -⟩; simp [go_sem, e0_5, e1_5, e5_5, e9_5] at e4_10; clear e0_5 e1_5 e5_5 e9_5; refine Wp.ret ?_; refine endK_tmp Try.results12 (by decide) ?_; rw [e4_10]; exact ⟨by rw [decide_eq_false hn], xw⟩
def fewT (t : Tr) : Prop := t.cl.length ≤ 70 ∧ (t.fl.length ≤ 8 ∨ 40 < t.fl.length ∧ t.fl.length ≤ 50)
instance (t : Tr) : Decidable (fewT t) := by unfold fewT; infer_instance
theorem few_c (t : Tr) (v : Value) (w : World) (hV : TourV w w.heap.size v t) :
    CallsV Try.prog 9 #[v] w fun v' w' => v' = .bool (decide (fewT t)) ∧ Ext w w' := by
  obtain ⟨A, c, A2, c2, rfl, hI, hF⟩ := hV.open'; clear hV hI hF; refine Wp.fn Try.func9 rfl Try.ntmps9 (by simp) ?_; have xw := Ext.refl w; refine Wp.keep [0] ?_; rintro r1 ⟨e0_1, -⟩; simp [go_sem] at e0_1
  by_cases h1 : (t.cl.length : Int) ≤ 70
  · skip
    by_cases h2 : (t.fl.length : Int) ≤ 8
    · skip; have h2b : ¬ (8 : Int) < (t.fl.length : Int) := by omega
      refine sRg fun K' gd hK => ?_; refine cu1 fun K1 hK1 => ?_; go_simp; refine hK1 _ _ ?_; clear hK1 K1; refine Wops.absA fun V1_1 n1 hV1_1 => ?_; obtain ⟨q1, hV1_1, s1, kV1_1, f1, r1⟩ := hV1_1; try simp only [q1] at kV1_1 f1 r1 ⊢
      replace xw := xw.trans hV1_1; have c1_0 := kV1_1 0 _ rfl; have c1_1 := kV1_1 1 _ rfl; have c1_2 := kV1_1 2 _ rfl; clear kV1_1 hV1_1; clear r1; go_simp; refine hK _ _ ?_; clear hK K' gd; refine Wp.keep [1] ?_; rintro r2 ⟨e1_2, -⟩; simp [go_sem, e0_1] at e1_2; clear e0_1; refine sRh fun K' gd hK hg => ?_; have g4 : gd 4 = some 7 := hg 4; have g9 : gd 9 = some 12 := hg 9; have g14 : gd 14 = some 17 := hg 14; clear hg; go_simp; refine hK _ _ ?_; clear hK K' gd g4 g9 g14; refine Wp.keep [2] ?_; rintro r3 ⟨e2_3, -⟩; simp [go_sem, e1_2] at e2_3; clear e1_2; refine Wp.ret ?_; refine endK_tmp Try.results9 (by decide) ?_; rw [e2_3]; exact ⟨by rw [decide_eq_true (show fewT t from ⟨by omega, .inl (by omega)⟩)], xw⟩
    · skip; have h2b : (8 : Int) < (t.fl.length : Int) := by omega
      by_cases h3 : (40 : Int) < (t.fl.length : Int)
      · skip
        by_cases h4 : (t.fl.length : Int) ≤ 50
        · skip; refine sRg fun K' gd hK => ?_; refine cu1 fun K1 hK1 => ?_; go_simp; refine hK1 _ _ ?_; clear hK1 K1; refine Wops.absA fun V1_2 n1 hV1_2 => ?_; obtain ⟨q1, hV1_2, s1, kV1_2, f1, r1⟩ := hV1_2; try simp only [q1] at kV1_2 f1 r1 ⊢
          replace xw := xw.trans hV1_2; have c1_0 := kV1_2 0 _ rfl; have c1_1 := kV1_2 1 _ rfl; have c1_2 := kV1_2 2 _ rfl; clear kV1_2 hV1_2; clear r1; go_simp; refine hK _ _ ?_; clear hK K' gd; refine Wp.keep [1] ?_; rintro r4 ⟨e1_4, -⟩; simp [go_sem, e0_1] at e1_4; clear e0_1; refine sRh fun K' gd hK hg => ?_; have g4 : gd 4 = some 7 := hg 4; have g9 : gd 9 = some 12 := hg 9; have g14 : gd 14 = some 17 := hg 14; clear hg; go_simp; refine hK _ _ ?_; clear hK K' gd g4 g9 g14; refine Wp.keep [2] ?_; rintro r5 ⟨e2_5, -⟩; simp [go_sem, e1_4] at e2_5; clear e1_4; refine Wp.ret ?_; refine endK_tmp Try.results9 (by decide) ?_; rw [e2_5]; exact ⟨by rw [decide_eq_true (show fewT t from ⟨by omega, .inr ⟨by omega, by omega⟩⟩)], xw⟩
        · skip; refine sRg fun K' gd hK => ?_; refine cu1 fun K1 hK1 => ?_; go_simp; refine hK1 _ _ ?_; clear hK1 K1; refine Wops.absA fun V1_3 n1 hV1_3 => ?_; obtain ⟨q1, hV1_3, s1, kV1_3, f1, r1⟩ := hV1_3; try simp only [q1] at kV1_3 f1 r1 ⊢
          replace xw := xw.trans hV1_3; have c1_0 := kV1_3 0 _ rfl; have c1_1 := kV1_3 1 _ rfl; have c1_2 := kV1_3 2 _ rfl; clear kV1_3 hV1_3; clear r1; go_simp; refine hK _ _ ?_; clear hK K' gd; refine Wp.keep [1] ?_; rintro r6 ⟨e1_6, -⟩; simp [go_sem, e0_1] at e1_6; clear e0_1; refine sRh fun K' gd hK hg => ?_; have g4 : gd 4 = some 7 := hg 4; have g9 : gd 9 = some 12 := hg 9; have g14 : gd 14 = some 17 := hg 14; clear hg; go_simp; refine hK _ _ ?_; clear hK K' gd g4 g9 g14; refine Wp.keep [2] ?_; rintro r7 ⟨e2_7, -⟩; simp [go_sem, e1_6] at e2_7; clear e1_6; refine Wp.ret ?_; refine endK_tmp Try.results9 (by decide) ?_; rw [e2_7]; exact ⟨by rw [decide_eq_false (fun h : fewT t => by unfold fewT at h; omega)], xw⟩
      · skip; refine sRg fun K' gd hK => ?_; refine cu1 fun K1 hK1 => ?_; go_simp; refine hK1 _ _ ?_; clear hK1 K1; refine Wops.absA fun V1_4 n1 hV1_4 => ?_; obtain ⟨q1, hV1_4, s1, kV1_4, f1, r1⟩ := hV1_4; try simp only [q1] at kV1_4 f1 r1 ⊢
        replace xw := xw.trans hV1_4; have c1_0 := kV1_4 0 _ rfl; have c1_1 := kV1_4 1 _ rfl; have c1_2 := kV1_4 2 _ rfl; clear kV1_4 hV1_4; clear r1; go_simp; refine hK _ _ ?_; clear hK K' gd; refine Wp.keep [1] ?_; rintro r8 ⟨e1_8, -⟩; simp [go_sem, e0_1] at e1_8; clear e0_1; refine sRh fun K' gd hK hg => ?_; have g4 : gd 4 = some 7 := hg 4; have g9 : gd 9 = some 12 := hg 9; have g14 : gd 14 = some 17 := hg 14; clear hg; go_simp; refine hK _ _ ?_; clear hK K' gd g4 g9 g14; refine Wp.keep [2] ?_; rintro r9 ⟨e2_9, -⟩; simp [go_sem, e1_8] at e2_9; clear e1_8; refine Wp.ret ?_; refine endK_tmp Try.results9 (by decide) ?_; rw [e2_9]; exact ⟨by rw [decide_eq_false (fun h : fewT t => by unfold fewT at h; omega)], xw⟩
  · skip
    by_cases h2 : (t.fl.length : Int) ≤ 8
    · skip; have h2b : ¬ (8 : Int) < (t.fl.length : Int) := by omega
      refine sRg fun K' gd hK => ?_; refine cu1 fun K1 hK1 => ?_; go_simp; refine hK1 _ _ ?_; clear hK1 K1; refine Wops.absA fun V1_5 n1 hV1_5 => ?_; obtain ⟨q1, hV1_5, s1, kV1_5, f1, r1⟩ := hV1_5; try simp only [q1] at kV1_5 f1 r1 ⊢
      replace xw := xw.trans hV1_5; have c1_0 := kV1_5 0 _ rfl; have c1_1 := kV1_5 1 _ rfl; have c1_2 := kV1_5 2 _ rfl; clear kV1_5 hV1_5; clear r1; go_simp; refine hK _ _ ?_; clear hK K' gd; refine Wp.keep [1] ?_; rintro r10 ⟨e1_10, -⟩; simp [go_sem, e0_1] at e1_10; clear e0_1; refine sRh fun K' gd hK hg => ?_; have g4 : gd 4 = some 7 := hg 4; have g9 : gd 9 = some 12 := hg 9; have g14 : gd 14 = some 17 := hg 14; clear hg; go_simp; refine hK _ _ ?_; clear hK K' gd g4 g9 g14; refine Wp.keep [2] ?_; rintro r11 ⟨e2_11, -⟩; simp [go_sem, e1_10] at e2_11; clear e1_10; refine Wp.ret ?_; refine endK_tmp Try.results9 (by decide) ?_; rw [e2_11]; exact ⟨by rw [decide_eq_false (fun h : fewT t => by unfold fewT at h; omega)], xw⟩
    · skip; have h2b : (8 : Int) < (t.fl.length : Int) := by omega
      refine sRg fun K' gd hK => ?_; refine cu1 fun K1 hK1 => ?_; go_simp; refine hK1 _ _ ?_; clear hK1 K1; refine Wops.absA fun V1_6 n1 hV1_6 => ?_; obtain ⟨q1, hV1_6, s1, kV1_6, f1, r1⟩ := hV1_6; try simp only [q1] at kV1_6 f1 r1 ⊢
      replace xw := xw.trans hV1_6; have c1_0 := kV1_6 0 _ rfl; have c1_1 := kV1_6 1 _ rfl; have c1_2 := kV1_6 2 _ rfl; clear kV1_6 hV1_6; clear r1; go_simp; refine hK _ _ ?_; clear hK K' gd; refine Wp.keep [1] ?_; rintro r12 ⟨e1_12, -⟩; simp [go_sem, e0_1] at e1_12; clear e0_1; refine sRh fun K' gd hK hg => ?_; have g4 : gd 4 = some 7 := hg 4; have g9 : gd 9 = some 12 := hg 9; have g14 : gd 14 = some 17 := hg 14; clear hg; go_simp; refine hK _ _ ?_; clear hK K' gd g4 g9 g14; refine Wp.keep [2] ?_; rintro r13 ⟨e2_13, -⟩; simp [go_sem, e1_12] at e2_13; clear e1_12; refine Wp.ret ?_; refine endK_tmp Try.results9 (by decide) ?_; rw [e2_13]; exact ⟨by rw [decide_eq_false (fun h : fewT t => by unfold fewT at h; omega)], xw⟩
def wrthK (t : Tr) (on : List Int) : Nat → Int
  | 0 => 0
  | k + 1 => wrthK t on k + if 0 ≤ gI on k then (match t.fl[k]? with | some f => f.m | none => 0) else 0
theorem wrthK_le {t : Tr} {n : Nat} (hP : PlanT t n) (on : List Int) : ∀ k, k ≤ 12 → 0 ≤ wrthK t on k ∧ wrthK t on k ≤ 1000 * (k : Int)
  | 0, _ => ⟨Int.le_refl _, by show (0 : Int) ≤ 1000 * ((0 : Nat) : Int); omega⟩
  | k + 1, h => by
    have ih := wrthK_le hP on k (by omega)
    have hm : ∀ f, t.fl[k]? = some f → 0 ≤ f.m ∧ f.m ≤ 1000 := fun f hf => by
      obtain ⟨hk, rfl⟩ := List.getElem?_eq_some_iff.1 hf; exact hP.mr k hk
    obtain ⟨y, hy, h1, h2⟩ : ∃ y, (if 0 ≤ gI on k then (match t.fl[k]? with | some f => f.m | none => 0) else 0) = y ∧ 0 ≤ y ∧ y ≤ 1000 := by
      refine ⟨_, rfl, ?_⟩
      split
      · cases e : t.fl[k]? with
        | none => exact ⟨Int.le_refl _, by decide⟩
        | some f => have := hm f e; exact ⟨by show 0 ≤ f.m; omega, this.2⟩
      · exact ⟨Int.le_refl _, by decide⟩
    rw [wrthK, hy]; omega
theorem wrthK_T {t : Tr} {on : List Int} {k : Nat} (hk : k < t.fl.length) (h : 0 ≤ gI on k) : wrthK t on (k + 1) = wrthK t on k + t.fl[k].m := by rw [wrthK, if_pos h, List.getElem?_eq_getElem hk]
theorem wrthK_F {t : Tr} {on : List Int} {k : Nat} (h : ¬ 0 ≤ gI on k) : wrthK t on (k + 1) = wrthK t on k := by rw [wrthK, if_neg h]; omega
theorem worth_c (t : Tr) (n : Nat) (on : List Int) (v ov : Value) (w : World) (hP : PlanT t n) (hV : TourV w w.heap.size v t) (hI : IntsV w w.heap.size ov on) :
    CallsV Try.prog 23 #[v, ov] w fun v' w' => v' = .int .i64 (wrthK t on (min on.length t.fl.length)) ∧ Ext w w' := by
  obtain ⟨A, c, A2, c2, rfl, hI1, hF⟩ := hV.open'; obtain ⟨A1, c1, rfl, -, -⟩ := id hI; have hFS : FlawsS w w.heap.size (.slice A2 t.fl.length c2) t.fl := ⟨hF⟩; have hXS : IntsS w w.heap.size (.slice A1 on.length c1) on := ⟨hI⟩; clear hV hI1 hF hI; have hm12 := hP.fl; obtain ⟨q, hq⟩ : ∃ q, ∃ _u : Unit, min on.length t.fl.length = q := ⟨_, (), rfl⟩; have hq12 : q ≤ 12 := by have := hq.choose_spec; omega
  rw [hq.choose_spec]; refine Wp.fn Try.func23 rfl Try.ntmps23 (by simp) ?_; have xw := Ext.refl w; refine Wp.keep [0, 1] ?_; rintro r1 ⟨e0_1, e1_1, -⟩; simp [go_sem] at e0_1 e1_1; refine sRg fun K' gd hK => ?_; refine cu1 fun K1 hK1 => ?_; go_simp; refine hK1 _ _ ?_; clear hK1 K1; refine Wops.absA fun V2_1 n2 hV2_1 => ?_; obtain ⟨q2, hV2_1, s2, kV2_1, f2, r2⟩ := hV2_1; try simp only [q2] at kV2_1 f2 r2 ⊢
  replace hFS := hFS.ext hV2_1; replace hXS := hXS.ext hV2_1; replace xw := xw.trans hV2_1; have c2_0 := kV2_1 0 _ rfl; have c2_1 := kV2_1 1 _ rfl; have c2_2 := kV2_1 2 _ rfl; clear kV2_1 hV2_1; clear r2; go_simp; refine hK _ _ ?_; clear hK K' gd; refine Wp.keep [1, 2] ?_; rintro r2 ⟨e1_2, e2_2, -⟩; simp [go_sem, e0_1, e1_1] at e1_2 e2_2; clear e0_1 e1_1; refine sRg fun K' gd hK => ?_; go_simp; refine hK _ _ ?_; clear hK K' gd; refine Wp.keep [1, 2, 5] ?_; rintro r3 ⟨e1_3, e2_3, e5_3, -⟩; simp [go_sem, e1_2, e2_2] at e1_3 e2_3 e5_3; clear e1_2 e2_2; refine Wp.seq ?_; refine sRg fun K' gd hK => ?_; go_simp; refine hK _ _ ?_; clear hK K' gd; refine Wp.keep [1, 2, 5, 6] ?_; rintro r4 ⟨e1_4, e2_4, e5_4, e6_4, -⟩; simp [go_sem, e1_3, e2_3, e5_3] at e1_4 e2_4 e5_4 e6_4; clear e1_3 e2_3 e5_3; refine Wp.block ?_; refine Wp.loop (fun k ρ ds wk => AllEq [1, 2] ρ r4 ∧ ds = [] ∧ (Ext V2_1 wk) ∧ (ρ 6 = .int .i64 (k : Int) ∧ ρ 5 = .int .i64 (wrthK t on k))) (q) ?_ ?_
  · refine ⟨AllEq.refl _ _, rfl, Ext.refl _, ?_⟩; exact ⟨by rw [e6_4]; rfl, by rw [e5_4]; rfl⟩
  · rintro k r5 _ wk hk ⟨hA, rfl, xl2, ⟨e6, e5⟩⟩; obtain ⟨e1_5, e2_5, -⟩ := hA; rw [e1_4] at e1_5; rw [e2_4] at e2_5; have zxl2 := Below.size xl2; replace f2 := Ext.fz xl2 c2_0 f2; replace hFS := hFS.ext xl2; replace hXS := hXS.ext xl2; replace xw := Ext.trans xw xl2; replace c2_0 := Ext.cell xl2 c2_0; replace c2_1 := Ext.cell xl2 c2_1; replace c2_2 := Ext.cell xl2 c2_2
    by_cases hk : (k : Int) < (on.length : Int)
    · skip
      by_cases hk2 : (k : Int) < (t.fl.length : Int)
      · skip; refine Wp.seq ?_; refine sRh fun K' gd hK hg => ?_; have g4 : gd 4 = some 11 := hg 4; clear hg; go_simp; refine hK _ _ ?_; clear hK K' gd g4; refine Wp.keep [1, 2, 5, 6, 17] ?_; rintro r6 ⟨e1_6, e2_6, e5_6, e6_6, e17_6, -⟩; simp [go_sem, e1_5, e2_5, e5, e6] at e1_6 e2_6 e5_6 e6_6 e17_6; clear e1_5 e2_5 e5 e6; refine cTt ?_; have hkn : k < on.length := by omega
        have hkf : k < t.fl.length := by omega
        obtain ⟨b, o, cc, ev, hb, hcc⟩ := hXS.v.get hkn
        injection ev with ev1 _ ev2
        subst ev1; subst ev2; have d1 := hcc k hkn; clear hcc; obtain ⟨b2, o2, eA, hb2, x0, x1, x2, x3⟩ := FlawsV.at hFS.v hkf; subst eA; have hmr := hP.mr k hkf; have hwl := wrthK_le hP on k (by omega)
        by_cases h0 : 0 ≤ gI on k
        · skip; refine skN ?_; refine sBk ?_; refine sRg fun K' gd hK => ?_; go_simp; refine hK _ _ ?_; clear hK K' gd; refine Wp.keep [1, 2, 5, 6, 24] ?_; rintro r7 ⟨e1_7, e2_7, e5_7, e6_7, e24_7, -⟩; simp [go_sem, e1_6, e2_6, e5_6, e6_6, e17_6] at e1_7 e2_7 e5_7 e6_7 e24_7; clear e1_6 e2_6 e5_6 e6_6 e17_6; refine cTt ?_; refine lRg fun K' gd hK => ?_; go_simp; refine hK _ _ ?_; clear hK K' gd; refine Ends.keep [1, 2, 5, 6] ?_; rintro r8 ⟨e1_8, e2_8, e5_8, e6_8, -⟩; simp [go_sem, e1_7, e2_7, e5_7, e6_7, e24_7] at e1_8 e2_8 e5_8 e6_8; clear e1_7 e2_7 e5_7 e6_7 e24_7; refine Ends.mk ?_; refine bNo ?_; refine tNo ?_; refine lRg fun K' gd hK => ?_; go_simp; refine hK _ _ ?_; clear hK K' gd; refine Ends.keep [1, 2, 5, 6] ?_; rintro r9 ⟨e1_9, e2_9, e5_9, e6_9, -⟩; simp [go_sem, e1_8, e2_8, e5_8, e6_8] at e1_9 e2_9 e5_9 e6_9; clear e1_8 e2_8 e5_8 e6_8; refine Ends.mk ?_; refine thenK_normal ⟨by omega, ⟨by rw [e1_9, e1_4], by rw [e2_9, e2_4], trivial⟩, rfl, xl2, ?_⟩; exact ⟨by rw [e6_9, IntWalk.i64_in _ (by omega)]; rfl, by rw [e5_9, wrthK_T hkf h0, IntWalk.i64_in _ (by omega)]⟩
        · skip; refine skN ?_; refine sBk ?_; refine sRg fun K' gd hK => ?_; go_simp; refine hK _ _ ?_; clear hK K' gd; refine Wp.keep [1, 2, 5, 6, 24] ?_; rintro r10 ⟨e1_10, e2_10, e5_10, e6_10, e24_10, -⟩; simp [go_sem, e1_6, e2_6, e5_6, e6_6, e17_6] at e1_10 e2_10 e5_10 e6_10 e24_10; clear e1_6 e2_6 e5_6 e6_6 e17_6; refine cFf ?_; refine Wp.skip ?_; refine bNo ?_; refine tNo ?_; refine lRg fun K' gd hK => ?_; go_simp; refine hK _ _ ?_; clear hK K' gd; refine Ends.keep [1, 2, 5, 6] ?_; rintro r11 ⟨e1_11, e2_11, e5_11, e6_11, -⟩; simp [go_sem, e1_10, e2_10, e5_10, e6_10, e24_10] at e1_11 e2_11 e5_11 e6_11; clear e1_10 e2_10 e5_10 e6_10 e24_10; refine Ends.mk ?_; refine thenK_normal ⟨by omega, ⟨by rw [e1_11, e1_4], by rw [e2_11, e2_4], trivial⟩, rfl, xl2, ?_⟩; exact ⟨by rw [e6_11, IntWalk.i64_in _ (by omega)]; rfl, by rw [e5_11, wrthK_F h0]⟩
      · skip; have hkq : ∃ _u : Unit, k = q := ⟨(), by have := hq.choose_spec; omega⟩; refine Wp.seq ?_; refine sRh fun K' gd hK hg => ?_; have g4 : gd 4 = some 11 := hg 4; clear hg; go_simp; refine hK _ _ ?_; clear hK K' gd g4; refine Wp.keep [1, 2, 5, 6, 17] ?_; rintro r12 ⟨e1_12, e2_12, e5_12, e6_12, e17_12, -⟩; simp [go_sem, e1_5, e2_5, e5, e6] at e1_12 e2_12 e5_12 e6_12 e17_12; clear e1_5 e2_5 e5 e6; refine cFf ?_; refine Wp.exit ?_; refine tEx ?_; refine tEx ?_; refine blockK_here ?_; refine tNo ?_; refine sRg fun K' gd hK => ?_; go_simp; refine hK _ _ ?_; clear hK K' gd; refine Wp.keep [4] ?_; rintro r13 ⟨e4_13, -⟩; simp [go_sem, e1_12, e2_12, e5_12, e6_12, e17_12] at e4_13; clear e1_12 e2_12 e5_12 e6_12 e17_12; refine Wp.ret ?_; refine endK_tmp Try.results23 (by decide) ?_; rw [e4_13]; exact ⟨by rw [hkq.choose_spec], xw⟩
    · skip; have hkq : ∃ _u : Unit, k = q := ⟨(), by have := hq.choose_spec; omega⟩; refine Wp.seq ?_; refine sRh fun K' gd hK hg => ?_; have g4 : gd 4 = some 11 := hg 4; clear hg; go_simp; refine hK _ _ ?_; clear hK K' gd g4; refine Wp.keep [1, 2, 5, 6, 17] ?_; rintro r14 ⟨e1_14, e2_14, e5_14, e6_14, e17_14, -⟩; simp [go_sem, e1_5, e2_5, e5, e6] at e1_14 e2_14 e5_14 e6_14 e17_14; clear e1_5 e2_5 e5 e6; refine cFf ?_; refine Wp.exit ?_; refine tEx ?_; refine tEx ?_; refine blockK_here ?_; refine tNo ?_; refine sRg fun K' gd hK => ?_; go_simp; refine hK _ _ ?_; clear hK K' gd; refine Wp.keep [4] ?_; rintro r15 ⟨e4_15, -⟩; simp [go_sem, e1_14, e2_14, e5_14, e6_14, e17_14] at e4_15; clear e1_14 e2_14 e5_14 e6_14 e17_14; refine Wp.ret ?_; refine endK_tmp Try.results23 (by decide) ?_; rw [e4_15]; exact ⟨by rw [hkq.choose_spec], xw⟩
def ListsV (w : World) (B : Nat) (v : Value) (ls : List (List Int)) : Prop :=
  ∃ (A : Option Addr) (c : Nat), v = .slice A ls.length c ∧ (ls ≠ [] → ∃ b o, A = some ⟨b, o, none⟩ ∧ b < B ∧ ∀ k (h : k < ls.length), ∃ u, w.cell? ⟨b, o + k, none⟩ = some u ∧ IntsV w B u ls[k]) ∧ ls.length ≤ c
theorem ListsV.at {w : World} {B : Nat} {A : Option Addr} {n c : Nat} {ls : List (List Int)} (h : ListsV w B (.slice A n c) ls) {k : Nat} (hk : k < ls.length) : ∃ b o A1 c1, A = some ⟨b, o, none⟩ ∧ b < B ∧ w.cell? ⟨b, o + k, none⟩ = some (.slice A1 ls[k].length c1) ∧ IntsV w B (.slice A1 ls[k].length c1) ls[k] := by
  obtain ⟨A', c', hv, hx, -⟩ := h
  injection hv with h1 h2 h3; subst h1
  obtain ⟨b, o, hA, hb, hc⟩ := hx (by rintro rfl; exact absurd hk (Nat.not_lt_zero _)); obtain ⟨u, g1, g2⟩ := hc k hk; obtain ⟨A1, c1, rfl, -, -⟩ := id g2; exact ⟨b, o, A1, c1, hA, hb, g1, g2⟩
structure ListsS (w : World) (S : Nat) (v : Value) (ls : List (List Int)) : Prop where
  v : ListsV w S v ls
theorem ListsS.ext {w V : World} {S : Nat} {v : Value} {ls : List (List Int)} (h : ListsS w S v ls) (hE : Ext w V) : ListsS V S v ls := by
  obtain ⟨A, c, hv, hx, hcap⟩ := h.v
  exact ⟨A, c, hv, fun hne => by
    obtain ⟨b, o, hA, hlt, h1⟩ := hx hne
    exact ⟨b, o, hA, hlt, fun i hi => by obtain ⟨u, g1, g2⟩ := h1 i hi; exact ⟨u, hE.cell g1, g2.cells fun _ _ _ _ hc => hE.cell hc⟩⟩, hcap⟩
theorem lists_eq {xs ys : List (List Int)} (hl : xs.length = ys.length) (h : ∀ j (h1 : j < xs.length) (h2 : j < ys.length), xs[j] = ys[j]) : xs = ys := List.ext_getElem hl h
theorem sameLists_c (x y : Value) (xs ys : List (List Int)) (w : World) (hx : ListsV w w.heap.size x xs) (hy : ListsV w w.heap.size y ys) (hl : xs.length ≤ 1000000000000000) (hl2 : ∀ l ∈ xs, l.length ≤ 1000000000000000) :
    CallsV Try.prog 28 #[x, y] w fun v w' => v = .bool (decide (xs = ys)) ∧ Ext w w' := by
  obtain ⟨A, c, rfl, -, -⟩ := id hx; obtain ⟨A2, c2, rfl, -, -⟩ := id hy; have hXS : ListsS w w.heap.size (.slice A xs.length c) xs := ⟨hx⟩; have hYS : ListsS w w.heap.size (.slice A2 ys.length c2) ys := ⟨hy⟩; clear hx hy; replace hl2 : ∃ _u : Unit, _ := ⟨(), hl2⟩; refine Wp.fn Try.func28 rfl Try.ntmps28 (by simp) ?_; have xw := Ext.refl w; refine Wp.keep [0, 1] ?_; rintro r1 ⟨e0_1, e1_1, -⟩; simp [go_sem] at e0_1 e1_1
  by_cases he : (xs.length : Int) = (ys.length : Int)
  · skip; refine sRg fun K' gd hK => ?_; go_simp; refine hK _ _ ?_; clear hK K' gd; refine Wp.keep [0, 1] ?_; rintro r2 ⟨e0_2, e1_2, -⟩; simp [go_sem, e0_1, e1_1] at e0_2 e1_2; clear e0_1 e1_1; refine Wp.seq ?_; refine sRg fun K' gd hK => ?_; go_simp; refine hK _ _ ?_; clear hK K' gd; refine Wp.keep [0, 1, 11] ?_; rintro r3 ⟨e0_3, e1_3, e11_3, -⟩; simp [go_sem, e0_2, e1_2] at e0_3 e1_3 e11_3; clear e0_2 e1_2; refine cFf ?_; replace he : ∃ _u : Unit, xs.length = ys.length := ⟨(), by omega⟩; refine skN ?_; refine Wp.seq ?_; refine sRg fun K' gd hK => ?_; go_simp; refine hK _ _ ?_; clear hK K' gd; refine Wp.keep [0, 1, 5] ?_; rintro r4 ⟨e0_4, e1_4, e5_4, -⟩; simp [go_sem, e0_3, e1_3, e11_3] at e0_4 e1_4 e5_4; clear e0_3 e1_3 e11_3; refine Wp.block ?_; refine Wp.loop (fun k ρ ds wk => AllEq [0, 1] ρ r4 ∧ ds = [] ∧ (Ext w wk) ∧ (ρ 5 = .int .i64 (k : Int) ∧ (∃ _u : Unit, ∀ j (h1 : j < xs.length) (h2 : j < ys.length), j < k → xs[j] = ys[j]))) (xs.length) ?_ ?_
    · refine ⟨AllEq.refl _ _, rfl, Ext.refl _, ?_⟩; exact ⟨by rw [e5_4]; rfl, (), fun j _ _ hj => absurd hj (Nat.not_lt_zero _)⟩
    · rintro k r5 _ wk hk ⟨hA, rfl, xl1, ⟨e5, hn⟩⟩; obtain ⟨e0_5, e1_5, -⟩ := hA; rw [e0_4] at e0_5; rw [e1_4] at e1_5; have zxl1 := Below.size xl1; replace hXS := hXS.ext xl1; replace hYS := hYS.ext xl1; replace xw := Ext.trans xw xl1; refine Wp.seq ?_; refine sRg fun K' gd hK => ?_; go_simp; refine hK _ _ ?_; clear hK K' gd; refine Wp.keep [0, 1, 5, 15] ?_; rintro r6 ⟨e0_6, e1_6, e5_6, e15_6, -⟩; simp [go_sem, e0_5, e1_5, e5] at e0_6 e1_6 e5_6 e15_6; clear e0_5 e1_5 e5
      by_cases h : k < xs.length
      · refine cTt ?_; have hye : k < ys.length := by rw [← he.choose_spec]; exact h
        obtain ⟨b, o, A3, c3, e1, hb, d1, g1⟩ := ListsV.at hXS.v h; subst e1; obtain ⟨b2, o2, A4, c4, e2, hb2, d2, g2⟩ := ListsV.at hYS.v hye; subst e2; obtain ⟨X, hX⟩ : ∃ X, ∃ _u : Unit, xs[k] = X := ⟨_, (), rfl⟩; obtain ⟨Y, hY⟩ : ∃ Y, ∃ _u : Unit, ys[k] = Y := ⟨_, (), rfl⟩; rw [hX.choose_spec] at d1 g1; rw [hY.choose_spec] at d2 g2; have hXl : X.length ≤ 1000000000000000 := by rw [← hX.choose_spec]; exact hl2.choose_spec _ (List.getElem_mem h)
        have hI1 : IntsS wk w.heap.size (.slice A3 X.length c3) X := ⟨g1⟩; have hI2 : IntsS wk w.heap.size (.slice A4 Y.length c4) Y := ⟨g2⟩; clear g1 g2
        by_cases hq : X = Y
        · skip; subst hq; refine skN ?_; refine sBk ?_; refine Wp.seqDraw (.inl rfl) mixed [([0, 1, 2, 3, 4], none), ([5, 6, 7], some (8, false)), ([9], none)] (by kernel_rfl) fun K' gd hK hg => ?_; clear hg; simp only [pick, nth, List.map_cons, List.map_nil, Option.map_none, Option.map_some]; refine Mops.absD fun D2 hD2 zD2 => ?_; replace hXS := hXS.ext hD2; replace hYS := hYS.ext hD2; replace hI1 := hI1.ext hD2; replace hI2 := hI2.ext hD2; replace xw := xw.trans hD2; replace xl1 := xl1.trans hD2; replace d1 := hD2.cell d1; replace d2 := hD2.cell d2; clear hD2; refine mNo ?_
          refine mAc ?_
          intro K1 hK1; go_simp; refine Wcall (.inl rfl) (sameInts_c _ _ X X _ (hI1.v.more (Below.size (XE))) (hI2.v.more (Below.size (XE))) hXl) ?_; rintro v w4 ⟨rfl, hE⟩; rw [decide_eq_true (show X = X from rfl)]; go_simp; refine hK1 _ _ (by assumption) ?_; clear hK1 K1; have z7 := Below.size hE; replace hXS := hXS.ext hE; replace hYS := hYS.ext hE; replace hI1 := hI1.ext hE; replace hI2 := hI2.ext hE; replace xw := xw.trans hE; replace xl1 := xl1.trans hE; replace d1 := hE.cell d1; replace d2 := hE.cell d2; clear hE; refine mNo ?_
          refine Mops.done ?_; refine hK _ _ ?_; clear hK K' gd; refine Wp.keep [0, 1, 5, 6] ?_; rintro r8 ⟨e0_8, e1_8, e5_8, e6_8, -⟩; simp [go_sem, e0_6, e1_6, e5_6, e15_6] at e0_8 e1_8 e5_8 e6_8; clear e0_6 e1_6 e5_6 e15_6; refine sRg fun K' gd hK => ?_; go_simp; refine hK _ _ ?_; clear hK K' gd; refine Wp.keep [0, 1, 5, 28] ?_; rintro r9 ⟨e0_9, e1_9, e5_9, e28_9, -⟩; simp [go_sem, e0_8, e1_8, e5_8, e6_8] at e0_9 e1_9 e5_9 e28_9; clear e0_8 e1_8 e5_8 e6_8; refine cFf ?_; refine Wp.skip ?_; refine bNo ?_; refine tNo ?_; refine lRg fun K' gd hK => ?_; go_simp; refine hK _ _ ?_; clear hK K' gd; refine Ends.keep [0, 1, 5] ?_; rintro r10 ⟨e0_10, e1_10, e5_10, -⟩; simp [go_sem, e0_9, e1_9, e5_9, e28_9] at e0_10 e1_10 e5_10; clear e0_9 e1_9 e5_9 e28_9; refine Ends.mk ?_; refine thenK_normal ⟨by omega, ⟨by rw [e0_10, e0_4], by rw [e1_10, e1_4], trivial⟩, rfl, xl1, ?_⟩; exact ⟨by rw [e5_10, IntWalk.i64_in _ (by omega)]; rfl, (), fun j h1 h2 hj => by by_cases e : j = k; (subst e; rw [hX.choose_spec, hY.choose_spec]); exact hn.choose_spec j h1 h2 (by omega)⟩
        · skip; refine skN ?_; refine sBk ?_; refine Wp.seqDraw (.inl rfl) mixed [([0, 1, 2, 3, 4], none), ([5, 6, 7], some (8, false)), ([9], none)] (by kernel_rfl) fun K' gd hK hg => ?_; clear hg; simp only [pick, nth, List.map_cons, List.map_nil, Option.map_none, Option.map_some]; refine Mops.absD fun D3 hD3 zD3 => ?_; replace hXS := hXS.ext hD3; replace hYS := hYS.ext hD3; replace hI1 := hI1.ext hD3; replace hI2 := hI2.ext hD3; replace xw := xw.trans hD3; replace xl1 := xl1.trans hD3; replace d1 := hD3.cell d1; replace d2 := hD3.cell d2; clear hD3; refine mNo ?_
          refine mAc ?_
          intro K1 hK1; go_simp; refine Wcall (.inl rfl) (sameInts_c _ _ X Y _ (hI1.v.more (Below.size (XE))) (hI2.v.more (Below.size (XE))) hXl) ?_; rintro v w4 ⟨rfl, hE⟩; rw [decide_eq_false hq]; go_simp; refine hK1 _ _ (by assumption) ?_; clear hK1 K1; have z11 := Below.size hE; replace hXS := hXS.ext hE; replace hYS := hYS.ext hE; replace hI1 := hI1.ext hE; replace hI2 := hI2.ext hE; replace xw := xw.trans hE; replace xl1 := xl1.trans hE; replace d1 := hE.cell d1; replace d2 := hE.cell d2; clear hE; refine mNo ?_
          refine Mops.done ?_; refine hK _ _ ?_; clear hK K' gd; refine Wp.keep [0, 1, 5, 6] ?_; rintro r12 ⟨e0_12, e1_12, e5_12, e6_12, -⟩; simp [go_sem, e0_6, e1_6, e5_6, e15_6] at e0_12 e1_12 e5_12 e6_12; clear e0_6 e1_6 e5_6 e15_6; refine sRg fun K' gd hK => ?_; go_simp; refine hK _ _ ?_; clear hK K' gd; refine Wp.keep [0, 1, 5, 28] ?_; rintro r13 ⟨e0_13, e1_13, e5_13, e28_13, -⟩; simp [go_sem, e0_12, e1_12, e5_12, e6_12] at e0_13 e1_13 e5_13 e28_13; clear e0_12 e1_12 e5_12 e6_12; refine cTt ?_; refine sRg fun K' gd hK => ?_; go_simp; refine hK _ _ ?_; clear hK K' gd; refine Wp.keep [4] ?_; rintro r14 ⟨e4_14, -⟩; simp [go_sem, e0_13, e1_13, e5_13, e28_13] at e4_14; clear e0_13 e1_13 e5_13 e28_13; refine Wp.ret ?_; refine bRe ?_; refine tRe ?_; refine tRe ?_; refine bRe ?_; refine tRe ?_; refine endK_tmp Try.results28 (by decide) ?_; rw [e4_14]; exact ⟨by rw [decide_eq_false fun e => hq (by rw [← hX.choose_spec, ← hY.choose_spec]; subst e; rfl)], xw⟩
      · refine cFf ?_; obtain rfl : k = xs.length := by omega
        refine Wp.exit ?_; refine tEx ?_; refine tEx ?_; refine blockK_here ?_; refine tNo ?_; refine sRg fun K' gd hK => ?_; go_simp; refine hK _ _ ?_; clear hK K' gd; refine Wp.keep [4] ?_; rintro r15 ⟨e4_15, -⟩; simp [go_sem, e0_6, e1_6, e5_6, e15_6] at e4_15; clear e0_6 e1_6 e5_6 e15_6; refine Wp.ret ?_; refine endK_tmp Try.results28 (by decide) ?_; rw [e4_15]; exact ⟨by rw [decide_eq_true (lists_eq he.choose_spec fun j h1 h2 => hn.choose_spec j h1 h2 h1)], xw⟩
  · skip; refine sRg fun K' gd hK => ?_; go_simp; refine hK _ _ ?_; clear hK K' gd; refine Wp.keep [0, 1] ?_; rintro r16 ⟨e0_16, e1_16, -⟩; simp [go_sem, e0_1, e1_1] at e0_16 e1_16; clear e0_1 e1_1; refine Wp.seq ?_; refine sRg fun K' gd hK => ?_; go_simp; refine hK _ _ ?_; clear hK K' gd; refine Wp.keep [0, 1, 11] ?_; rintro r17 ⟨e0_17, e1_17, e11_17, -⟩; simp [go_sem, e0_16, e1_16] at e0_17 e1_17 e11_17; clear e0_16 e1_16; refine cTt ?_; refine sRg fun K' gd hK => ?_; go_simp; refine hK _ _ ?_; clear hK K' gd; refine Wp.keep [4] ?_; rintro r18 ⟨e4_18, -⟩; simp [go_sem, e0_17, e1_17, e11_17] at e4_18; clear e0_17 e1_17 e11_17; refine Wp.ret ?_; refine tRe ?_; refine endK_tmp Try.results28 (by decide) ?_; rw [e4_18]; exact ⟨by rw [decide_eq_false fun e => he (by rw [e])], xw⟩
def exT : Tr := ⟨5, [2], [⟨1, 0, 1, 5⟩, ⟨2, 0, 1, 3⟩, ⟨3, 1, 2, 4⟩, ⟨4, 1, 3, 2⟩, ⟨5, 3, 4, 1⟩]⟩
theorem ex_row {W : World} {b : Nat} {ty : TypeId} (hR : RowC W b ty [.int .i64 1, .int .i64 0, .int .i64 1, .int .i64 5, .int .i64 2, .int .i64 0, .int .i64 1, .int .i64 3, .int .i64 3, .int .i64 1, .int .i64 2, .int .i64 4, .int .i64 4, .int .i64 1, .int .i64 3, .int .i64 2, .int .i64 5, .int .i64 3, .int .i64 4, .int .i64 1])
    (i : Nat) (hi : i < exT.fl.length) (r : Nat) (u : Value) (hu : (encF exT.fl[i])[r]? = some u) : W.cell? ⟨b, 0 + i * 4 + r, none⟩ = some u := by
  have h5 : i < 5 := hi
  have h4 : r < 4 := by
    have := (List.getElem?_eq_some_iff.1 hu).1; exact this
  rw [hR.cell, ← hu]; have e1 : i = 0 ∨ i = 1 ∨ i = 2 ∨ i = 3 ∨ i = 4 := by omega
  have e2 : r = 0 ∨ r = 1 ∨ r = 2 ∨ r = 3 := by omega
  rcases e1 with rfl | rfl | rfl | rfl | rfl <;> rcases e2 with rfl | rfl | rfl | rfl <;> rfl
theorem example_c (w : World) : CallsV Try.prog 25 #[] w fun v' w' => TourB w' w.heap.size v' exT ∧ Ext w w' := by
  refine Wp.fn Try.func25 rfl Try.ntmps25 (by simp) ?_; have xw := Ext.refl w; refine Wp.keep [] fun r1 hkeep => ?_; clear hkeep; refine sRg fun K' gd hK => ?_; refine cu1 fun K1 hK1 => ?_; go_simp; refine hK1 _ _ ?_; clear hK1 K1; refine Wops.absT fun V0_1 n0 hV0_1 R0 => ?_; obtain ⟨q0, hV0_1, s0, kV0_1, f0, r0⟩ := hV0_1; try simp only [q0] at kV0_1 f0 r0 ⊢
  replace R0 := (show RowC _ _ _ _ from R0); replace xw := xw.trans hV0_1; have c0_0 := kV0_1 0 _ rfl; have c0_1 := kV0_1 1 _ rfl; have c0_2 := kV0_1 2 _ rfl; clear kV0_1 hV0_1; clear r0; try simp only [Wops_nil, updO_some, updO_none]
  refine hK _ _ ?_; clear hK K' gd; refine Wp.keep [0] ?_; rintro r2 ⟨e0_2, -⟩; simp [go_sem] at e0_2; refine sRg fun K' gd hK => ?_; refine cu1 fun K1 hK1 => ?_; go_simp; refine hK1 _ _ ?_; clear hK1 K1; refine Wops.absT fun V1_2 n1 hV1_2 R1 => ?_; obtain ⟨q1, hV1_2, s1, kV1_2, f1, r1⟩ := hV1_2; try simp only [q1] at kV1_2 f1 r1 ⊢
  replace R1 := (show RowC _ _ _ _ from R1); replace f0 := hV1_2.fz c0_0 f0; replace xw := xw.trans hV1_2; replace c0_0 := hV1_2.cell c0_0; replace c0_1 := hV1_2.cell c0_1; replace c0_2 := hV1_2.cell c0_2; clear hV1_2 f1; have c1_0 := kV1_2 0 _ rfl; clear kV1_2; refine cu11 fun K1 hK1 => ?_; go_simp; refine hK1 _ _ ?_; clear hK1 K1; refine Wops.absT fun V12_3 n12 hV12_3 R12 => ?_; obtain ⟨q12, hV12_3, s12, kV12_3, f12, r12⟩ := hV12_3; try simp only [q12] at kV12_3 f12 r12 ⊢
  replace R12 := (show RowC _ _ _ _ from R12); replace f0 := hV12_3.fz c0_0 f0; replace R1 := R1.ext hV12_3; replace xw := xw.trans hV12_3; replace c0_0 := hV12_3.cell c0_0; replace c0_1 := hV12_3.cell c0_1; replace c0_2 := hV12_3.cell c0_2; replace c1_0 := hV12_3.cell c1_0; clear hV12_3 f12; have c12_0 := kV12_3 0 _ rfl; have c12_1 := kV12_3 1 _ rfl; have c12_2 := kV12_3 2 _ rfl; have c12_3 := kV12_3 3 _ rfl; have c12_4 := kV12_3 4 _ rfl; have c12_5 := kV12_3 5 _ rfl; have c12_6 := kV12_3 6 _ rfl; have c12_7 := kV12_3 7 _ rfl; have c12_8 := kV12_3 8 _ rfl; have c12_9 := kV12_3 9 _ rfl; have c12_10 := kV12_3 10 _ rfl; have c12_11 := kV12_3 11 _ rfl; have c12_12 := kV12_3 12 _ rfl; have c12_13 := kV12_3 13 _ rfl; have c12_14 := kV12_3 14 _ rfl; have c12_15 := kV12_3 15 _ rfl; have c12_16 := kV12_3 16 _ rfl; have c12_17 := kV12_3 17 _ rfl; have c12_18 := kV12_3 18 _ rfl; have c12_19 := kV12_3 19 _ rfl; clear kV12_3; refine cu2 fun K1 hK1 => ?_; go_simp; refine hK1 _ _ ?_; clear hK1 K1; refine Wops.absS (b := n0) (i := 0) [_, _, _] (somes [cellVal c0_0, cellVal c0_1, cellVal c0_2] (by simp) (by intro j v hj; match j, hj with | 0, hj => (simp at hj; subst hj; exact c0_0) | 1, hj => (simp at hj; subst hj; exact c0_1) | 2, hj => (simp at hj; subst hj; exact c0_2))) fun P4 hP4 => ?_; have zP4 := hP4.same; replace f0 := hP4.frz f0; replace R1 := R1.put hP4 (by omega)
  replace R12 := R12.put hP4 (by omega); replace xw := Put.to xw hP4 (by omega); clear c0_0; clear c0_1; clear c0_2; replace c1_0 := hP4.cell c1_0 (by omega); replace c12_0 := hP4.cell c12_0 (by omega); replace c12_1 := hP4.cell c12_1 (by omega); replace c12_2 := hP4.cell c12_2 (by omega); replace c12_3 := hP4.cell c12_3 (by omega); replace c12_4 := hP4.cell c12_4 (by omega); replace c12_5 := hP4.cell c12_5 (by omega); replace c12_6 := hP4.cell c12_6 (by omega); replace c12_7 := hP4.cell c12_7 (by omega); replace c12_8 := hP4.cell c12_8 (by omega); replace c12_9 := hP4.cell c12_9 (by omega); replace c12_10 := hP4.cell c12_10 (by omega); replace c12_11 := hP4.cell c12_11 (by omega); replace c12_12 := hP4.cell c12_12 (by omega); replace c12_13 := hP4.cell c12_13 (by omega); replace c12_14 := hP4.cell c12_14 (by omega); replace c12_15 := hP4.cell c12_15 (by omega); replace c12_16 := hP4.cell c12_16 (by omega); replace c12_17 := hP4.cell c12_17 (by omega); replace c12_18 := hP4.cell c12_18 (by omega); replace c12_19 := hP4.cell c12_19 (by omega); have c0_0 := hP4.new 0 _ rfl; try simp only [Nat.reduceAdd, Nat.zero_add, Nat.add_zero] at c0_0
  have c0_1 := hP4.new 1 _ rfl; try simp only [Nat.reduceAdd, Nat.zero_add, Nat.add_zero] at c0_1
  have c0_2 := hP4.new 2 _ rfl; try simp only [Nat.reduceAdd, Nat.zero_add, Nat.add_zero] at c0_2
  clear hP4; try simp only [Wops_nil, updO_some, updO_none]
  refine hK _ _ ?_; clear hK K' gd; refine Wp.keep [0] ?_; rintro r3 ⟨e0_3, -⟩; simp [go_sem, e0_2] at e0_3; clear e0_2; refine Wp.ret ?_; refine endK_cell (v := .agg #[cellVal c0_0, cellVal c0_1, cellVal c0_2]) Try.results25 (by decide) e0_3 (by dsimp only [cellVal]; go_simp) ?_
  dsimp only [cellVal]
  exact ⟨⟨_, _, rfl, ⟨_, _, rfl, fun _ => ⟨n1, 0, rfl, by omega, R1.lt, fun k hk => by (obtain rfl : k = 0 := (by have : k < 1 := hk; omega)); exact c1_0⟩, Nat.le_refl _⟩, ⟨_, _, rfl, fun _ => ⟨n12, 0, rfl, by omega, R12.lt, ex_row R12⟩, Nat.le_refl _⟩⟩, xw⟩
theorem OwnTb.listsV {w : World} {base : Nat} {v : Value} {ls : List (List Int)} (h : OwnTb w base v ls) : ListsV w w.heap.size v ls := by
  obtain ⟨vs, h1, h2, h3⟩ := h.ex
  rcases id h1.2 with ⟨rfl, hn⟩ | ⟨g, cap, cur, rfl, hb, hg, hnc, hcm, hcs, htake⟩
  · obtain rfl : ls = [] := List.eq_nil_of_length_eq_zero hn; exact ⟨none, 0, rfl, fun h => absurd rfl h, Nat.le_refl _⟩
  · refine ⟨_, cap, rfl, fun _ => ⟨g, 0, rfl, (Array.getElem?_eq_some_iff.1 hg).1, fun k hk => ⟨vs[k]'(by omega), ?_, (h3 k (by omega) hk).1.ints⟩⟩, hnc⟩; have := World.ownsRow.cells h1 (g := g) rfl k (vs[k]'(by omega)) (List.getElem?_eq_getElem _); rw [Addr.add_lit] at this; exact this
theorem ListsV.more {w : World} {B B' : Nat} {v : Value} {ls : List (List Int)} (h : ListsV w B v ls) (hB : B ≤ B') : ListsV w B' v ls := by
  obtain ⟨A, c, hv, hx, hcap⟩ := h
  exact ⟨A, c, hv, fun hne => by
    obtain ⟨b, o, hA, hlt, h1⟩ := hx hne
    exact ⟨b, o, hA, by omega, fun i hi => by obtain ⟨u, g1, g2⟩ := h1 i hi; exact ⟨u, g1, g2.more hB⟩⟩, hcap⟩
theorem rowC_ints {W : World} {b n : Nat} {t : TypeId} {xs : List Int} {cs : List Value} (h : RowC W b t cs) (hcs : cs = xs.map (Value.int .i64)) (hn : xs.length = n) : IntsV W W.heap.size (.slice (some ⟨b, 0, none⟩) n n) xs := by
  subst hcs; subst hn; exact RowI.all ⟨t, h⟩ (Nat.le_refl _)
theorem sameI_T {x y : Value} {xs ys : List Int} (he : xs = ys) (w : World) (hx : IntsV w w.heap.size x xs) (hy : IntsV w w.heap.size y ys) (hl : xs.length ≤ 1000000000000000) :
    CallsV Try.prog 13 #[x, y] w fun v w' => v = .bool true ∧ Ext w w' :=
  (sameInts_c x y xs ys w hx hy hl).mono fun v w' ⟨h1, h2⟩ => ⟨by rw [h1, decide_eq_true he], h2⟩
theorem sameLi_T {x y : Value} {xs ys : List (List Int)} (he : xs = ys) (w : World) (hx : ListsV w w.heap.size x xs) (hy : ListsV w w.heap.size y ys) (hl : xs.length ≤ 1000000000000000) (hl2 : ∀ l ∈ xs, l.length ≤ 1000000000000000) :
    CallsV Try.prog 28 #[x, y] w fun v w' => v = .bool true ∧ Ext w w' :=
  (sameLists_c x y xs ys w hx hy hl hl2).mono fun v w' ⟨h1, h2⟩ => ⟨by rw [h1, decide_eq_true he], h2⟩
theorem list_one {W : World} {b k n : Nat} {t : TypeId} {xs : List Int} (h : RowC W b t [.slice (some ⟨k, 0, none⟩) n n]) (hI : IntsV W W.heap.size (.slice (some ⟨k, 0, none⟩) n n) xs) : ListsV W W.heap.size (.slice (some ⟨b, 0, none⟩) 1 1) [xs] :=
  ⟨_, 1, rfl, fun _ => ⟨b, 0, rfl, h.lt, fun i hi => by
    obtain rfl : i = 0 := by simpa using hi
    exact ⟨_, by rw [h.cell]; rfl, hI⟩⟩, Nat.le_refl _⟩
theorem taker_one {W : World} {b k n : Nat} {t : TypeId} {xs : List Int} {id d : Int} (h : RowC W b t [.int .i64 id, .int .i64 d, .slice (some ⟨k, 0, none⟩) n n]) (hI : IntsV W W.heap.size (.slice (some ⟨k, 0, none⟩) n n) xs) : TakersV W W.heap.size (.slice (some ⟨b, 0, none⟩) 1 1) [⟨id, d, xs⟩] :=
  ⟨_, 1, rfl, fun _ => ⟨b, 0, rfl, h.lt, fun i hi => by
    obtain rfl : i = 0 := by simpa using hi
    exact ⟨by rw [h.cell]; rfl, by rw [h.cell]; rfl, _, by rw [h.cell]; rfl, hI⟩⟩, Nat.le_refl _⟩
theorem exFit : FitT exT := ⟨by decide, by decide⟩
theorem ex_chk : checkT exT = 0 := by decide +kernel
def exM : Md := wholeF exT exT.n.toNat (bestF exT exT.n.toNat)
theorem ex_on : exM.on = [0, -1, 1, 3, 4] := by decide +kernel
theorem ex_mt : exM.mt = 12 := by decide +kernel
theorem ex_merit : (if checkT exT = 0 then meritF exT exT.n.toNat else 0) = 12 := by decide +kernel
theorem ex_jam : listE exT [1, 2, 3] = 0 ∧ (jamS exT [1, 2, 3]).isSome = true ∧ (jamP exT [1, 2, 3]).1 = 0 ∧ (jamP exT [1, 2, 3]).2 = 2 := by decide +kernel
theorem ex_sure : sureL exT = [1, 3, 4, 5] := by decide +kernel
theorem ex_some : someL exT = [1, 3, 4, 5] := by decide +kernel
theorem ex_days : daysE exT 1 = 0 ∧ daysR exT 1 = [0] := by decide +kernel
theorem ex_earl : earlL exT = [0, -1, 1, 3, 4] := by decide +kernel
theorem ex_gain : gainF exT 2 = 3 ∧ dayE exT 2 = 0 := by decide +kernel
theorem ex_lost : lostF exT 4 = 1 ∧ dayE exT 4 = 0 := by decide +kernel
theorem ex_wide : widerF exT 2 0 4 = 2 ∧ widerE exT 2 0 4 = 0 := by decide +kernel
theorem ex_spread : spreadE exT exM [⟨8, 1, [1, 2, 3]⟩] = 0 ∧ spreadL exT exM [⟨8, 1, [1, 2, 3]⟩] = [[2, 3]] := by decide +kernel
theorem head_c (w : World) : CallsV Try.prog 8 #[] w fun v w' => v = .bool true ∧ Ext w w' := by
  refine Wp.fn Try.func8 rfl Try.ntmps8 (by simp) ?_; have xw := Ext.refl w; refine Wp.keep [] fun r1 hkeep => ?_; clear hkeep; refine sRg fun K' gd hK => ?_; go_simp; refine hK _ _ ?_; clear hK K' gd; refine Wp.keep [] fun r2 hkeep => ?_; clear hkeep; refine sRg fun K' gd hK => ?_; refine cu1 fun K1 hK1 => ?_; go_simp; refine Wcall (.inl rfl) (example_c _) ?_; rintro v w2 ⟨hT, hE⟩; have xs := Ext.refl w2; obtain ⟨A, c1, A2, c2, rfl⟩ := hT.open'; go_simp; refine hK1 _ _ ?_; clear hK1 K1; have z3 := Below.size hE; replace xw := xw.trans hE; clear hE; refine cu2 fun K1 hK1 => ?_; go_simp; refine hK1 _ _ ?_; clear hK1 K1; refine Wops.absT fun V1_2 n1 hV1_2 R1 => ?_; obtain ⟨q1, hV1_2, s1, kV1_2, f1, r1⟩ := hV1_2; try simp only [q1] at kV1_2 f1 r1 ⊢
  replace R1 := (show RowC _ _ _ _ from R1); replace xw := xw.trans hV1_2; replace xs := xs.trans hV1_2; have c1_0 := kV1_2 0 _ rfl; have c1_1 := kV1_2 1 _ rfl; have c1_2 := kV1_2 2 _ rfl; clear kV1_2 hV1_2; clear r1; try simp only [Wops_nil, updO_some, updO_none]
  refine hK _ _ ?_; clear hK K' gd; refine Wp.keep [1] ?_; rintro r4 ⟨e1_4, -⟩; simp [go_sem] at e1_4; refine sRg fun K' gd hK => ?_; refine cu2 fun K1 hK1 => ?_; go_simp; refine Wcall (.inl rfl) (Best_c exT _ _ (hT.ext xs).tourV exFit (fun _ => by decide)) ?_; rintro v w3 ⟨⟨mv, hv, hB, -⟩, hE⟩; rw [ex_chk] at hv; subst hv; have hM : MendB _ _ mv exM := hB ex_chk; clear hB; obtain ⟨xv, zv, hmv, hIm, hZm⟩ := hM.ex; rw [ex_mt] at hmv; subst hmv; obtain ⟨Am, nm, cm, rfl⟩ : ∃ A n c, xv = .slice A n c := by obtain ⟨A, c, e⟩ := hIm.slice; exact ⟨A, _, c, e⟩
  obtain ⟨Az, nz, cz, rfl⟩ : ∃ A n c, zv = .slice A n c := by obtain ⟨A, c, e⟩ := hZm.slice; exact ⟨A, _, c, e⟩
  have xm := Ext.refl w3; go_simp; refine hK1 _ _ ?_; clear hK1 K1; have z5 := Below.size hE; replace f1 := hE.fz c1_0 f1; replace xw := xw.trans hE; replace xs := xs.trans hE; replace c1_0 := hE.cell c1_0; replace c1_1 := hE.cell c1_1; replace c1_2 := hE.cell c1_2; clear hE; refine cu5 fun K1 hK1 => ?_; go_simp; refine hK1 _ _ ?_; clear hK1 K1; refine Wops.absT fun V2_4 n2 hV2_4 R2 => ?_; obtain ⟨q2, hV2_4, s2, kV2_4, f2, r2⟩ := hV2_4; try simp only [q2] at kV2_4 f2 r2 ⊢
  replace R2 := (show RowC _ _ _ _ from R2); replace f1 := hV2_4.fz c1_0 f1; replace xw := xw.trans hV2_4; replace xs := xs.trans hV2_4; replace xm := xm.trans hV2_4; replace c1_0 := hV2_4.cell c1_0; replace c1_1 := hV2_4.cell c1_1; replace c1_2 := hV2_4.cell c1_2; have c2_0 := kV2_4 0 _ rfl; have c2_1 := kV2_4 1 _ rfl; have c2_2 := kV2_4 2 _ rfl; clear kV2_4 hV2_4; clear r2; go_simp; refine hK _ _ ?_; clear hK K' gd; refine Wp.keep [1, 2, 3] ?_; rintro r6 ⟨e1_6, e2_6, e3_6, -⟩; simp [go_sem, e1_4] at e1_6 e2_6 e3_6; clear e1_4; refine sRg fun K' gd hK => ?_; refine cu2 fun K1 hK1 => ?_; go_simp; refine Wcall (.inl rfl) (Merit_c exT _ _ (hT.ext xs).tourV exFit (fun _ => by decide)) ?_; rintro v w4 ⟨hv, hE⟩; rw [ex_merit, ex_chk] at hv; subst hv; go_simp; refine hK1 _ _ ?_; clear hK1 K1; have z7 := Below.size hE; replace f1 := hE.fz c1_0 f1; replace f2 := hE.fz c2_0 f2; replace xw := xw.trans hE; replace xs := xs.trans hE; replace xm := xm.trans hE; replace c1_0 := hE.cell c1_0; replace c1_1 := hE.cell c1_1; replace c1_2 := hE.cell c1_2; replace c2_0 := hE.cell c2_0; replace c2_1 := hE.cell c2_1; replace c2_2 := hE.cell c2_2; clear hE; go_simp; refine hK _ _ ?_; clear hK K' gd; refine Wp.keep [1, 2, 3, 4, 5] ?_; rintro r8 ⟨e1_8, e2_8, e3_8, e4_8, e5_8, -⟩
  simp [go_sem, e1_6, e2_6, e3_6] at e1_8 e2_8 e3_8 e4_8 e5_8; clear e1_6 e2_6 e3_6; refine sRg fun K' gd hK => ?_; refine cu2 fun K1 hK1 => ?_; go_simp; refine hK1 _ _ ?_; clear hK1 K1; refine Wops.absT fun V39_5 n39 hV39_5 R39 => ?_; obtain ⟨q39, hV39_5, s39, kV39_5, f39, r39⟩ := hV39_5; try simp only [q39] at kV39_5 f39 r39 ⊢
  replace R39 := (show RowC _ _ _ _ from R39); replace f1 := hV39_5.fz c1_0 f1; replace f2 := hV39_5.fz c2_0 f2; replace xw := xw.trans hV39_5; replace xs := xs.trans hV39_5; replace xm := xm.trans hV39_5; replace c1_0 := hV39_5.cell c1_0; replace c1_1 := hV39_5.cell c1_1; replace c1_2 := hV39_5.cell c1_2; replace c2_0 := hV39_5.cell c2_0; replace c2_1 := hV39_5.cell c2_1; replace c2_2 := hV39_5.cell c2_2; clear hV39_5 f39; have c39_0 := kV39_5 0 _ rfl; have c39_1 := kV39_5 1 _ rfl; have c39_2 := kV39_5 2 _ rfl; clear kV39_5; refine cu1 fun K1 hK1 => ?_; go_simp; refine Wcall (.inl rfl) (Jam_c exT [1, 2, 3] _ _ _ (hT.ext xs).tourV (rowC_ints R39 rfl rfl) exFit (by decide)) ?_; rintro v w5 ⟨hv, hE⟩; rw [ex_jam.1, ex_jam.2.1, ex_jam.2.2.1, ex_jam.2.2.2] at hv; subst hv; go_simp; refine hK1 _ _ ?_; clear hK1 K1; have z9 := Below.size hE; replace f1 := hE.fz c1_0 f1; replace f2 := hE.fz c2_0 f2; replace R39 := R39.ext hE; replace xw := xw.trans hE; replace xs := xs.trans hE; replace xm := xm.trans hE; replace c1_0 := hE.cell c1_0; replace c1_1 := hE.cell c1_1; replace c1_2 := hE.cell c1_2; replace c2_0 := hE.cell c2_0; replace c2_1 := hE.cell c2_1; replace c2_2 := hE.cell c2_2; replace c39_0 := hE.cell c39_0; replace c39_1 := hE.cell c39_1; replace c39_2 := hE.cell c39_2; clear hE
  refine cu6 fun K1 hK1 => ?_; go_simp; refine hK1 _ _ ?_; clear hK1 K1; refine Wops.absT fun V6_6 n6 hV6_6 R6 => ?_; obtain ⟨q6, hV6_6, s6, kV6_6, f6, r6⟩ := hV6_6; try simp only [q6] at kV6_6 f6 r6 ⊢
  replace R6 := (show RowC _ _ _ _ from R6); replace f1 := hV6_6.fz c1_0 f1; replace f2 := hV6_6.fz c2_0 f2; replace R39 := R39.ext hV6_6; replace xw := xw.trans hV6_6; replace xs := xs.trans hV6_6; replace xm := xm.trans hV6_6; replace c1_0 := hV6_6.cell c1_0; replace c1_1 := hV6_6.cell c1_1; replace c1_2 := hV6_6.cell c1_2; replace c2_0 := hV6_6.cell c2_0; replace c2_1 := hV6_6.cell c2_1; replace c2_2 := hV6_6.cell c2_2; replace c39_0 := hV6_6.cell c39_0; replace c39_1 := hV6_6.cell c39_1; replace c39_2 := hV6_6.cell c39_2; have c6_0 := kV6_6 0 _ rfl; have c6_1 := kV6_6 1 _ rfl; clear kV6_6 hV6_6; clear r6; go_simp; refine hK _ _ ?_; clear hK K' gd; refine Wp.keep [1, 2, 3, 4, 5, 6, 7, 8] ?_; rintro r10 ⟨e1_10, e2_10, e3_10, e4_10, e5_10, e6_10, e7_10, e8_10, -⟩; simp [go_sem, e1_8, e2_8, e3_8, e4_8, e5_8] at e1_10 e2_10 e3_10 e4_10 e5_10 e6_10 e7_10 e8_10; clear e1_8 e2_8 e3_8 e4_8 e5_8; refine sRg fun K' gd hK => ?_; refine cu2 fun K1 hK1 => ?_; go_simp; refine Wcall (.inl rfl) (Surely_c exT _ _ (hT.ext xs).tourV exFit (fun _ => by decide)) ?_; rintro v w6 ⟨⟨la, lb, hv, hI9, hI10⟩, hE⟩; rw [ex_chk] at hv; subst hv; rw [ex_sure] at hI9; rw [ex_some] at hI10; have x9 := Ext.refl w6; go_simp; refine hK1 _ _ ?_; clear hK1 K1; have z11 := Below.size hE
  replace f1 := hE.fz c1_0 f1; replace f2 := hE.fz c2_0 f2; replace f6 := hE.fz c6_0 f6; replace R39 := R39.ext hE; replace xw := xw.trans hE; replace xs := xs.trans hE; replace xm := xm.trans hE; replace c1_0 := hE.cell c1_0; replace c1_1 := hE.cell c1_1; replace c1_2 := hE.cell c1_2; replace c2_0 := hE.cell c2_0; replace c2_1 := hE.cell c2_1; replace c2_2 := hE.cell c2_2; replace c39_0 := hE.cell c39_0; replace c39_1 := hE.cell c39_1; replace c39_2 := hE.cell c39_2; replace c6_0 := hE.cell c6_0; replace c6_1 := hE.cell c6_1; clear hE; go_simp; refine hK _ _ ?_; clear hK K' gd; refine Wp.keep [1, 2, 3, 4, 5, 6, 7, 8, 9, 10, 11] ?_; rintro r12 ⟨e1_12, e2_12, e3_12, e4_12, e5_12, e6_12, e7_12, e8_12, e9_12, e10_12, e11_12, -⟩; simp [go_sem, e1_10, e2_10, e3_10, e4_10, e5_10, e6_10, e7_10, e8_10] at e1_12 e2_12 e3_12 e4_12 e5_12 e6_12 e7_12 e8_12 e9_12 e10_12 e11_12; clear e1_10 e2_10 e3_10 e4_10 e5_10 e6_10 e7_10 e8_10; refine sRg fun K' gd hK => ?_; refine cu2 fun K1 hK1 => ?_; go_simp; refine Wcall (.inl rfl) (Days_c exT 1 _ _ (hT.ext xs).tourV exFit (fun _ => by decide)) ?_; rintro v w7 ⟨⟨lc, hv, hI12⟩, hE⟩; rw [ex_days.1] at hv; subst hv; rw [ex_days.2] at hI12; have x12 := Ext.refl w7; go_simp; refine hK1 _ _ ?_; clear hK1 K1; have z13 := Below.size hE
  replace f1 := hE.fz c1_0 f1; replace f2 := hE.fz c2_0 f2; replace f6 := hE.fz c6_0 f6; replace R39 := R39.ext hE; replace xw := xw.trans hE; replace xs := xs.trans hE; replace xm := xm.trans hE; replace x9 := x9.trans hE; replace c1_0 := hE.cell c1_0; replace c1_1 := hE.cell c1_1; replace c1_2 := hE.cell c1_2; replace c2_0 := hE.cell c2_0; replace c2_1 := hE.cell c2_1; replace c2_2 := hE.cell c2_2; replace c39_0 := hE.cell c39_0; replace c39_1 := hE.cell c39_1; replace c39_2 := hE.cell c39_2; replace c6_0 := hE.cell c6_0; replace c6_1 := hE.cell c6_1; clear hE; go_simp; refine hK _ _ ?_; clear hK K' gd; refine Wp.keep [1, 2, 3, 4, 5, 6, 7, 8, 9, 10, 11, 12, 13] ?_; rintro r14 ⟨e1_14, e2_14, e3_14, e4_14, e5_14, e6_14, e7_14, e8_14, e9_14, e10_14, e11_14, e12_14, e13_14, -⟩; simp [go_sem, e1_12, e2_12, e3_12, e4_12, e5_12, e6_12, e7_12, e8_12, e9_12, e10_12, e11_12] at e1_14 e2_14 e3_14 e4_14 e5_14 e6_14 e7_14 e8_14 e9_14 e10_14 e11_14 e12_14 e13_14; clear e1_12 e2_12 e3_12 e4_12 e5_12 e6_12 e7_12 e8_12 e9_12 e10_12 e11_12; refine sRg fun K' gd hK => ?_; refine cu2 fun K1 hK1 => ?_; go_simp; refine Wcall (.inl rfl) (Earliest_c exT _ _ (hT.ext xs).tourV exFit (fun _ => by decide)) ?_; rintro v w8 ⟨⟨ld, hv, hI14⟩, hE⟩; rw [ex_chk] at hv; subst hv; rw [ex_earl] at hI14; have x14 := Ext.refl w8
  go_simp; refine hK1 _ _ ?_; clear hK1 K1; have z15 := Below.size hE; replace f1 := hE.fz c1_0 f1; replace f2 := hE.fz c2_0 f2; replace f6 := hE.fz c6_0 f6; replace R39 := R39.ext hE; replace xw := xw.trans hE; replace xs := xs.trans hE; replace xm := xm.trans hE; replace x9 := x9.trans hE; replace x12 := x12.trans hE; replace c1_0 := hE.cell c1_0; replace c1_1 := hE.cell c1_1; replace c1_2 := hE.cell c1_2; replace c2_0 := hE.cell c2_0; replace c2_1 := hE.cell c2_1; replace c2_2 := hE.cell c2_2; replace c39_0 := hE.cell c39_0; replace c39_1 := hE.cell c39_1; replace c39_2 := hE.cell c39_2; replace c6_0 := hE.cell c6_0; replace c6_1 := hE.cell c6_1; clear hE; go_simp; refine hK _ _ ?_; clear hK K' gd; refine Wp.keep [1, 2, 3, 4, 5, 6, 7, 8, 9, 10, 11, 12, 13, 14, 15] ?_; rintro r16 ⟨e1_16, e2_16, e3_16, e4_16, e5_16, e6_16, e7_16, e8_16, e9_16, e10_16, e11_16, e12_16, e13_16, e14_16, e15_16, -⟩; simp [go_sem, e1_14, e2_14, e3_14, e4_14, e5_14, e6_14, e7_14, e8_14, e9_14, e10_14, e11_14, e12_14, e13_14] at e1_16 e2_16 e3_16 e4_16 e5_16 e6_16 e7_16 e8_16 e9_16 e10_16 e11_16 e12_16 e13_16 e14_16 e15_16; clear e1_14 e2_14 e3_14 e4_14 e5_14 e6_14 e7_14 e8_14 e9_14 e10_14 e11_14 e12_14 e13_14; refine sRg fun K' gd hK => ?_; refine cu2 fun K1 hK1 => ?_
  go_simp; refine Wcall (.inl rfl) (Gain_c exT 2 _ _ (hT.ext xs).tourV exFit (fun _ => by decide)) ?_; rintro v w9 ⟨hv, hE⟩; rw [ex_gain.1, ex_gain.2] at hv; subst hv; go_simp; refine hK1 _ _ ?_; clear hK1 K1; have z17 := Below.size hE; replace f1 := hE.fz c1_0 f1; replace f2 := hE.fz c2_0 f2; replace f6 := hE.fz c6_0 f6; replace R39 := R39.ext hE; replace xw := xw.trans hE; replace xs := xs.trans hE; replace xm := xm.trans hE; replace x9 := x9.trans hE; replace x12 := x12.trans hE; replace x14 := x14.trans hE; replace c1_0 := hE.cell c1_0; replace c1_1 := hE.cell c1_1; replace c1_2 := hE.cell c1_2; replace c2_0 := hE.cell c2_0; replace c2_1 := hE.cell c2_1; replace c2_2 := hE.cell c2_2; replace c39_0 := hE.cell c39_0; replace c39_1 := hE.cell c39_1; replace c39_2 := hE.cell c39_2; replace c6_0 := hE.cell c6_0; replace c6_1 := hE.cell c6_1; clear hE; go_simp; refine hK _ _ ?_; clear hK K' gd; refine Wp.keep [1, 2, 3, 4, 5, 6, 7, 8, 9, 10, 11, 12, 13, 14, 15, 16, 17] ?_; rintro r18 ⟨e1_18, e2_18, e3_18, e4_18, e5_18, e6_18, e7_18, e8_18, e9_18, e10_18, e11_18, e12_18, e13_18, e14_18, e15_18, e16_18, e17_18, -⟩; simp [go_sem, e1_16, e2_16, e3_16, e4_16, e5_16, e6_16, e7_16, e8_16, e9_16, e10_16, e11_16, e12_16, e13_16, e14_16, e15_16] at e1_18 e2_18 e3_18 e4_18 e5_18 e6_18 e7_18 e8_18 e9_18 e10_18 e11_18 e12_18 e13_18 e14_18 e15_18 e16_18 e17_18
  clear e1_16 e2_16 e3_16 e4_16 e5_16 e6_16 e7_16 e8_16 e9_16 e10_16 e11_16 e12_16 e13_16 e14_16 e15_16; refine sRg fun K' gd hK => ?_; refine cu2 fun K1 hK1 => ?_; go_simp; refine Wcall (.inl rfl) (Lost_c exT 4 _ _ (hT.ext xs).tourV exFit (fun _ => by decide)) ?_; rintro v w10 ⟨hv, hE⟩; rw [ex_lost.1, ex_lost.2] at hv; subst hv; go_simp; refine hK1 _ _ ?_; clear hK1 K1; have z19 := Below.size hE; replace f1 := hE.fz c1_0 f1; replace f2 := hE.fz c2_0 f2; replace f6 := hE.fz c6_0 f6; replace R39 := R39.ext hE; replace xw := xw.trans hE; replace xs := xs.trans hE; replace xm := xm.trans hE; replace x9 := x9.trans hE; replace x12 := x12.trans hE; replace x14 := x14.trans hE; replace c1_0 := hE.cell c1_0; replace c1_1 := hE.cell c1_1; replace c1_2 := hE.cell c1_2; replace c2_0 := hE.cell c2_0; replace c2_1 := hE.cell c2_1; replace c2_2 := hE.cell c2_2; replace c39_0 := hE.cell c39_0; replace c39_1 := hE.cell c39_1; replace c39_2 := hE.cell c39_2; replace c6_0 := hE.cell c6_0; replace c6_1 := hE.cell c6_1; clear hE; go_simp; refine hK _ _ ?_; clear hK K' gd; refine Wp.keep [1, 2, 3, 4, 5, 6, 7, 8, 9, 10, 11, 12, 13, 14, 15, 16, 17, 18, 19] ?_; rintro r20 ⟨e1_20, e2_20, e3_20, e4_20, e5_20, e6_20, e7_20, e8_20, e9_20, e10_20, e11_20, e12_20, e13_20, e14_20, e15_20, e16_20, e17_20, e18_20, e19_20, -⟩
  simp [go_sem, e1_18, e2_18, e3_18, e4_18, e5_18, e6_18, e7_18, e8_18, e9_18, e10_18, e11_18, e12_18, e13_18, e14_18, e15_18, e16_18, e17_18] at e1_20 e2_20 e3_20 e4_20 e5_20 e6_20 e7_20 e8_20 e9_20 e10_20 e11_20 e12_20 e13_20 e14_20 e15_20 e16_20 e17_20 e18_20 e19_20; clear e1_18 e2_18 e3_18 e4_18 e5_18 e6_18 e7_18 e8_18 e9_18 e10_18 e11_18 e12_18 e13_18 e14_18 e15_18 e16_18 e17_18; refine sRg fun K' gd hK => ?_; refine cu3 fun K1 hK1 => ?_; go_simp; refine Wcall (.inl rfl) (Wider_c exT 2 0 4 _ _ (hT.ext xs).tourV exFit (fun _ => by decide)) ?_; rintro v w11 ⟨hv, hE⟩; rw [ex_wide.1, ex_wide.2] at hv; subst hv; go_simp; refine hK1 _ _ ?_; clear hK1 K1; have z21 := Below.size hE; replace f1 := hE.fz c1_0 f1; replace f2 := hE.fz c2_0 f2; replace f6 := hE.fz c6_0 f6; replace R39 := R39.ext hE; replace xw := xw.trans hE; replace xs := xs.trans hE; replace xm := xm.trans hE; replace x9 := x9.trans hE; replace x12 := x12.trans hE; replace x14 := x14.trans hE; replace c1_0 := hE.cell c1_0; replace c1_1 := hE.cell c1_1; replace c1_2 := hE.cell c1_2; replace c2_0 := hE.cell c2_0; replace c2_1 := hE.cell c2_1; replace c2_2 := hE.cell c2_2; replace c39_0 := hE.cell c39_0; replace c39_1 := hE.cell c39_1; replace c39_2 := hE.cell c39_2; replace c6_0 := hE.cell c6_0
  replace c6_1 := hE.cell c6_1; clear hE; go_simp; refine hK _ _ ?_; clear hK K' gd; refine Wp.keep [1, 2, 3, 4, 5, 6, 7, 8, 9, 10, 11, 12, 13, 14, 15, 16, 17, 18, 19, 20, 21] ?_; rintro r22 ⟨e1_22, e2_22, e3_22, e4_22, e5_22, e6_22, e7_22, e8_22, e9_22, e10_22, e11_22, e12_22, e13_22, e14_22, e15_22, e16_22, e17_22, e18_22, e19_22, e20_22, e21_22, -⟩; simp [go_sem, e1_20, e2_20, e3_20, e4_20, e5_20, e6_20, e7_20, e8_20, e9_20, e10_20, e11_20, e12_20, e13_20, e14_20, e15_20, e16_20, e17_20, e18_20, e19_20] at e1_22 e2_22 e3_22 e4_22 e5_22 e6_22 e7_22 e8_22 e9_22 e10_22 e11_22 e12_22 e13_22 e14_22 e15_22 e16_22 e17_22 e18_22 e19_22 e20_22 e21_22; clear e1_20 e2_20 e3_20 e4_20 e5_20 e6_20 e7_20 e8_20 e9_20 e10_20 e11_20 e12_20 e13_20 e14_20 e15_20 e16_20 e17_20 e18_20 e19_20; refine sRg fun K' gd hK => ?_; refine cu3 fun K1 hK1 => ?_; go_simp; refine hK1 _ _ ?_; clear hK1 K1; refine Wops.absT fun V79_10 n79 hV79_10 R79 => ?_; obtain ⟨q79, hV79_10, s79, kV79_10, f79, r79⟩ := hV79_10; try simp only [q79] at kV79_10 f79 r79 ⊢
  replace R79 := (show RowC _ _ _ _ from R79); replace f1 := hV79_10.fz c1_0 f1; replace f2 := hV79_10.fz c2_0 f2; replace f6 := hV79_10.fz c6_0 f6; replace R39 := R39.ext hV79_10; replace xw := xw.trans hV79_10; replace xs := xs.trans hV79_10; replace xm := xm.trans hV79_10; replace x9 := x9.trans hV79_10; replace x12 := x12.trans hV79_10; replace x14 := x14.trans hV79_10; replace c1_0 := hV79_10.cell c1_0; replace c1_1 := hV79_10.cell c1_1; replace c1_2 := hV79_10.cell c1_2; replace c2_0 := hV79_10.cell c2_0; replace c2_1 := hV79_10.cell c2_1; replace c2_2 := hV79_10.cell c2_2; replace c39_0 := hV79_10.cell c39_0; replace c39_1 := hV79_10.cell c39_1; replace c39_2 := hV79_10.cell c39_2; replace c6_0 := hV79_10.cell c6_0; replace c6_1 := hV79_10.cell c6_1; clear hV79_10 f79; have c79_0 := kV79_10 0 _ rfl; have c79_1 := kV79_10 1 _ rfl; have c79_2 := kV79_10 2 _ rfl; clear kV79_10; refine cu2 fun K1 hK1 => ?_; go_simp; refine hK1 _ _ ?_; clear hK1 K1; refine Wops.absT fun V81_11 n81 hV81_11 R81 => ?_; obtain ⟨q81, hV81_11, s81, kV81_11, f81, r81⟩ := hV81_11; try simp only [q81] at kV81_11 f81 r81 ⊢
  replace R81 := (show RowC _ _ _ _ from R81); replace f1 := hV81_11.fz c1_0 f1; replace f2 := hV81_11.fz c2_0 f2; replace f6 := hV81_11.fz c6_0 f6; replace R39 := R39.ext hV81_11; replace R79 := R79.ext hV81_11; replace xw := xw.trans hV81_11; replace xs := xs.trans hV81_11; replace xm := xm.trans hV81_11; replace x9 := x9.trans hV81_11; replace x12 := x12.trans hV81_11; replace x14 := x14.trans hV81_11; replace c1_0 := hV81_11.cell c1_0; replace c1_1 := hV81_11.cell c1_1; replace c1_2 := hV81_11.cell c1_2; replace c2_0 := hV81_11.cell c2_0; replace c2_1 := hV81_11.cell c2_1; replace c2_2 := hV81_11.cell c2_2; replace c39_0 := hV81_11.cell c39_0; replace c39_1 := hV81_11.cell c39_1; replace c39_2 := hV81_11.cell c39_2; replace c6_0 := hV81_11.cell c6_0; replace c6_1 := hV81_11.cell c6_1; replace c79_0 := hV81_11.cell c79_0; replace c79_1 := hV81_11.cell c79_1; replace c79_2 := hV81_11.cell c79_2; clear hV81_11 f81; have c81_0 := kV81_11 0 _ rfl; have c81_1 := kV81_11 1 _ rfl; have c81_2 := kV81_11 2 _ rfl; clear kV81_11; refine cu1 fun K1 hK1 => ?_; go_simp; refine Wcall (.inl rfl) (Spread_c exT exM [⟨8, 1, [1, 2, 3]⟩] _ _ _ _ (hT.ext xs).tourV ⟨_, _, by rw [ex_mt], (hIm.ext xm).ints, (hZm.ext xm).rowsV⟩ (taker_one R81 (rowC_ints R79 rfl rfl)) exFit (fun _ => by decide) (by intro x hx; rw [List.mem_singleton] at hx; subst hx; decide)) ?_
  rintro v w12 ⟨⟨tv, hv, hT22⟩, hE⟩; rw [ex_spread.1] at hv; subst hv; rw [ex_spread.2] at hT22; have x22 := Ext.refl w12; go_simp; refine hK1 _ _ ?_; clear hK1 K1; have z23 := Below.size hE; replace f1 := hE.fz c1_0 f1; replace f2 := hE.fz c2_0 f2; replace f6 := hE.fz c6_0 f6; replace R39 := R39.ext hE; replace R79 := R79.ext hE; replace R81 := R81.ext hE; replace xw := xw.trans hE; replace xs := xs.trans hE; replace xm := xm.trans hE; replace x9 := x9.trans hE; replace x12 := x12.trans hE; replace x14 := x14.trans hE; replace c1_0 := hE.cell c1_0; replace c1_1 := hE.cell c1_1; replace c1_2 := hE.cell c1_2; replace c2_0 := hE.cell c2_0; replace c2_1 := hE.cell c2_1; replace c2_2 := hE.cell c2_2; replace c39_0 := hE.cell c39_0; replace c39_1 := hE.cell c39_1; replace c39_2 := hE.cell c39_2; replace c6_0 := hE.cell c6_0; replace c6_1 := hE.cell c6_1; replace c79_0 := hE.cell c79_0; replace c79_1 := hE.cell c79_1; replace c79_2 := hE.cell c79_2; replace c81_0 := hE.cell c81_0; replace c81_1 := hE.cell c81_1; replace c81_2 := hE.cell c81_2; clear hE; go_simp; refine hK _ _ ?_; clear hK K' gd; refine Wp.keep [2, 3, 4, 5, 6, 7, 8, 9, 10, 11, 12, 13, 14, 15, 16, 17, 18, 19, 20, 21, 22, 23] ?_; rintro r24 ⟨e2_24, e3_24, e4_24, e5_24, e6_24, e7_24, e8_24, e9_24, e10_24, e11_24, e12_24, e13_24, e14_24, e15_24, e16_24, e17_24, e18_24, e19_24, e20_24, e21_24, e22_24, e23_24, -⟩
  simp [go_sem, e1_22, e2_22, e3_22, e4_22, e5_22, e6_22, e7_22, e8_22, e9_22, e10_22, e11_22, e12_22, e13_22, e14_22, e15_22, e16_22, e17_22, e18_22, e19_22, e20_22, e21_22] at e2_24 e3_24 e4_24 e5_24 e6_24 e7_24 e8_24 e9_24 e10_24 e11_24 e12_24 e13_24 e14_24 e15_24 e16_24 e17_24 e18_24 e19_24 e20_24 e21_24 e22_24 e23_24; clear e1_22 e2_22 e3_22 e4_22 e5_22 e6_22 e7_22 e8_22 e9_22 e10_22 e11_22 e12_22 e13_22 e14_22 e15_22 e16_22 e17_22 e18_22 e19_22 e20_22 e21_22; refine Wp.seq ?_; refine sRh fun K' gd hK hg => ?_; have g2 : gd 2 = some 87 := hg 2; have g6 : gd 6 = some 91 := hg 6; have g10 : gd 10 = some 95 := hg 10; have g14 : gd 14 = some 99 := hg 14; have g18 : gd 18 = some 103 := hg 18; have g22 : gd 22 = some 107 := hg 22; have g26 : gd 26 = some 111 := hg 26; have g30 : gd 30 = some 115 := hg 30; have g34 : gd 34 = some 119 := hg 34; clear hg; go_simp; refine hK _ _ ?_; clear hK K' gd g2 g6 g10 g14 g18 g22 g26 g30 g34; refine Wp.keep [2, 4, 6, 7, 9, 10, 12, 14, 16, 18, 20, 22, 122] ?_; rintro r25 ⟨e2_25, e4_25, e6_25, e7_25, e9_25, e10_25, e12_25, e14_25, e16_25, e18_25, e20_25, e22_25, e122_25, -⟩; simp [go_sem, e2_24, e3_24, e4_24, e5_24, e6_24, e7_24, e8_24, e9_24, e10_24, e11_24, e12_24, e13_24, e14_24, e15_24, e16_24, e17_24, e18_24, e19_24, e20_24, e21_24, e22_24, e23_24] at e2_25 e4_25 e6_25 e7_25 e9_25 e10_25 e12_25 e14_25 e16_25 e18_25 e20_25 e22_25 e122_25; clear e2_24 e3_24 e4_24 e5_24 e6_24 e7_24 e8_24 e9_24 e10_24 e11_24 e12_24 e13_24 e14_24 e15_24 e16_24 e17_24 e18_24 e19_24 e20_24 e21_24 e22_24 e23_24
  refine cFf ?_; refine skN ?_; refine sRg fun K' gd hK => ?_; refine cu1 fun K1 hK1 => ?_; go_simp; refine hK1 _ _ ?_; clear hK1 K1; refine Wops.absT fun V123_13 n123 hV123_13 R123 => ?_; obtain ⟨q123, hV123_13, s123, kV123_13, f123, r123⟩ := hV123_13; try simp only [q123] at kV123_13 f123 r123 ⊢
  replace R123 := (show RowC _ _ _ _ from R123); replace f1 := hV123_13.fz c1_0 f1; replace f2 := hV123_13.fz c2_0 f2; replace f6 := hV123_13.fz c6_0 f6; replace R39 := R39.ext hV123_13; replace R79 := R79.ext hV123_13; replace R81 := R81.ext hV123_13; replace xw := xw.trans hV123_13; replace xs := xs.trans hV123_13; replace xm := xm.trans hV123_13; replace x9 := x9.trans hV123_13; replace x12 := x12.trans hV123_13; replace x14 := x14.trans hV123_13; replace x22 := x22.trans hV123_13; replace c1_0 := hV123_13.cell c1_0; replace c1_1 := hV123_13.cell c1_1; replace c1_2 := hV123_13.cell c1_2; replace c2_0 := hV123_13.cell c2_0; replace c2_1 := hV123_13.cell c2_1; replace c2_2 := hV123_13.cell c2_2; replace c39_0 := hV123_13.cell c39_0; replace c39_1 := hV123_13.cell c39_1; replace c39_2 := hV123_13.cell c39_2; replace c6_0 := hV123_13.cell c6_0; replace c6_1 := hV123_13.cell c6_1; replace c79_0 := hV123_13.cell c79_0; replace c79_1 := hV123_13.cell c79_1; replace c79_2 := hV123_13.cell c79_2; replace c81_0 := hV123_13.cell c81_0; replace c81_1 := hV123_13.cell c81_1; replace c81_2 := hV123_13.cell c81_2; clear hV123_13 f123; have c123_0 := kV123_13 0 _ rfl; have c123_1 := kV123_13 1 _ rfl; have c123_2 := kV123_13 2 _ rfl; have c123_3 := kV123_13 3 _ rfl; clear kV123_13; go_simp; refine hK _ _ ?_; clear hK K' gd; refine Wp.keep [2, 4, 6, 7, 9, 10, 12, 14, 16, 18, 20, 22, 24] fun r26 hkeep => ?_
  obtain ⟨e2_26, e4_26, e6_26, e7_26, e9_26, e10_26, e12_26, e14_26, e16_26, e18_26, e20_26, e22_26, e24_26, -⟩ := hkeep; simp [go_sem, e2_25, e4_25, e6_25, e7_25, e9_25, e10_25, e12_25, e14_25, e16_25, e18_25, e20_25, e22_25, e122_25] at e2_26 e4_26 e6_26 e7_26 e9_26 e10_26 e12_26 e14_26 e16_26 e18_26 e20_26 e22_26 e24_26; clear e2_25 e4_25 e6_25 e7_25 e9_25 e10_25 e12_25 e14_25 e16_25 e18_25 e20_25 e22_25 e122_25; refine sRh fun K' gd hK hg => ?_; have g4 : gd 4 = some 128 := hg 4; have g9 : gd 9 = some 133 := hg 9; have g14 : gd 14 = some 138 := hg 14; have g19 : gd 19 = some 143 := hg 19; have g25 : gd 25 = some 149 := hg 25; clear hg; refine cu3 fun K1 hK1 => ?_; go_simp; refine hK1 _ _ ?_; clear hK1 K1; refine Wops.absT fun V126_14 n126 hV126_14 R126 => ?_; obtain ⟨q126, hV126_14, s126, kV126_14, f126, r126⟩ := hV126_14; try simp only [q126] at kV126_14 f126 r126 ⊢
  replace R126 := (show RowC _ _ _ _ from R126); replace f1 := hV126_14.fz c1_0 f1; replace f2 := hV126_14.fz c2_0 f2; replace f6 := hV126_14.fz c6_0 f6; replace R39 := R39.ext hV126_14; replace R79 := R79.ext hV126_14; replace R81 := R81.ext hV126_14; replace R123 := R123.ext hV126_14; replace xw := xw.trans hV126_14; replace xs := xs.trans hV126_14; replace xm := xm.trans hV126_14; replace x9 := x9.trans hV126_14; replace x12 := x12.trans hV126_14; replace x14 := x14.trans hV126_14; replace x22 := x22.trans hV126_14; replace c1_0 := hV126_14.cell c1_0; replace c1_1 := hV126_14.cell c1_1; replace c1_2 := hV126_14.cell c1_2; replace c2_0 := hV126_14.cell c2_0; replace c2_1 := hV126_14.cell c2_1; replace c2_2 := hV126_14.cell c2_2; replace c39_0 := hV126_14.cell c39_0; replace c39_1 := hV126_14.cell c39_1; replace c39_2 := hV126_14.cell c39_2; replace c6_0 := hV126_14.cell c6_0; replace c6_1 := hV126_14.cell c6_1; replace c79_0 := hV126_14.cell c79_0; replace c79_1 := hV126_14.cell c79_1; replace c79_2 := hV126_14.cell c79_2; replace c81_0 := hV126_14.cell c81_0; replace c81_1 := hV126_14.cell c81_1; replace c81_2 := hV126_14.cell c81_2; replace c123_0 := hV126_14.cell c123_0; replace c123_1 := hV126_14.cell c123_1; replace c123_2 := hV126_14.cell c123_2; replace c123_3 := hV126_14.cell c123_3; clear hV126_14 f126; have c126_0 := kV126_14 0 _ rfl; have c126_1 := kV126_14 1 _ rfl
  have c126_2 := kV126_14 2 _ rfl; have c126_3 := kV126_14 3 _ rfl; have c126_4 := kV126_14 4 _ rfl; clear kV126_14; refine cu1 fun K1 hK1 => ?_; go_simp; refine Wcall (.inl rfl) (sameI_T ex_on _ (hIm.ext xm).ints (rowC_ints R126 rfl rfl) (by rw [ex_on]; decide)) ?_; rintro v w13 ⟨rfl, hE⟩; go_simp; refine hK1 _ _ ?_; clear hK1 K1; have z27 := Below.size hE; replace f1 := hE.fz c1_0 f1; replace f2 := hE.fz c2_0 f2; replace f6 := hE.fz c6_0 f6; replace R39 := R39.ext hE; replace R79 := R79.ext hE; replace R81 := R81.ext hE; replace R123 := R123.ext hE; replace R126 := R126.ext hE; replace xw := xw.trans hE; replace xs := xs.trans hE; replace xm := xm.trans hE; replace x9 := x9.trans hE; replace x12 := x12.trans hE; replace x14 := x14.trans hE; replace x22 := x22.trans hE; replace c1_0 := hE.cell c1_0; replace c1_1 := hE.cell c1_1; replace c1_2 := hE.cell c1_2; replace c2_0 := hE.cell c2_0; replace c2_1 := hE.cell c2_1; replace c2_2 := hE.cell c2_2; replace c39_0 := hE.cell c39_0; replace c39_1 := hE.cell c39_1; replace c39_2 := hE.cell c39_2; replace c6_0 := hE.cell c6_0; replace c6_1 := hE.cell c6_1; replace c79_0 := hE.cell c79_0; replace c79_1 := hE.cell c79_1; replace c79_2 := hE.cell c79_2; replace c81_0 := hE.cell c81_0; replace c81_1 := hE.cell c81_1; replace c81_2 := hE.cell c81_2
  replace c123_0 := hE.cell c123_0; replace c123_1 := hE.cell c123_1; replace c123_2 := hE.cell c123_2; replace c123_3 := hE.cell c123_3; replace c126_0 := hE.cell c126_0; replace c126_1 := hE.cell c126_1; replace c126_2 := hE.cell c126_2; replace c126_3 := hE.cell c126_3; replace c126_4 := hE.cell c126_4; clear hE; refine cu4 fun K1 hK1 => ?_; go_simp; refine Wcall (.inl rfl) (sameI_T rfl _ (hI9.ext x9).ints (rowC_ints R123 rfl rfl) (by decide)) ?_; rintro v w14 ⟨rfl, hE⟩; go_simp; refine hK1 _ _ ?_; clear hK1 K1; have z28 := Below.size hE; replace f1 := hE.fz c1_0 f1; replace f2 := hE.fz c2_0 f2; replace f6 := hE.fz c6_0 f6; replace R39 := R39.ext hE; replace R79 := R79.ext hE; replace R81 := R81.ext hE; replace R123 := R123.ext hE; replace R126 := R126.ext hE; replace xw := xw.trans hE; replace xs := xs.trans hE; replace xm := xm.trans hE; replace x9 := x9.trans hE; replace x12 := x12.trans hE; replace x14 := x14.trans hE; replace x22 := x22.trans hE; replace c1_0 := hE.cell c1_0; replace c1_1 := hE.cell c1_1; replace c1_2 := hE.cell c1_2; replace c2_0 := hE.cell c2_0; replace c2_1 := hE.cell c2_1; replace c2_2 := hE.cell c2_2; replace c39_0 := hE.cell c39_0; replace c39_1 := hE.cell c39_1; replace c39_2 := hE.cell c39_2; replace c6_0 := hE.cell c6_0; replace c6_1 := hE.cell c6_1
  replace c79_0 := hE.cell c79_0; replace c79_1 := hE.cell c79_1; replace c79_2 := hE.cell c79_2; replace c81_0 := hE.cell c81_0; replace c81_1 := hE.cell c81_1; replace c81_2 := hE.cell c81_2; replace c123_0 := hE.cell c123_0; replace c123_1 := hE.cell c123_1; replace c123_2 := hE.cell c123_2; replace c123_3 := hE.cell c123_3; replace c126_0 := hE.cell c126_0; replace c126_1 := hE.cell c126_1; replace c126_2 := hE.cell c126_2; replace c126_3 := hE.cell c126_3; replace c126_4 := hE.cell c126_4; clear hE; refine cu5 fun K1 hK1 => ?_; go_simp; refine Wcall (.inl rfl) (sameI_T rfl _ (hI10.ext x9).ints (rowC_ints R123 rfl rfl) (by decide)) ?_; rintro v w15 ⟨rfl, hE⟩; go_simp; refine hK1 _ _ ?_; clear hK1 K1; have z29 := Below.size hE; replace f1 := hE.fz c1_0 f1; replace f2 := hE.fz c2_0 f2; replace f6 := hE.fz c6_0 f6; replace R39 := R39.ext hE; replace R79 := R79.ext hE; replace R81 := R81.ext hE; replace R123 := R123.ext hE; replace R126 := R126.ext hE; replace xw := xw.trans hE; replace xs := xs.trans hE; replace xm := xm.trans hE; replace x9 := x9.trans hE; replace x12 := x12.trans hE; replace x14 := x14.trans hE; replace x22 := x22.trans hE; replace c1_0 := hE.cell c1_0; replace c1_1 := hE.cell c1_1; replace c1_2 := hE.cell c1_2; replace c2_0 := hE.cell c2_0
  replace c2_1 := hE.cell c2_1; replace c2_2 := hE.cell c2_2; replace c39_0 := hE.cell c39_0; replace c39_1 := hE.cell c39_1; replace c39_2 := hE.cell c39_2; replace c6_0 := hE.cell c6_0; replace c6_1 := hE.cell c6_1; replace c79_0 := hE.cell c79_0; replace c79_1 := hE.cell c79_1; replace c79_2 := hE.cell c79_2; replace c81_0 := hE.cell c81_0; replace c81_1 := hE.cell c81_1; replace c81_2 := hE.cell c81_2; replace c123_0 := hE.cell c123_0; replace c123_1 := hE.cell c123_1; replace c123_2 := hE.cell c123_2; replace c123_3 := hE.cell c123_3; replace c126_0 := hE.cell c126_0; replace c126_1 := hE.cell c126_1; replace c126_2 := hE.cell c126_2; replace c126_3 := hE.cell c126_3; replace c126_4 := hE.cell c126_4; clear hE; refine cu4 fun K1 hK1 => ?_; go_simp; refine hK1 _ _ ?_; clear hK1 K1; refine Wops.absT fun V140_15 n140 hV140_15 R140 => ?_; obtain ⟨q140, hV140_15, s140, kV140_15, f140, r140⟩ := hV140_15; try simp only [q140] at kV140_15 f140 r140 ⊢
  replace R140 := (show RowC _ _ _ _ from R140); replace f1 := hV140_15.fz c1_0 f1; replace f2 := hV140_15.fz c2_0 f2; replace f6 := hV140_15.fz c6_0 f6; replace R39 := R39.ext hV140_15; replace R79 := R79.ext hV140_15; replace R81 := R81.ext hV140_15; replace R123 := R123.ext hV140_15; replace R126 := R126.ext hV140_15; replace xw := xw.trans hV140_15; replace xs := xs.trans hV140_15; replace xm := xm.trans hV140_15; replace x9 := x9.trans hV140_15; replace x12 := x12.trans hV140_15; replace x14 := x14.trans hV140_15; replace x22 := x22.trans hV140_15; replace c1_0 := hV140_15.cell c1_0; replace c1_1 := hV140_15.cell c1_1; replace c1_2 := hV140_15.cell c1_2; replace c2_0 := hV140_15.cell c2_0; replace c2_1 := hV140_15.cell c2_1; replace c2_2 := hV140_15.cell c2_2; replace c39_0 := hV140_15.cell c39_0; replace c39_1 := hV140_15.cell c39_1; replace c39_2 := hV140_15.cell c39_2; replace c6_0 := hV140_15.cell c6_0; replace c6_1 := hV140_15.cell c6_1; replace c79_0 := hV140_15.cell c79_0; replace c79_1 := hV140_15.cell c79_1; replace c79_2 := hV140_15.cell c79_2; replace c81_0 := hV140_15.cell c81_0; replace c81_1 := hV140_15.cell c81_1; replace c81_2 := hV140_15.cell c81_2; replace c123_0 := hV140_15.cell c123_0; replace c123_1 := hV140_15.cell c123_1; replace c123_2 := hV140_15.cell c123_2; replace c123_3 := hV140_15.cell c123_3; replace c126_0 := hV140_15.cell c126_0
  replace c126_1 := hV140_15.cell c126_1; replace c126_2 := hV140_15.cell c126_2; replace c126_3 := hV140_15.cell c126_3; replace c126_4 := hV140_15.cell c126_4; clear hV140_15 f140; have c140_0 := kV140_15 0 _ rfl; clear kV140_15; refine cu1 fun K1 hK1 => ?_; go_simp; refine Wcall (.inl rfl) (sameI_T rfl _ (hI12.ext x12).ints (rowC_ints R140 rfl rfl) (by decide)) ?_; rintro v w16 ⟨rfl, hE⟩; go_simp; refine hK1 _ _ ?_; clear hK1 K1; have z30 := Below.size hE; replace f1 := hE.fz c1_0 f1; replace f2 := hE.fz c2_0 f2; replace f6 := hE.fz c6_0 f6; replace R39 := R39.ext hE; replace R79 := R79.ext hE; replace R81 := R81.ext hE; replace R123 := R123.ext hE; replace R126 := R126.ext hE; replace R140 := R140.ext hE; replace xw := xw.trans hE; replace xs := xs.trans hE; replace xm := xm.trans hE; replace x9 := x9.trans hE; replace x12 := x12.trans hE; replace x14 := x14.trans hE; replace x22 := x22.trans hE; replace c1_0 := hE.cell c1_0; replace c1_1 := hE.cell c1_1; replace c1_2 := hE.cell c1_2; replace c2_0 := hE.cell c2_0; replace c2_1 := hE.cell c2_1; replace c2_2 := hE.cell c2_2; replace c39_0 := hE.cell c39_0; replace c39_1 := hE.cell c39_1; replace c39_2 := hE.cell c39_2; replace c6_0 := hE.cell c6_0; replace c6_1 := hE.cell c6_1; replace c79_0 := hE.cell c79_0; replace c79_1 := hE.cell c79_1
  replace c79_2 := hE.cell c79_2; replace c81_0 := hE.cell c81_0; replace c81_1 := hE.cell c81_1; replace c81_2 := hE.cell c81_2; replace c123_0 := hE.cell c123_0; replace c123_1 := hE.cell c123_1; replace c123_2 := hE.cell c123_2; replace c123_3 := hE.cell c123_3; replace c126_0 := hE.cell c126_0; replace c126_1 := hE.cell c126_1; replace c126_2 := hE.cell c126_2; replace c126_3 := hE.cell c126_3; replace c126_4 := hE.cell c126_4; replace c140_0 := hE.cell c140_0; clear hE; refine cu6 fun K1 hK1 => ?_; go_simp; refine Wcall (.inl rfl) (sameI_T ex_on.symm _ (hI14.ext x14).ints (hIm.ext xm).ints (by decide)) ?_; rintro v w17 ⟨rfl, hE⟩; go_simp; refine hK1 _ _ ?_; clear hK1 K1; have z31 := Below.size hE; replace f1 := hE.fz c1_0 f1; replace f2 := hE.fz c2_0 f2; replace f6 := hE.fz c6_0 f6; replace R39 := R39.ext hE; replace R79 := R79.ext hE; replace R81 := R81.ext hE; replace R123 := R123.ext hE; replace R126 := R126.ext hE; replace R140 := R140.ext hE; replace xw := xw.trans hE; replace xs := xs.trans hE; replace xm := xm.trans hE; replace x9 := x9.trans hE; replace x12 := x12.trans hE; replace x14 := x14.trans hE; replace x22 := x22.trans hE; replace c1_0 := hE.cell c1_0; replace c1_1 := hE.cell c1_1; replace c1_2 := hE.cell c1_2; replace c2_0 := hE.cell c2_0; replace c2_1 := hE.cell c2_1
  replace c2_2 := hE.cell c2_2; replace c39_0 := hE.cell c39_0; replace c39_1 := hE.cell c39_1; replace c39_2 := hE.cell c39_2; replace c6_0 := hE.cell c6_0; replace c6_1 := hE.cell c6_1; replace c79_0 := hE.cell c79_0; replace c79_1 := hE.cell c79_1; replace c79_2 := hE.cell c79_2; replace c81_0 := hE.cell c81_0; replace c81_1 := hE.cell c81_1; replace c81_2 := hE.cell c81_2; replace c123_0 := hE.cell c123_0; replace c123_1 := hE.cell c123_1; replace c123_2 := hE.cell c123_2; replace c123_3 := hE.cell c123_3; replace c126_0 := hE.cell c126_0; replace c126_1 := hE.cell c126_1; replace c126_2 := hE.cell c126_2; replace c126_3 := hE.cell c126_3; replace c126_4 := hE.cell c126_4; replace c140_0 := hE.cell c140_0; clear hE; refine cu4 fun K1 hK1 => ?_; go_simp; refine hK1 _ _ ?_; clear hK1 K1; refine Wops.absT fun V151_16 n151 hV151_16 R151 => ?_; obtain ⟨q151, hV151_16, s151, kV151_16, f151, r151⟩ := hV151_16; try simp only [q151] at kV151_16 f151 r151 ⊢
  replace R151 := (show RowC _ _ _ _ from R151); replace f1 := hV151_16.fz c1_0 f1; replace f2 := hV151_16.fz c2_0 f2; replace f6 := hV151_16.fz c6_0 f6; replace R39 := R39.ext hV151_16; replace R79 := R79.ext hV151_16; replace R81 := R81.ext hV151_16; replace R123 := R123.ext hV151_16; replace R126 := R126.ext hV151_16; replace R140 := R140.ext hV151_16; replace xw := xw.trans hV151_16; replace xs := xs.trans hV151_16; replace xm := xm.trans hV151_16; replace x9 := x9.trans hV151_16; replace x12 := x12.trans hV151_16; replace x14 := x14.trans hV151_16; replace x22 := x22.trans hV151_16; replace c1_0 := hV151_16.cell c1_0; replace c1_1 := hV151_16.cell c1_1; replace c1_2 := hV151_16.cell c1_2; replace c2_0 := hV151_16.cell c2_0; replace c2_1 := hV151_16.cell c2_1; replace c2_2 := hV151_16.cell c2_2; replace c39_0 := hV151_16.cell c39_0; replace c39_1 := hV151_16.cell c39_1; replace c39_2 := hV151_16.cell c39_2; replace c6_0 := hV151_16.cell c6_0; replace c6_1 := hV151_16.cell c6_1; replace c79_0 := hV151_16.cell c79_0; replace c79_1 := hV151_16.cell c79_1; replace c79_2 := hV151_16.cell c79_2; replace c81_0 := hV151_16.cell c81_0; replace c81_1 := hV151_16.cell c81_1; replace c81_2 := hV151_16.cell c81_2; replace c123_0 := hV151_16.cell c123_0; replace c123_1 := hV151_16.cell c123_1; replace c123_2 := hV151_16.cell c123_2; replace c123_3 := hV151_16.cell c123_3
  replace c126_0 := hV151_16.cell c126_0; replace c126_1 := hV151_16.cell c126_1; replace c126_2 := hV151_16.cell c126_2; replace c126_3 := hV151_16.cell c126_3; replace c126_4 := hV151_16.cell c126_4; replace c140_0 := hV151_16.cell c140_0; clear hV151_16 f151; have c151_0 := kV151_16 0 _ rfl; have c151_1 := kV151_16 1 _ rfl; clear kV151_16; refine cu1 fun K1 hK1 => ?_; go_simp; refine hK1 _ _ ?_; clear hK1 K1; refine Wops.absT fun V152_17 n152 hV152_17 R152 => ?_; obtain ⟨q152, hV152_17, s152, kV152_17, f152, r152⟩ := hV152_17; try simp only [q152] at kV152_17 f152 r152 ⊢
  replace R152 := (show RowC _ _ _ _ from R152); replace f1 := hV152_17.fz c1_0 f1; replace f2 := hV152_17.fz c2_0 f2; replace f6 := hV152_17.fz c6_0 f6; replace R39 := R39.ext hV152_17; replace R79 := R79.ext hV152_17; replace R81 := R81.ext hV152_17; replace R123 := R123.ext hV152_17; replace R126 := R126.ext hV152_17; replace R140 := R140.ext hV152_17; replace R151 := R151.ext hV152_17; replace xw := xw.trans hV152_17; replace xs := xs.trans hV152_17; replace xm := xm.trans hV152_17; replace x9 := x9.trans hV152_17; replace x12 := x12.trans hV152_17; replace x14 := x14.trans hV152_17; replace x22 := x22.trans hV152_17; replace c1_0 := hV152_17.cell c1_0; replace c1_1 := hV152_17.cell c1_1; replace c1_2 := hV152_17.cell c1_2; replace c2_0 := hV152_17.cell c2_0; replace c2_1 := hV152_17.cell c2_1; replace c2_2 := hV152_17.cell c2_2; replace c39_0 := hV152_17.cell c39_0; replace c39_1 := hV152_17.cell c39_1; replace c39_2 := hV152_17.cell c39_2; replace c6_0 := hV152_17.cell c6_0; replace c6_1 := hV152_17.cell c6_1; replace c79_0 := hV152_17.cell c79_0; replace c79_1 := hV152_17.cell c79_1; replace c79_2 := hV152_17.cell c79_2; replace c81_0 := hV152_17.cell c81_0; replace c81_1 := hV152_17.cell c81_1; replace c81_2 := hV152_17.cell c81_2; replace c123_0 := hV152_17.cell c123_0; replace c123_1 := hV152_17.cell c123_1; replace c123_2 := hV152_17.cell c123_2; replace c123_3 := hV152_17.cell c123_3
  replace c126_0 := hV152_17.cell c126_0; replace c126_1 := hV152_17.cell c126_1; replace c126_2 := hV152_17.cell c126_2; replace c126_3 := hV152_17.cell c126_3; replace c126_4 := hV152_17.cell c126_4; replace c140_0 := hV152_17.cell c140_0; replace c151_0 := hV152_17.cell c151_0; replace c151_1 := hV152_17.cell c151_1; clear hV152_17 f152; have c152_0 := kV152_17 0 _ rfl; clear kV152_17; refine cu1 fun K1 hK1 => ?_; go_simp; refine Wcall (.inl rfl) (sameLi_T rfl _ (hT22.ext x22).listsV (list_one R152 (rowC_ints R151 rfl rfl)) (by decide) (by decide)) ?_; rintro v w18 ⟨rfl, hE⟩; go_simp; refine hK1 _ _ ?_; clear hK1 K1; have z32 := Below.size hE; replace f1 := hE.fz c1_0 f1; replace f2 := hE.fz c2_0 f2; replace f6 := hE.fz c6_0 f6; replace R39 := R39.ext hE; replace R79 := R79.ext hE; replace R81 := R81.ext hE; replace R123 := R123.ext hE; replace R126 := R126.ext hE; replace R140 := R140.ext hE; replace R151 := R151.ext hE; replace R152 := R152.ext hE; replace xw := xw.trans hE; replace xs := xs.trans hE; replace xm := xm.trans hE; replace x9 := x9.trans hE; replace x12 := x12.trans hE; replace x14 := x14.trans hE; replace x22 := x22.trans hE; replace c1_0 := hE.cell c1_0; replace c1_1 := hE.cell c1_1; replace c1_2 := hE.cell c1_2; replace c2_0 := hE.cell c2_0; replace c2_1 := hE.cell c2_1
  replace c2_2 := hE.cell c2_2; replace c39_0 := hE.cell c39_0; replace c39_1 := hE.cell c39_1; replace c39_2 := hE.cell c39_2; replace c6_0 := hE.cell c6_0; replace c6_1 := hE.cell c6_1; replace c79_0 := hE.cell c79_0; replace c79_1 := hE.cell c79_1; replace c79_2 := hE.cell c79_2; replace c81_0 := hE.cell c81_0; replace c81_1 := hE.cell c81_1; replace c81_2 := hE.cell c81_2; replace c123_0 := hE.cell c123_0; replace c123_1 := hE.cell c123_1; replace c123_2 := hE.cell c123_2; replace c123_3 := hE.cell c123_3; replace c126_0 := hE.cell c126_0; replace c126_1 := hE.cell c126_1; replace c126_2 := hE.cell c126_2; replace c126_3 := hE.cell c126_3; replace c126_4 := hE.cell c126_4; replace c140_0 := hE.cell c140_0; replace c151_0 := hE.cell c151_0; replace c151_1 := hE.cell c151_1; replace c152_0 := hE.cell c152_0; clear hE; go_simp; refine hK _ _ ?_; clear hK K' gd g4 g9 g14 g19 g25; refine Wp.keep [2, 4, 6, 7, 16, 18, 20, 25] ?_; rintro r33 ⟨e2_33, e4_33, e6_33, e7_33, e16_33, e18_33, e20_33, e25_33, -⟩; simp [go_sem, e2_26, e4_26, e6_26, e7_26, e9_26, e10_26, e12_26, e14_26, e16_26, e18_26, e20_26, e22_26, e24_26] at e2_33 e4_33 e6_33 e7_33 e16_33 e18_33 e20_33 e25_33; clear e2_26 e4_26 e6_26 e7_26 e9_26 e10_26 e12_26 e14_26 e16_26 e18_26 e20_26 e22_26 e24_26; refine sRh fun K' gd hK hg => ?_; have g1 : gd 1 = some 156 := hg 1
  have g6 : gd 6 = some 161 := hg 6; have g10 : gd 10 = some 165 := hg 10; have g13 : gd 13 = some 168 := hg 13; have g18 : gd 18 = some 173 := hg 18; have g22 : gd 22 = some 177 := hg 22; have g26 : gd 26 = some 181 := hg 26; clear hg; go_simp; refine hK _ _ ?_; clear hK K' gd g1 g6 g10 g13 g18 g22 g26; refine Wp.keep [0] ?_; rintro r34 ⟨e0_34, -⟩; simp [go_sem, e2_33, e4_33, e6_33, e7_33, e16_33, e18_33, e20_33, e25_33] at e0_34; clear e2_33 e4_33 e6_33 e7_33 e16_33 e18_33 e20_33 e25_33; refine Wp.ret ?_; refine endK_tmp Try.results8 (by decide) ?_; rw [e0_34]; exact ⟨by first | rfl | go_simp, xw⟩
theorem mod_nat2 {a : Int} {n : Nat} (ha : 0 ≤ a) (hn : 0 < n) : ∃ s : Nat, a.tmod (n : Int) = (s : Int) ∧ s < n := by
  refine ⟨(a % n).toNat, ?_, ?_⟩
  · rw [Int.tmod_eq_emod_of_nonneg ha]; have := Int.emod_nonneg a (show (n : Int) ≠ 0 by omega); omega
  · have := Int.emod_lt_of_pos a (show (0 : Int) < n by omega); have := Int.emod_nonneg a (show (n : Int) ≠ 0 by omega); omega
theorem few_len {t : Tr} (hf : fewT t) (h0 : checkT t = 0) : t.fl.length ≤ 12 := by
  have := (checkT_zero.1 h0).fl; have := hf.2; omega
theorem few_fit {t : Tr} (hf : fewT t) : FitT t := ⟨by have := hf.1; omega, by have := hf.2; omega⟩
theorem IntsB.intsS {w : World} {base : Nat} {v : Value} {xs : List Int} (h : IntsB w base v xs) : IntsS w w.heap.size v xs := ⟨h.ints⟩
end Go.Proofs.Ytnklbepeoicgpaa
namespace Go.Proofs.Ytnklbepeoicgpaa
theorem cntN_le_one {h : Nat → Int} {j : Int} : ∀ {n : Nat}, (∀ d e, d < n → e < n → h d = j → h e = j → d = e) → cntN h j n ≤ 1
  | 0, _ => by show (0 : Int) ≤ 1; decide
  | n + 1, q => by
    rw [cntN_S]
    by_cases e : h n = j
    · rw [if_pos e, cntN_of_zero fun d hd hj => by have := q d n (by omega) (by omega) hj e; omega]; decide
    · rw [if_neg e, Int.add_zero]; exact cntN_le_one fun d e hd he => q d e (by omega) (by omega)
section
variable {N N' : Int → List Nat} {n m m' i d : Nat} {W W' : Int → Int} {v v' : Int} {g p : Nat → Int}
theorem OkP.inj (h : OkP N n m g) {d e : Nat} (hd : d < n) (he : e < n) (h0 : 0 ≤ g d) (q : g d = g e) : d = e := by
  obtain ⟨j, hj⟩ : ∃ j : Nat, g d = (j : Int) := ⟨(g d).toNat, by omega⟩; exact cntN_two (h.one j) hd he hj (by omega)
theorem OkP.of (lt : ∀ d, -1 ≤ p d ∧ p d < m) (day : ∀ d, d < n → 0 ≤ p d → d ∈ N (p d)) (inj : ∀ d e, d < n → e < n → 0 ≤ p d → p d = p e → d = e) : OkP N n m p :=
  ⟨lt, day, fun j => cntN_le_one fun d e hd he h1 h2 => inj d e hd he (by omega) (by omega)⟩
theorem OkP.sub (h : OkP N n m g) (hN : ∀ d, d < n → 0 ≤ g d → d ∈ N (g d) → d ∈ N' (g d)) : OkP N' n m g := ⟨h.lt, fun d hd h0 => hN d hd h0 (h.day d hd h0), h.one⟩
theorem OkP.at' (h : OkP N n m g) {d : Nat} (h0 : 0 ≤ g d) : ∃ j : Nat, g d = (j : Int) ∧ j < m := ⟨(g d).toNat, by omega, by have := (h.lt d).2; omega⟩
theorem worth_eq (n : Nat) (h : ∀ d, d < n → (0 ≤ g d ↔ 0 ≤ p d) ∧ (0 ≤ g d → W (g d) = W' (p d))) : worthW W g n = worthW W' p n := sumN_eq n fun d hd => by
  obtain ⟨h1, h2⟩ := h d hd
  by_cases h0 : 0 ≤ g d
  · rw [if_pos h0, if_pos (h1.1 h0), h2 h0]
  · rw [if_neg h0, if_neg fun q => h0 (h1.2 q)]
theorem worth_W (n : Nat) (h : ∀ d, d < n → 0 ≤ g d → W (g d) ≤ W' (g d)) : worthW W g n ≤ worthW W' g n := sumN_le n fun d hd => by
  by_cases h0 : 0 ≤ g d
  · rw [if_pos h0, if_pos h0]; exact h d hd h0
  · rw [if_neg h0, if_neg h0]; exact Int.le_refl _
theorem worth_no : ∀ n, worthW W noPlan n = 0
  | 0 => rfl
  | n + 1 => by show worthW W noPlan n + _ = 0; rw [worth_no n]; rfl
theorem worth_upd {x : Int} : ∀ {n : Nat}, d < n → worthW W (updI g d x) n = worthW W g n - (if 0 ≤ g d then W (g d) else 0) + if 0 ≤ x then W x else 0
  | 0, hd => absurd hd (Nat.not_lt_zero _)
  | n + 1, hd => by
    show worthW W (updI g d x) n + (if 0 ≤ updI g d x n then W (updI g d x n) else 0) = worthW W g n + (if 0 ≤ g n then W (g n) else 0) - _ + _
    by_cases e : n = d
    · subst e; have : worthW W (updI g n x) n = worthW W g n := sumN_eq n fun d hd => by have e : updI g n x d = g d := if_neg (show ¬ d = n by omega); rw [e]
      rw [this]; have e : updI g n x n = x := if_pos rfl; rw [e]; omega
    · rw [worth_upd (n := n) (by omega)]; have e : updI g d x n = g n := if_neg e; rw [e]; omega
structure IsOpt (N : Int → List Nat) (n m : Nat) (W : Int → Int) (v : Int) : Prop where
  ex : ∃ h, OkP N n m h ∧ worthW W h n = v
  le : ∀ g, OkP N n m g → worthW W g n ≤ v
theorem IsOpt.eq (h : IsOpt N n m W v) (h' : IsOpt N n m W v') : v = v' := by
  obtain ⟨g, g1, g2⟩ := h.ex; obtain ⟨k, k1, k2⟩ := h'.ex; have := h.le k k1; have := h'.le g g1; omega
theorem IsOpt.pos (h : IsOpt N n m W v) : 0 ≤ v := by
  have := h.le noPlan noPlan_ok
  rwa [worth_no] at this
theorem IsOpt.congr (h : IsOpt N n m W v) (hN : ∀ j : Nat, j < m → ∀ d, d < n → (d ∈ N j ↔ d ∈ N' j)) (hW : ∀ j : Nat, j < m → W j = W' j) : IsOpt N' n m W' v := by
  have e : ∀ g, OkP N n m g → worthW W g n = worthW W' g n := fun g hg => worth_eq n fun d hd => ⟨Iff.rfl, fun h0 => by
    obtain ⟨j, hj, hjm⟩ := hg.at' h0
    rw [hj]; exact hW j hjm⟩
  have s : ∀ g, OkP N' n m g → OkP N n m g := fun g hg => hg.sub fun d hd h0 hm => by
    obtain ⟨j, hj, hjm⟩ := hg.at' h0; rw [hj] at hm ⊢; exact (hN j hjm d hd).2 hm
  obtain ⟨g, g1, g2⟩ := h.ex
  exact ⟨⟨g, g1.sub fun d hd h0 hm => by
    obtain ⟨j, hj, hjm⟩ := g1.at' h0
    rw [hj] at hm ⊢; exact (hN j hjm d hd).1 hm, by rw [← e g g1]; exact g2⟩, fun k hk => by rw [← e k (s k hk)]; exact h.le k (s k hk)⟩
theorem IsOpt.mono (h : IsOpt N n m W v) (h' : IsOpt N' n m W' v') (hN : ∀ j : Nat, j < m → ∀ d, d < n → d ∈ N j → d ∈ N' j) (hW : ∀ j : Nat, j < m → W j ≤ W' j) : v ≤ v' := by
  obtain ⟨g, g1, g2⟩ := h.ex
  have q := h'.le g (g1.sub fun d hd h0 hm => by
    obtain ⟨j, hj, hjm⟩ := g1.at' h0
    rw [hj] at hm ⊢; exact hN j hjm d hd hm)
  have := worth_W (W := W) (W' := W') (g := g) n fun d hd h0 => by
    obtain ⟨j, hj, hjm⟩ := g1.at' h0; rw [hj]; exact hW j hjm
  omega
theorem IsOpt.emb {f : Nat → Nat} (finj : ∀ a b, a < m' → b < m' → f a = f b → a = b) (flt : ∀ a, a < m' → f a < m) (fN : ∀ a : Nat, a < m' → ∀ d, d < n → (d ∈ N' a ↔ d ∈ N (f a : Nat))) (fW : ∀ a : Nat, a < m' → W' a = W (f a : Nat))
    (hout : ∀ j : Nat, j < m → (∀ a, a < m' → f a ≠ j) → N j = []) (h : IsOpt N' n m' W' v) : IsOpt N n m W v := by
  refine ⟨?_, fun g hg => ?_⟩
  · obtain ⟨g, g1, g2⟩ := h.ex
    let p : Nat → Int := fun d => if 0 ≤ g d then (f (g d).toNat : Nat) else -1
    have key : ∀ d, 0 ≤ g d → ∃ a : Nat, g d = (a : Int) ∧ a < m' ∧ p d = (f a : Nat) := fun d h0 => by
      obtain ⟨a, ha, ham⟩ := g1.at' h0; refine ⟨a, ha, ham, ?_⟩
      show (if 0 ≤ g d then ((f (g d).toNat : Nat) : Int) else -1) = _
      rw [if_pos h0, ha, Int.toNat_natCast]
    have no : ∀ d, ¬ 0 ≤ g d → p d = -1 := fun d h0 => if_neg h0
    have bk : ∀ d, 0 ≤ p d → 0 ≤ g d := fun d h => by
      by_cases h0 : 0 ≤ g d
      · exact h0
      · have := no d h0; omega
    refine ⟨p, OkP.of (fun d => ?_) (fun d hd h0 => ?_) (fun d e hd he h0 q => ?_), ?_⟩
    · by_cases h0 : 0 ≤ g d
      · obtain ⟨a, -, ham, e⟩ := key d h0; have := flt a ham; omega
      · have := no d h0; omega
    · obtain ⟨a, ea, ham, e⟩ := key d (bk d h0); rw [e]; have := g1.day d hd (bk d h0); rw [ea] at this; exact (fN a ham d hd).1 this
    · obtain ⟨a, ea, ham, e1⟩ := key d (bk d h0); obtain ⟨b, eb, hbm, e2⟩ := key e (bk e (by omega)); have := finj a b ham hbm (by omega); subst this; exact g1.inj hd he (by omega) (by omega)
    · rw [← g2]; refine (worth_eq n fun d hd => ⟨⟨fun h0 => ?_, bk d⟩, fun h0 => ?_⟩).symm
      · obtain ⟨a, -, -, e⟩ := key d h0; omega
      · obtain ⟨a, ea, ham, e⟩ := key d h0; rw [ea, e]; exact fW a ham
  · have ch : ∀ d : Nat, ∃ x : Int, (d < n ∧ 0 ≤ g d ∧ ∃ a : Nat, a < m' ∧ x = a ∧ g d = (f a : Nat)) ∨ (¬ (d < n ∧ 0 ≤ g d) ∧ x = -1) := fun d => by
      by_cases h0 : d < n ∧ 0 ≤ g d
      · obtain ⟨j, hj, hjm⟩ := hg.at' h0.2
        by_cases hex : ∃ a, a < m' ∧ f a = j
        · obtain ⟨a, ha, rfl⟩ := hex; exact ⟨a, .inl ⟨h0.1, h0.2, a, ha, rfl, hj⟩⟩
        · exfalso
          have := hg.day d h0.1 h0.2; rw [hj, hout j hjm fun a ha e => hex ⟨a, ha, e⟩] at this
          cases this
      · exact ⟨-1, .inr ⟨h0, rfl⟩⟩
    obtain ⟨p, hp⟩ := Classical.axiomOfChoice ch
    have q := h.le p (OkP.of (fun d => by
      rcases hp d with ⟨-, -, a, ha, e, -⟩ | ⟨-, e⟩ <;> omega) (fun d hd h0 => by
      rcases hp d with ⟨-, h1, a, ha, e, e2⟩ | ⟨-, e⟩
      · rw [e]; have := hg.day d hd h1; rw [e2] at this; exact (fN a ha d hd).2 this
      · omega) (fun d e hd he h0 q => by
      rcases hp d with ⟨-, h1, a, ha, e1, e2⟩ | ⟨-, e1⟩
      · rcases hp e with ⟨-, h1', b, hb, e1', e2'⟩ | ⟨-, e1'⟩
        · obtain rfl : a = b := by omega
          exact hg.inj hd he h1 (by omega)
        · omega
      · omega))
    have e : worthW W g n = worthW W' p n := worth_eq n fun d hd => by
      rcases hp d with ⟨-, h1, a, ha, e1, e2⟩ | ⟨h1, e1⟩
      · refine ⟨⟨fun _ => by omega, fun _ => h1⟩, fun _ => ?_⟩; rw [e1, e2]; exact (fW a ha).symm
      · exact ⟨⟨fun h0 => absurd ⟨hd, h0⟩ h1, fun h0 => by omega⟩, fun h0 => absurd ⟨hd, h0⟩ h1⟩
    omega
def shutN (N : Int → List Nat) (d : Nat) : Int → List Nat := fun j => (N j).filter fun e => !decide (e = d)
def dropN (N : Int → List Nat) (i : Int) : Int → List Nat := fun j => if j = i then [] else N j
theorem shutN_mem {N : Int → List Nat} {d e : Nat} {j : Int} : e ∈ shutN N d j ↔ e ∈ N j ∧ e ≠ d := by unfold shutN; rw [List.mem_filter]; simp
theorem dropN_mem {N : Int → List Nat} {i j : Int} {e : Nat} : e ∈ dropN N i j ↔ j ≠ i ∧ e ∈ N j := by
  unfold dropN
  by_cases q : j = i
  · rw [if_pos q]; simp [q]
  · rw [if_neg q]; simp [q]
theorem updI_cases (g : Nat → Int) (d : Nat) (x : Int) (e : Nat) : (e = d ∧ updI g d x e = x) ∨ (e ≠ d ∧ updI g d x e = g e) := by
  by_cases q : e = d
  · exact .inl ⟨q, if_pos q⟩
  · exact .inr ⟨q, if_neg q⟩
theorem OkP.free (h : OkP N n m g) (d : Nat) : OkP (shutN N d) n m (updI g d (-1)) := by
  refine OkP.of (fun e => ?_) (fun e he h0 => ?_) (fun e k he hk h0 q => ?_)
  · rcases updI_cases g d (-1) e with ⟨-, e1⟩ | ⟨-, e1⟩ <;> rw [e1]
    · omega
    · exact h.lt e
  · rcases updI_cases g d (-1) e with ⟨-, e1⟩ | ⟨ne, e1⟩ <;> rw [e1] at h0 ⊢
    · omega
    · exact shutN_mem.2 ⟨h.day e he h0, ne⟩
  · rcases updI_cases g d (-1) e with ⟨-, e1⟩ | ⟨ne, e1⟩ <;> rw [e1] at h0 q
    · omega
    · rcases updI_cases g d (-1) k with ⟨-, e2⟩ | ⟨nk, e2⟩ <;> rw [e2] at q
      · omega
      · exact h.inj he hk h0 q
theorem IsOpt.shut (h : IsOpt N n m W v) (h' : IsOpt (shutN N d) n m W v') (hd : d < n) {c : Int} (hW : ∀ j : Nat, j < m → W j ≤ c) (hc : 0 ≤ c) : v' ≤ v ∧ v ≤ v' + c := by
  refine ⟨h'.mono h (fun j _ e _ hm => (shutN_mem.1 hm).1) fun _ _ => Int.le_refl _, ?_⟩; obtain ⟨g, g1, g2⟩ := h.ex; have q := h'.le _ (g1.free d); rw [worth_upd hd, if_neg (show ¬ (0 : Int) ≤ -1 by decide)] at q
  by_cases h0 : 0 ≤ g d
  · rw [if_pos h0] at q; obtain ⟨j, hj, hjm⟩ := g1.at' h0; rw [hj] at q; have := hW j hjm; omega
  · rw [if_neg h0] at q; omega
theorem IsOpt.fix (h' : IsOpt (shutN (dropN N i) d) n m W v') (hi : i < m) (hd : d < n) (hdN : d ∈ N i) :
    (∀ g, OkP N n m g → g d = (i : Int) → worthW W g n ≤ W i + v') ∧ ∃ g, OkP N n m g ∧ g d = (i : Int) ∧ worthW W g n = W i + v' := by
  constructor
  · intro g hg e
    have q := h'.le (updI g d (-1)) ((hg.free d).sub fun k hk h0 hm => by
      rcases updI_cases g d (-1) k with ⟨-, e1⟩ | ⟨ne, e1⟩ <;> rw [e1] at h0 hm ⊢
      · omega
      · obtain ⟨h1, h2⟩ := shutN_mem.1 hm
        exact shutN_mem.2 ⟨dropN_mem.2 ⟨fun q => ne (hg.inj hk hd h0 (by omega)), h1⟩, h2⟩)
    rw [worth_upd hd, if_neg (show ¬ (0 : Int) ≤ -1 by decide), e, if_pos (Int.natCast_nonneg i)] at q; omega
  · obtain ⟨g, g1, g2⟩ := h'.ex; have hgd : ¬ 0 ≤ g d := fun h0 => (shutN_mem.1 (g1.day d hd h0)).2 rfl; refine ⟨updI g d i, OkP.of (fun e => ?_) (fun e he h0 => ?_) (fun e k he hk h0 q => ?_), if_pos rfl, ?_⟩
    · rcases updI_cases g d i e with ⟨-, e1⟩ | ⟨-, e1⟩ <;> rw [e1]
      · omega
      · exact g1.lt e
    · rcases updI_cases g d i e with ⟨e0, e1⟩ | ⟨ne, e1⟩ <;> rw [e1] at h0 ⊢
      · rw [e0]; exact hdN
      · exact (dropN_mem.1 (shutN_mem.1 (g1.day e he h0)).1).2
    · rcases updI_cases g d i e with ⟨e0, e1⟩ | ⟨ne, e1⟩ <;> rw [e1] at h0 q
      · rcases updI_cases g d i k with ⟨k0, e2⟩ | ⟨nk, e2⟩ <;> rw [e2] at q
        · omega
        · exact absurd q.symm (dropN_mem.1 (shutN_mem.1 (g1.day k hk (by omega))).1).1
      · rcases updI_cases g d i k with ⟨k0, e2⟩ | ⟨nk, e2⟩ <;> rw [e2] at q
        · exact absurd q (dropN_mem.1 (shutN_mem.1 (g1.day e he h0)).1).1
        · exact g1.inj he hk h0 q
    · rw [worth_upd hd, if_neg hgd, if_pos (Int.natCast_nonneg i), g2]; omega
theorem IsOpt.day_iff (h : IsOpt N n m W v) (h' : IsOpt (shutN (dropN N i) d) n m W v') (hi : i < m) (hd : d < n) (hdN : d ∈ N i) :
    W i + v' ≤ v ∧ (W i + v' = v ↔ ∃ g, OkP N n m g ∧ worthW W g n = v ∧ g d = (i : Int)) := by
  obtain ⟨h1, g, g1, g2, g3⟩ := h'.fix hi hd hdN; have := h.le g g1; refine ⟨by omega, fun e => ⟨g, g1, by omega, g2⟩, ?_⟩; rintro ⟨k, k1, k2, k3⟩; have := h1 k k1 k3; omega
theorem IsOpt.drop (h : IsOpt N n m W v) (h' : IsOpt (dropN N i) n m W v') : v' ≤ v ∧ (v' < v ↔ ∀ g, OkP N n m g → worthW W g n = v → cntN g i n ≠ 0) := by
  have hle : v' ≤ v := h'.mono h (fun j _ e _ hm => (dropN_mem.1 hm).2) fun _ _ => Int.le_refl _; refine ⟨hle, fun hlt g hg e hz => ?_, fun hall => ?_⟩
  · have := h'.le g (hg.sub fun d hd h0 hm => dropN_mem.2 ⟨cntN_zero hz d hd, hm⟩); omega
  · obtain ⟨g, g1, g2⟩ := h'.ex; have ok : OkP N n m g := g1.sub fun d _ _ hm => (dropN_mem.1 hm).2
    by_cases e : v' = v
    · exact absurd (cntN_of_zero fun d hd q => by
        have := g1.day d hd (by omega)
        exact (dropN_mem.1 this).1 q) (hall g ok (by omega))
    · omega
theorem IsOpt.split {N1 N2 : Int → List Nat} {v1 v2 : Int} (h : IsOpt N n m W v) (h1 : IsOpt N1 n m W v1) (h2 : IsOpt N2 n m W v2) (hW : ∀ j : Nat, j < m → 0 ≤ W j)
    (hs : ∀ j : Nat, j < m → (∀ d, d ∈ N j → d ∈ N1 j) ∨ (∀ d, d ∈ N j → d ∈ N2 j)) : v ≤ v1 + v2 := by
  obtain ⟨g, g1, g2⟩ := h.ex
  let P : Nat → Prop := fun d => 0 ≤ g d ∧ ∀ e, e ∈ N (g d) → e ∈ N1 (g d)
  have ch : ∀ d : Nat, ∃ x : Int × Int, (P d ∧ x = (g d, -1)) ∨ (¬ P d ∧ x = (-1, g d)) := fun d => by
    by_cases h0 : P d
    · exact ⟨_, .inl ⟨h0, rfl⟩⟩
    · exact ⟨_, .inr ⟨h0, rfl⟩⟩
  obtain ⟨p, hp⟩ := Classical.axiomOfChoice ch
  have q1 := h1.le (fun d => (p d).1) (OkP.of (fun d => by
    have := g1.lt d
    rcases hp d with ⟨-, e⟩ | ⟨-, e⟩ <;> rw [e] <;> show -1 ≤ _ ∧ _ <;> dsimp only <;> omega) (fun d hd h0 => by
    rcases hp d with ⟨hP, e⟩ | ⟨-, e⟩ <;> rw [e] at h0 ⊢
    · exact hP.2 d (g1.day d hd hP.1)
    · exact absurd h0 (by dsimp only; omega)) (fun d e hd he h0 q => by
    rcases hp d with ⟨hP, e1⟩ | ⟨-, e1⟩ <;> rw [e1] at h0 q
    · rcases hp e with ⟨hP', e2⟩ | ⟨-, e2⟩ <;> rw [e2] at q
      · exact g1.inj hd he hP.1 q
      · have q : g d = -1 := q; have := hP.1; omega
    · exact absurd h0 (by dsimp only; omega)))
  have q2 := h2.le (fun d => (p d).2) (OkP.of (fun d => by
    have := g1.lt d
    rcases hp d with ⟨-, e⟩ | ⟨-, e⟩ <;> rw [e] <;> show -1 ≤ _ ∧ _ <;> dsimp only <;> omega) (fun d hd h0 => by
    rcases hp d with ⟨-, e⟩ | ⟨hP, e⟩ <;> rw [e] at h0 ⊢
    · exact absurd h0 (by dsimp only; omega)
    · have h0 : 0 ≤ g d := h0; obtain ⟨j, hj, hjm⟩ := g1.at' h0; have hd2 := g1.day d hd h0
      show d ∈ N2 (g d)
      rcases hs j hjm with q | q
      · exact absurd ⟨h0, by rw [hj]; exact q⟩ hP
      · rw [hj] at hd2 ⊢; exact q d hd2) (fun d e hd he h0 q => by
    rcases hp d with ⟨-, e1⟩ | ⟨hP, e1⟩ <;> rw [e1] at h0 q
    · exact absurd h0 (by dsimp only; omega)
    · have h0 : 0 ≤ g d := h0
      rcases hp e with ⟨-, e2⟩ | ⟨hP', e2⟩ <;> rw [e2] at q
      · have q : g d = -1 := q; omega
      · exact g1.inj hd he h0 q))
  have : worthW W g n ≤ worthW W (fun d => (p d).1) n + worthW W (fun d => (p d).2) n := by
    unfold worthW; rw [← sumN_add]; refine sumN_le n fun d hd => ?_
    show (if 0 ≤ g d then W (g d) else 0) ≤ (if 0 ≤ (p d).1 then W (p d).1 else 0) + if 0 ≤ (p d).2 then W (p d).2 else 0
    rcases hp d with ⟨-, e⟩ | ⟨-, e⟩ <;> rw [e] <;> dsimp only
    · rw [if_neg (show ¬ (0 : Int) ≤ -1 by decide)]; omega
    · rw [if_neg (show ¬ (0 : Int) ≤ -1 by decide)]; omega
  omega
end
theorem insQ_perm (lt : Int → Int → Bool) (l : List Int) (x : Int) : (insQ lt l x).Perm (x :: l) := by
  unfold insQ; refine List.perm_middle.trans ?_; rw [List.take_append_drop]
theorem sortQ_perm (lt : Int → Int → Bool) (l : List Int) : (sortQ lt l).Perm l := by
  have key : ∀ (l a : List Int), (l.foldl (insQ lt) a).Perm (a ++ l) := by
    intro l
    induction l with
    | nil => intro a; rw [List.append_nil]; exact List.Perm.refl _
    | cons x l ih =>
      intro a; rw [List.foldl_cons]; refine (ih _).trans (((insQ_perm lt a x).append_right l).trans ?_); exact List.perm_middle.symm
  have := key l []; exact this
theorem posQ_spec (lt : Int → Int → Bool) (l : List Int) (x : Int) : ∀ k, (∀ j, posQ lt l x k ≤ j → j < k → lt x (gI l j) = true) ∧ (0 < posQ lt l x k → lt x (gI l (posQ lt l x k - 1)) = false)
  | 0 => ⟨fun j _ h => absurd h (Nat.not_lt_zero _), fun h => absurd h (Nat.lt_irrefl _)⟩
  | k + 1 => by
    obtain ⟨h1, h2⟩ := posQ_spec lt l x k
    by_cases h : lt x (gI l k) = true
    · have e : posQ lt l x (k + 1) = posQ lt l x k := if_pos h; rw [e]
      exact ⟨fun j hj hk => by
        by_cases q : j = k
        · rw [q]; exact h
        · exact h1 j hj (by omega), h2⟩
    · have e : posQ lt l x (k + 1) = k + 1 := if_neg h; rw [e]; exact ⟨fun j hj hk => by omega, fun _ => by simpa using h⟩
theorem insQ_sorted {lt : Int → Int → Bool} {key : Int → Int} {l : List Int} {x : Int} (hl : l.Pairwise fun a b => key b ≤ key a) (hk : ∀ a ∈ l, lt x a = decide (key a < key x)) : (insQ lt l x).Pairwise fun a b => key b ≤ key a := by
  obtain ⟨h1, h2⟩ := posQ_spec lt l x l.length; have hp := posQ_le lt l x l.length; unfold insQ; have hl' := hl; rw [← List.take_append_drop (posQ lt l x l.length) l, List.pairwise_append] at hl'; rw [List.pairwise_append]; refine ⟨hl'.1, List.pairwise_cons.2 ⟨fun y hy => ?_, hl'.2.1⟩, fun u hu v hv => ?_⟩
  · obtain ⟨j, hj, rfl⟩ := List.getElem_of_mem hy; rw [List.length_drop] at hj; rw [List.getElem_drop]; have q := h1 (posQ lt l x l.length + j) (by omega) (by omega); rw [gI_lt (by omega), hk _ (List.getElem_mem _), decide_eq_true_iff] at q; omega
  · rcases List.mem_cons.1 hv with rfl | hv
    · obtain ⟨j, hj, rfl⟩ := List.getElem_of_mem hu; rw [List.length_take] at hj; rw [List.getElem_take]; have q := h2 (by omega); rw [gI_lt (show posQ lt l v l.length - 1 < l.length by omega), hk _ (List.getElem_mem _), decide_eq_false_iff_not] at q
      by_cases e : j = posQ lt l v l.length - 1
      · subst e; omega
      · have := List.pairwise_iff_getElem.1 hl j (posQ lt l v l.length - 1) (by omega) (by omega) (by omega); omega
    · exact hl'.2.2 u hu v hv
theorem sortQ_sorted {lt : Int → Int → Bool} {key : Int → Int} {l : List Int} (hk : ∀ a ∈ l, ∀ b ∈ l, lt a b = decide (key b < key a)) : (sortQ lt l).Pairwise fun a b => key b ≤ key a := by
  have go : ∀ (r a : List Int), (∀ x ∈ a, x ∈ l) → (∀ x ∈ r, x ∈ l) → (a.Pairwise fun a b => key b ≤ key a) → (r.foldl (insQ lt) a).Pairwise fun a b => key b ≤ key a := by
    intro r
    induction r with
    | nil => intro a _ _ h; exact h
    | cons x r ih =>
      intro a ha hr h; rw [List.foldl_cons]; refine ih _ (fun y hy => ?_) (fun y hy => hr y (List.mem_cons_of_mem _ hy)) (insQ_sorted h fun y hy => hk x (hr x List.mem_cons_self) y (ha y hy))
      rcases (insQ_mem lt a x y).1 hy with rfl | hy
      · exact hr _ List.mem_cons_self
      · exact ha y hy
  exact go l [] (fun x hx => absurd hx List.not_mem_nil) (fun x hx => hx) List.Pairwise.nil
theorem rangeI_nodup (n : Nat) : (rangeI n).Nodup := by
  unfold rangeI; rw [List.nodup_iff_pairwise_ne, List.pairwise_map]; exact List.nodup_range.imp fun h e => h (by omega)
theorem ordL_nodup (fl : List Fl) : (ordL fl).Nodup := (sortQ_perm _ _).nodup_iff.2 (rangeI_nodup _)
theorem ordL_sorted (fl : List Fl) : (ordL fl).Pairwise fun a b => mAt fl b ≤ mAt fl a := sortQ_sorted fun a ha b hb => by
  obtain ⟨i, rfl, hi⟩ := rangeI_mem.1 ha; obtain ⟨j, rfl, hj⟩ := rangeI_mem.1 hb; rw [ltM_at hi hj, mAt_at hi, mAt_at hj]
theorem worthN_W (fl : List Fl) (h : Nat → Int) : ∀ k, worthN fl h k = worthW (mAt fl) h k
  | 0 => rfl
  | k + 1 => by
    show (if 0 ≤ h k then worthN fl h k + mAt fl (h k) else worthN fl h k) = worthW (mAt fl) h k + (if 0 ≤ h k then mAt fl (h k) else 0)
    rw [worthN_W fl h k]
    split
    · rfl
    · rw [Int.add_zero]
theorem mAt_pos {fl : List Fl} (hm : ∀ f ∈ fl, 0 ≤ f.m) (x : Int) : 0 ≤ mAt fl x := by
  unfold mAt
  split
  · rename_i f hf; exact hm f (List.mem_of_getElem? hf)
  · exact Int.le_refl _
structure OptT (t : Tr) (n : Nat) : Prop where
  sp : ∀ f ∈ t.fl, 0 ≤ f.lo ∧ f.hi < n
  mr : ∀ f ∈ t.fl, 0 ≤ f.m
theorem OptT.span {t : Tr} {n : Nat} (h : OptT t n) : SpanT t n := ⟨fun k hk => h.sp _ (List.getElem_mem hk)⟩
theorem PlanT.opt {t : Tr} {n : Nat} (h : PlanT t n) : OptT t n := ⟨fun f hf => by
  obtain ⟨k, hk, rfl⟩ := List.getElem_of_mem hf; exact h.sp k hk, fun f hf => by
  obtain ⟨k, hk, rfl⟩ := List.getElem_of_mem hf; exact (h.mr k hk).1⟩
theorem bestF_C {t : Tr} {n : Nat} (h : OptT t n) : PlanC t.N n t.fl.length (fun a b => mAt t.fl b ≤ mAt t.fl a) (ordL t.fl) (bestF t n) :=
  planF_C (trN_lt h.span) (ordL_nodup _) (ordL_sorted _) fun _ hx => ordL_mem.1 hx
theorem meritF_opt {t : Tr} {n : Nat} (h : OptT t n) : IsOpt t.N n t.fl.length (mAt t.fl) (meritF t n) := by
  have hC := bestF_C h; have e : worthW (mAt t.fl) (bestF t n) n = meritF t n := (worthN_W _ _ _).symm; refine ⟨⟨_, hC.ok, e⟩, fun g hg => ?_⟩; rw [← e]; refine dual_max (S := fun _ => True) hC.ok hg (fun _ _ _ => .inl trivial) (mAt_pos h.mr) fun i hi _ hz => ?_; obtain ⟨X, h1, h2, h3⟩ := hC.cert i (ordL_mem.2 ⟨i, rfl, hi⟩) hz; exact ⟨X, h1, h2, h3⟩
structure BestP (t : Tr) (n : Nat) (g : Nat → Int) : Prop where
  ok : OkP t.N n t.fl.length g
  w : worthW (mAt t.fl) g n = meritF t n
theorem bestF_best {t : Tr} {n : Nat} (h : OptT t n) : BestP t n (bestF t n) := ⟨(bestF_C h).ok, (worthN_W _ _ _).symm⟩
-- closed days
theorem openN_mem' {cl : List Int} {lo hi : Int} {e : Nat} : e ∈ openN cl lo hi ↔ e ∈ List.range' lo.toNat (hi + 1 - lo).toNat ∧ (e : Int) ∉ cl := by
  unfold openN; rw [List.mem_filter]; simp
theorem mem_insAt {l : List Int} {i : Nat} {a x : Int} : x ∈ insAt l i a ↔ x = a ∨ x ∈ l := by
  unfold insAt; rw [List.mem_append, List.mem_append, List.mem_singleton]
  constructor
  · rintro ((h | h) | h)
    · exact .inr (List.mem_of_mem_take h)
    · exact .inl h
    · exact .inr (List.mem_of_mem_drop h)
  · rintro (h | h)
    · exact .inl (.inr h)
    · rw [← List.take_append_drop i l, List.mem_append] at h
      rcases h with h | h
      · exact .inl (.inl h)
      · exact .inr h
theorem mem_closeL {cl : List Int} {d x : Int} : x ∈ closeL cl d ↔ x = d ∨ x ∈ cl := by
  unfold closeL
  split
  · rename_i h
    exact ⟨.inr, fun q => q.elim (fun e => e ▸ h) id⟩
  · exact mem_insAt
theorem mem_filEq {cl : List Int} {d x : Int} : x ∈ filI (fun x => decide (x = d)) cl ↔ x ∈ cl ∧ x ≠ d := by
  unfold filI; rw [List.mem_filter]; simp
def nCl (cl : List Int) (fl : List Fl) : Int → List Nat := Tr.N ⟨0, cl, fl⟩
theorem nCl_tr (t : Tr) : t.N = nCl t.cl t.fl := rfl
theorem nCl_mem {cl cl' : List Int} {fl : List Fl} {j : Int} {e : Nat} (h : (e : Int) ∈ cl' ↔ (e : Int) ∈ cl) : e ∈ nCl cl' fl j ↔ e ∈ nCl cl fl j := by
  unfold nCl Tr.N
  dsimp only
  split
  · rw [openN_mem', openN_mem', h]
  · exact Iff.rfl
theorem nCl_shut {cl cl' : List Int} {fl : List Fl} {j : Int} {e d : Nat} (h : (e : Int) ∈ cl' ↔ (e : Int) = d ∨ (e : Int) ∈ cl) : e ∈ nCl cl' fl j ↔ e ∈ shutN (nCl cl fl) d j := by
  rw [shutN_mem]; unfold nCl Tr.N
  dsimp only
  split
  · rw [openN_mem', openN_mem', h]
    constructor
    · rintro ⟨h1, h2⟩; exact ⟨⟨h1, fun q => h2 (.inr q)⟩, fun q => h2 (.inl (by omega))⟩
    · rintro ⟨⟨h1, h2⟩, h3⟩; exact ⟨h1, fun q => q.elim (fun q => h3 (by omega)) h2⟩
  · simp
theorem OptT.cl {t : Tr} {n : Nat} (h : OptT t n) (k : Int) (cl : List Int) : OptT ⟨k, cl, t.fl⟩ n := ⟨h.sp, h.mr⟩
theorem meritF_cl {t : Tr} {n : Nat} (h : OptT t n) (k : Int) (cl : List Int) (hc : ∀ x : Int, x ∈ cl ↔ x ∈ t.cl) : meritF ⟨k, cl, t.fl⟩ n = meritF t n :=
  (meritF_opt (h.cl k cl)).eq ((meritF_opt h).congr (fun j _ d _ => (nCl_mem (cl := t.cl) (cl' := cl) (hc d)).symm) fun _ _ => rfl)
theorem closed_opt {t : Tr} {n : Nat} (h : OptT t n) (d : Nat) : IsOpt (shutN t.N d) n t.fl.length (mAt t.fl) (meritF (closedT t (d : Int)) n) :=
  (meritF_opt (h.cl t.n (closeL t.cl d))).congr (fun j _ e _ => nCl_shut mem_closeL) fun _ _ => rfl
-- fewer flaws
def dropL (N : Int → List Nat) (l : List Int) : Int → List Nat := fun j => if j ∈ l then [] else N j
theorem dropL_mem {N : Int → List Nat} {l : List Int} {j : Int} {e : Nat} : e ∈ dropL N l j ↔ j ∉ l ∧ e ∈ N j := by
  unfold dropL
  by_cases q : j ∈ l
  · rw [if_pos q]; simp [q]
  · rw [if_neg q]; simp [q]
theorem keepN_emb (l : List Int) (fl : List Fl) : ∀ k, k ≤ fl.length → ∃ f : Nat → Nat, (∀ a b, a < b → b < (keepN l fl k).length → f a < f b) ∧ (∀ a, a < (keepN l fl k).length → f a < k ∧ (f a : Int) ∉ l ∧ (keepN l fl k)[a]? = fl[f a]?) ∧ ∀ j : Nat, j < k → (j : Int) ∉ l → ∃ a, a < (keepN l fl k).length ∧ f a = j
  | 0, _ => ⟨id, fun a b _ h => absurd h (Nat.not_lt_zero _), fun a h => absurd h (Nat.not_lt_zero _), fun j h => absurd h (Nat.not_lt_zero _)⟩
  | k + 1, hk => by
    obtain ⟨f, h1, h2, h3⟩ := keepN_emb l fl k (by omega)
    by_cases hl : (k : Int) ∈ l
    · rw [keepN_in hl]
      exact ⟨f, h1, fun a ha => ⟨by have := (h2 a ha).1; omega, (h2 a ha).2⟩, fun j hj hjl => h3 j (by
        rcases Nat.lt_or_ge j k with q | q
        · exact q
        · obtain rfl : j = k := by omega
          exact absurd hl hjl) hjl⟩
    · rw [keepN_out hl (by omega)]
      generalize hL : keepN l fl k = L at h1 h2 h3
      have e1 : ∀ a, a < L.length → (if a < L.length then f a else k) = f a := fun a h => if_pos h; have e2 : (if L.length < L.length then f L.length else k) = k := if_neg (Nat.lt_irrefl _); refine ⟨fun a => if a < L.length then f a else k, fun a b hab hb => ?_, fun a ha => ?_, fun j hj hjl => ?_⟩
      · rw [List.length_append, List.length_singleton] at hb
        show (if a < L.length then f a else k) < (if b < L.length then f b else k)
        rw [e1 a (by omega)]
        by_cases q : b < L.length
        · rw [e1 b q]; exact h1 a b hab q
        · rw [if_neg q]; exact (h2 a (by omega)).1
      · rw [List.length_append, List.length_singleton] at ha
        show (if a < L.length then f a else k) < k + 1 ∧ ((if a < L.length then f a else k : Nat) : Int) ∉ l ∧ _ = fl[(if a < L.length then f a else k)]?
        by_cases q : a < L.length
        · rw [e1 a q, List.getElem?_append_left q]; exact ⟨by have := (h2 a q).1; omega, (h2 a q).2⟩
        · obtain rfl : a = L.length := by omega
          rw [e2, List.getElem?_append_right (Nat.le_refl _), Nat.sub_self, List.getElem?_eq_getElem (show k < fl.length by omega)]; exact ⟨Nat.lt_succ_self _, hl, rfl⟩
      · rw [List.length_append, List.length_singleton]
        rcases Nat.lt_or_ge j k with q | q
        · obtain ⟨a, ha, e⟩ := h3 j q hjl; exact ⟨a, by omega, by show (if a < L.length then f a else k) = j; rw [e1 a ha, e]⟩
        · exact ⟨L.length, by omega, by show (if L.length < L.length then f L.length else k) = j; rw [e2]; omega⟩
theorem OptT.keep {t : Tr} {n : Nat} (h : OptT t n) (k : Int) (cl l : List Int) : OptT ⟨k, cl, keepN l t.fl t.fl.length⟩ n :=
  ⟨fun f hf => h.sp f (keepN_mem hf), fun f hf => h.mr f (keepN_mem hf)⟩
theorem emb_inj {f : Nat → Nat} {m : Nat} (h : ∀ a b, a < b → b < m → f a < f b) (a b : Nat) (ha : a < m) (hb : b < m) (e : f a = f b) : a = b := by
  rcases Nat.lt_trichotomy a b with q | q | q
  · have := h a b q hb; omega
  · exact q
  · have := h b a q ha; omega
theorem mAt_eq {fl fl' : List Fl} {a b : Nat} (h : fl[a]? = fl'[b]?) : mAt fl (a : Int) = mAt fl' (b : Int) := by unfold mAt; rw [Int.toNat_natCast, Int.toNat_natCast, h]
theorem nCl_eq {cl : List Int} {fl fl' : List Fl} {a b : Nat} (h : fl[a]? = fl'[b]?) : nCl cl fl (a : Int) = nCl cl fl' (b : Int) := by
  unfold nCl Tr.N; dsimp only; rw [Int.toNat_natCast, Int.toNat_natCast, h]
theorem keep_opt {t : Tr} {n : Nat} (h : OptT t n) (k : Int) (cl l : List Int) : IsOpt (dropL (nCl cl t.fl) l) n t.fl.length (mAt t.fl) (meritF ⟨k, cl, keepN l t.fl t.fl.length⟩ n) := by
  obtain ⟨f, h1, h2, h3⟩ := keepN_emb l t.fl t.fl.length (Nat.le_refl _); refine IsOpt.emb (f := f) (emb_inj h1) (fun a ha => (h2 a ha).1) (fun a ha d _ => ?_) (fun a ha => mAt_eq (h2 a ha).2.2) (fun j hj hn => ?_) (meritF_opt (h.keep k cl l))
  · rw [dropL_mem, nCl_tr]
    dsimp only
    rw [nCl_eq (h2 a ha).2.2]; exact ⟨fun q => ⟨(h2 a ha).2.1, q⟩, fun q => q.2⟩
  · unfold dropL
    by_cases q : (j : Int) ∈ l
    · exact if_pos q
    · obtain ⟨a, ha, e⟩ := h3 j hj q; exact absurd e (hn a ha)
theorem without_opt {t : Tr} {n : Nat} (h : OptT t n) (l : List Int) : IsOpt (dropL t.N l) n t.fl.length (mAt t.fl) (meritF (withoutT t l) n) := keep_opt h t.n t.cl l
theorem without1_opt {t : Tr} {n : Nat} (h : OptT t n) (i : Nat) : IsOpt (dropN t.N i) n t.fl.length (mAt t.fl) (meritF (withoutT t [(i : Int)]) n) :=
  (without_opt h [(i : Int)]).congr (fun j _ d _ => by rw [dropL_mem, dropN_mem, List.mem_singleton]) fun _ _ => rfl
theorem onF_opt {t : Tr} {n : Nat} (h : OptT t n) (i d : Nat) : IsOpt (shutN (dropN t.N i) d) n t.fl.length (mAt t.fl) (meritF (closedT (withoutT t [(i : Int)]) (d : Int)) n) :=
  (keep_opt h t.n (closeL t.cl d) [(i : Int)]).congr (fun j _ e _ => by
    have q := nCl_shut (cl := t.cl) (cl' := closeL t.cl d) (fl := t.fl) (j := (j : Int)) (e := e) (d := d) mem_closeL; rw [dropL_mem, q, shutN_mem, shutN_mem, dropN_mem, List.mem_singleton, ← nCl_tr]
    exact ⟨fun a => ⟨⟨a.1, a.2.1⟩, a.2.2⟩, fun a => ⟨a.1.1, a.1.2, a.2⟩⟩) fun _ _ => rfl
theorem onF_iff {t : Tr} {n i d : Nat} (h : OptT t n) (hi : i < t.fl.length) (hd : d ∈ t.N (i : Int)) : onF t n i d ≤ meritF t n ∧ (onF t n i d = meritF t n ↔ ∃ g, BestP t n g ∧ g d = (i : Int)) := by
  obtain ⟨h1, h2⟩ := (meritF_opt h).day_iff (onF_opt h i d) hi (trN_lt h.span _ _ hd) hd; refine ⟨h1, h2.trans ⟨?_, ?_⟩⟩
  · rintro ⟨g, g1, g2, g3⟩; exact ⟨g, ⟨g1, g2⟩, g3⟩
  · rintro ⟨g, ⟨g1, g2⟩, g3⟩; exact ⟨g, g1, g2, g3⟩
theorem daysL_mem {t : Tr} {n i : Nat} {x : Int} (h : OptT t n) (hi : i < t.fl.length) : x ∈ daysL t n i ↔ ∃ d : Nat, x = (d : Int) ∧ d ∈ t.N (i : Int) ∧ ∃ g, BestP t n g ∧ g d = (i : Int) := by
  unfold daysL; rw [List.mem_map]
  constructor
  · rintro ⟨d, hd, rfl⟩; rw [List.mem_filter] at hd; have := hd.2; unfold daysP at this; rw [decide_eq_true_iff] at this; exact ⟨d, rfl, hd.1, (onF_iff h hi hd.1).2.1 this⟩
  · rintro ⟨d, rfl, hd, hg⟩; refine ⟨d, List.mem_filter.2 ⟨hd, ?_⟩, rfl⟩; unfold daysP; rw [decide_eq_true_iff]; exact (onF_iff h hi hd).2.2 hg
theorem sure_iff {t : Tr} {n i : Nat} (h : OptT t n) : meritF (withoutT t [(i : Int)]) n ≤ meritF t n ∧ (meritF (withoutT t [(i : Int)]) n < meritF t n ↔ ∀ g, BestP t n g → cntN g (i : Int) n ≠ 0) := by
  obtain ⟨h1, h2⟩ := (meritF_opt h).drop (without1_opt h i); exact ⟨h1, h2.trans ⟨fun q g hg => q g hg.ok hg.w, fun q g g1 g2 => q g ⟨g1, g2⟩⟩⟩
structure OnP (N : Int → List Nat) (n m : Nat) (xs : List Int) (h : Nat → Int) : Prop where
  ok : OkP N n m h
  len : xs.length = m
  on : ∀ i : Nat, i < m → (gI xs i = -1 ∧ cntN h i n = 0) ∨ ∃ d : Nat, d < n ∧ gI xs i = (d : Int) ∧ h d = (i : Int)
section
variable {N : Int → List Nat} {n m : Nat} {xs : List Int} {h : Nat → Int}
theorem OnP.cnt (q : OnP N n m xs h) {i : Nat} (hi : i < m) : cntN h i n = if 0 ≤ gI xs i then 1 else 0 := by
  rcases q.on i hi with ⟨e, hz⟩ | ⟨d, hd, e, e2⟩
  · rw [e, hz]; rfl
  · rw [if_pos (by omega)]; have := cntN_ge hd e2; have := q.ok.one i; omega
theorem OnP.worth (q : OnP N n m xs h) (W : Int → Int) : worthW W h n = sumN (fun j => if 0 ≤ gI xs j then W (j : Int) else 0) m := by
  rw [worth_cnt n fun d _ => (q.ok.lt d).2]; refine sumN_eq m fun j hj => ?_; rw [q.cnt hj]
  split
  · exact Int.one_mul _
  · exact Int.zero_mul _
end
theorem wrthK_sum {t : Tr} {xs : List Int} : ∀ k, k ≤ t.fl.length → wrthK t xs k = sumN (fun j => if 0 ≤ gI xs j then mAt t.fl (j : Int) else 0) k
  | 0, _ => rfl
  | k + 1, hk => by
    show wrthK t xs k + (if 0 ≤ gI xs k then (match t.fl[k]? with | some f => f.m | none => 0) else 0) = sumN _ k + (if 0 ≤ gI xs k then mAt t.fl (k : Int) else 0)
    rw [wrthK_sum k (by omega), mAt_at (show k < t.fl.length by omega), List.getElem?_eq_getElem (show k < t.fl.length by omega)]
theorem OnP.wrth {t : Tr} {n : Nat} {xs : List Int} {h : Nat → Int} (q : OnP t.N n t.fl.length xs h) : wrthK t xs t.fl.length = worthW (mAt t.fl) h n := by
  rw [wrthK_sum _ (Nat.le_refl _), q.worth]
theorem onN_spec (h : Nat → Int) (i : Nat) : ∀ k, (onN h k i = -1 ∧ ∀ d, d < k → h d ≠ (i : Int)) ∨ ∃ d : Nat, d < k ∧ onN h k i = (d : Int) ∧ h d = (i : Int)
  | 0 => .inl ⟨rfl, fun d hd => absurd hd (Nat.not_lt_zero _)⟩
  | k + 1 => by
    by_cases h0 : 0 ≤ h k
    · have e : onN h (k + 1) = updF (onN h k) (h k).toNat (k : Int) := if_pos h0; rw [e]; unfold updF
      by_cases q : i = (h k).toNat
      · rw [if_pos q]; exact .inr ⟨k, Nat.lt_succ_self _, rfl, by omega⟩
      · rw [if_neg q]
        rcases onN_spec h i k with ⟨h1, h2⟩ | ⟨d, h1, h2, h3⟩
        · exact .inl ⟨h1, fun d hd => by
            rcases Nat.lt_or_ge d k with q2 | q2
            · exact h2 d q2
            · obtain rfl : d = k := by omega
              omega⟩
        · exact .inr ⟨d, by omega, h2, h3⟩
    · have e : onN h (k + 1) = onN h k := if_neg h0; rw [e]
      rcases onN_spec h i k with ⟨h1, h2⟩ | ⟨d, h1, h2, h3⟩
      · exact .inl ⟨h1, fun d hd => by
          rcases Nat.lt_or_ge d k with q2 | q2
          · exact h2 d q2
          · obtain rfl : d = k := by omega
            omega⟩
      · exact .inr ⟨d, by omega, h2, h3⟩
theorem onL_on {N : Int → List Nat} {n m : Nat} {h : Nat → Int} (hh : OkP N n m h) : OnP N n m (onL h n m) h :=
  ⟨hh, onL_len, fun i hi => by
    rw [onL_at hi]
    rcases onN_spec h i n with ⟨h1, h2⟩ | h1
    · exact .inl ⟨h1, cntN_of_zero h2⟩
    · exact .inr h1⟩
theorem wrong_plan {t : Tr} {n : Nat} {xs : List Int} (hT : OptT t n) (hl : xs.length = t.fl.length) : wrongI t xs < 0 ↔ ∃ h, OnP t.N n t.fl.length xs h := by
  constructor
  · intro hw; have hb := wrongI_neg (t := t) (xs := xs) (by omega)
    have good : ∀ i (hi : i < t.fl.length), gI xs i = -1 ∨ ∃ d : Nat, d < n ∧ gI xs i = (d : Int) ∧ d ∈ t.N (i : Int) ∧ ∀ j, j < i → gI xs j ≠ gI xs i := fun i hi => by
      have q := hb i (by omega); rw [badK_at hi] at q
      by_cases e : gI xs i = -1
      · exact .inl e
      · rw [decide_eq_true (show gI xs i ≠ -1 from e), Bool.true_and, Bool.or_eq_false_iff] at q; obtain ⟨q1, q2⟩ := q; have q1 : okDay t t.fl[i].lo t.fl[i].hi (gI xs i) = true := by simpa using q1
        unfold okDay at q1; rw [decide_eq_true_iff] at q1; have hs := hT.sp _ (List.getElem_mem hi); obtain ⟨d, hd⟩ : ∃ d : Nat, gI xs i = (d : Int) := ⟨(gI xs i).toNat, by omega⟩; refine .inr ⟨d, by omega, hd, ?_, fun j hj e2 => ?_⟩
        · rw [trN_at hi, openN_in hs.1]; rw [hd] at q1; exact ⟨q1.1.1, q1.1.2, q1.2⟩
        · rw [hd, Int.toNat_natCast] at q2; have := takN_true.2 ⟨j, hj, e2.trans hd⟩; rw [q2] at this; cases this
    have ch : ∀ d : Nat, ∃ x : Int, (∃ i : Nat, i < t.fl.length ∧ x = i ∧ gI xs i = (d : Int)) ∨ ((∀ i : Nat, i < t.fl.length → gI xs i ≠ (d : Int)) ∧ x = -1) := fun d => by
      by_cases q : ∃ i : Nat, i < t.fl.length ∧ gI xs i = (d : Int)
      · obtain ⟨i, hi, e⟩ := q; exact ⟨i, .inl ⟨i, hi, rfl, e⟩⟩
      · exact ⟨-1, .inr ⟨fun i hi e => q ⟨i, hi, e⟩, rfl⟩⟩
    obtain ⟨p, hp⟩ := Classical.axiomOfChoice ch
    have same : ∀ i j : Nat, i < t.fl.length → j < t.fl.length → 0 ≤ gI xs i → gI xs i = gI xs j → i = j := fun i j hi hj h0 e => by
      rcases Nat.lt_trichotomy i j with q | q | q
      · rcases good j hj with h1 | ⟨d, -, -, -, h1⟩
        · omega
        · exact absurd e (h1 i q)
      · exact q
      · rcases good i hi with h1 | ⟨d, -, -, -, h1⟩
        · omega
        · exact absurd e.symm (h1 j q)
    refine ⟨p, OkP.of (fun d => ?_) (fun d hd h0 => ?_) (fun d e hd he h0 q => ?_), hl, fun i hi => ?_⟩
    · rcases hp d with ⟨i, hi, e, -⟩ | ⟨-, e⟩ <;> omega
    · rcases hp d with ⟨i, hi, e, e2⟩ | ⟨-, e⟩
      · rcases good i hi with h1 | ⟨d', -, h1, h2, -⟩
        · omega
        · obtain rfl : d' = d := by omega
          rw [e]; exact h2
      · omega
    · rcases hp d with ⟨i, hi, e1, e2⟩ | ⟨-, e1⟩
      · rcases hp e with ⟨j, hj, e3, e4⟩ | ⟨-, e3⟩
        · obtain rfl : i = j := by omega
          omega
        · omega
      · omega
    · rcases good i hi with h1 | ⟨d, h0, h1, h2, -⟩
      · refine .inl ⟨h1, cntN_of_zero fun d hd q => ?_⟩
        rcases hp d with ⟨j, hj, e1, e2⟩ | ⟨-, e1⟩
        · obtain rfl : j = i := by omega
          omega
        · omega
      · refine .inr ⟨d, h0, h1, ?_⟩
        rcases hp d with ⟨j, hj, e1, e2⟩ | ⟨h3, -⟩
        · rw [e1, same j i hj hi (by omega) (by omega)]
        · exact absurd h1 (h3 i hi)
  · rintro ⟨h, q⟩
    have : wrongI t xs = -1 := wrongI_none fun i hi => by
      have hi' : i < t.fl.length := by omega
      rw [badK_at hi']
      rcases q.on i hi' with ⟨e, -⟩ | ⟨d, hd, e, e2⟩
      · rw [e]; rfl
      · have hs := hT.sp _ (List.getElem_mem hi'); have hday := q.ok.day d hd (by omega); rw [e2, trN_at hi', openN_in hs.1] at hday; have h1 : okDay t t.fl[i].lo t.fl[i].hi (gI xs i) = true := decide_eq_true (by rw [e]; exact ⟨⟨hday.1, hday.2.1⟩, hday.2.2⟩)
        have h2 : takN xs i (gI xs i).toNat = false := by
          by_cases c : takN xs i (gI xs i).toNat = true
          · obtain ⟨j, hj, ej⟩ := takN_true.1 c
            exfalso
            rcases q.on j (by omega) with ⟨e3, -⟩ | ⟨d', hd', e3, e4⟩
            · omega
            · obtain rfl : d' = d := by omega
              omega
          · simpa using c
        rw [h1, h2]; simp
    omega
def FullOk (t : Tr) (xs : List Int) (z : Int × Int) (k : Nat) : Prop :=
  if 0 ≤ gI xs k then z = (0, 0) else match t.fl[k]? with
  | some f => (0 ≤ z.1 ∧ z.1 ≤ z.2 ∧ z.2 < t.n) ∧ (z.1 ≤ f.lo ∧ f.hi ≤ z.2) ∧ fullB t xs z.1 z.2 f.m = true
  | none => True
theorem FullOk.at {t : Tr} {xs : List Int} {z : Int × Int} {k : Nat} (hk : k < t.fl.length) (h0 : ¬ 0 ≤ gI xs k) : FullOk t xs z k ↔ (0 ≤ z.1 ∧ z.1 ≤ z.2 ∧ z.2 < t.n) ∧ (z.1 ≤ t.fl[k].lo ∧ t.fl[k].hi ≤ z.2) ∧ fullB t xs z.1 z.2 t.fl[k].m = true := by
  unfold FullOk; rw [if_neg h0, List.getElem?_eq_getElem hk]
instance {t : Tr} {xs : List Int} {z : Int × Int} {k : Nat} : Decidable (FullOk t xs z k) := by
  unfold FullOk; split
  · infer_instance
  · split <;> infer_instance
theorem GoodT.opt {t : Tr} (h : GoodT t) : OptT t t.n.toNat := ⟨fun f hf => by
  have h1 := (h.ok f hf).2.1; have := h.n; exact ⟨h1.1, by omega⟩, fun f hf => by have := (h.ok f hf).2.2; omega⟩
theorem GoodT.le {t : Tr} (h : GoodT t) : ∀ f ∈ t.fl, f.lo ≤ f.hi := fun f hf => (h.ok f hf).2.1.2.1
theorem GoodT.pos {t : Tr} (h : GoodT t) : ∀ f ∈ t.fl, 0 < f.m := fun f hf => by have := (h.ok f hf).2.2; omega
section
variable {N : Int → List Nat} {n m : Nat}
theorem len_sum {l : List Int} : l.Nodup → (∀ x ∈ l, ∃ k : Nat, x = (k : Int) ∧ k < m) → (l.length : Int) = sumN (fun j => if (j : Int) ∈ l then 1 else 0) m := by
  induction l with
  | nil => intro _ _; rw [sumN_eq m (g := fun _ => 0) fun d _ => if_neg List.not_mem_nil, sumN_zero]; rfl
  | cons x l ih =>
    intro hd hm; have hd := List.nodup_cons.1 hd; obtain ⟨k, rfl, hk⟩ := hm x List.mem_cons_self
    rw [sumN_eq m (g := fun j => (if (j : Int) ∈ l then 1 else 0) + if j = k then 1 else 0) fun j _ => by
      by_cases e : j = k
      · subst e; rw [if_pos List.mem_cons_self, if_neg hd.1, if_pos rfl]; rfl
      · rw [if_neg e]
        by_cases hj : (j : Int) ∈ l
        · rw [if_pos hj, if_pos (List.mem_cons_of_mem _ hj)]; rfl
        · rw [if_neg hj, if_neg (by rw [List.mem_cons]; rintro (x | x); omega; exact hj x)]; rfl, sumN_add, ← ih hd.2 fun y hy => hm y (List.mem_cons_of_mem _ hy), sumN_one (F := fun _ => 1), if_pos hk, List.length_cons]
    omega
theorem canF_plan {l : List Int} (hN : ∀ i, ∀ d ∈ N i, d < n) (hd : l.Nodup) (hm : ∀ x ∈ l, ∃ k : Nat, x = (k : Int) ∧ k < m) (hc : canF N n l noPlan = true) :
    OkP N n m (l.foldl (addF N n) noPlan) ∧ ∀ j : Nat, cntN (l.foldl (addF N n) noPlan) (j : Int) n = if (j : Int) ∈ l then 1 else 0 := by
  obtain ⟨h1, h2⟩ := canF_true hN l noPlan noPlan_ok hd (fun x hx => by obtain ⟨k, rfl, hk⟩ := hm x hx; exact ⟨k, rfl, hk, noPlan_cnt⟩) hc; exact ⟨h1, fun j => by rw [h2, noPlan_cnt, Int.zero_add]⟩
theorem cnt_len {l : List Int} {h : Nat → Int} (hd : l.Nodup) (hm : ∀ x ∈ l, ∃ k : Nat, x = (k : Int) ∧ k < m) (hh : OkP N n m h) (hc : ∀ j : Nat, cntN h (j : Int) n = if (j : Int) ∈ l then 1 else 0) : worthW (fun _ => 1) h n = (l.length : Int) := by
  rw [worth_cnt n fun d _ => (hh.lt d).2, len_sum hd hm]; exact sumN_eq m fun j _ => by rw [hc, Int.mul_one]
theorem exch {A B : List Int} (hN : ∀ i, ∀ d ∈ N i, d < n) (dA : A.Nodup) (mA : ∀ x ∈ A, ∃ k : Nat, x = (k : Int) ∧ k < m) (dB : B.Nodup) (mB : ∀ x ∈ B, ∃ k : Nat, x = (k : Int) ∧ k < m) (hA : canF N n A noPlan = true) (hB : canF N n B noPlan = true)
    (hno : ∀ x ∈ B, x ∉ A → ¬ ∃ g, OkP N n m g ∧ ∀ y, y ∈ A ∨ y = x → cntN g y n = 1) : B.length ≤ A.length := by
  obtain ⟨a1, a2⟩ := canF_plan hN dA mA hA; obtain ⟨b1, b2⟩ := canF_plan hN dB mB hB
  have q := dual_max (W := fun _ => 1) (S := fun j => j ∈ B) a1 b1 (fun d hd h0 => .inl (by
    obtain ⟨j, hj, -⟩ := b1.at' h0; have := cntN_ge hd hj; rw [b2] at this; rw [hj]
    by_cases c : (j : Int) ∈ B
    · exact c
    · rw [if_neg c] at this; omega)) (fun _ => by decide) (fun i hi hS hz => by
    have hiA : (i : Int) ∉ A := fun c => by rw [a2, if_pos c] at hz; cases hz
    by_cases hb : addB N n (A.foldl (addF N n) noPlan) i = true
    · exfalso
      obtain ⟨c1, c2⟩ := add_true hN a1 hi hz hb; refine hno i hS hiA ⟨_, c1, fun y hy => ?_⟩
      rcases hy with hy | hy
      · obtain ⟨k, rfl, hk⟩ := mA y hy; have : ¬ i = k := fun e => hiA (by rw [e]; exact hy); rw [c2, a2, if_pos hy, if_neg this]; rfl
      · subst hy; rw [c2, hz, if_pos rfl]; rfl
    · obtain ⟨-, X, h2, h3, -⟩ := add_false hN a1 hi hz (by simpa using hb)
      exact ⟨X, h2, h3, fun _ _ => Int.le_refl _⟩)
  rw [cnt_len dB mB b1 b2, cnt_len dA mA a1 a2] at q; omega
end
theorem best_many {t : Tr} {n : Nat} {h g : Nat → Int} (hT : OptT t n) (hpos : ∀ f ∈ t.fl, 0 < f.m) (hb : BestP t n h) (hg : OkP t.N n t.fl.length g) : worthW (fun _ => 1) g n ≤ worthW (fun _ => 1) h n := by
  have opt := meritF_opt hT; refine dual_max (S := fun _ => True) hb.ok hg (fun _ _ _ => .inl trivial) (fun _ => by decide) fun i hi _ hz => ?_; obtain ⟨X, h1, h2, -⟩ := max_cert (W := mAt t.fl) (trN_lt hT.span) hb.ok (fun j hj => by rw [mAt_at hj]; exact hpos _ (List.getElem_mem hj)) (fun k hk => by rw [hb.w]; exact opt.le k hk) i hi hz; exact ⟨X, h1, h2, fun _ _ => Int.le_refl _⟩
-- parts
theorem parts_le {t : Tr} {n : Nat} (hT : OptT t n) (l : List Int) : meritF (withoutT t l) n ≤ meritF t n :=
  (without_opt hT l).mono (meritF_opt hT) (fun _ _ _ _ hd => (dropL_mem.1 hd).2) fun _ _ => Int.le_refl _
theorem parts_sum {t : Tr} {n : Nat} (hT : OptT t n) (l l' : List Int) (hl : ∀ j : Nat, j < t.fl.length → (j : Int) ∉ l ∨ (j : Int) ∉ l') : meritF t n ≤ meritF (withoutT t l) n + meritF (withoutT t l') n :=
  (meritF_opt hT).split (without_opt hT l) (without_opt hT l') (fun j _ => mAt_pos hT.mr _) fun j hj => (hl j hj).imp (fun q d hd => dropL_mem.2 ⟨q, hd⟩) fun q d hd => dropL_mem.2 ⟨q, hd⟩
theorem mod_rot {a r m : Nat} (ha : a < m) (hr : r < m) : (a + r) % m = if a + r < m then a + r else a + r - m := by
  split
  · rename_i h; exact Nat.mod_eq_of_lt h
  · rw [Nat.mod_eq_sub_mod (by omega), Nat.mod_eq_of_lt (by omega)]
theorem rot_opt {t : Tr} {n u : Nat} {R : List Fl} (hT : OptT t n) (hl : R.length = t.fl.length) (hR : ∀ i, i < t.fl.length → R[i]? = t.fl[(i + u) % t.fl.length]?) : meritF ⟨t.n, t.cl, R⟩ n = meritF t n := by
  have hmem : ∀ f ∈ R, f ∈ t.fl := fun f hf => by
    obtain ⟨i, hi, rfl⟩ := List.getElem_of_mem hf; have := hR i (by omega); rw [List.getElem?_eq_getElem hi] at this; exact List.mem_of_getElem? this.symm
  have hO : OptT ⟨t.n, t.cl, R⟩ n := ⟨fun f hf => hT.sp f (hmem f hf), fun f hf => hT.mr f (hmem f hf)⟩
  rcases Nat.eq_zero_or_pos t.fl.length with h0 | h0
  · have e1 : R = [] := List.eq_nil_of_length_eq_zero (by omega); have e2 : t.fl = [] := List.eq_nil_of_length_eq_zero h0; have : (⟨t.n, t.cl, R⟩ : Tr) = t := by cases t; simp_all
    rw [this]
  have hr := Nat.mod_lt u h0
  have ef : ∀ a, a < t.fl.length → (a + u) % t.fl.length = if a + u % t.fl.length < t.fl.length then a + u % t.fl.length else a + u % t.fl.length - t.fl.length := fun a ha => by
    rw [← mod_rot ha hr, Nat.add_mod_mod]
  refine IsOpt.eq (IsOpt.emb (f := fun a => (a + u) % t.fl.length) (fun a b ha hb e => ?_) (fun a _ => Nat.mod_lt _ h0) (fun a ha d _ => ?_) (fun a ha => mAt_eq (hR a (by rw [← hl]; exact ha))) (fun j hj hn => ?_) (meritF_opt hO)) (meritF_opt hT)
  · have ha : a < R.length := ha; have hb : b < R.length := hb; have e : (a + u) % t.fl.length = (b + u) % t.fl.length := e; rw [ef a (by omega), ef b (by omega)] at e
    split at e <;> split at e <;> omega
  · have ha : a < R.length := ha; rw [nCl_tr, nCl_tr, nCl_eq (hR a (by omega))]
  · exfalso
    by_cases c : u % t.fl.length ≤ j
    · refine hn (j - u % t.fl.length) (by show _ < R.length; omega) ?_
      show (j - u % t.fl.length + u) % t.fl.length = j
      rw [ef _ (by omega), if_pos (by omega)]; omega
    · refine hn (j + t.fl.length - u % t.fl.length) (by show _ < R.length; omega) ?_
      show (j + t.fl.length - u % t.fl.length + u) % t.fl.length = j
      rw [ef _ (by omega), if_neg (by omega)]; omega
-- gains
theorem opened_opt {t : Tr} {n : Nat} (h : OptT t n) (d : Nat) : IsOpt (openT t (d : Int)).N n t.fl.length (mAt t.fl) (meritF (openT t (d : Int)) n) := meritF_opt (h.cl t.n _)
theorem openT_shut {t : Tr} {d e : Nat} {j : Int} : e ∈ shutN (openT t (d : Int)).N d j ↔ e ∈ shutN t.N d j := by
  have h1 := nCl_shut (cl := t.cl) (cl' := closeL t.cl d) (fl := t.fl) (j := j) (e := e) (d := d) mem_closeL
  have h2 := nCl_shut (cl := filI (fun x => decide (x = (d : Int))) t.cl) (cl' := closeL t.cl d) (fl := t.fl) (j := j) (e := e) (d := d) (by
    rw [mem_closeL, mem_filEq]
    constructor
    · rintro (q | q)
      · exact .inl q
      · by_cases c : (e : Int) = d
        · exact .inl c
        · exact .inr ⟨q, c⟩
    · rintro (q | q)
      · exact .inl q
      · exact .inr q.1)
  exact h2.symm.trans h1
theorem open_close {t : Tr} {n d : Nat} (h : OptT t n) (hd : d < n) {c : Int} (hc : ∀ f ∈ t.fl, f.m ≤ c) (h0 : 0 ≤ c) : meritF (closedT t (d : Int)) n ≤ meritF (openT t (d : Int)) n ∧ meritF (openT t (d : Int)) n ≤ meritF (closedT t (d : Int)) n + c :=
  (opened_opt h d).shut ((closed_opt h d).congr (fun _ _ _ _ => openT_shut.symm) fun _ _ => rfl) hd (fun j hj => by rw [mAt_at hj]; exact hc _ (List.getElem_mem hj)) h0
theorem closed_in {t : Tr} {n d : Nat} (h : OptT t n) (hd : (d : Int) ∈ t.cl) : meritF (closedT t (d : Int)) n = meritF t n :=
  meritF_cl h t.n _ fun x => by rw [mem_closeL]; exact ⟨fun q => q.elim (fun e => e ▸ hd) id, .inr⟩
theorem open_out {t : Tr} {n d : Nat} (h : OptT t n) (hd : (d : Int) ∉ t.cl) : meritF (openT t (d : Int)) n = meritF t n :=
  meritF_cl h t.n _ fun x => by rw [mem_filEq]; exact ⟨fun q => q.1, fun q => ⟨q, fun e => hd (e ▸ q)⟩⟩
theorem open_closed {t : Tr} {n d : Nat} (h : OptT t n) : meritF (openT (closedT t (d : Int)) (d : Int)) n = meritF (openT t (d : Int)) n :=
  meritF_cl (t := openT t (d : Int)) (h.cl t.n _) t.n (filI (fun x => decide (x = (d : Int))) (closeL t.cl d)) fun x => by
    show _ ↔ x ∈ filI (fun x => decide (x = (d : Int))) t.cl
    rw [mem_filEq, mem_filEq, mem_closeL]; exact ⟨fun q => ⟨q.1.resolve_left q.2, q.2⟩, fun q => ⟨.inr q.1, q.2⟩⟩
theorem widerT_N {t : Tr} {i : Nat} {lo hi : Int} (h : i < t.fl.length) {j : Nat} (hj : j < t.fl.length) : (widerT t i lo hi).N (j : Int) = if j = i then openN t.cl lo hi else t.N (j : Int) := by
  unfold Tr.N; rw [Int.toNat_natCast, widerT_at h, List.getElem?_set]
  by_cases e : j = i
  · subst e; rw [if_pos rfl, if_pos h, if_pos rfl]; rfl
  · rw [if_neg (Ne.symm e), if_neg e]; rfl
theorem widerT_m {t : Tr} {i : Nat} {lo hi : Int} (h : i < t.fl.length) {j : Nat} (hj : j < t.fl.length) : mAt (widerT t i lo hi).fl (j : Int) = mAt t.fl (j : Int) := by
  unfold mAt; rw [Int.toNat_natCast, widerT_at h, List.getElem?_set]
  by_cases e : j = i
  · subst e; rw [if_pos rfl, if_pos h, List.getElem?_eq_getElem h]
  · rw [if_neg (Ne.symm e)]
theorem widerT_len {t : Tr} {i : Nat} {lo hi : Int} (h : i < t.fl.length) : (widerT t i lo hi).fl.length = t.fl.length := by rw [widerT_at h, List.length_set]
theorem OptT.wider {t : Tr} {n i : Nat} {lo hi : Int} (hT : OptT t n) (h : i < t.fl.length) (hs : 0 ≤ lo ∧ hi < n) : OptT (widerT t i lo hi) n := by
  constructor
  · intro f hf; rw [widerT_at h] at hf
    rcases List.mem_or_eq_of_mem_set hf with hf | rfl
    · exact hT.sp f hf
    · exact hs
  · intro f hf; rw [widerT_at h] at hf
    rcases List.mem_or_eq_of_mem_set hf with hf | rfl
    · exact hT.mr f hf
    · show 0 ≤ t.fl[i].m
      exact hT.mr _ (List.getElem_mem h)
theorem wider_opt {t : Tr} {n i : Nat} {lo hi : Int} (hT : OptT t n) (h : i < t.fl.length) (hs : 0 ≤ lo ∧ hi < n) : IsOpt (fun j => if j = (i : Int) then openN t.cl lo hi else t.N j) n t.fl.length (mAt t.fl) (meritF (widerT t i lo hi) n) := by
  have q := meritF_opt (hT.wider h hs); rw [widerT_len h] at q; refine q.congr (fun j hj d _ => ?_) fun j hj => widerT_m h hj; rw [widerT_N h hj]
  by_cases e : j = i
  · subst e; rw [if_pos rfl, if_pos rfl]
  · rw [if_neg e, if_neg (by omega)]
theorem wider_ge {t : Tr} {n i : Nat} {lo hi : Int} (hT : OptT t n) (h : i < t.fl.length) (hs : 0 ≤ lo ∧ hi < n) (hw : lo ≤ t.fl[i].lo ∧ t.fl[i].hi ≤ hi) : meritF t n ≤ meritF (widerT t i lo hi) n := by
  refine (meritF_opt hT).mono (wider_opt hT h hs) (fun j hj d _ hd => ?_) fun _ _ => Int.le_refl _
  by_cases e : j = i
  · subst e; rw [if_pos rfl]; rw [trN_at h, openN_in (hT.sp _ (List.getElem_mem h)).1] at hd; exact (openN_in hs.1).2 ⟨by omega, by omega, hd.2.2⟩
  · rw [if_neg (by omega)]; exact hd
theorem wider_day {t : Tr} {n i d : Nat} (hT : OptT t n) (h : i < t.fl.length) (hd : d ∈ t.N (i : Int)) {g : Nat → Int} (hg : BestP t n g) (e : g d = (i : Int)) : meritF (widerT t i d d) n = meritF t n := by
  have hdn := trN_lt hT.span _ _ hd; have hd' := hd; rw [trN_at h, openN_in (hT.sp _ (List.getElem_mem h)).1] at hd'; have ho := wider_opt (lo := (d : Int)) (hi := (d : Int)) hT h ⟨by omega, by omega⟩
  have h1 := ho.mono (meritF_opt hT) (fun j hj k _ hk => by
    by_cases q : j = i
    · subst q; rw [if_pos rfl, openN_in (by omega)] at hk; obtain rfl : k = d := by omega
      exact hd
    · rw [if_neg (by omega)] at hk; exact hk) fun _ _ => Int.le_refl _
  have h2 := ho.le g (hg.ok.sub fun k hk h0 hm => by
    by_cases q : g k = (i : Int)
    · obtain rfl : k = d := hg.ok.inj hk hdn h0 (by omega); rw [if_pos q, openN_in (by omega)]; exact ⟨by omega, by omega, hd'.2.2⟩
    · rw [if_neg q]; exact hm)
  rw [hg.w] at h2; omega
-- the first days
theorem earl_best {n : Nat} : ∀ (k : Nat) (r : Tr), r.fl.length = k → OptT r n → ∃ g, OnP r.N n k (earlF n k r) g ∧ worthW (mAt r.fl) g n = meritF r n
  | 0, r, hk, hT => by
    have hno : OkP r.N n 0 noPlan := noPlan_ok; refine ⟨noPlan, ⟨hno, rfl, fun i hi => absurd hi (Nat.not_lt_zero _)⟩, ?_⟩; obtain ⟨h, h1, h2⟩ := (meritF_opt hT).ex; rw [← h2, worth_no]; rw [hk] at h1; refine (worth_no (W := mAt r.fl) n).symm.trans (worth_eq n fun d hd => ?_); have := h1.lt d; exact ⟨⟨fun q => absurd q (by show ¬ (0 : Int) ≤ -1; decide), fun q => by omega⟩, fun q => absurd q (by show ¬ (0 : Int) ≤ -1; decide)⟩
  | k + 1, r, hk, hT => by
    have hl : (restT n r).fl.length = k := by rw [restT_fl, List.length_drop]; omega
    have hsub : ∀ f ∈ (restT n r).fl, f ∈ r.fl := fun f hf => by rw [restT_fl] at hf; exact List.mem_of_mem_drop hf
    have hT' : OptT (restT n r) n := ⟨fun f hf => hT.sp f (hsub f hf), fun f hf => hT.mr f (hsub f hf)⟩; obtain ⟨g, hg, hw⟩ := earl_best k (restT n r) hl hT'; have hfl : ∀ a : Nat, (restT n r).fl[a]? = r.fl[a + 1]? := fun a => by rw [restT_fl, List.getElem?_drop, Nat.add_comm]
    have h0len : 0 < r.fl.length := by omega
    -- the plan of the rest, one place on
    have hNr : ∀ a : Nat, ∀ d ∈ (restT n r).N (a : Int), d ∈ r.N ((a + 1 : Nat) : Int) := fun a d hd => by
      have hcl : ∀ x : Int, x ∈ r.cl → x ∈ (restT n r).cl := fun x hx => by
        unfold restT; split
        · exact mem_closeL.2 (.inr hx)
        · exact hx
      rw [nCl_tr, nCl_eq (hfl a)] at hd; rw [nCl_tr]; unfold nCl Tr.N at hd ⊢
      dsimp only at hd ⊢
      split at hd
      · rename_i f hf
        rw [openN_mem'] at hd; exact openN_mem'.2 ⟨hd.1, fun q => hd.2 (hcl _ q)⟩
      · cases hd
    let p : Nat → Int := fun d => if 0 ≤ g d then g d + 1 else -1
    have pp : ∀ d, 0 ≤ g d → p d = g d + 1 := fun d h => if_pos h; have pn : ∀ d, ¬ 0 ≤ g d → p d = -1 := fun d h => if_neg h
    have hp : OkP r.N n r.fl.length p := OkP.of (fun d => by
      have := hg.ok.lt d
      by_cases h : 0 ≤ g d
      · rw [pp d h]; omega
      · rw [pn d h]; omega) (fun d hd h0 => by
      by_cases h : 0 ≤ g d
      · rw [pp d h]; obtain ⟨a, ha, -⟩ := hg.ok.at' h; have q := hg.ok.day d hd h; rw [ha] at q ⊢; exact hNr a d q
      · rw [pn d h] at h0; omega) (fun d e hd he h0 q => by
      by_cases h : 0 ≤ g d
      · rw [pp d h] at q
        by_cases h' : 0 ≤ g e
        · rw [pp e h'] at q; exact hg.ok.inj hd he h (by omega)
        · rw [pn e h'] at q; omega
      · rw [pn d h] at h0; omega)
    have wp : worthW (mAt r.fl) p n = meritF (restT n r) n := by
      rw [← hw]; refine (worth_eq n fun d hd => ?_).symm
      by_cases h : 0 ≤ g d
      · rw [pp d h]; refine ⟨by omega, fun _ => ?_⟩; obtain ⟨a, ha, -⟩ := hg.ok.at' h; rw [ha]; exact mAt_eq (hfl a)
      · exact ⟨⟨fun q => absurd q h, fun q => by rw [pn d h] at q; omega⟩, fun q => absurd q h⟩
    have p0 : ∀ d, p d ≠ ((0 : Nat) : Int) := fun d => by
      by_cases h : 0 ≤ g d
      · rw [pp d h]; omega
      · rw [pn d h]; omega
    have gS : ∀ i, gI (earlF n (k + 1) r) (i + 1) = gI (earlF n k (restT n r)) i := fun i => by rw [earlF_S]; unfold gI; rw [List.getElem?_cons_succ]
    have g0 : gI (earlF n (k + 1) r) 0 = dayI n r := by rw [earlF_S]; rfl
    have hlen : (earlF n (k + 1) r).length = k + 1 := by rw [earlF_S, List.length_cons, hg.len]
    have pday : ∀ d i, d < n → (p d = ((i + 1 : Nat) : Int) ↔ g d = (i : Int)) := fun d i hd => by
      by_cases h : 0 ≤ g d
      · rw [pp d h]; omega
      · rw [pn d h]; omega
    rcases hf : firstDay n r with _ | d0
    · -- no day
      obtain ⟨e1, e2⟩ := restT_none hf; refine ⟨p, ⟨by rw [← hk]; exact hp, hlen, fun i hi => ?_⟩, ?_⟩
      · cases i with
        | zero => exact .inl ⟨by rw [g0, e2], cntN_of_zero fun d _ => p0 d⟩
        | succ i =>
          rw [gS]
          rcases hg.on i (by omega) with ⟨a1, a2⟩ | ⟨d, a1, a2, a3⟩
          · exact .inl ⟨a1, cntN_of_zero fun d hd q => cntN_zero a2 d hd ((pday d i hd).1 q)⟩
          · exact .inr ⟨d, a1, a2, (pday d i a1).2 a3⟩
      · rw [wp, e1]; have hs := sure_iff (i := 0) hT
        have q : ¬ meritF (withoutT r [((0 : Nat) : Int)]) n < meritF r n := fun hlt => by
          have hb := bestF_best hT; have hz := hs.2.1 hlt _ hb; obtain ⟨d, hd, e⟩ := cntN_some hz; have hdN : d ∈ r.N ((0 : Nat) : Int) := by have := hb.ok.day d hd (by omega); rwa [e] at this
          have := (onF_iff hT h0len hdN).2.2 ⟨_, hb, e⟩; unfold firstDay at hf; rw [List.find?_eq_none] at hf; exact hf d hdN (by simpa using this)
        have := hs.1
        show meritF (withoutT r [0]) n = _
        have q : ¬ meritF (withoutT r [0]) n < meritF r n := q; have : meritF (withoutT r [0]) n ≤ meritF r n := this; omega
    · obtain ⟨e1, e2⟩ := restT_some hf; unfold firstDay at hf; have m1 : d0 ∈ r.N ((0 : Nat) : Int) := List.mem_of_find?_eq_some hf; have m2 := List.find?_some hf; rw [decide_eq_true_iff] at m2; have hd0 := trN_lt hT.span _ _ m1
      have hgd : ¬ 0 ≤ g d0 := fun h => by
        obtain ⟨a, ha, ham⟩ := hg.ok.at' h; have q := hg.ok.day d0 hd0 h; rw [ha, e1, nCl_tr] at q; have q := (nCl_shut (cl := r.cl) (cl' := closeL r.cl d0) mem_closeL).1 q; exact (shutN_mem.1 q).2 rfl
      refine ⟨updI p d0 ((0 : Nat) : Int), ⟨?_, hlen, fun i hi => ?_⟩, ?_⟩
      · rw [← hk]; refine OkP.of (fun d => ?_) (fun d hd h0 => ?_) (fun d e hd he h0 q => ?_)
        · rcases updI_cases p d0 ((0 : Nat) : Int) d with ⟨-, c⟩ | ⟨-, c⟩ <;> rw [c]
          · omega
          · exact hp.lt d
        · rcases updI_cases p d0 ((0 : Nat) : Int) d with ⟨c0, c⟩ | ⟨-, c⟩ <;> rw [c] at h0 ⊢
          · rw [c0]; exact m1
          · exact hp.day d hd h0
        · rcases updI_cases p d0 ((0 : Nat) : Int) d with ⟨c0, c⟩ | ⟨-, c⟩ <;> rw [c] at h0 q
          · rcases updI_cases p d0 ((0 : Nat) : Int) e with ⟨b0, b⟩ | ⟨-, b⟩ <;> rw [b] at q
            · omega
            · exact absurd q.symm (p0 e)
          · rcases updI_cases p d0 ((0 : Nat) : Int) e with ⟨b0, b⟩ | ⟨-, b⟩ <;> rw [b] at q
            · exact absurd q (p0 d)
            · exact hp.inj hd he h0 q
      · cases i with
        | zero => exact .inr ⟨d0, hd0, by rw [g0, e2], if_pos rfl⟩
        | succ i =>
          rw [gS]
          rcases hg.on i (by omega) with ⟨a1, a2⟩ | ⟨d, a1, a2, a3⟩
          · refine .inl ⟨a1, cntN_of_zero fun d hd q => ?_⟩
            rcases updI_cases p d0 ((0 : Nat) : Int) d with ⟨c0, c⟩ | ⟨-, c⟩ <;> rw [c] at q
            · omega
            · exact cntN_zero a2 d hd ((pday d i hd).1 q)
          · refine .inr ⟨d, a1, a2, ?_⟩; have : d ≠ d0 := fun e => hgd (by rw [← e]; omega); rw [updI_ne this]; exact (pday d i a1).2 a3
      · rw [worth_upd hd0, if_neg (by rw [pn d0 hgd]; decide), if_pos (Int.natCast_nonneg 0), wp, e1, ← m2]; unfold onF
        show meritF (closedT (withoutT r [0]) (d0 : Int)) n - 0 + mAt r.fl 0 = mAt r.fl 0 + meritF (closedT (withoutT r [0]) (d0 : Int)) n
        omega
theorem earl_first {n : Nat} {r : Tr} (k : Nat) : gI (earlF n (k + 1) r) 0 = match daysL r n 0 with | [] => -1 | x :: _ => x := by
  rw [earlF_S]
  show dayI n r = _
  unfold dayI firstDay daysL
  show (match (r.N 0).find? (daysP r n 0) with | some d => (d : Int) | none => -1) = match ((r.N 0).filter (daysP r n 0)).map _ with | [] => -1 | x :: _ => x
  generalize r.N 0 = L
  induction L with
  | nil => rfl
  | cons d L ih =>
    by_cases c : daysP r n 0 d = true
    · rw [List.find?_cons_of_pos c, List.filter_cons_of_pos c]; rfl
    · rw [List.find?_cons_of_neg c, List.filter_cons_of_neg c]; exact ih
end Go.Proofs.Ytnklbepeoicgpaa
