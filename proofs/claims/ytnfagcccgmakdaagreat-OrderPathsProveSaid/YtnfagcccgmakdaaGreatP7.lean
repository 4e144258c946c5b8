/- The laws' own functions: small, wide, keeps. The functions at a right order. -/
import Derived.Test.YtnfagcccgmakdaaGreatP6
import Derived.Test.YtnfagcccgmakdaaGreatP1
set_option linter.all false
namespace Go.Proofs.YtnfagcccgmakdaaGreat
open Go.RowKit Go.Wk Go.Proofs
attribute [local irreducible] Go.Wk.Wops Go.Wk.Wp Go.Wk.Mtree Go.Wk.Mops
set_option maxHeartbeats 4000000

def SmallP (o : Ord) : Prop := o.cop.length ≤ 8 ∧ o.runs.length ≤ 10 ∧ 0 < o.runs.length ∧ checkS o = 0
instance (o : Ord) : Decidable (SmallP o) := inferInstanceAs (Decidable (_ ∧ _))
theorem small_c (v : Value) (o : Ord) (w : World) (hV : OrderV w w.heap.size v o) (hf : Fits o) :
    CallsV Tryz.prog 52 #[v] w fun v w' => v = .bool (decide (SmallP o)) ∧ Ext w w' := by
  obtain ⟨cv, rv, rfl, ⟨A1, c1, rfl, hx⟩, ⟨A2, c2, tv, rfl, hy⟩⟩ := id hV
  refine Wp.fn Tryz.func52 rfl Tryz.ntmps52 (by simp) ?_
  refine Wp.keep [0] fun r1 hkeep => ?_
  obtain ⟨e0_1, -⟩ := hkeep
  simp [go_sem] at e0_1
  by_cases h1 : (o.cop.length : Int) ≤ 8
  · skip
    by_cases h2 : (o.runs.length : Int) ≤ 10
    · skip
      by_cases h3 : 0 < o.runs.length
      · skip
        refine Wp.seqRegion (.inl rfl) (by kernel_rfl) fun K' gd hK hg => ?_
        clear hg
        go_simp
        refine hK _ _ ?_
        clear hK K' gd
        refine Wp.keep [1] fun r2 hkeep => ?_
        obtain ⟨e1_2, -⟩ := hkeep
        simp [go_sem, e0_1] at e1_2
        clear e0_1
        refine Wp.seqRegion (.inl rfl) (by kernel_rfl) fun K' gd hK hg => ?_
        have g4 : gd 4 = some 7 := hg 4
        have g10 : gd 10 = some 13 := hg 10
        have g16 : gd 16 = some 19 := hg 16
        clear hg
        go_simp
        refine Wcall (.inl rfl) (check_c _ o _ (hV.ext (by repeat (first | assumption | exact Ext.refl _ | refine Ext.drew ?_ | refine Ext.alloc ?_ _ | refine Ext.trans ?_ (by assumption)))) hf) ?_
        rintro v w2 ⟨rfl, hE⟩
        go_simp
        refine hK _ _ ?_
        clear hK K' gd g4 g10 g16
        refine Wp.keep [2] fun r3 hkeep => ?_
        obtain ⟨e2_3, -⟩ := hkeep
        simp [go_sem, e1_2] at e2_3
        clear e1_2
        refine Wp.ret ?_
        refine endK_tmp Tryz.results52 (by decide) ?_
        rw [e2_3]
        refine ⟨?_, (by repeat (first | assumption | exact Ext.refl _ | refine Ext.drew ?_ | refine Ext.alloc ?_ _ | refine Ext.trans ?_ (by assumption)))⟩
        congr 1
        by_cases hz : checkS o = 0
        · rw [decide_eq_true (show SmallP o from ⟨by omega, by omega, h3, hz⟩), hz]; rfl
        · rw [decide_eq_false (fun h : SmallP o => hz h.2.2.2)]; simpa using hz
      · skip
        refine Wp.seqRegion (.inl rfl) (by kernel_rfl) fun K' gd hK hg => ?_
        clear hg
        go_simp
        refine hK _ _ ?_
        clear hK K' gd
        refine Wp.keep [1] fun r4 hkeep => ?_
        obtain ⟨e1_4, -⟩ := hkeep
        simp [go_sem, e0_1] at e1_4
        clear e0_1
        refine Wp.seqRegion (.inl rfl) (by kernel_rfl) fun K' gd hK hg => ?_
        have g4 : gd 4 = some 7 := hg 4
        have g10 : gd 10 = some 13 := hg 10
        have g16 : gd 16 = some 19 := hg 16
        clear hg
        go_simp
        refine hK _ _ ?_
        clear hK K' gd g4 g10 g16
        refine Wp.keep [2] fun r5 hkeep => ?_
        obtain ⟨e2_5, -⟩ := hkeep
        simp [go_sem, e1_4] at e2_5
        clear e1_4
        refine Wp.ret ?_
        refine endK_tmp Tryz.results52 (by decide) ?_
        rw [e2_5]
        refine ⟨?_, (by repeat (first | assumption | exact Ext.refl _ | refine Ext.drew ?_ | refine Ext.alloc ?_ _ | refine Ext.trans ?_ (by assumption)))⟩
        rw [decide_eq_false (fun h : SmallP o => h3 h.2.2.1)]
    · skip
      refine Wp.seqRegion (.inl rfl) (by kernel_rfl) fun K' gd hK hg => ?_
      clear hg
      go_simp
      refine hK _ _ ?_
      clear hK K' gd
      refine Wp.keep [1] fun r6 hkeep => ?_
      obtain ⟨e1_6, -⟩ := hkeep
      simp [go_sem, e0_1] at e1_6
      clear e0_1
      refine Wp.seqRegion (.inl rfl) (by kernel_rfl) fun K' gd hK hg => ?_
      have g4 : gd 4 = some 7 := hg 4
      have g10 : gd 10 = some 13 := hg 10
      have g16 : gd 16 = some 19 := hg 16
      clear hg
      go_simp
      refine hK _ _ ?_
      clear hK K' gd g4 g10 g16
      refine Wp.keep [2] fun r7 hkeep => ?_
      obtain ⟨e2_7, -⟩ := hkeep
      simp [go_sem, e1_6] at e2_7
      clear e1_6
      refine Wp.ret ?_
      refine endK_tmp Tryz.results52 (by decide) ?_
      rw [e2_7]
      refine ⟨?_, (by repeat (first | assumption | exact Ext.refl _ | refine Ext.drew ?_ | refine Ext.alloc ?_ _ | refine Ext.trans ?_ (by assumption)))⟩
      rw [decide_eq_false (fun h : SmallP o => h2 (by have := h.2.1; omega))]
  · skip
    refine Wp.seqRegion (.inl rfl) (by kernel_rfl) fun K' gd hK hg => ?_
    clear hg
    go_simp
    refine hK _ _ ?_
    clear hK K' gd
    refine Wp.keep [1] fun r8 hkeep => ?_
    obtain ⟨e1_8, -⟩ := hkeep
    simp [go_sem, e0_1] at e1_8
    clear e0_1
    refine Wp.seqRegion (.inl rfl) (by kernel_rfl) fun K' gd hK hg => ?_
    have g4 : gd 4 = some 7 := hg 4
    have g10 : gd 10 = some 13 := hg 10
    have g16 : gd 16 = some 19 := hg 16
    clear hg
    go_simp
    refine hK _ _ ?_
    clear hK K' gd g4 g10 g16
    refine Wp.keep [2] fun r9 hkeep => ?_
    obtain ⟨e2_9, -⟩ := hkeep
    simp [go_sem, e1_8] at e2_9
    clear e1_8
    refine Wp.ret ?_
    refine endK_tmp Tryz.results52 (by decide) ?_
    rw [e2_9]
    refine ⟨?_, (by repeat (first | assumption | exact Ext.refl _ | refine Ext.drew ?_ | refine Ext.alloc ?_ _ | refine Ext.trans ?_ (by assumption)))⟩
    rw [decide_eq_false (fun h : SmallP o => h1 (by have := h.1; omega))]
def WideP (o : Ord) (t : List (List Int)) : Prop := t.length = o.runs.length ∧ ∀ x ∈ t, x.length = o.cop.length
instance (o : Ord) (t : List (List Int)) : Decidable (WideP o t) := inferInstanceAs (Decidable (_ ∧ _))
theorem wide_c (v tv : Value) (o : Ord) (t : List (List Int)) (w : World) (hV : OrderV w w.heap.size v o) (hT : TabV w w.heap.size tv t) (hl : t.length ≤ 1000000) :
    CallsV Tryz.prog 53 #[v, tv] w fun v w' => v = .bool (decide (WideP o t)) ∧ Ext w w' := by
  obtain ⟨cv, rv, rfl, ⟨A1, c1, rfl, hx⟩, ⟨A2, c2, tv2, rfl, hy⟩⟩ := id hV
  obtain ⟨A3, c3, tu, rfl, hz⟩ := id hT
  refine Wp.fn Tryz.func53 rfl Tryz.ntmps53 (by simp) ?_
  refine Wp.keep [0, 1] fun r1 hkeep => ?_
  obtain ⟨e0_1, e1_1, -⟩ := hkeep
  simp [go_sem] at e0_1 e1_1
  by_cases hne : (t.length : Int) = (o.runs.length : Int)
  · skip
    refine Wp.seqRegion (.inl rfl) (by kernel_rfl) fun K' gd hK hg => ?_
    clear hg
    go_simp
    refine hK _ _ ?_
    clear hK K' gd
    refine Wp.keep [1, 2] fun r2 hkeep => ?_
    obtain ⟨e1_2, e2_2, -⟩ := hkeep
    simp [go_sem, e0_1, e1_1] at e1_2 e2_2
    clear e0_1 e1_1
    refine Wp.seq ?_
    refine Wp.seqRegion (.inl rfl) (by kernel_rfl) fun K' gd hK hg => ?_
    clear hg
    go_simp
    refine hK _ _ ?_
    clear hK K' gd
    refine Wp.keep [1, 2, 11] fun r3 hkeep => ?_
    obtain ⟨e1_3, e2_3, e11_3, -⟩ := hkeep
    simp [go_sem, e1_2, e2_2] at e1_3 e2_3 e11_3
    clear e1_2 e2_2
    refine Wp.condF (by go_simp) ?_
    have hne' : o.runs.length = t.length := by omega
    clear hne
    refine Wp.skip ?_
    refine thenK_normal ?_
    refine Wp.seq ?_
    refine Wp.seqRegion (.inl rfl) (by kernel_rfl) fun K' gd hK hg => ?_
    clear hg
    go_simp
    refine hK _ _ ?_
    clear hK K' gd
    refine Wp.keep [1, 2, 5] fun r4 hkeep => ?_
    obtain ⟨e1_4, e2_4, e5_4, -⟩ := hkeep
    simp [go_sem, e1_3, e2_3, e11_3] at e1_4 e2_4 e5_4
    clear e1_3 e2_3 e11_3
    refine Wp.block ?_
    refine Wp.loop (fun k ρ ds wk => AllEq [1, 2] ρ r4 ∧ ds = [] ∧ (ρ 5 = .int .i64 (k : Int) ∧ Ext w wk ∧ wk.cell? ⟨w.heap.size, 0, none⟩ = some (.slice A1 o.cop.length c1) ∧ (∀ j (h1 : j < t.length), j < k → t[j].length = o.cop.length))) (t.length) ?_ ?_
    · refine ⟨AllEq.refl _ _, rfl, ?_⟩
      exact ⟨by rw [e5_4]; rfl, (by repeat (first | assumption | exact Ext.refl _ | refine Ext.drew ?_ | refine Ext.alloc ?_ _ | refine Ext.trans ?_ (by assumption))), by go_simp, fun j _ h => absurd h (Nat.not_lt_zero _)⟩
    · rintro k r5 _ wk hk ⟨hA, rfl, ⟨e5, hEk, x0, hq⟩⟩
      obtain ⟨e1_5, e2_5, -⟩ := hA
      rw [e1_4] at e1_5
      rw [e2_4] at e2_5
      refine Wp.seq ?_
      refine Wp.seqRegion (.inl rfl) (by kernel_rfl) fun K' gd hK hg => ?_
      clear hg
      go_simp
      refine hK _ _ ?_
      clear hK K' gd
      refine Wp.keep [1, 2, 5, 15] fun r6 hkeep => ?_
      obtain ⟨e1_6, e2_6, e5_6, e15_6, -⟩ := hkeep
      simp [go_sem, e1_5, e2_5, e5] at e1_6 e2_6 e5_6 e15_6
      clear e1_5 e2_5 e5
      by_cases h : k < t.length
      · refine Wp.condT (by go_simp) ?_
        obtain ⟨b1, o1, u, rfl, d1, hu⟩ := TabV.at hT h
        obtain ⟨Au, cu, rfl⟩ := hu.slice
        have d1 := hEk.cell d1
        obtain ⟨y, hy0⟩ : ∃ y, t[k] = y := ⟨_, rfl⟩
        rw [hy0] at d1
        by_cases he : (y.length : Int) = (o.cop.length : Int)
        · skip
          refine Wp.skip ?_
          refine thenK_normal ?_
          refine Wp.seq ?_
          refine Wp.block ?_
          refine Wp.seqDraw (.inl rfl) mixed [([0, 1, 2, 3, 4], none), ([5, 6, 7, 8], none)] (by kernel_rfl) fun K' gd hK hg => ?_
          clear hg
          simp only [pick, nth, List.map_cons, List.map_nil, Option.map_none, Option.map_some]
          apply Mops.none
          · intro w' hE'
            have hC' := hE'.cellsS
            go_simp
            with_reducible rfl
          apply Mops.none
          · intro w' hE'
            have hC' := hE'.cellsS
            go_simp
            with_reducible rfl
          refine Mops.done ?_
          refine hK _ _ ?_
          clear hK K' gd
          refine Wp.keep [1, 2, 5, 26] fun r7 hkeep => ?_
          obtain ⟨e1_7, e2_7, e5_7, e26_7, -⟩ := hkeep
          simp [go_sem, e1_6, e2_6, e5_6, e15_6] at e1_7 e2_7 e5_7 e26_7
          clear e1_6 e2_6 e5_6 e15_6
          refine Wp.condF (by go_simp) ?_
          refine Wp.skip ?_
          refine blockK_normal ?_
          refine thenK_normal ?_
          refine Wp.loneRegion (.inl rfl) (by kernel_rfl) fun K' gd hK hg => ?_
          clear hg
          go_simp
          refine hK _ _ ?_
          clear hK K' gd
          refine Ends.keep [1, 2, 5] fun r8 hkeep => ?_
          obtain ⟨e1_8, e2_8, e5_8, -⟩ := hkeep
          simp [go_sem, e1_7, e2_7, e5_7, e26_7] at e1_8 e2_8 e5_8
          clear e1_7 e2_7 e5_7 e26_7
          refine Ends.mk ?_
          refine thenK_normal ⟨by omega, ⟨by rw [e1_8, e1_4], by rw [e2_8, e2_4], trivial⟩, rfl, ?_⟩
          refine ⟨by rw [e5_8, IntWalk.i64_in _ (by omega)]; rfl, (by repeat (first | assumption | exact Ext.refl _ | refine Ext.drew ?_ | refine Ext.alloc ?_ _ | refine Ext.trans ?_ (by assumption))), by go_simp, fun j h1 hj => ?_⟩
          by_cases e : j = k
          · subst e; rw [hy0]; omega
          · exact hq j h1 (by omega)
        · skip
          refine Wp.skip ?_
          refine thenK_normal ?_
          refine Wp.seq ?_
          refine Wp.block ?_
          refine Wp.seqDraw (.inl rfl) mixed [([0, 1, 2, 3, 4], none), ([5, 6, 7, 8], none)] (by kernel_rfl) fun K' gd hK hg => ?_
          clear hg
          simp only [pick, nth, List.map_cons, List.map_nil, Option.map_none, Option.map_some]
          apply Mops.none
          · intro w' hE'
            have hC' := hE'.cellsS
            go_simp
            with_reducible rfl
          apply Mops.none
          · intro w' hE'
            have hC' := hE'.cellsS
            go_simp
            with_reducible rfl
          refine Mops.done ?_
          refine hK _ _ ?_
          clear hK K' gd
          refine Wp.keep [1, 2, 5, 26] fun r9 hkeep => ?_
          obtain ⟨e1_9, e2_9, e5_9, e26_9, -⟩ := hkeep
          simp [go_sem, e1_6, e2_6, e5_6, e15_6] at e1_9 e2_9 e5_9 e26_9
          clear e1_6 e2_6 e5_6 e15_6
          refine Wp.condT (by go_simp) ?_
          refine Wp.seqRegion (.inl rfl) (by kernel_rfl) fun K' gd hK hg => ?_
          clear hg
          go_simp
          refine hK _ _ ?_
          clear hK K' gd
          refine Wp.keep [4] fun r10 hkeep => ?_
          obtain ⟨e4_10, -⟩ := hkeep
          simp [go_sem, e1_9, e2_9, e5_9, e26_9] at e4_10
          clear e1_9 e2_9 e5_9 e26_9
          refine Wp.ret ?_
          refine blockK_ret ?_
          refine thenK_ret ?_
          refine thenK_ret ?_
          refine blockK_ret ?_
          refine thenK_ret ?_
          refine endK_tmp Tryz.results53 (by decide) ?_
          rw [e4_10]
          refine ⟨?_, (by repeat (first | assumption | exact Ext.refl _ | refine Ext.drew ?_ | refine Ext.alloc ?_ _ | refine Ext.trans ?_ (by assumption)))⟩
          rw [decide_eq_false (fun h' : WideP o t => he (by rw [← hy0, h'.2 _ (List.getElem_mem h)]))]
      · refine Wp.condF (by go_simp) ?_
        refine Wp.exit ?_
        refine thenK_exit ?_
        refine thenK_exit ?_
        refine blockK_here ?_
        refine thenK_normal ?_
        refine Wp.seqRegion (.inl rfl) (by kernel_rfl) fun K' gd hK hg => ?_
        clear hg
        go_simp
        refine hK _ _ ?_
        clear hK K' gd
        refine Wp.keep [4] fun r11 hkeep => ?_
        obtain ⟨e4_11, -⟩ := hkeep
        simp [go_sem, e1_6, e2_6, e5_6, e15_6] at e4_11
        clear e1_6 e2_6 e5_6 e15_6
        refine Wp.ret ?_
        refine endK_tmp Tryz.results53 (by decide) ?_
        rw [e4_11]
        refine ⟨?_, hEk⟩
        rw [decide_eq_true (show WideP o t from ⟨hne'.symm, fun x hx => ?_⟩)]
        obtain ⟨j, hj, rfl⟩ := List.getElem_of_mem hx
        exact hq j hj (by omega)
  · skip
    refine Wp.seqRegion (.inl rfl) (by kernel_rfl) fun K' gd hK hg => ?_
    clear hg
    go_simp
    refine hK _ _ ?_
    clear hK K' gd
    refine Wp.keep [1, 2] fun r12 hkeep => ?_
    obtain ⟨e1_12, e2_12, -⟩ := hkeep
    simp [go_sem, e0_1, e1_1] at e1_12 e2_12
    clear e0_1 e1_1
    refine Wp.seq ?_
    refine Wp.seqRegion (.inl rfl) (by kernel_rfl) fun K' gd hK hg => ?_
    clear hg
    go_simp
    refine hK _ _ ?_
    clear hK K' gd
    refine Wp.keep [1, 2, 11] fun r13 hkeep => ?_
    obtain ⟨e1_13, e2_13, e11_13, -⟩ := hkeep
    simp [go_sem, e1_12, e2_12] at e1_13 e2_13 e11_13
    clear e1_12 e2_12
    refine Wp.condT (by go_simp) ?_
    refine Wp.seqRegion (.inl rfl) (by kernel_rfl) fun K' gd hK hg => ?_
    clear hg
    go_simp
    refine hK _ _ ?_
    clear hK K' gd
    refine Wp.keep [4] fun r14 hkeep => ?_
    obtain ⟨e4_14, -⟩ := hkeep
    simp [go_sem, e1_13, e2_13, e11_13] at e4_14
    clear e1_13 e2_13 e11_13
    refine Wp.ret ?_
    refine thenK_ret ?_
    refine endK_tmp Tryz.results53 (by decide) ?_
    rw [e4_14]
    refine ⟨?_, (by repeat (first | assumption | exact Ext.refl _ | refine Ext.drew ?_ | refine Ext.alloc ?_ _ | refine Ext.trans ?_ (by assumption)))⟩
    rw [decide_eq_false (fun h : WideP o t => hne (by rw [h.1]))]
/-- a table as it lies -/
structure TabG (w : World) (b ob : Nat) (rb ro rc : Nat → Nat) (n m : Nat) (t : Nat → Nat → Int) : Prop where
  row : ∀ i, i < n → w.cell? ⟨b, ob + i, none⟩ = some (.slice (some ⟨rb i, ro i, none⟩) m (rc i))
  cell : ∀ i j, i < n → j < m → w.cell? ⟨rb i, ro i + j, none⟩ = some (.int .i64 (t i j))
theorem TabG.ext {w w' : World} {b ob n m : Nat} {rb ro rc : Nat → Nat} {t : Nat → Nat → Int} (h : TabG w b ob rb ro rc n m t) (hE : Ext w w') : TabG w' b ob rb ro rc n m t :=
  ⟨fun i hi => hE.cell (h.row i hi), fun i j hi hj => hE.cell (h.cell i j hi hj)⟩
theorem tabG_of {w : World} {B : Nat} {v : Value} {o : Ord} {t : Nat → Nat → Int} (h : TabV w B v (tabL o t)) (hn : 0 < o.n) (hm : 0 < o.m) : ∃ b ob c rb ro rc, v = .slice (some ⟨b, ob, none⟩) o.n c ∧ TabG w b ob rb ro rc o.n o.m t := by
  obtain ⟨b, ob, c, -, -, -, rfl, -, -⟩ := tab_at h hn hm
  obtain ⟨f, hf⟩ := Go.Deep.choose_lt (α := Nat × Nat × Nat) (p := fun i z => w.cell? ⟨b, ob + i, none⟩ = some (.slice (some ⟨z.1, z.2.1, none⟩) o.m z.2.2) ∧ ∀ j, j < o.m → w.cell? ⟨z.1, z.2.1 + j, none⟩ = some (.int .i64 (t i j))) fun i hi => by
    obtain ⟨b', ob', c', b2, o2, c2, hv, h1, h2⟩ := tab_at h hi hm
    injection hv with e1 e2 e3
    injection e1 with e1
    injection e1 with e1 e4
    subst e1; subst e4
    refine ⟨(b2, o2, c2), h1, fun j hj => ?_⟩
    obtain ⟨b', ob', c', b3, o3, c3, hv, h3, h4⟩ := tab_at h hi hj
    injection hv with e1 e2 e3
    injection e1 with e1
    injection e1 with e1 e4
    subst e1; subst e4
    rw [h1] at h3
    injection h3 with h3
    injection h3 with e1 e2 e3
    injection e1 with e1
    injection e1 with e1 e4
    subst e1; subst e4
    exact h4
  exact ⟨b, ob, c, fun i => (f i).1, fun i => (f i).2.1, fun i => (f i).2.2, rfl, fun i hi => (hf i hi).1, fun i j hi hj => (hf i hi).2 j hj⟩
def KeepsAt (o : Ord) (t : Nat → Nat → Int) (i j : Nat) : Prop := (if j = 0 then o.A i else t i (j - 1) + o.T i (j - 1)) ≤ t i j ∧ (o.C j ≤ i → t (i - (o.C j).toNat) j + o.T (i - (o.C j).toNat) j ≤ t i j)
theorem keepsAt_all {o : Ord} (ho : OrdOk o) {t : Nat → Nat → Int} : KeepsP o t ↔ ∀ i j, i < o.n → j < o.m → KeepsAt o t i j := by
  constructor
  · intro h i j hi hj
    have hC := ho.vC j hj
    refine ⟨?_, fun hc => h.copy i _ j hi hj (by omega)⟩
    split
    · rename_i e; subst e; exact h.arr i hi
    · have := h.piece i (j - 1) hi (by omega)
      rwa [show j - 1 + 1 = j by omega] at this
  · intro h
    have hm := ho.hm1
    refine ⟨fun i hi => ?_, fun i j hi hj => ?_, fun i k j hi hj hk => ?_⟩
    · have := (h i 0 hi (by omega)).1
      rwa [if_pos rfl] at this
    · have := (h i (j + 1) hi hj).1
      rwa [if_neg (by omega), Nat.add_sub_cancel] at this
    · have hC := ho.vC j hj
      have := (h i j hi hj).2 (by omega)
      rwa [show i - (o.C j).toNat = k by omega] at this
end Go.Proofs.YtnfagcccgmakdaaGreat
namespace Go.Proofs.YtnfagcccgmakdaaGreat
open Go.RowKit Go.Wk Go.Proofs

theorem SmallP.good {o : Ord} (h : SmallP o) : OrdGood o := checkS_zero.1 h.2.2.2
theorem SmallP.n {o : Ord} (h : SmallP o) : 0 < o.n ∧ o.n ≤ 10 := ⟨h.2.2.1, h.2.1⟩
theorem SmallP.m {o : Ord} (h : SmallP o) : o.m ≤ 8 := h.1
theorem small_T {v : Value} {o : Ord} (hs : SmallP o) (w : World) (hV : OrderV w w.heap.size v o) (hf : Fits o) : CallsV Tryz.prog 52 #[v] w fun v w' => v = .bool true ∧ Ext w w' :=
  (small_c v o w hV hf).mono fun _ _ ⟨h1, h3⟩ => by rw [decide_eq_true hs] at h1; exact ⟨h1, h3⟩
theorem small_F {v : Value} {o : Ord} (hs : ¬ SmallP o) (w : World) (hV : OrderV w w.heap.size v o) (hf : Fits o) : CallsV Tryz.prog 52 #[v] w fun v w' => v = .bool false ∧ Ext w w' :=
  (small_c v o w hV hf).mono fun _ _ ⟨h1, h3⟩ => by rw [decide_eq_false hs] at h1; exact ⟨h1, h3⟩
def TabH (w : World) (v : Value) (o : Ord) (t : Nat → Nat → Int) : Prop := TabV w w.heap.size v (tabL o t) ∧ ∃ b ob c rb ro rc, v = .slice (some ⟨b, ob, none⟩) o.n c ∧ TabG w b ob rb ro rc o.n o.m t
theorem TabH.of {w : World} {v : Value} {o : Ord} {t : Nat → Nat → Int} (h : TabV w w.heap.size v (tabL o t)) (hn : 0 < o.n) (hm : 0 < o.m) : TabH w v o t := ⟨h, tabG_of h hn hm⟩
theorem TabH.ext {w w' : World} {v : Value} {o : Ord} {t : Nat → Nat → Int} (h : TabH w v o t) (hE : Ext w w') : TabH w' v o t := by
  obtain ⟨h1, b, ob, c, rb, ro, rc, rfl, h2⟩ := h
  exact ⟨h1.ext hE, b, ob, c, rb, ro, rc, rfl, h2.ext hE⟩
theorem Times_g (v : Value) (o : Ord) (w : World) (hV : OrderV w w.heap.size v o) (hg : OrdGood o) (hn : 0 < o.n) :
    CallsV Tryz.prog 12 #[v] w fun v w' => ∃ t, v = .tuple #[t, .int .i64 0] ∧ TabH w' t o (begA o) ∧ Ext w w' :=
  (Times_c v o w hV hg.fits).mono fun _ _ ⟨t, h1, h2, h3⟩ => by
    have hc := checkS_zero.2 hg
    have hm := hg.ok.hm1
    rw [hc] at h1 h2; rw [if_pos rfl] at h2; exact ⟨t, h1, TabH.of h2.tabV hn (by omega), h3⟩
theorem End_g (v : Value) (o : Ord) (w : World) (hV : OrderV w w.heap.size v o) (hg : OrdGood o) :
    CallsV Tryz.prog 14 #[v] w fun v w' => v = .tuple #[.int .i64 (endS o), .int .i64 0] ∧ Ext w w' :=
  (End_c v o w hV hg.fits).mono fun _ _ ⟨h1, h3⟩ => by
    have hc := checkS_zero.2 hg
    rw [hc, if_pos rfl] at h1; exact ⟨h1, h3⟩
theorem askS_good {o : Ord} {p : Bool} (hg : OrdGood o) (hp : p = true) : askS o p = 0 := askS_zero.2 ⟨hg, hp⟩
theorem Latest_g (v : Value) (o : Ord) (d : Int) (w : World) (hV : OrderV w w.heap.size v o) (hg : OrdGood o) (hn : 0 < o.n) (hd : endS o ≤ d ∧ d ≤ 1048576) :
    CallsV Tryz.prog 29 #[v, .int .i64 d] w fun v w' => ∃ t, v = .tuple #[t, .int .i64 0] ∧ TabH w' t o (lstA o d) ∧ Ext w w' :=
  (Latest_c v o d w hV hg.fits).mono fun _ _ ⟨t, h1, h2, h3⟩ => by
    have h0 := end_nonneg (o := o)
    have hc : latestE o d = 0 := by
      unfold latestE
      rw [if_pos (askS_good hg (by unfold okDay; exact decide_eq_true ⟨by omega, hd.2⟩)), if_neg (by omega)]
    have hm := hg.ok.hm1
    rw [hc] at h1 h2; rw [if_pos rfl] at h2; exact ⟨t, h1, TabH.of h2.tabV hn (by omega), h3⟩
theorem wide_tab {o : Ord} (t : Nat → Nat → Int) : WideP o (tabL o t) := by
  refine ⟨tabL_len o t, fun x hx => ?_⟩
  obtain ⟨i, -, rfl⟩ := List.mem_map.1 hx
  exact rowL_len o t i
theorem wide_g (v tv : Value) (o : Ord) (t : Nat → Nat → Int) (w : World) (hV : OrderV w w.heap.size v o) (hT : TabH w tv o t) (hn : o.n ≤ 1000000) :
    CallsV Tryz.prog 53 #[v, tv] w fun v w' => v = .bool true ∧ Ext w w' :=
  (wide_c v tv o (tabL o t) w hV hT.1 (by rw [tabL_len]; exact hn)).mono fun _ _ ⟨h1, h3⟩ => by
    rw [decide_eq_true (wide_tab t)] at h1; exact ⟨h1, h3⟩
theorem wide_T {v tv : Value} {o : Ord} {t : List (List Int)} (hw : WideP o t) (w : World) (hV : OrderV w w.heap.size v o) (hT : TabV w w.heap.size tv t) (hl : t.length ≤ 1000000) :
    CallsV Tryz.prog 53 #[v, tv] w fun v w' => v = .bool true ∧ Ext w w' :=
  (wide_c v tv o t w hV hT hl).mono fun _ _ ⟨h1, h3⟩ => by rw [decide_eq_true hw] at h1; exact ⟨h1, h3⟩
theorem wide_F {v tv : Value} {o : Ord} {t : List (List Int)} (hw : ¬ WideP o t) (w : World) (hV : OrderV w w.heap.size v o) (hT : TabV w w.heap.size tv t) (hl : t.length ≤ 1000000) :
    CallsV Tryz.prog 53 #[v, tv] w fun v w' => v = .bool false ∧ Ext w w' :=
  (wide_c v tv o t w hV hT hl).mono fun _ _ ⟨h1, h3⟩ => by rw [decide_eq_false hw] at h1; exact ⟨h1, h3⟩
def dF (days : List (List Int)) (i j : Nat) : Int := ((days[i]?.getD [])[j]?).getD 0
theorem dF_tab {o : Ord} {days : List (List Int)} (h : WideP o days) : days = tabL o (dF days) := by
  refine List.ext_getElem (by rw [tabL_len]; exact h.1) fun i h1 h2 => ?_
  rw [tabL_get]
  have hr := h.2 _ (List.getElem_mem h1)
  refine List.ext_getElem (by rw [rowL_len]; exact hr) fun j h3 h4 => ?_
  rw [rowL_get]
  simp [dF, h1, h3]
end Go.Proofs.YtnfagcccgmakdaaGreat
