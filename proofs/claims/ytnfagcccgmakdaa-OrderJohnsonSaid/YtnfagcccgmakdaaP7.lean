/- The laws' own functions: small, wide, keeps. The functions at a right order. -/
import Derived.Test.YtnfagcccgmakdaaP6
import Derived.Test.YtnfagcccgmakdaaP1
set_option linter.all false
namespace Go.Proofs.Ytnfagcccgmakdaa
open Go.RowKit Go.Wk Go.Proofs
attribute [local irreducible] Go.Wk.Wops Go.Wk.Wp Go.Wk.Mtree Go.Wk.Mops
set_option maxHeartbeats 4000000

def SmallP (o : Ord) : Prop := o.cop.length ≤ 8 ∧ o.runs.length ≤ 10 ∧ 0 < o.runs.length ∧ checkS o = 0
instance (o : Ord) : Decidable (SmallP o) := inferInstanceAs (Decidable (_ ∧ _))
theorem small_c (v : Value) (o : Ord) (w : World) (hV : OrderV w w.heap.size v o) (hf : Fits o) :
    CallsV Try.prog 12 #[v] w fun v w' => v = .bool (decide (SmallP o)) ∧ Ext w w' := by
  obtain ⟨cv, rv, rfl, ⟨A1, c1, rfl, hx⟩, ⟨A2, c2, tv, rfl, hy⟩⟩ := id hV
  refine Wp.fn Try.func12 rfl Try.ntmps12 (by simp) ?_
  refine Wp.keep [0] fun r1 hkeep => ?_
  obtain ⟨e0_1, -⟩ := hkeep
  simp [go_sem] at e0_1
  by_cases h1 : (o.cop.length : Int) ≤ 8
  · skip
    by_cases h2 : (o.runs.length : Int) ≤ 10
    · skip
      by_cases h3 : 0 < o.runs.length
      · skip
        refine Wp.seqRegion (.inl rfl) (by kernel_rfl) fun K' gd hK hg => ?_
        clear hg
        go_simp
        refine hK _ _ ?_
        clear hK K' gd
        refine Wp.keep [1] fun r2 hkeep => ?_
        obtain ⟨e1_2, -⟩ := hkeep
        simp [go_sem, e0_1] at e1_2
        clear e0_1
        refine Wp.seqRegion (.inl rfl) (by kernel_rfl) fun K' gd hK hg => ?_
        have g4 : gd 4 = some 7 := hg 4
        have g10 : gd 10 = some 13 := hg 10
        have g16 : gd 16 = some 19 := hg 16
        clear hg
        go_simp
        refine Wcall (.inl rfl) (check_c _ o _ (hV.ext (by repeat (first | assumption | exact Ext.refl _ | refine Ext.drew ?_ | refine Ext.alloc ?_ _ | refine Ext.trans ?_ (by assumption)))) hf) ?_
        rintro v w2 ⟨rfl, hE⟩
        go_simp
        refine hK _ _ ?_
        clear hK K' gd g4 g10 g16
        refine Wp.keep [2] fun r3 hkeep => ?_
        obtain ⟨e2_3, -⟩ := hkeep
        simp [go_sem, e1_2] at e2_3
        clear e1_2
        refine Wp.ret ?_
        refine endK_tmp Try.results12 (by decide) ?_
        rw [e2_3]
        refine ⟨?_, (by repeat (first | assumption | exact Ext.refl _ | refine Ext.drew ?_ | refine Ext.alloc ?_ _ | refine Ext.trans ?_ (by assumption)))⟩
        congr 1
        by_cases hz : checkS o = 0
        · rw [decide_eq_true (show SmallP o from ⟨by omega, by omega, h3, hz⟩), hz]; rfl
        · rw [decide_eq_false (fun h : SmallP o => hz h.2.2.2)]; simpa using hz
      · skip
        refine Wp.seqRegion (.inl rfl) (by kernel_rfl) fun K' gd hK hg => ?_
        clear hg
        go_simp
        refine hK _ _ ?_
        clear hK K' gd
        refine Wp.keep [1] fun r4 hkeep => ?_
        obtain ⟨e1_4, -⟩ := hkeep
        simp [go_sem, e0_1] at e1_4
        clear e0_1
        refine Wp.seqRegion (.inl rfl) (by kernel_rfl) fun K' gd hK hg => ?_
        have g4 : gd 4 = some 7 := hg 4
        have g10 : gd 10 = some 13 := hg 10
        have g16 : gd 16 = some 19 := hg 16
        clear hg
        go_simp
        refine hK _ _ ?_
        clear hK K' gd g4 g10 g16
        refine Wp.keep [2] fun r5 hkeep => ?_
        obtain ⟨e2_5, -⟩ := hkeep
        simp [go_sem, e1_4] at e2_5
        clear e1_4
        refine Wp.ret ?_
        refine endK_tmp Try.results12 (by decide) ?_
        rw [e2_5]
        refine ⟨?_, (by repeat (first | assumption | exact Ext.refl _ | refine Ext.drew ?_ | refine Ext.alloc ?_ _ | refine Ext.trans ?_ (by assumption)))⟩
        rw [decide_eq_false (fun h : SmallP o => h3 h.2.2.1)]
    · skip
      refine Wp.seqRegion (.inl rfl) (by kernel_rfl) fun K' gd hK hg => ?_
      clear hg
      go_simp
      refine hK _ _ ?_
      clear hK K' gd
      refine Wp.keep [1] fun r6 hkeep => ?_
      obtain ⟨e1_6, -⟩ := hkeep
      simp [go_sem, e0_1] at e1_6
      clear e0_1
      refine Wp.seqRegion (.inl rfl) (by kernel_rfl) fun K' gd hK hg => ?_
      have g4 : gd 4 = some 7 := hg 4
      have g10 : gd 10 = some 13 := hg 10
      have g16 : gd 16 = some 19 := hg 16
      clear hg
      go_simp
      refine hK _ _ ?_
      clear hK K' gd g4 g10 g16
      refine Wp.keep [2] fun r7 hkeep => ?_
      obtain ⟨e2_7, -⟩ := hkeep
      simp [go_sem, e1_6] at e2_7
      clear e1_6
      refine Wp.ret ?_
      refine endK_tmp Try.results12 (by decide) ?_
      rw [e2_7]
      refine ⟨?_, (by repeat (first | assumption | exact Ext.refl _ | refine Ext.drew ?_ | refine Ext.alloc ?_ _ | refine Ext.trans ?_ (by assumption)))⟩
      rw [decide_eq_false (fun h : SmallP o => h2 (by have := h.2.1; omega))]
  · skip
    refine Wp.seqRegion (.inl rfl) (by kernel_rfl) fun K' gd hK hg => ?_
    clear hg
    go_simp
    refine hK _ _ ?_
    clear hK K' gd
    refine Wp.keep [1] fun r8 hkeep => ?_
    obtain ⟨e1_8, -⟩ := hkeep
    simp [go_sem, e0_1] at e1_8
    clear e0_1
    refine Wp.seqRegion (.inl rfl) (by kernel_rfl) fun K' gd hK hg => ?_
    have g4 : gd 4 = some 7 := hg 4
    have g10 : gd 10 = some 13 := hg 10
    have g16 : gd 16 = some 19 := hg 16
    clear hg
    go_simp
    refine hK _ _ ?_
    clear hK K' gd g4 g10 g16
    refine Wp.keep [2] fun r9 hkeep => ?_
    obtain ⟨e2_9, -⟩ := hkeep
    simp [go_sem, e1_8] at e2_9
    clear e1_8
    refine Wp.ret ?_
    refine endK_tmp Try.results12 (by decide) ?_
    rw [e2_9]
    refine ⟨?_, (by repeat (first | assumption | exact Ext.refl _ | refine Ext.drew ?_ | refine Ext.alloc ?_ _ | refine Ext.trans ?_ (by assumption)))⟩
    rw [decide_eq_false (fun h : SmallP o => h1 (by have := h.1; omega))]
def WideP (o : Ord) (t : List (List Int)) : Prop := t.length = o.runs.length ∧ ∀ x ∈ t, x.length = o.cop.length
instance (o : Ord) (t : List (List Int)) : Decidable (WideP o t) := inferInstanceAs (Decidable (_ ∧ _))
theorem wide_c (v tv : Value) (o : Ord) (t : List (List Int)) (w : World) (hV : OrderV w w.heap.size v o) (hT : TabV w w.heap.size tv t) (hl : t.length ≤ 1000000) :
    CallsV Try.prog 17 #[v, tv] w fun v w' => v = .bool (decide (WideP o t)) ∧ Ext w w' := by
  obtain ⟨cv, rv, rfl, ⟨A1, c1, rfl, hx⟩, ⟨A2, c2, tv2, rfl, hy⟩⟩ := id hV
  obtain ⟨A3, c3, tu, rfl, hz⟩ := id hT
  refine Wp.fn Try.func17 rfl Try.ntmps17 (by simp) ?_
  refine Wp.keep [0, 1] fun r1 hkeep => ?_
  obtain ⟨e0_1, e1_1, -⟩ := hkeep
  simp [go_sem] at e0_1 e1_1
  by_cases hne : (t.length : Int) = (o.runs.length : Int)
  · skip
    refine Wp.seqRegion (.inl rfl) (by kernel_rfl) fun K' gd hK hg => ?_
    clear hg
    go_simp
    refine hK _ _ ?_
    clear hK K' gd
    refine Wp.keep [1, 2] fun r2 hkeep => ?_
    obtain ⟨e1_2, e2_2, -⟩ := hkeep
    simp [go_sem, e0_1, e1_1] at e1_2 e2_2
    clear e0_1 e1_1
    refine Wp.seq ?_
    refine Wp.seqRegion (.inl rfl) (by kernel_rfl) fun K' gd hK hg => ?_
    clear hg
    go_simp
    refine hK _ _ ?_
    clear hK K' gd
    refine Wp.keep [1, 2, 11] fun r3 hkeep => ?_
    obtain ⟨e1_3, e2_3, e11_3, -⟩ := hkeep
    simp [go_sem, e1_2, e2_2] at e1_3 e2_3 e11_3
    clear e1_2 e2_2
    refine Wp.condF (by go_simp) ?_
    have hne' : o.runs.length = t.length := by omega
    clear hne
    refine Wp.skip ?_
    refine thenK_normal ?_
    refine Wp.seq ?_
    refine Wp.seqRegion (.inl rfl) (by kernel_rfl) fun K' gd hK hg => ?_
    clear hg
    go_simp
    refine hK _ _ ?_
    clear hK K' gd
    refine Wp.keep [1, 2, 5] fun r4 hkeep => ?_
    obtain ⟨e1_4, e2_4, e5_4, -⟩ := hkeep
    simp [go_sem, e1_3, e2_3, e11_3] at e1_4 e2_4 e5_4
    clear e1_3 e2_3 e11_3
    refine Wp.block ?_
    refine Wp.loop (fun k ρ ds wk => AllEq [1, 2] ρ r4 ∧ ds = [] ∧ (ρ 5 = .int .i64 (k : Int) ∧ Ext w wk ∧ wk.cell? ⟨w.heap.size, 0, none⟩ = some (.slice A1 o.cop.length c1) ∧ (∀ j (h1 : j < t.length), j < k → t[j].length = o.cop.length))) (t.length) ?_ ?_
    · refine ⟨AllEq.refl _ _, rfl, ?_⟩
      exact ⟨by rw [e5_4]; rfl, (by repeat (first | assumption | exact Ext.refl _ | refine Ext.drew ?_ | refine Ext.alloc ?_ _ | refine Ext.trans ?_ (by assumption))), by go_simp, fun j _ h => absurd h (Nat.not_lt_zero _)⟩
    · rintro k r5 _ wk hk ⟨hA, rfl, ⟨e5, hEk, x0, hq⟩⟩
      obtain ⟨e1_5, e2_5, -⟩ := hA
      rw [e1_4] at e1_5
      rw [e2_4] at e2_5
      refine Wp.seq ?_
      refine Wp.seqRegion (.inl rfl) (by kernel_rfl) fun K' gd hK hg => ?_
      clear hg
      go_simp
      refine hK _ _ ?_
      clear hK K' gd
      refine Wp.keep [1, 2, 5, 15] fun r6 hkeep => ?_
      obtain ⟨e1_6, e2_6, e5_6, e15_6, -⟩ := hkeep
      simp [go_sem, e1_5, e2_5, e5] at e1_6 e2_6 e5_6 e15_6
      clear e1_5 e2_5 e5
      by_cases h : k < t.length
      · refine Wp.condT (by go_simp) ?_
        obtain ⟨b1, o1, u, rfl, d1, hu⟩ := TabV.at hT h
        obtain ⟨Au, cu, rfl⟩ := hu.slice
        have d1 := hEk.cell d1
        obtain ⟨y, hy0⟩ : ∃ y, t[k] = y := ⟨_, rfl⟩
        rw [hy0] at d1
        by_cases he : (y.length : Int) = (o.cop.length : Int)
        · skip
          refine Wp.skip ?_
          refine thenK_normal ?_
          refine Wp.seq ?_
          refine Wp.block ?_
          refine Wp.seqDraw (.inl rfl) mixed [([0, 1, 2, 3, 4], none), ([5, 6, 7, 8], none)] (by kernel_rfl) fun K' gd hK hg => ?_
          clear hg
          simp only [pick, nth, List.map_cons, List.map_nil, Option.map_none, Option.map_some]
          apply Mops.none
          · intro w' hE'
            have hC' := hE'.cellsS
            go_simp
            with_reducible rfl
          apply Mops.none
          · intro w' hE'
            have hC' := hE'.cellsS
            go_simp
            with_reducible rfl
          refine Mops.done ?_
          refine hK _ _ ?_
          clear hK K' gd
          refine Wp.keep [1, 2, 5, 26] fun r7 hkeep => ?_
          obtain ⟨e1_7, e2_7, e5_7, e26_7, -⟩ := hkeep
          simp [go_sem, e1_6, e2_6, e5_6, e15_6] at e1_7 e2_7 e5_7 e26_7
          clear e1_6 e2_6 e5_6 e15_6
          refine Wp.condF (by go_simp) ?_
          refine Wp.skip ?_
          refine blockK_normal ?_
          refine thenK_normal ?_
          refine Wp.loneRegion (.inl rfl) (by kernel_rfl) fun K' gd hK hg => ?_
          clear hg
          go_simp
          refine hK _ _ ?_
          clear hK K' gd
          refine Ends.keep [1, 2, 5] fun r8 hkeep => ?_
          obtain ⟨e1_8, e2_8, e5_8, -⟩ := hkeep
          simp [go_sem, e1_7, e2_7, e5_7, e26_7] at e1_8 e2_8 e5_8
          clear e1_7 e2_7 e5_7 e26_7
          refine Ends.mk ?_
          refine thenK_normal ⟨by omega, ⟨by rw [e1_8, e1_4], by rw [e2_8, e2_4], trivial⟩, rfl, ?_⟩
          refine ⟨by rw [e5_8, IntWalk.i64_in _ (by omega)]; rfl, (by repeat (first | assumption | exact Ext.refl _ | refine Ext.drew ?_ | refine Ext.alloc ?_ _ | refine Ext.trans ?_ (by assumption))), by go_simp, fun j h1 hj => ?_⟩
          by_cases e : j = k
          · subst e; rw [hy0]; omega
          · exact hq j h1 (by omega)
        · skip
          refine Wp.skip ?_
          refine thenK_normal ?_
          refine Wp.seq ?_
          refine Wp.block ?_
          refine Wp.seqDraw (.inl rfl) mixed [([0, 1, 2, 3, 4], none), ([5, 6, 7, 8], none)] (by kernel_rfl) fun K' gd hK hg => ?_
          clear hg
          simp only [pick, nth, List.map_cons, List.map_nil, Option.map_none, Option.map_some]
          apply Mops.none
          · intro w' hE'
            have hC' := hE'.cellsS
            go_simp
            with_reducible rfl
          apply Mops.none
          · intro w' hE'
            have hC' := hE'.cellsS
            go_simp
            with_reducible rfl
          refine Mops.done ?_
          refine hK _ _ ?_
          clear hK K' gd
          refine Wp.keep [1, 2, 5, 26] fun r9 hkeep => ?_
          obtain ⟨e1_9, e2_9, e5_9, e26_9, -⟩ := hkeep
          simp [go_sem, e1_6, e2_6, e5_6, e15_6] at e1_9 e2_9 e5_9 e26_9
          clear e1_6 e2_6 e5_6 e15_6
          refine Wp.condT (by go_simp) ?_
          refine Wp.seqRegion (.inl rfl) (by kernel_rfl) fun K' gd hK hg => ?_
          clear hg
          go_simp
          refine hK _ _ ?_
          clear hK K' gd
          refine Wp.keep [4] fun r10 hkeep => ?_
          obtain ⟨e4_10, -⟩ := hkeep
          simp [go_sem, e1_9, e2_9, e5_9, e26_9] at e4_10
          clear e1_9 e2_9 e5_9 e26_9
          refine Wp.ret ?_
          refine blockK_ret ?_
          refine thenK_ret ?_
          refine thenK_ret ?_
          refine blockK_ret ?_
          refine thenK_ret ?_
          refine endK_tmp Try.results17 (by decide) ?_
          rw [e4_10]
          refine ⟨?_, (by repeat (first | assumption | exact Ext.refl _ | refine Ext.drew ?_ | refine Ext.alloc ?_ _ | refine Ext.trans ?_ (by assumption)))⟩
          rw [decide_eq_false (fun h' : WideP o t => he (by rw [← hy0, h'.2 _ (List.getElem_mem h)]))]
      · refine Wp.condF (by go_simp) ?_
        refine Wp.exit ?_
        refine thenK_exit ?_
        refine thenK_exit ?_
        refine blockK_here ?_
        refine thenK_normal ?_
        refine Wp.seqRegion (.inl rfl) (by kernel_rfl) fun K' gd hK hg => ?_
        clear hg
        go_simp
        refine hK _ _ ?_
        clear hK K' gd
        refine Wp.keep [4] fun r11 hkeep => ?_
        obtain ⟨e4_11, -⟩ := hkeep
        simp [go_sem, e1_6, e2_6, e5_6, e15_6] at e4_11
        clear e1_6 e2_6 e5_6 e15_6
        refine Wp.ret ?_
        refine endK_tmp Try.results17 (by decide) ?_
        rw [e4_11]
        refine ⟨?_, hEk⟩
        rw [decide_eq_true (show WideP o t from ⟨hne'.symm, fun x hx => ?_⟩)]
        obtain ⟨j, hj, rfl⟩ := List.getElem_of_mem hx
        exact hq j hj (by omega)
  · skip
    refine Wp.seqRegion (.inl rfl) (by kernel_rfl) fun K' gd hK hg => ?_
    clear hg
    go_simp
    refine hK _ _ ?_
    clear hK K' gd
    refine Wp.keep [1, 2] fun r12 hkeep => ?_
    obtain ⟨e1_12, e2_12, -⟩ := hkeep
    simp [go_sem, e0_1, e1_1] at e1_12 e2_12
    clear e0_1 e1_1
    refine Wp.seq ?_
    refine Wp.seqRegion (.inl rfl) (by kernel_rfl) fun K' gd hK hg => ?_
    clear hg
    go_simp
    refine hK _ _ ?_
    clear hK K' gd
    refine Wp.keep [1, 2, 11] fun r13 hkeep => ?_
    obtain ⟨e1_13, e2_13, e11_13, -⟩ := hkeep
    simp [go_sem, e1_12, e2_12] at e1_13 e2_13 e11_13
    clear e1_12 e2_12
    refine Wp.condT (by go_simp) ?_
    refine Wp.seqRegion (.inl rfl) (by kernel_rfl) fun K' gd hK hg => ?_
    clear hg
    go_simp
    refine hK _ _ ?_
    clear hK K' gd
    refine Wp.keep [4] fun r14 hkeep => ?_
    obtain ⟨e4_14, -⟩ := hkeep
    simp [go_sem, e1_13, e2_13, e11_13] at e4_14
    clear e1_13 e2_13 e11_13
    refine Wp.ret ?_
    refine thenK_ret ?_
    refine endK_tmp Try.results17 (by decide) ?_
    rw [e4_14]
    refine ⟨?_, (by repeat (first | assumption | exact Ext.refl _ | refine Ext.drew ?_ | refine Ext.alloc ?_ _ | refine Ext.trans ?_ (by assumption)))⟩
    rw [decide_eq_false (fun h : WideP o t => hne (by rw [h.1]))]
/-- a table as it lies -/
structure TabG (w : World) (b ob : Nat) (rb ro rc : Nat → Nat) (n m : Nat) (t : Nat → Nat → Int) : Prop where
  row : ∀ i, i < n → w.cell? ⟨b, ob + i, none⟩ = some (.slice (some ⟨rb i, ro i, none⟩) m (rc i))
  cell : ∀ i j, i < n → j < m → w.cell? ⟨rb i, ro i + j, none⟩ = some (.int .i64 (t i j))
theorem TabG.ext {w w' : World} {b ob n m : Nat} {rb ro rc : Nat → Nat} {t : Nat → Nat → Int} (h : TabG w b ob rb ro rc n m t) (hE : Ext w w') : TabG w' b ob rb ro rc n m t :=
  ⟨fun i hi => hE.cell (h.row i hi), fun i j hi hj => hE.cell (h.cell i j hi hj)⟩
theorem tabG_of {w : World} {B : Nat} {v : Value} {o : Ord} {t : Nat → Nat → Int} (h : TabV w B v (tabL o t)) (hn : 0 < o.n) (hm : 0 < o.m) : ∃ b ob c rb ro rc, v = .slice (some ⟨b, ob, none⟩) o.n c ∧ TabG w b ob rb ro rc o.n o.m t := by
  obtain ⟨b, ob, c, -, -, -, rfl, -, -⟩ := tab_at h hn hm
  obtain ⟨f, hf⟩ := Go.Deep.choose_lt (α := Nat × Nat × Nat) (p := fun i z => w.cell? ⟨b, ob + i, none⟩ = some (.slice (some ⟨z.1, z.2.1, none⟩) o.m z.2.2) ∧ ∀ j, j < o.m → w.cell? ⟨z.1, z.2.1 + j, none⟩ = some (.int .i64 (t i j))) fun i hi => by
    obtain ⟨b', ob', c', b2, o2, c2, hv, h1, h2⟩ := tab_at h hi hm
    injection hv with e1 e2 e3
    injection e1 with e1
    injection e1 with e1 e4
    subst e1; subst e4
    refine ⟨(b2, o2, c2), h1, fun j hj => ?_⟩
    obtain ⟨b', ob', c', b3, o3, c3, hv, h3, h4⟩ := tab_at h hi hj
    injection hv with e1 e2 e3
    injection e1 with e1
    injection e1 with e1 e4
    subst e1; subst e4
    rw [h1] at h3
    injection h3 with h3
    injection h3 with e1 e2 e3
    injection e1 with e1
    injection e1 with e1 e4
    subst e1; subst e4
    exact h4
  exact ⟨b, ob, c, fun i => (f i).1, fun i => (f i).2.1, fun i => (f i).2.2, rfl, fun i hi => (hf i hi).1, fun i j hi hj => (hf i hi).2 j hj⟩
def KeepsAt (o : Ord) (t : Nat → Nat → Int) (i j : Nat) : Prop := (if j = 0 then o.A i else t i (j - 1) + o.T i (j - 1)) ≤ t i j ∧ (o.C j ≤ i → t (i - (o.C j).toNat) j + o.T (i - (o.C j).toNat) j ≤ t i j)
theorem keepsAt_all {o : Ord} (ho : OrdOk o) {t : Nat → Nat → Int} : KeepsP o t ↔ ∀ i j, i < o.n → j < o.m → KeepsAt o t i j := by
  constructor
  · intro h i j hi hj
    have hC := ho.vC j hj
    refine ⟨?_, fun hc => h.copy i _ j hi hj (by omega)⟩
    split
    · rename_i e; subst e; exact h.arr i hi
    · have := h.piece i (j - 1) hi (by omega)
      rwa [show j - 1 + 1 = j by omega] at this
  · intro h
    have hm := ho.hm1
    refine ⟨fun i hi => ?_, fun i j hi hj => ?_, fun i k j hi hj hk => ?_⟩
    · have := (h i 0 hi (by omega)).1
      rwa [if_pos rfl] at this
    · have := (h i (j + 1) hi hj).1
      rwa [if_neg (by omega), Nat.add_sub_cancel] at this
    · have hC := ho.vC j hj
      have := (h i j hi hj).2 (by omega)
      rwa [show i - (o.C j).toNat = k by omega] at this
theorem keeps_c (a : OA) (o : Ord) (b ob c : Nat) (rb ro rc : Nat → Nat) (t : Nat → Nat → Int) (w : World) (hO : OrdF w w.heap.size a o) (hT : TabG w b ob rb ro rc o.n o.m t) (hb : ∀ i j, i < o.n → j < o.m → -1000000000000 ≤ t i j ∧ t i j ≤ 1000000000000) :
    CallsV Try.prog 18 #[.agg #[a.cv o, a.rv o], .slice (some ⟨b, ob, none⟩) o.n c] w fun v w' => ∃ q, v = .bool q ∧ (q = true ↔ KeepsP o t) ∧ Ext w w' := by
  have ho := hO.ok
  have hm := hO.hm2
  have hm1 := hO.hm1
  have hn := hO.hn2
  rw [keepsAt_all ho]
  simp only [OA.cv, OA.rv]
  refine Wp.fn Try.func18 rfl Try.ntmps18 (by simp) ?_
  refine Wp.keep [0, 1] fun r1 hkeep => ?_
  obtain ⟨e0_1, e1_1, -⟩ := hkeep
  simp [go_sem] at e0_1 e1_1
  have x0 := cell_nn w #[.slice (some ⟨a.cb, a.co, none⟩) o.m a.cc, .slice a.rA o.n a.rc] 25 0 rfl (v := .slice (some ⟨a.cb, a.co, none⟩) o.m a.cc) rfl
  have x1 := cell_nn w #[.slice (some ⟨a.cb, a.co, none⟩) o.m a.cc, .slice a.rA o.n a.rc] 25 1 rfl (v := .slice a.rA o.n a.rc) rfl
  have hEV : Ext w (w.alloc (.cells #[.slice (some ⟨a.cb, a.co, none⟩) o.m a.cc, .slice a.rA o.n a.rc] 25)) := (by repeat (first | assumption | exact Ext.refl _ | refine Ext.drew ?_ | refine Ext.alloc ?_ _ | refine Ext.trans ?_ (by assumption)))
  refine Wp.seqRegion (.inl rfl) (by kernel_rfl) fun K' gd hK hg => ?_
  clear hg
  go_simp
  refine hK _ _ ?_
  clear hK K' gd
  refine Wp.keep [1, 2] fun r2 hkeep => ?_
  obtain ⟨e1_2, e2_2, -⟩ := hkeep
  simp [go_sem, e0_1, e1_1] at e1_2 e2_2
  clear e0_1 e1_1
  refine Wp.seq ?_
  generalize w.alloc (.cells #[.slice (some ⟨a.cb, a.co, none⟩) o.m a.cc, .slice a.rA o.n a.rc] 25) = V at *
  refine Wp.seqRegion (.inl rfl) (by kernel_rfl) fun K' gd hK hg => ?_
  clear hg
  go_simp
  refine hK _ _ ?_
  clear hK K' gd
  refine Wp.keep [1, 2, 5] fun r3 hkeep => ?_
  obtain ⟨e1_3, e2_3, e5_3, -⟩ := hkeep
  simp [go_sem, e1_2, e2_2] at e1_3 e2_3 e5_3
  clear e1_2 e2_2
  refine Wp.block ?_
  refine Wp.loop (fun i ρ ds wi => AllEq [1, 2] ρ r3 ∧ ds = [] ∧ (ρ 5 = .int .i64 (i : Int) ∧ Ext V wi ∧ (∀ i' j, i' < i → j < o.m → KeepsAt o t i' j))) (o.n) ?_ ?_
  · refine ⟨AllEq.refl _ _, rfl, ?_⟩
    exact ⟨by rw [e5_3]; rfl, Ext.refl _, fun i' j h => absurd h (Nat.not_lt_zero _)⟩
  · rintro i r4 _ wi hi ⟨hA, rfl, ⟨e5, hEi, hqi⟩⟩
    obtain ⟨e1_4, e2_4, -⟩ := hA
    rw [e1_3] at e1_4
    rw [e2_3] at e2_4
    have y0 := hEi.cell x0
    have y1 := hEi.cell x1
    refine Wp.seq ?_
    refine Wp.seqRegion (.inl rfl) (by kernel_rfl) fun K' gd hK hg => ?_
    clear hg
    go_simp
    refine hK _ _ ?_
    clear hK K' gd
    refine Wp.keep [1, 2, 5, 12] fun r5 hkeep => ?_
    obtain ⟨e1_5, e2_5, e5_5, e12_5, -⟩ := hkeep
    simp [go_sem, e1_4, e2_4, e5] at e1_5 e2_5 e5_5 e12_5
    clear e1_4 e2_4 e5
    by_cases h : i < o.n
    · refine Wp.condT (by go_simp) ?_
      refine Wp.skip ?_
      refine thenK_normal ?_
      refine Wp.seq ?_
      refine Wp.block ?_
      refine Wp.seqRegion (.inl rfl) (by kernel_rfl) fun K' gd hK hg => ?_
      clear hg
      go_simp
      refine hK _ _ ?_
      clear hK K' gd
      refine Wp.keep [1, 2, 5, 6] fun r6 hkeep => ?_
      obtain ⟨e1_6, e2_6, e5_6, e6_6, -⟩ := hkeep
      simp [go_sem, e1_5, e2_5, e5_5, e12_5] at e1_6 e2_6 e5_6 e6_6
      clear e1_5 e2_5 e5_5 e12_5
      refine Wp.block ?_
      refine Wp.loop (fun j ρ ds wj => AllEq [1, 2, 5] ρ r6 ∧ ds = [] ∧ (ρ 6 = .int .i64 (j : Int) ∧ Ext V wj ∧ (∀ j', j' < j → KeepsAt o t i j'))) (o.m) ?_ ?_
      · refine ⟨AllEq.refl _ _, rfl, ?_⟩
        exact ⟨by rw [e6_6]; rfl, hEi, fun j' h => absurd h (Nat.not_lt_zero _)⟩
      · rintro j r7 _ wj hj ⟨hA, rfl, ⟨e6, hEj, hqj⟩⟩
        obtain ⟨e1_7, e2_7, e5_7, -⟩ := hA
        rw [e1_6] at e1_7
        rw [e2_6] at e2_7
        rw [e5_6] at e5_7
        have z0 := hEj.cell x0
        have z1 := hEj.cell x1
        refine Wp.seq ?_
        refine Wp.seqRegion (.inl rfl) (by kernel_rfl) fun K' gd hK hg => ?_
        clear hg
        go_simp
        refine hK _ _ ?_
        clear hK K' gd
        refine Wp.keep [1, 2, 5, 6, 19] fun r8 hkeep => ?_
        obtain ⟨e1_8, e2_8, e5_8, e6_8, e19_8, -⟩ := hkeep
        simp [go_sem, e1_7, e2_7, e5_7, e6] at e1_8 e2_8 e5_8 e6_8 e19_8
        clear e1_7 e2_7 e5_7 e6
        by_cases h2 : j < o.m
        · refine Wp.condT (by go_simp) ?_
          have hEw : Ext w wj := (by repeat (first | assumption | exact Ext.refl _ | refine Ext.drew ?_ | refine Ext.alloc ?_ _ | refine Ext.trans ?_ (by assumption)))
          have hOj := hO.ext hEw
          have hTj := hT.ext hEw
          have hrA := hO.hr (by omega)
          simp only [hrA] at z1
          have g1 := hOj.hC j h2
          have g2 := hOj.hA i h
          have g3 := hOj.hT i h
          have f1 := hTj.row i h
          have f2 := hTj.cell i j h h2
          have hCj := ho.vC j h2
          have hbt := hb i j h h2
          have b1 : (i : Int) < 20 := by omega
          have b2 : (j : Int) < 15 := by omega
          obtain ⟨x, hx⟩ : ∃ x, t i j = x := ⟨_, rfl⟩
          obtain ⟨bd, hbd⟩ : ∃ bd, (if j = 0 then o.A i else t i (j - 1) + o.T i (j - 1)) = bd := ⟨_, rfl⟩
          rw [hx] at f2 hbt
          have hbd' : ∃ _u : Unit, (if j = 0 then o.A i else t i (j - 1) + o.T i (j - 1)) = bd := ⟨(), hbd⟩
          obtain ⟨cj, hcj⟩ : ∃ cj, o.C j = cj := ⟨_, rfl⟩
          rw [hcj] at g1 hCj
          have hwi : IntKind.i64.wrap ((i : Int) - cj) = (i : Int) - cj := IntWalk.i64_in _ (by omega)
          have b3 : (i : Int) < (o.n : Int) := by omega
          have b4 : (j : Int) < (o.m : Int) := by omega
          by_cases hj : j = 0
          · skip
            rw [if_pos hj] at hbd
            rw [hbd] at g2
            have hj1 : ((j : Int) == 0) = true := by rw [hj]; rfl
            have hj3 : ¬ 0 < j := by omega
            clear hj
            by_cases hbad : x < bd
            · skip
              refine Wp.skip ?_
              refine thenK_normal ?_
              refine Wp.seq ?_
              refine Wp.block ?_
              refine Wp.seq ?_
              refine Wp.seqDraw (.inl rfl) mixed [([0, 1, 2], none), ([3, 4, 5, 6, 7], none), ([8, 9, 10, 11, 12], none), ([13, 14, 15, 16, 17], none), ([18], none), ([19, 20, 21], none), ([22, 23, 24, 25, 26], none), ([27, 28, 29, 30, 31], none), ([32, 33, 34, 35, 36], none), ([37, 38, 39, 40, 41], none), ([42, 43, 44, 45, 46], none), ([47, 48, 49, 50], none)] (by kernel_rfl) fun K' gd hK hg => ?_
              have g2 : gd 2 = some 24 := hg 2
              have g18 : gd 18 = some 40 := hg 18
              have g21 : gd 21 = some 43 := hg 21
              clear hg
              simp only [pick, nth, List.map_cons, List.map_nil, Option.map_none, Option.map_some]
              apply Mops.none
              · intro w' hE'
                have hC' := hE'.cellsS
                go_simp
                with_reducible rfl
              apply Mops.none
              · intro w' hE'
                have hC' := hE'.cellsS
                go_simp
                with_reducible rfl
              apply Mops.none
              · intro w' hE'
                have hC' := hE'.cellsS
                go_simp
                with_reducible rfl
              apply Mops.none
              · intro w' hE'
                have hC' := hE'.cellsS
                go_simp
                with_reducible rfl
              apply Mops.none
              · intro w' hE'
                have hC' := hE'.cellsS
                go_simp
                with_reducible rfl
              apply Mops.none
              · intro w' hE'
                have hC' := hE'.cellsS
                go_simp
                with_reducible rfl
              apply Mops.none
              · intro w' hE'
                have hC' := hE'.cellsS
                go_simp
                with_reducible rfl
              apply Mops.none
              · intro w' hE'
                have hC' := hE'.cellsS
                go_simp
                with_reducible rfl
              apply Mops.none
              · intro w' hE'
                have hC' := hE'.cellsS
                go_simp
                with_reducible rfl
              apply Mops.none
              · intro w' hE'
                have hC' := hE'.cellsS
                go_simp
                with_reducible rfl
              apply Mops.none
              · intro w' hE'
                have hC' := hE'.cellsS
                go_simp
                with_reducible rfl
              apply Mops.none
              · intro w' hE'
                have hC' := hE'.cellsS
                go_simp
                with_reducible rfl
              refine Mops.done ?_
              refine hK _ _ ?_
              clear hK K' gd g2 g18 g21
              refine Wp.keep [1, 2, 5, 6, 72] fun r9 hkeep => ?_
              obtain ⟨e1_9, e2_9, e5_9, e6_9, e72_9, -⟩ := hkeep
              simp [go_sem, e1_8, e2_8, e5_8, e6_8, e19_8] at e1_9 e2_9 e5_9 e6_9 e72_9
              clear e1_8 e2_8 e5_8 e6_8 e19_8
              refine Wp.condT (by go_simp) ?_
              refine Wp.seqRegion (.inl rfl) (by kernel_rfl) fun K' gd hK hg => ?_
              clear hg
              go_simp
              refine hK _ _ ?_
              clear hK K' gd
              refine Wp.keep [4] fun r10 hkeep => ?_
              obtain ⟨e4_10, -⟩ := hkeep
              simp [go_sem, e1_9, e2_9, e5_9, e6_9, e72_9] at e4_10
              clear e1_9 e2_9 e5_9 e6_9 e72_9
              refine Wp.ret ?_
              refine thenK_ret ?_
              refine blockK_ret ?_
              refine thenK_ret ?_
              refine thenK_ret ?_
              refine blockK_ret ?_
              refine blockK_ret ?_
              refine thenK_ret ?_
              refine thenK_ret ?_
              refine blockK_ret ?_
              refine thenK_ret ?_
              refine endK_tmp Try.results18 (by decide) ?_
              rw [e4_10]
              refine ⟨false, rfl, ⟨(fun e => by cases e), fun h' => ?_⟩, (by repeat (first | assumption | exact Ext.refl _ | refine Ext.drew ?_ | refine Ext.alloc ?_ _ | refine Ext.trans ?_ (by assumption)))⟩
              have := (h' i _ h h2).1
              obtain ⟨-, e⟩ := hbd'
              rw [e, hx] at this
              omega
            · skip
              have hbad2 : bd ≤ x := by omega
              refine Wp.skip ?_
              refine thenK_normal ?_
              refine Wp.seq ?_
              refine Wp.block ?_
              refine Wp.seq ?_
              refine Wp.seqDraw (.inl rfl) mixed [([0, 1, 2], none), ([3, 4, 5, 6, 7], none), ([8, 9, 10, 11, 12], none), ([13, 14, 15, 16, 17], none), ([18], none), ([19, 20, 21], none), ([22, 23, 24, 25, 26], none), ([27, 28, 29, 30, 31], none), ([32, 33, 34, 35, 36], none), ([37, 38, 39, 40, 41], none), ([42, 43, 44, 45, 46], none), ([47, 48, 49, 50], none)] (by kernel_rfl) fun K' gd hK hg => ?_
              have g2 : gd 2 = some 24 := hg 2
              have g18 : gd 18 = some 40 := hg 18
              have g21 : gd 21 = some 43 := hg 21
              clear hg
              simp only [pick, nth, List.map_cons, List.map_nil, Option.map_none, Option.map_some]
              apply Mops.none
              · intro w' hE'
                have hC' := hE'.cellsS
                go_simp
                with_reducible rfl
              apply Mops.none
              · intro w' hE'
                have hC' := hE'.cellsS
                go_simp
                with_reducible rfl
              apply Mops.none
              · intro w' hE'
                have hC' := hE'.cellsS
                go_simp
                with_reducible rfl
              apply Mops.none
              · intro w' hE'
                have hC' := hE'.cellsS
                go_simp
                with_reducible rfl
              apply Mops.none
              · intro w' hE'
                have hC' := hE'.cellsS
                go_simp
                with_reducible rfl
              apply Mops.none
              · intro w' hE'
                have hC' := hE'.cellsS
                go_simp
                with_reducible rfl
              apply Mops.none
              · intro w' hE'
                have hC' := hE'.cellsS
                go_simp
                with_reducible rfl
              apply Mops.none
              · intro w' hE'
                have hC' := hE'.cellsS
                go_simp
                with_reducible rfl
              apply Mops.none
              · intro w' hE'
                have hC' := hE'.cellsS
                go_simp
                with_reducible rfl
              apply Mops.none
              · intro w' hE'
                have hC' := hE'.cellsS
                go_simp
                with_reducible rfl
              apply Mops.none
              · intro w' hE'
                have hC' := hE'.cellsS
                go_simp
                with_reducible rfl
              apply Mops.none
              · intro w' hE'
                have hC' := hE'.cellsS
                go_simp
                with_reducible rfl
              refine Mops.done ?_
              refine hK _ _ ?_
              clear hK K' gd g2 g18 g21
              refine Wp.keep [1, 2, 5, 6, 72] fun r11 hkeep => ?_
              obtain ⟨e1_11, e2_11, e5_11, e6_11, e72_11, -⟩ := hkeep
              simp [go_sem, e1_8, e2_8, e5_8, e6_8, e19_8] at e1_11 e2_11 e5_11 e6_11 e72_11
              clear e1_8 e2_8 e5_8 e6_8 e19_8
              refine Wp.condF (by go_simp) ?_
              refine Wp.skip ?_
              refine thenK_normal ?_
              refine Wp.seqRegion (.inl rfl) (by kernel_rfl) fun K' gd hK hg => ?_
              clear hg
              go_simp
              refine hK _ _ ?_
              clear hK K' gd
              refine Wp.keep [1, 2, 5, 6, 7] fun r12 hkeep => ?_
              obtain ⟨e1_12, e2_12, e5_12, e6_12, e7_12, -⟩ := hkeep
              simp [go_sem, e1_11, e2_11, e5_11, e6_11, e72_11] at e1_12 e2_12 e5_12 e6_12 e7_12
              clear e1_11 e2_11 e5_11 e6_11 e72_11
              by_cases hk : cj ≤ (i : Int)
              · skip
                obtain ⟨k, hk2⟩ : ∃ k : Nat, (k : Int) = (i : Int) - cj := ⟨((i : Int) - cj).toNat, by omega⟩
                have hkn : k < o.n := by omega
                rw [← hk2] at e7_12
                have hki : ∃ _u : Unit, i - cj.toNat = k := ⟨(), by omega⟩
                clear hwi
                have f4 := hTj.row k hkn
                have f5 := hTj.cell k j hkn h2
                have g5 := hOj.hT k hkn
                have g6 := hOj.hTT k j hkn h2
                have hbk := hb k j hkn h2
                have hTk := ho.vT k j hkn h2
                have b6 : (k : Int) < (o.n : Int) := by omega
                clear hk2
                obtain ⟨bd2, hbd2⟩ : ∃ bd2, t k j + o.T k j = bd2 := ⟨_, rfl⟩
                have hws2 : IntKind.i64.wrap (t k j + o.T k j) = bd2 := by rw [IntWalk.i64_in _ (by omega)]; exact hbd2
                have hbd3 : ∃ _u : Unit, t k j + o.T k j = bd2 := ⟨(), hbd2⟩
                clear hbd2
                by_cases hbad3 : x < bd2
                · skip
                  refine Wp.seqDraw (.inl rfl) mixed [([0, 1, 2], none), ([3, 4, 5, 6, 7], none), ([8, 9, 10, 11, 12], none), ([13, 14, 15, 16, 17], none), ([18, 19, 20, 21, 22], none), ([23, 24, 25, 26, 27], none), ([28], none)] (by kernel_rfl) fun K' gd hK hg => ?_
                  have g2 : gd 2 = some 82 := hg 2
                  clear hg
                  simp only [pick, nth, List.map_cons, List.map_nil, Option.map_none, Option.map_some]
                  apply Mops.none
                  · intro w' hE'
                    have hC' := hE'.cellsS
                    go_simp
                    with_reducible rfl
                  apply Mops.none
                  · intro w' hE'
                    have hC' := hE'.cellsS
                    go_simp
                    with_reducible rfl
                  apply Mops.none
                  · intro w' hE'
                    have hC' := hE'.cellsS
                    go_simp
                    with_reducible rfl
                  apply Mops.none
                  · intro w' hE'
                    have hC' := hE'.cellsS
                    go_simp
                    with_reducible rfl
                  apply Mops.none
                  · intro w' hE'
                    have hC' := hE'.cellsS
                    go_simp
                    with_reducible rfl
                  apply Mops.none
                  · intro w' hE'
                    have hC' := hE'.cellsS
                    go_simp
                    with_reducible rfl
                  apply Mops.none
                  · intro w' hE'
                    have hC' := hE'.cellsS
                    go_simp
                    with_reducible rfl
                  refine Mops.done ?_
                  refine hK _ _ ?_
                  clear hK K' gd g2
                  refine Wp.keep [1, 2, 5, 6, 108] fun r13 hkeep => ?_
                  obtain ⟨e1_13, e2_13, e5_13, e6_13, e108_13, -⟩ := hkeep
                  simp [go_sem, e1_12, e2_12, e5_12, e6_12, e7_12] at e1_13 e2_13 e5_13 e6_13 e108_13
                  clear e1_12 e2_12 e5_12 e6_12 e7_12
                  refine Wp.condT (by go_simp) ?_
                  refine Wp.seqRegion (.inl rfl) (by kernel_rfl) fun K' gd hK hg => ?_
                  clear hg
                  go_simp
                  refine hK _ _ ?_
                  clear hK K' gd
                  refine Wp.keep [4] fun r14 hkeep => ?_
                  obtain ⟨e4_14, -⟩ := hkeep
                  simp [go_sem, e1_13, e2_13, e5_13, e6_13, e108_13] at e4_14
                  clear e1_13 e2_13 e5_13 e6_13 e108_13
                  refine Wp.ret ?_
                  refine blockK_ret ?_
                  refine thenK_ret ?_
                  refine thenK_ret ?_
                  refine blockK_ret ?_
                  refine blockK_ret ?_
                  refine thenK_ret ?_
                  refine thenK_ret ?_
                  refine blockK_ret ?_
                  refine thenK_ret ?_
                  refine endK_tmp Try.results18 (by decide) ?_
                  rw [e4_14]
                  refine ⟨false, rfl, ⟨(fun e => by cases e), fun h' => ?_⟩, (by repeat (first | assumption | exact Ext.refl _ | refine Ext.drew ?_ | refine Ext.alloc ?_ _ | refine Ext.trans ?_ (by assumption)))⟩
                  have := (h' i j h h2).2
                  obtain ⟨-, e⟩ := hbd3
                  obtain ⟨-, e2⟩ := hki
                  rw [hcj, e2, e, hx] at this
                  have := this hk
                  omega
                · skip
                  have hbad4 : bd2 ≤ x := by omega
                  refine Wp.seqDraw (.inl rfl) mixed [([0, 1, 2], none), ([3, 4, 5, 6, 7], none), ([8, 9, 10, 11, 12], none), ([13, 14, 15, 16, 17], none), ([18, 19, 20, 21, 22], none), ([23, 24, 25, 26, 27], none), ([28], none)] (by kernel_rfl) fun K' gd hK hg => ?_
                  have g2 : gd 2 = some 82 := hg 2
                  clear hg
                  simp only [pick, nth, List.map_cons, List.map_nil, Option.map_none, Option.map_some]
                  apply Mops.none
                  · intro w' hE'
                    have hC' := hE'.cellsS
                    go_simp
                    with_reducible rfl
                  apply Mops.none
                  · intro w' hE'
                    have hC' := hE'.cellsS
                    go_simp
                    with_reducible rfl
                  apply Mops.none
                  · intro w' hE'
                    have hC' := hE'.cellsS
                    go_simp
                    with_reducible rfl
                  apply Mops.none
                  · intro w' hE'
                    have hC' := hE'.cellsS
                    go_simp
                    with_reducible rfl
                  apply Mops.none
                  · intro w' hE'
                    have hC' := hE'.cellsS
                    go_simp
                    with_reducible rfl
                  apply Mops.none
                  · intro w' hE'
                    have hC' := hE'.cellsS
                    go_simp
                    with_reducible rfl
                  apply Mops.none
                  · intro w' hE'
                    have hC' := hE'.cellsS
                    go_simp
                    with_reducible rfl
                  refine Mops.done ?_
                  refine hK _ _ ?_
                  clear hK K' gd g2
                  refine Wp.keep [1, 2, 5, 6, 108] fun r15 hkeep => ?_
                  obtain ⟨e1_15, e2_15, e5_15, e6_15, e108_15, -⟩ := hkeep
                  simp [go_sem, e1_12, e2_12, e5_12, e6_12, e7_12] at e1_15 e2_15 e5_15 e6_15 e108_15
                  clear e1_12 e2_12 e5_12 e6_12 e7_12
                  refine Wp.condF (by go_simp) ?_
                  refine Wp.skip ?_
                  refine blockK_normal ?_
                  refine thenK_normal ?_
                  refine Wp.loneRegion (.inl rfl) (by kernel_rfl) fun K' gd hK hg => ?_
                  clear hg
                  go_simp
                  refine hK _ _ ?_
                  clear hK K' gd
                  refine Ends.keep [1, 2, 5, 6] fun r16 hkeep => ?_
                  obtain ⟨e1_16, e2_16, e5_16, e6_16, -⟩ := hkeep
                  simp [go_sem, e1_15, e2_15, e5_15, e6_15, e108_15] at e1_16 e2_16 e5_16 e6_16
                  clear e1_15 e2_15 e5_15 e6_15 e108_15
                  refine Ends.mk ?_
                  refine thenK_normal ⟨by omega, ⟨by rw [e1_16, e1_6], by rw [e2_16, e2_6], by rw [e5_16, e5_6], trivial⟩, rfl, ?_⟩
                  refine ⟨by rw [e6_16, IntWalk.i64_in _ (by omega)]; rfl, (by repeat (first | assumption | exact Ext.refl _ | refine Ext.drew ?_ | refine Ext.alloc ?_ _ | refine Ext.trans ?_ (by assumption))), fun j' hj' => ?_⟩
                  by_cases e : j' = j
                  · subst e; obtain ⟨-, e⟩ := hbd'; obtain ⟨-, e1⟩ := hbd3; obtain ⟨-, e2⟩ := hki; refine ⟨by rw [e, hx]; exact hbad2, fun _ => by rw [hcj, e2, e1, hx]; exact hbad4⟩
                  · exact hqj j' (by omega)
              · skip
                refine Wp.seqDraw (.inl rfl) mixed [([0, 1, 2], none), ([3, 4, 5, 6, 7], none), ([8, 9, 10, 11, 12], none), ([13, 14, 15, 16, 17], none), ([18, 19, 20, 21, 22], none), ([23, 24, 25, 26, 27], none), ([28], none)] (by kernel_rfl) fun K' gd hK hg => ?_
                have g2 : gd 2 = some 82 := hg 2
                clear hg
                simp only [pick, nth, List.map_cons, List.map_nil, Option.map_none, Option.map_some]
                apply Mops.none
                · intro w' hE'
                  have hC' := hE'.cellsS
                  go_simp
                  with_reducible rfl
                apply Mops.none
                · intro w' hE'
                  have hC' := hE'.cellsS
                  go_simp
                  with_reducible rfl
                apply Mops.none
                · intro w' hE'
                  have hC' := hE'.cellsS
                  go_simp
                  with_reducible rfl
                apply Mops.none
                · intro w' hE'
                  have hC' := hE'.cellsS
                  go_simp
                  with_reducible rfl
                apply Mops.none
                · intro w' hE'
                  have hC' := hE'.cellsS
                  go_simp
                  with_reducible rfl
                apply Mops.none
                · intro w' hE'
                  have hC' := hE'.cellsS
                  go_simp
                  with_reducible rfl
                apply Mops.none
                · intro w' hE'
                  have hC' := hE'.cellsS
                  go_simp
                  with_reducible rfl
                refine Mops.done ?_
                refine hK _ _ ?_
                clear hK K' gd g2
                refine Wp.keep [1, 2, 5, 6, 108] fun r17 hkeep => ?_
                obtain ⟨e1_17, e2_17, e5_17, e6_17, e108_17, -⟩ := hkeep
                simp [go_sem, e1_12, e2_12, e5_12, e6_12, e7_12] at e1_17 e2_17 e5_17 e6_17 e108_17
                clear e1_12 e2_12 e5_12 e6_12 e7_12
                refine Wp.condF (by go_simp) ?_
                refine Wp.skip ?_
                refine blockK_normal ?_
                refine thenK_normal ?_
                refine Wp.loneRegion (.inl rfl) (by kernel_rfl) fun K' gd hK hg => ?_
                clear hg
                go_simp
                refine hK _ _ ?_
                clear hK K' gd
                refine Ends.keep [1, 2, 5, 6] fun r18 hkeep => ?_
                obtain ⟨e1_18, e2_18, e5_18, e6_18, -⟩ := hkeep
                simp [go_sem, e1_17, e2_17, e5_17, e6_17, e108_17] at e1_18 e2_18 e5_18 e6_18
                clear e1_17 e2_17 e5_17 e6_17 e108_17
                refine Ends.mk ?_
                refine thenK_normal ⟨by omega, ⟨by rw [e1_18, e1_6], by rw [e2_18, e2_6], by rw [e5_18, e5_6], trivial⟩, rfl, ?_⟩
                refine ⟨by rw [e6_18, IntWalk.i64_in _ (by omega)]; rfl, (by repeat (first | assumption | exact Ext.refl _ | refine Ext.drew ?_ | refine Ext.alloc ?_ _ | refine Ext.trans ?_ (by assumption))), fun j' hj' => ?_⟩
                by_cases e : j' = j
                · subst e; obtain ⟨-, e⟩ := hbd'; refine ⟨by rw [e, hx]; exact hbad2, fun h' => absurd h' (by rw [hcj]; exact hk)⟩
                · exact hqj j' (by omega)
          · skip
            rw [if_neg hj] at hbd
            have f3 := hTj.cell i (j - 1) h (by omega)
            have g4 := hOj.hTT i (j - 1) h (by omega)
            have hTb := ho.vT i (j - 1) h (by omega)
            have hbt1 := hb i (j - 1) h (by omega)
            have hwj : IntKind.i64.wrap ((j : Int) - 1) = ((j - 1 : Nat) : Int) := by rw [IntWalk.i64_in _ (by omega)]; omega
            have hws : IntKind.i64.wrap (t i (j - 1) + o.T i (j - 1)) = bd := by rw [IntWalk.i64_in _ (by omega)]; exact hbd
            have b5 : ((j - 1 : Nat) : Int) < (o.m : Int) := by omega
            have hj0 : 0 < j := by omega
            clear hbd
            by_cases hbad : x < bd
            · skip
              refine Wp.skip ?_
              refine thenK_normal ?_
              refine Wp.seq ?_
              refine Wp.block ?_
              refine Wp.seq ?_
              refine Wp.seqDraw (.inl rfl) mixed [([0, 1, 2], none), ([3, 4, 5, 6, 7], none), ([8, 9, 10, 11, 12], none), ([13, 14, 15, 16, 17], none), ([18], none), ([19, 20, 21], none), ([22, 23, 24, 25, 26], none), ([27, 28, 29, 30, 31], none), ([32, 33, 34, 35, 36], none), ([37, 38, 39, 40, 41], none), ([42, 43, 44, 45, 46], none), ([47, 48, 49, 50], none)] (by kernel_rfl) fun K' gd hK hg => ?_
              have g2 : gd 2 = some 24 := hg 2
              have g18 : gd 18 = some 40 := hg 18
              have g21 : gd 21 = some 43 := hg 21
              clear hg
              simp only [pick, nth, List.map_cons, List.map_nil, Option.map_none, Option.map_some]
              apply Mops.none
              · intro w' hE'
                have hC' := hE'.cellsS
                go_simp
                with_reducible rfl
              apply Mops.none
              · intro w' hE'
                have hC' := hE'.cellsS
                go_simp
                with_reducible rfl
              apply Mops.none
              · intro w' hE'
                have hC' := hE'.cellsS
                go_simp
                with_reducible rfl
              apply Mops.none
              · intro w' hE'
                have hC' := hE'.cellsS
                go_simp
                with_reducible rfl
              apply Mops.none
              · intro w' hE'
                have hC' := hE'.cellsS
                go_simp
                with_reducible rfl
              apply Mops.none
              · intro w' hE'
                have hC' := hE'.cellsS
                go_simp
                with_reducible rfl
              apply Mops.none
              · intro w' hE'
                have hC' := hE'.cellsS
                go_simp
                with_reducible rfl
              apply Mops.none
              · intro w' hE'
                have hC' := hE'.cellsS
                go_simp
                with_reducible rfl
              apply Mops.none
              · intro w' hE'
                have hC' := hE'.cellsS
                go_simp
                with_reducible rfl
              apply Mops.none
              · intro w' hE'
                have hC' := hE'.cellsS
                go_simp
                with_reducible rfl
              apply Mops.none
              · intro w' hE'
                have hC' := hE'.cellsS
                go_simp
                with_reducible rfl
              apply Mops.none
              · intro w' hE'
                have hC' := hE'.cellsS
                go_simp
                with_reducible rfl
              refine Mops.done ?_
              refine hK _ _ ?_
              clear hK K' gd g2 g18 g21
              refine Wp.keep [1, 2, 5, 6, 72] fun r19 hkeep => ?_
              obtain ⟨e1_19, e2_19, e5_19, e6_19, e72_19, -⟩ := hkeep
              simp [go_sem, e1_8, e2_8, e5_8, e6_8, e19_8] at e1_19 e2_19 e5_19 e6_19 e72_19
              clear e1_8 e2_8 e5_8 e6_8 e19_8
              refine Wp.condT (by go_simp) ?_
              refine Wp.seqRegion (.inl rfl) (by kernel_rfl) fun K' gd hK hg => ?_
              clear hg
              go_simp
              refine hK _ _ ?_
              clear hK K' gd
              refine Wp.keep [4] fun r20 hkeep => ?_
              obtain ⟨e4_20, -⟩ := hkeep
              simp [go_sem, e1_19, e2_19, e5_19, e6_19, e72_19] at e4_20
              clear e1_19 e2_19 e5_19 e6_19 e72_19
              refine Wp.ret ?_
              refine thenK_ret ?_
              refine blockK_ret ?_
              refine thenK_ret ?_
              refine thenK_ret ?_
              refine blockK_ret ?_
              refine blockK_ret ?_
              refine thenK_ret ?_
              refine thenK_ret ?_
              refine blockK_ret ?_
              refine thenK_ret ?_
              refine endK_tmp Try.results18 (by decide) ?_
              rw [e4_20]
              refine ⟨false, rfl, ⟨(fun e => by cases e), fun h' => ?_⟩, (by repeat (first | assumption | exact Ext.refl _ | refine Ext.drew ?_ | refine Ext.alloc ?_ _ | refine Ext.trans ?_ (by assumption)))⟩
              have := (h' i _ h h2).1
              obtain ⟨-, e⟩ := hbd'
              rw [e, hx] at this
              omega
            · skip
              have hbad2 : bd ≤ x := by omega
              refine Wp.skip ?_
              refine thenK_normal ?_
              refine Wp.seq ?_
              refine Wp.block ?_
              refine Wp.seq ?_
              refine Wp.seqDraw (.inl rfl) mixed [([0, 1, 2], none), ([3, 4, 5, 6, 7], none), ([8, 9, 10, 11, 12], none), ([13, 14, 15, 16, 17], none), ([18], none), ([19, 20, 21], none), ([22, 23, 24, 25, 26], none), ([27, 28, 29, 30, 31], none), ([32, 33, 34, 35, 36], none), ([37, 38, 39, 40, 41], none), ([42, 43, 44, 45, 46], none), ([47, 48, 49, 50], none)] (by kernel_rfl) fun K' gd hK hg => ?_
              have g2 : gd 2 = some 24 := hg 2
              have g18 : gd 18 = some 40 := hg 18
              have g21 : gd 21 = some 43 := hg 21
              clear hg
              simp only [pick, nth, List.map_cons, List.map_nil, Option.map_none, Option.map_some]
              apply Mops.none
              · intro w' hE'
                have hC' := hE'.cellsS
                go_simp
                with_reducible rfl
              apply Mops.none
              · intro w' hE'
                have hC' := hE'.cellsS
                go_simp
                with_reducible rfl
              apply Mops.none
              · intro w' hE'
                have hC' := hE'.cellsS
                go_simp
                with_reducible rfl
              apply Mops.none
              · intro w' hE'
                have hC' := hE'.cellsS
                go_simp
                with_reducible rfl
              apply Mops.none
              · intro w' hE'
                have hC' := hE'.cellsS
                go_simp
                with_reducible rfl
              apply Mops.none
              · intro w' hE'
                have hC' := hE'.cellsS
                go_simp
                with_reducible rfl
              apply Mops.none
              · intro w' hE'
                have hC' := hE'.cellsS
                go_simp
                with_reducible rfl
              apply Mops.none
              · intro w' hE'
                have hC' := hE'.cellsS
                go_simp
                with_reducible rfl
              apply Mops.none
              · intro w' hE'
                have hC' := hE'.cellsS
                go_simp
                with_reducible rfl
              apply Mops.none
              · intro w' hE'
                have hC' := hE'.cellsS
                go_simp
                with_reducible rfl
              apply Mops.none
              · intro w' hE'
                have hC' := hE'.cellsS
                go_simp
                with_reducible rfl
              apply Mops.none
              · intro w' hE'
                have hC' := hE'.cellsS
                go_simp
                with_reducible rfl
              refine Mops.done ?_
              refine hK _ _ ?_
              clear hK K' gd g2 g18 g21
              refine Wp.keep [1, 2, 5, 6, 72] fun r21 hkeep => ?_
              obtain ⟨e1_21, e2_21, e5_21, e6_21, e72_21, -⟩ := hkeep
              simp [go_sem, e1_8, e2_8, e5_8, e6_8, e19_8] at e1_21 e2_21 e5_21 e6_21 e72_21
              clear e1_8 e2_8 e5_8 e6_8 e19_8
              refine Wp.condF (by go_simp) ?_
              refine Wp.skip ?_
              refine thenK_normal ?_
              refine Wp.seqRegion (.inl rfl) (by kernel_rfl) fun K' gd hK hg => ?_
              clear hg
              go_simp
              refine hK _ _ ?_
              clear hK K' gd
              refine Wp.keep [1, 2, 5, 6, 7] fun r22 hkeep => ?_
              obtain ⟨e1_22, e2_22, e5_22, e6_22, e7_22, -⟩ := hkeep
              simp [go_sem, e1_21, e2_21, e5_21, e6_21, e72_21] at e1_22 e2_22 e5_22 e6_22 e7_22
              clear e1_21 e2_21 e5_21 e6_21 e72_21
              by_cases hk : cj ≤ (i : Int)
              · skip
                obtain ⟨k, hk2⟩ : ∃ k : Nat, (k : Int) = (i : Int) - cj := ⟨((i : Int) - cj).toNat, by omega⟩
                have hkn : k < o.n := by omega
                rw [← hk2] at e7_22
                have hki : ∃ _u : Unit, i - cj.toNat = k := ⟨(), by omega⟩
                clear hwi
                have f4 := hTj.row k hkn
                have f5 := hTj.cell k j hkn h2
                have g5 := hOj.hT k hkn
                have g6 := hOj.hTT k j hkn h2
                have hbk := hb k j hkn h2
                have hTk := ho.vT k j hkn h2
                have b6 : (k : Int) < (o.n : Int) := by omega
                clear hk2
                obtain ⟨bd2, hbd2⟩ : ∃ bd2, t k j + o.T k j = bd2 := ⟨_, rfl⟩
                have hws2 : IntKind.i64.wrap (t k j + o.T k j) = bd2 := by rw [IntWalk.i64_in _ (by omega)]; exact hbd2
                have hbd3 : ∃ _u : Unit, t k j + o.T k j = bd2 := ⟨(), hbd2⟩
                clear hbd2
                by_cases hbad3 : x < bd2
                · skip
                  refine Wp.seqDraw (.inl rfl) mixed [([0, 1, 2], none), ([3, 4, 5, 6, 7], none), ([8, 9, 10, 11, 12], none), ([13, 14, 15, 16, 17], none), ([18, 19, 20, 21, 22], none), ([23, 24, 25, 26, 27], none), ([28], none)] (by kernel_rfl) fun K' gd hK hg => ?_
                  have g2 : gd 2 = some 82 := hg 2
                  clear hg
                  simp only [pick, nth, List.map_cons, List.map_nil, Option.map_none, Option.map_some]
                  apply Mops.none
                  · intro w' hE'
                    have hC' := hE'.cellsS
                    go_simp
                    with_reducible rfl
                  apply Mops.none
                  · intro w' hE'
                    have hC' := hE'.cellsS
                    go_simp
                    with_reducible rfl
                  apply Mops.none
                  · intro w' hE'
                    have hC' := hE'.cellsS
                    go_simp
                    with_reducible rfl
                  apply Mops.none
                  · intro w' hE'
                    have hC' := hE'.cellsS
                    go_simp
                    with_reducible rfl
                  apply Mops.none
                  · intro w' hE'
                    have hC' := hE'.cellsS
                    go_simp
                    with_reducible rfl
                  apply Mops.none
                  · intro w' hE'
                    have hC' := hE'.cellsS
                    go_simp
                    with_reducible rfl
                  apply Mops.none
                  · intro w' hE'
                    have hC' := hE'.cellsS
                    go_simp
                    with_reducible rfl
                  refine Mops.done ?_
                  refine hK _ _ ?_
                  clear hK K' gd g2
                  refine Wp.keep [1, 2, 5, 6, 108] fun r23 hkeep => ?_
                  obtain ⟨e1_23, e2_23, e5_23, e6_23, e108_23, -⟩ := hkeep
                  simp [go_sem, e1_22, e2_22, e5_22, e6_22, e7_22] at e1_23 e2_23 e5_23 e6_23 e108_23
                  clear e1_22 e2_22 e5_22 e6_22 e7_22
                  refine Wp.condT (by go_simp) ?_
                  refine Wp.seqRegion (.inl rfl) (by kernel_rfl) fun K' gd hK hg => ?_
                  clear hg
                  go_simp
                  refine hK _ _ ?_
                  clear hK K' gd
                  refine Wp.keep [4] fun r24 hkeep => ?_
                  obtain ⟨e4_24, -⟩ := hkeep
                  simp [go_sem, e1_23, e2_23, e5_23, e6_23, e108_23] at e4_24
                  clear e1_23 e2_23 e5_23 e6_23 e108_23
                  refine Wp.ret ?_
                  refine blockK_ret ?_
                  refine thenK_ret ?_
                  refine thenK_ret ?_
                  refine blockK_ret ?_
                  refine blockK_ret ?_
                  refine thenK_ret ?_
                  refine thenK_ret ?_
                  refine blockK_ret ?_
                  refine thenK_ret ?_
                  refine endK_tmp Try.results18 (by decide) ?_
                  rw [e4_24]
                  refine ⟨false, rfl, ⟨(fun e => by cases e), fun h' => ?_⟩, (by repeat (first | assumption | exact Ext.refl _ | refine Ext.drew ?_ | refine Ext.alloc ?_ _ | refine Ext.trans ?_ (by assumption)))⟩
                  have := (h' i j h h2).2
                  obtain ⟨-, e⟩ := hbd3
                  obtain ⟨-, e2⟩ := hki
                  rw [hcj, e2, e, hx] at this
                  have := this hk
                  omega
                · skip
                  have hbad4 : bd2 ≤ x := by omega
                  refine Wp.seqDraw (.inl rfl) mixed [([0, 1, 2], none), ([3, 4, 5, 6, 7], none), ([8, 9, 10, 11, 12], none), ([13, 14, 15, 16, 17], none), ([18, 19, 20, 21, 22], none), ([23, 24, 25, 26, 27], none), ([28], none)] (by kernel_rfl) fun K' gd hK hg => ?_
                  have g2 : gd 2 = some 82 := hg 2
                  clear hg
                  simp only [pick, nth, List.map_cons, List.map_nil, Option.map_none, Option.map_some]
                  apply Mops.none
                  · intro w' hE'
                    have hC' := hE'.cellsS
                    go_simp
                    with_reducible rfl
                  apply Mops.none
                  · intro w' hE'
                    have hC' := hE'.cellsS
                    go_simp
                    with_reducible rfl
                  apply Mops.none
                  · intro w' hE'
                    have hC' := hE'.cellsS
                    go_simp
                    with_reducible rfl
                  apply Mops.none
                  · intro w' hE'
                    have hC' := hE'.cellsS
                    go_simp
                    with_reducible rfl
                  apply Mops.none
                  · intro w' hE'
                    have hC' := hE'.cellsS
                    go_simp
                    with_reducible rfl
                  apply Mops.none
                  · intro w' hE'
                    have hC' := hE'.cellsS
                    go_simp
                    with_reducible rfl
                  apply Mops.none
                  · intro w' hE'
                    have hC' := hE'.cellsS
                    go_simp
                    with_reducible rfl
                  refine Mops.done ?_
                  refine hK _ _ ?_
                  clear hK K' gd g2
                  refine Wp.keep [1, 2, 5, 6, 108] fun r25 hkeep => ?_
                  obtain ⟨e1_25, e2_25, e5_25, e6_25, e108_25, -⟩ := hkeep
                  simp [go_sem, e1_22, e2_22, e5_22, e6_22, e7_22] at e1_25 e2_25 e5_25 e6_25 e108_25
                  clear e1_22 e2_22 e5_22 e6_22 e7_22
                  refine Wp.condF (by go_simp) ?_
                  refine Wp.skip ?_
                  refine blockK_normal ?_
                  refine thenK_normal ?_
                  refine Wp.loneRegion (.inl rfl) (by kernel_rfl) fun K' gd hK hg => ?_
                  clear hg
                  go_simp
                  refine hK _ _ ?_
                  clear hK K' gd
                  refine Ends.keep [1, 2, 5, 6] fun r26 hkeep => ?_
                  obtain ⟨e1_26, e2_26, e5_26, e6_26, -⟩ := hkeep
                  simp [go_sem, e1_25, e2_25, e5_25, e6_25, e108_25] at e1_26 e2_26 e5_26 e6_26
                  clear e1_25 e2_25 e5_25 e6_25 e108_25
                  refine Ends.mk ?_
                  refine thenK_normal ⟨by omega, ⟨by rw [e1_26, e1_6], by rw [e2_26, e2_6], by rw [e5_26, e5_6], trivial⟩, rfl, ?_⟩
                  refine ⟨by rw [e6_26, IntWalk.i64_in _ (by omega)]; rfl, (by repeat (first | assumption | exact Ext.refl _ | refine Ext.drew ?_ | refine Ext.alloc ?_ _ | refine Ext.trans ?_ (by assumption))), fun j' hj' => ?_⟩
                  by_cases e : j' = j
                  · subst e; obtain ⟨-, e⟩ := hbd'; obtain ⟨-, e1⟩ := hbd3; obtain ⟨-, e2⟩ := hki; refine ⟨by rw [e, hx]; exact hbad2, fun _ => by rw [hcj, e2, e1, hx]; exact hbad4⟩
                  · exact hqj j' (by omega)
              · skip
                refine Wp.seqDraw (.inl rfl) mixed [([0, 1, 2], none), ([3, 4, 5, 6, 7], none), ([8, 9, 10, 11, 12], none), ([13, 14, 15, 16, 17], none), ([18, 19, 20, 21, 22], none), ([23, 24, 25, 26, 27], none), ([28], none)] (by kernel_rfl) fun K' gd hK hg => ?_
                have g2 : gd 2 = some 82 := hg 2
                clear hg
                simp only [pick, nth, List.map_cons, List.map_nil, Option.map_none, Option.map_some]
                apply Mops.none
                · intro w' hE'
                  have hC' := hE'.cellsS
                  go_simp
                  with_reducible rfl
                apply Mops.none
                · intro w' hE'
                  have hC' := hE'.cellsS
                  go_simp
                  with_reducible rfl
                apply Mops.none
                · intro w' hE'
                  have hC' := hE'.cellsS
                  go_simp
                  with_reducible rfl
                apply Mops.none
                · intro w' hE'
                  have hC' := hE'.cellsS
                  go_simp
                  with_reducible rfl
                apply Mops.none
                · intro w' hE'
                  have hC' := hE'.cellsS
                  go_simp
                  with_reducible rfl
                apply Mops.none
                · intro w' hE'
                  have hC' := hE'.cellsS
                  go_simp
                  with_reducible rfl
                apply Mops.none
                · intro w' hE'
                  have hC' := hE'.cellsS
                  go_simp
                  with_reducible rfl
                refine Mops.done ?_
                refine hK _ _ ?_
                clear hK K' gd g2
                refine Wp.keep [1, 2, 5, 6, 108] fun r27 hkeep => ?_
                obtain ⟨e1_27, e2_27, e5_27, e6_27, e108_27, -⟩ := hkeep
                simp [go_sem, e1_22, e2_22, e5_22, e6_22, e7_22] at e1_27 e2_27 e5_27 e6_27 e108_27
                clear e1_22 e2_22 e5_22 e6_22 e7_22
                refine Wp.condF (by go_simp) ?_
                refine Wp.skip ?_
                refine blockK_normal ?_
                refine thenK_normal ?_
                refine Wp.loneRegion (.inl rfl) (by kernel_rfl) fun K' gd hK hg => ?_
                clear hg
                go_simp
                refine hK _ _ ?_
                clear hK K' gd
                refine Ends.keep [1, 2, 5, 6] fun r28 hkeep => ?_
                obtain ⟨e1_28, e2_28, e5_28, e6_28, -⟩ := hkeep
                simp [go_sem, e1_27, e2_27, e5_27, e6_27, e108_27] at e1_28 e2_28 e5_28 e6_28
                clear e1_27 e2_27 e5_27 e6_27 e108_27
                refine Ends.mk ?_
                refine thenK_normal ⟨by omega, ⟨by rw [e1_28, e1_6], by rw [e2_28, e2_6], by rw [e5_28, e5_6], trivial⟩, rfl, ?_⟩
                refine ⟨by rw [e6_28, IntWalk.i64_in _ (by omega)]; rfl, (by repeat (first | assumption | exact Ext.refl _ | refine Ext.drew ?_ | refine Ext.alloc ?_ _ | refine Ext.trans ?_ (by assumption))), fun j' hj' => ?_⟩
                by_cases e : j' = j
                · subst e; obtain ⟨-, e⟩ := hbd'; refine ⟨by rw [e, hx]; exact hbad2, fun h' => absurd h' (by rw [hcj]; exact hk)⟩
                · exact hqj j' (by omega)
        · refine Wp.condF (by go_simp) ?_
          refine Wp.exit ?_
          refine thenK_exit ?_
          refine thenK_exit ?_
          refine blockK_here ?_
          refine blockK_normal ?_
          refine thenK_normal ?_
          refine Wp.loneRegion (.inl rfl) (by kernel_rfl) fun K' gd hK hg => ?_
          clear hg
          go_simp
          refine hK _ _ ?_
          clear hK K' gd
          refine Ends.keep [1, 2, 5] fun r29 hkeep => ?_
          obtain ⟨e1_29, e2_29, e5_29, -⟩ := hkeep
          simp [go_sem, e1_8, e2_8, e5_8, e6_8, e19_8] at e1_29 e2_29 e5_29
          clear e1_8 e2_8 e5_8 e6_8 e19_8
          refine Ends.mk ?_
          refine thenK_normal ⟨by omega, ⟨by rw [e1_29, e1_3], by rw [e2_29, e2_3], trivial⟩, rfl, ?_⟩
          refine ⟨by rw [e5_29, IntWalk.i64_in _ (by omega)]; rfl, hEj, fun i' j' hi' hj' => ?_⟩
          by_cases e : i' = i
          · subst e; exact hqj j' (by omega)
          · exact hqi i' j' (by omega) hj'
    · refine Wp.condF (by go_simp) ?_
      refine Wp.exit ?_
      refine thenK_exit ?_
      refine thenK_exit ?_
      refine blockK_here ?_
      refine thenK_normal ?_
      refine Wp.seqRegion (.inl rfl) (by kernel_rfl) fun K' gd hK hg => ?_
      clear hg
      go_simp
      refine hK _ _ ?_
      clear hK K' gd
      refine Wp.keep [4] fun r30 hkeep => ?_
      obtain ⟨e4_30, -⟩ := hkeep
      simp [go_sem, e1_5, e2_5, e5_5, e12_5] at e4_30
      clear e1_5 e2_5 e5_5 e12_5
      refine Wp.ret ?_
      refine endK_tmp Try.results18 (by decide) ?_
      rw [e4_30]
      refine ⟨true, rfl, ⟨fun _ i' j' hi' hj' => hqi i' j' (by omega) hj', fun _ => rfl⟩, (by repeat (first | assumption | exact Ext.refl _ | refine Ext.drew ?_ | refine Ext.alloc ?_ _ | refine Ext.trans ?_ (by assumption)))⟩
end Go.Proofs.Ytnfagcccgmakdaa
namespace Go.Proofs.Ytnfagcccgmakdaa
open Go.RowKit Go.Wk Go.Proofs

theorem SmallP.good {o : Ord} (h : SmallP o) : OrdGood o := checkS_zero.1 h.2.2.2
theorem SmallP.n {o : Ord} (h : SmallP o) : 0 < o.n ∧ o.n ≤ 10 := ⟨h.2.2.1, h.2.1⟩
theorem SmallP.m {o : Ord} (h : SmallP o) : o.m ≤ 8 := h.1
theorem small_T {v : Value} {o : Ord} (hs : SmallP o) (w : World) (hV : OrderV w w.heap.size v o) (hf : Fits o) : CallsV Try.prog 12 #[v] w fun v w' => v = .bool true ∧ Ext w w' :=
  (small_c v o w hV hf).mono fun _ _ ⟨h1, h3⟩ => by rw [decide_eq_true hs] at h1; exact ⟨h1, h3⟩
theorem small_F {v : Value} {o : Ord} (hs : ¬ SmallP o) (w : World) (hV : OrderV w w.heap.size v o) (hf : Fits o) : CallsV Try.prog 12 #[v] w fun v w' => v = .bool false ∧ Ext w w' :=
  (small_c v o w hV hf).mono fun _ _ ⟨h1, h3⟩ => by rw [decide_eq_false hs] at h1; exact ⟨h1, h3⟩
def TabH (w : World) (v : Value) (o : Ord) (t : Nat → Nat → Int) : Prop := TabV w w.heap.size v (tabL o t) ∧ ∃ b ob c rb ro rc, v = .slice (some ⟨b, ob, none⟩) o.n c ∧ TabG w b ob rb ro rc o.n o.m t
theorem TabH.of {w : World} {v : Value} {o : Ord} {t : Nat → Nat → Int} (h : TabV w w.heap.size v (tabL o t)) (hn : 0 < o.n) (hm : 0 < o.m) : TabH w v o t := ⟨h, tabG_of h hn hm⟩
theorem TabH.ext {w w' : World} {v : Value} {o : Ord} {t : Nat → Nat → Int} (h : TabH w v o t) (hE : Ext w w') : TabH w' v o t := by
  obtain ⟨h1, b, ob, c, rb, ro, rc, rfl, h2⟩ := h
  exact ⟨h1.ext hE, b, ob, c, rb, ro, rc, rfl, h2.ext hE⟩
theorem Times_g (v : Value) (o : Ord) (w : World) (hV : OrderV w w.heap.size v o) (hg : OrdGood o) (hn : 0 < o.n) :
    CallsV Try.prog 14 #[v] w fun v w' => ∃ t, v = .tuple #[t, .int .i64 0] ∧ TabH w' t o (begA o) ∧ Ext w w' :=
  (Times_c v o w hV hg.fits).mono fun _ _ ⟨t, h1, h2, h3⟩ => by
    have hc := checkS_zero.2 hg
    have hm := hg.ok.hm1
    rw [hc] at h1 h2; rw [if_pos rfl] at h2; exact ⟨t, h1, TabH.of h2.tabV hn (by omega), h3⟩
theorem End_g (v : Value) (o : Ord) (w : World) (hV : OrderV w w.heap.size v o) (hg : OrdGood o) :
    CallsV Try.prog 15 #[v] w fun v w' => v = .tuple #[.int .i64 (endS o), .int .i64 0] ∧ Ext w w' :=
  (End_c v o w hV hg.fits).mono fun _ _ ⟨h1, h3⟩ => by
    have hc := checkS_zero.2 hg
    rw [hc, if_pos rfl] at h1; exact ⟨h1, h3⟩
theorem askS_good {o : Ord} {p : Bool} (hg : OrdGood o) (hp : p = true) : askS o p = 0 := askS_zero.2 ⟨hg, hp⟩
theorem Latest_g (v : Value) (o : Ord) (d : Int) (w : World) (hV : OrderV w w.heap.size v o) (hg : OrdGood o) (hn : 0 < o.n) (hd : endS o ≤ d ∧ d ≤ 1048576) :
    CallsV Try.prog 16 #[v, .int .i64 d] w fun v w' => ∃ t, v = .tuple #[t, .int .i64 0] ∧ TabH w' t o (lstA o d) ∧ Ext w w' :=
  (Latest_c v o d w hV hg.fits).mono fun _ _ ⟨t, h1, h2, h3⟩ => by
    have h0 := end_nonneg (o := o)
    have hc : latestE o d = 0 := by
      unfold latestE
      rw [if_pos (askS_good hg (by unfold okDay; exact decide_eq_true ⟨by omega, hd.2⟩)), if_neg (by omega)]
    have hm := hg.ok.hm1
    rw [hc] at h1 h2; rw [if_pos rfl] at h2; exact ⟨t, h1, TabH.of h2.tabV hn (by omega), h3⟩
theorem wide_tab {o : Ord} (t : Nat → Nat → Int) : WideP o (tabL o t) := by
  refine ⟨tabL_len o t, fun x hx => ?_⟩
  obtain ⟨i, -, rfl⟩ := List.mem_map.1 hx
  exact rowL_len o t i
theorem wide_g (v tv : Value) (o : Ord) (t : Nat → Nat → Int) (w : World) (hV : OrderV w w.heap.size v o) (hT : TabH w tv o t) (hn : o.n ≤ 1000000) :
    CallsV Try.prog 17 #[v, tv] w fun v w' => v = .bool true ∧ Ext w w' :=
  (wide_c v tv o (tabL o t) w hV hT.1 (by rw [tabL_len]; exact hn)).mono fun _ _ ⟨h1, h3⟩ => by
    rw [decide_eq_true (wide_tab t)] at h1; exact ⟨h1, h3⟩
theorem keeps_g (v tv : Value) (o : Ord) (t : Nat → Nat → Int) (w : World) (hV : OrderV w w.heap.size v o) (hg : OrdGood o) (hT : TabH w tv o t) (hb : ∀ i j, i < o.n → j < o.m → -1000000000000 ≤ t i j ∧ t i j ≤ 1000000000000) :
    CallsV Try.prog 18 #[v, tv] w fun v w' => ∃ q, v = .bool q ∧ (q = true ↔ KeepsP o t) ∧ Ext w w' := by
  obtain ⟨a, rfl, hO⟩ := hV.ordF hg
  obtain ⟨-, b, ob, c, rb, ro, rc, rfl, hG⟩ := hT
  exact keeps_c a o b ob c rb ro rc t w hO hG hb
theorem wide_T {v tv : Value} {o : Ord} {t : List (List Int)} (hw : WideP o t) (w : World) (hV : OrderV w w.heap.size v o) (hT : TabV w w.heap.size tv t) (hl : t.length ≤ 1000000) :
    CallsV Try.prog 17 #[v, tv] w fun v w' => v = .bool true ∧ Ext w w' :=
  (wide_c v tv o t w hV hT hl).mono fun _ _ ⟨h1, h3⟩ => by rw [decide_eq_true hw] at h1; exact ⟨h1, h3⟩
theorem wide_F {v tv : Value} {o : Ord} {t : List (List Int)} (hw : ¬ WideP o t) (w : World) (hV : OrderV w w.heap.size v o) (hT : TabV w w.heap.size tv t) (hl : t.length ≤ 1000000) :
    CallsV Try.prog 17 #[v, tv] w fun v w' => v = .bool false ∧ Ext w w' :=
  (wide_c v tv o t w hV hT hl).mono fun _ _ ⟨h1, h3⟩ => by rw [decide_eq_false hw] at h1; exact ⟨h1, h3⟩
theorem keeps_T {v tv : Value} {o : Ord} {t : Nat → Nat → Int} (hk : KeepsP o t) (w : World) (hV : OrderV w w.heap.size v o) (hg : OrdGood o) (hT : TabH w tv o t) (hb : ∀ i j, i < o.n → j < o.m → -1000000000000 ≤ t i j ∧ t i j ≤ 1000000000000) :
    CallsV Try.prog 18 #[v, tv] w fun v w' => v = .bool true ∧ Ext w w' :=
  (keeps_g v tv o t w hV hg hT hb).mono fun _ _ ⟨q, h1, h2, h3⟩ => by rw [h2.2 hk] at h1; exact ⟨h1, h3⟩
theorem keeps_F {v tv : Value} {o : Ord} {t : Nat → Nat → Int} (hk : ¬ KeepsP o t) (w : World) (hV : OrderV w w.heap.size v o) (hg : OrdGood o) (hT : TabH w tv o t) (hb : ∀ i j, i < o.n → j < o.m → -1000000000000 ≤ t i j ∧ t i j ≤ 1000000000000) :
    CallsV Try.prog 18 #[v, tv] w fun v w' => v = .bool false ∧ Ext w w' :=
  (keeps_g v tv o t w hV hg hT hb).mono fun _ _ ⟨q, h1, h2, h3⟩ => by
    cases q
    · exact ⟨h1, h3⟩
    · exact absurd (h2.1 rfl) hk
def dF (days : List (List Int)) (i j : Nat) : Int := ((days[i]?.getD [])[j]?).getD 0
theorem dF_tab {o : Ord} {days : List (List Int)} (h : WideP o days) : days = tabL o (dF days) := by
  refine List.ext_getElem (by rw [tabL_len]; exact h.1) fun i h1 h2 => ?_
  rw [tabL_get]
  have hr := h.2 _ (List.getElem_mem h1)
  refine List.ext_getElem (by rw [rowL_len]; exact hr) fun j h3 h4 => ?_
  rw [rowL_get]
  simp [dF, h1, h3]
end Go.Proofs.Ytnfagcccgmakdaa
