/- Lists compared; what the laws ask of their arguments. The chapter's examples, reckoned. The chapter's examples: head. Arguments, opened. -/
import Derived.Test.YtnjajbkkgfohaaaP5
import Derived.Test.YtnjajbkkgfohaaaP2
import Derived.Test.YtnjajbkkgfohaaaP1
set_option linter.all false
namespace Go.Proofs.Ytnjajbkkgfohaaa
open Go.RowKit Go.Wk Go.Proofs
attribute [local irreducible] Go.Wk.Wops Go.Wk.Wp Go.Wk.Mtree Go.Wk.Mops
set_option maxHeartbeats 4000000
set_option maxRecDepth 20000

theorem sameInts_c (x y : Value) (xs ys : List Int) (w : World) (hx : IntsV w w.heap.size x xs) (hy : IntsV w w.heap.size y ys) (hl : xs.length ≤ 1000000000000000) :
    CallsV Try.prog 29 #[x, y] w fun v w' => v = .bool (decide (xs = ys)) ∧ Ext w w' := by
  obtain ⟨A, c, rfl, -, -⟩ := id hx
  obtain ⟨A2, c2, rfl, -, -⟩ := id hy
  refine Wp.fn Try.func29 rfl Try.ntmps29 (by simp) ?_
  have xw := Ext.refl w
  refine Wp.keep [0, 1] fun r1 hkeep => ?_
  obtain ⟨e0_1, e1_1, -⟩ := hkeep
  simp [go_sem] at e0_1 e1_1
  by_cases he : (xs.length : Int) = (ys.length : Int)
  · skip
    refine Wp.seqRegion (.inl rfl) (by kernel_rfl) fun K' gd hK hg => ?_
    clear hg
    go_simp
    refine hK _ _ ?_
    clear hK K' gd
    refine Wp.keep [0, 1] fun r2 hkeep => ?_
    obtain ⟨e0_2, e1_2, -⟩ := hkeep
    simp [go_sem, e0_1, e1_1] at e0_2 e1_2
    clear e0_1 e1_1
    refine Wp.seq ?_
    refine Wp.seqRegion (.inl rfl) (by kernel_rfl) fun K' gd hK hg => ?_
    clear hg
    go_simp
    refine hK _ _ ?_
    clear hK K' gd
    refine Wp.keep [0, 1, 10] fun r3 hkeep => ?_
    obtain ⟨e0_3, e1_3, e10_3, -⟩ := hkeep
    simp [go_sem, e0_2, e1_2] at e0_3 e1_3 e10_3
    clear e0_2 e1_2
    refine Wp.condF (by go_simp) ?_
    replace he : ∃ _u : Unit, xs.length = ys.length := ⟨(), by omega⟩
    refine Wp.skip ?_
    refine thenK_normal ?_
    refine Wp.seq ?_
    refine Wp.seqRegion (.inl rfl) (by kernel_rfl) fun K' gd hK hg => ?_
    clear hg
    go_simp
    refine hK _ _ ?_
    clear hK K' gd
    refine Wp.keep [0, 1, 5] fun r4 hkeep => ?_
    obtain ⟨e0_4, e1_4, e5_4, -⟩ := hkeep
    simp [go_sem, e0_3, e1_3, e10_3] at e0_4 e1_4 e5_4
    clear e0_3 e1_3 e10_3
    refine Wp.block ?_
    refine Wp.loop (fun k ρ ds wk => AllEq [0, 1] ρ r4 ∧ ds = [] ∧ (Ext w wk) ∧ (ρ 5 = .int .i64 (k : Int) ∧ (∀ j, j < k → gI xs j = gI ys j))) (xs.length) ?_ ?_
    · refine ⟨AllEq.refl _ _, rfl, Ext.refl _, ?_⟩
      exact ⟨by rw [e5_4]; rfl, fun j hj => absurd hj (Nat.not_lt_zero _)⟩
    · rintro k r5 _ wk hk ⟨hA, rfl, xl1, ⟨e5, hn⟩⟩
      obtain ⟨e0_5, e1_5, -⟩ := hA
      rw [e0_4] at e0_5
      rw [e1_4] at e1_5
      have zxl1 := Below.size xl1
      replace xw := Ext.trans xw xl1
      refine Wp.seq ?_
      refine Wp.seqRegion (.inl rfl) (by kernel_rfl) fun K' gd hK hg => ?_
      clear hg
      go_simp
      refine hK _ _ ?_
      clear hK K' gd
      refine Wp.keep [0, 1, 5, 14] fun r6 hkeep => ?_
      obtain ⟨e0_6, e1_6, e5_6, e14_6, -⟩ := hkeep
      simp [go_sem, e0_5, e1_5, e5] at e0_6 e1_6 e5_6 e14_6
      clear e0_5 e1_5 e5
      by_cases h : k < xs.length
      · refine Wp.condT (by go_simp) ?_
        have hye : k < ys.length := by rw [← he.choose_spec]; exact h
        obtain ⟨b, o, c5, e1, hb, hc⟩ := hx.get h
        injection e1 with e1 _ e2
        subst e1
        subst e2
        obtain ⟨b2, o2, c6, e1, hb2, hc2⟩ := hy.get hye
        injection e1 with e1 _ e2
        subst e1
        subst e2
        have d1 := xw.cell (hc k h)
        have d2 := xw.cell (hc2 k hye)
        clear hc hc2
        by_cases hq : gI xs k = gI ys k
        · skip
          refine Wp.skip ?_
          refine thenK_normal ?_
          refine Wp.seq ?_
          refine Wp.block ?_
          refine Wp.seqDraw (.inl rfl) mixed [([0, 1, 2, 3, 4], none), ([5, 6, 7, 8], none)] (by kernel_rfl) fun K' gd hK hg => ?_
          clear hg
          simp only [pick, nth, List.map_cons, List.map_nil, Option.map_none, Option.map_some]
          refine Mops.absD fun D2 hD2 zD2 => ?_
          replace xw := Ext.trans xw hD2
          replace xl1 := Ext.trans xl1 hD2
          replace d1 := Ext.cell hD2 d1
          replace d2 := Ext.cell hD2 d2
          clear hD2
          apply Mops.none
          · intro w' hE'
            have hC' := hE'.cellsS
            go_simp
            with_reducible rfl
          apply Mops.none
          · intro w' hE'
            have hC' := hE'.cellsS
            go_simp
            with_reducible rfl
          refine Mops.done ?_
          refine hK _ _ ?_
          clear hK K' gd
          refine Wp.keep [0, 1, 5, 25] fun r7 hkeep => ?_
          obtain ⟨e0_7, e1_7, e5_7, e25_7, -⟩ := hkeep
          simp [go_sem, e0_6, e1_6, e5_6, e14_6] at e0_7 e1_7 e5_7 e25_7
          clear e0_6 e1_6 e5_6 e14_6
          refine Wp.condF (by go_simp) ?_
          refine Wp.skip ?_
          refine blockK_normal ?_
          refine thenK_normal ?_
          refine Wp.loneRegion (.inl rfl) (by kernel_rfl) fun K' gd hK hg => ?_
          clear hg
          go_simp
          refine hK _ _ ?_
          clear hK K' gd
          refine Ends.keep [0, 1, 5] fun r8 hkeep => ?_
          obtain ⟨e0_8, e1_8, e5_8, -⟩ := hkeep
          simp [go_sem, e0_7, e1_7, e5_7, e25_7] at e0_8 e1_8 e5_8
          clear e0_7 e1_7 e5_7 e25_7
          refine Ends.mk ?_
          refine thenK_normal ⟨by omega, ⟨by rw [e0_8, e0_4], by rw [e1_8, e1_4], trivial⟩, rfl, xl1, ?_⟩
          exact ⟨by rw [e5_8, IntWalk.i64_in _ (by omega)]; rfl, fun j hj => by rcases Nat.lt_succ_iff_lt_or_eq.1 hj with hj | rfl; exact hn j hj; exact hq⟩
        · skip
          refine Wp.skip ?_
          refine thenK_normal ?_
          refine Wp.seq ?_
          refine Wp.block ?_
          refine Wp.seqDraw (.inl rfl) mixed [([0, 1, 2, 3, 4], none), ([5, 6, 7, 8], none)] (by kernel_rfl) fun K' gd hK hg => ?_
          clear hg
          simp only [pick, nth, List.map_cons, List.map_nil, Option.map_none, Option.map_some]
          refine Mops.absD fun D3 hD3 zD3 => ?_
          replace xw := Ext.trans xw hD3
          replace xl1 := Ext.trans xl1 hD3
          replace d1 := Ext.cell hD3 d1
          replace d2 := Ext.cell hD3 d2
          clear hD3
          apply Mops.none
          · intro w' hE'
            have hC' := hE'.cellsS
            go_simp
            with_reducible rfl
          apply Mops.none
          · intro w' hE'
            have hC' := hE'.cellsS
            go_simp
            with_reducible rfl
          refine Mops.done ?_
          refine hK _ _ ?_
          clear hK K' gd
          refine Wp.keep [0, 1, 5, 25] fun r9 hkeep => ?_
          obtain ⟨e0_9, e1_9, e5_9, e25_9, -⟩ := hkeep
          simp [go_sem, e0_6, e1_6, e5_6, e14_6] at e0_9 e1_9 e5_9 e25_9
          clear e0_6 e1_6 e5_6 e14_6
          refine Wp.condT (by go_simp) ?_
          refine Wp.seqRegion (.inl rfl) (by kernel_rfl) fun K' gd hK hg => ?_
          clear hg
          go_simp
          refine hK _ _ ?_
          clear hK K' gd
          refine Wp.keep [4] fun r10 hkeep => ?_
          obtain ⟨e4_10, -⟩ := hkeep
          simp [go_sem, e0_9, e1_9, e5_9, e25_9] at e4_10
          clear e0_9 e1_9 e5_9 e25_9
          refine Wp.ret ?_
          refine blockK_ret ?_
          refine thenK_ret ?_
          refine thenK_ret ?_
          refine blockK_ret ?_
          refine thenK_ret ?_
          refine endK_tmp Try.results29 (by decide) ?_
          rw [e4_10]
          exact ⟨by rw [decide_eq_false fun e => hq (by rw [e])], xw⟩
      · refine Wp.condF (by go_simp) ?_
        obtain rfl : k = xs.length := by omega
        refine Wp.exit ?_
        refine thenK_exit ?_
        refine thenK_exit ?_
        refine blockK_here ?_
        refine thenK_normal ?_
        refine Wp.seqRegion (.inl rfl) (by kernel_rfl) fun K' gd hK hg => ?_
        clear hg
        go_simp
        refine hK _ _ ?_
        clear hK K' gd
        refine Wp.keep [4] fun r11 hkeep => ?_
        obtain ⟨e4_11, -⟩ := hkeep
        simp [go_sem, e0_6, e1_6, e5_6, e14_6] at e4_11
        clear e0_6 e1_6 e5_6 e14_6
        refine Wp.ret ?_
        refine endK_tmp Try.results29 (by decide) ?_
        rw [e4_11]
        exact ⟨by rw [decide_eq_true (list_gI he.choose_spec hn)], xw⟩
  · skip
    refine Wp.seqRegion (.inl rfl) (by kernel_rfl) fun K' gd hK hg => ?_
    clear hg
    go_simp
    refine hK _ _ ?_
    clear hK K' gd
    refine Wp.keep [0, 1] fun r12 hkeep => ?_
    obtain ⟨e0_12, e1_12, -⟩ := hkeep
    simp [go_sem, e0_1, e1_1] at e0_12 e1_12
    clear e0_1 e1_1
    refine Wp.seq ?_
    refine Wp.seqRegion (.inl rfl) (by kernel_rfl) fun K' gd hK hg => ?_
    clear hg
    go_simp
    refine hK _ _ ?_
    clear hK K' gd
    refine Wp.keep [0, 1, 10] fun r13 hkeep => ?_
    obtain ⟨e0_13, e1_13, e10_13, -⟩ := hkeep
    simp [go_sem, e0_12, e1_12] at e0_13 e1_13 e10_13
    clear e0_12 e1_12
    refine Wp.condT (by go_simp) ?_
    refine Wp.seqRegion (.inl rfl) (by kernel_rfl) fun K' gd hK hg => ?_
    clear hg
    go_simp
    refine hK _ _ ?_
    clear hK K' gd
    refine Wp.keep [4] fun r14 hkeep => ?_
    obtain ⟨e4_14, -⟩ := hkeep
    simp [go_sem, e0_13, e1_13, e10_13] at e4_14
    clear e0_13 e1_13 e10_13
    refine Wp.ret ?_
    refine thenK_ret ?_
    refine endK_tmp Try.results29 (by decide) ?_
    rw [e4_14]
    exact ⟨by rw [decide_eq_false fun e => he (by rw [e])], xw⟩
theorem list_spans {l k : List (Int × Int)} (h : l.length = k.length) (hg : ∀ i (h1 : i < l.length) (h2 : i < k.length), l[i] = k[i]) : l = k := List.ext_getElem h hg
theorem eqSpan (d : Nat) (a b a' b' : Int) (w : World) : (Op.equalIn (d + 2) 62 (.agg #[.int .i64 a, .int .i64 b]) (.agg #[.int .i64 a', .int .i64 b'])).run Try.prog w = .ok (decide (a = a') && decide (b = b')) w := by
  have e0 : ∀ (x y : Int) w, (Op.equalIn (d + 1) 3 (.int .i64 x) (.int .i64 y)).run Try.prog w = .ok (x == y) w := fun x y w => run_equalIn_int w d _ .i64 .i64 x y Try.underlying3
  rw [run_equalIn_agg w (d + 1) _ _ _ (by kernel_rfl) (by kernel_rfl)]
  simp only [Program.fieldsOf, Try.underlying62]
  by_cases h1 : a = a' <;> by_cases h2 : b = b' <;> simp [go_sem, Op.eqFields, e0, h1, h2]
@[go_sem] theorem eqSpan_run (a b a' b' : Int) (w : World) : (binOp .eql 62 (.agg #[.int .i64 a, .int .i64 b]) (.agg #[.int .i64 a', .int .i64 b'])).run Try.prog w = .ok (.bool (decide (a = a') && decide (b = b'))) w := by
  rw [run_eql_struct, eqSpan 9998]; rfl
@[go_sem] theorem eqSpan10 (a b a' b' : Int) (w : World) : (Op.equalIn 10000 62 (.agg #[.int .i64 a, .int .i64 b]) (.agg #[.int .i64 a', .int .i64 b'])).run Try.prog w = .ok (decide (a = a') && decide (b = b')) w := eqSpan 9998 a b a' b' w
theorem sameSpans_c (x y : Value) (xs ys : List (Int × Int)) (w : World) (hx : SpansV w w.heap.size x xs) (hy : SpansV w w.heap.size y ys) (hl : xs.length ≤ 1000000000000000) :
    CallsV Try.prog 30 #[x, y] w fun v w' => v = .bool (decide (xs = ys)) ∧ Ext w w' := by
  obtain ⟨A, c, rfl, -, -⟩ := id hx
  obtain ⟨A2, c2, rfl, -, -⟩ := id hy
  refine Wp.fn Try.func30 rfl Try.ntmps30 (by simp) ?_
  have xw := Ext.refl w
  refine Wp.keep [0, 1] fun r1 hkeep => ?_
  obtain ⟨e0_1, e1_1, -⟩ := hkeep
  simp [go_sem] at e0_1 e1_1
  by_cases he : (xs.length : Int) = (ys.length : Int)
  · skip
    refine Wp.seqRegion (.inl rfl) (by kernel_rfl) fun K' gd hK hg => ?_
    clear hg
    go_simp
    refine hK _ _ ?_
    clear hK K' gd
    refine Wp.keep [0, 1] fun r2 hkeep => ?_
    obtain ⟨e0_2, e1_2, -⟩ := hkeep
    simp [go_sem, e0_1, e1_1] at e0_2 e1_2
    clear e0_1 e1_1
    refine Wp.seq ?_
    refine Wp.seqRegion (.inl rfl) (by kernel_rfl) fun K' gd hK hg => ?_
    clear hg
    go_simp
    refine hK _ _ ?_
    clear hK K' gd
    refine Wp.keep [0, 1, 10] fun r3 hkeep => ?_
    obtain ⟨e0_3, e1_3, e10_3, -⟩ := hkeep
    simp [go_sem, e0_2, e1_2] at e0_3 e1_3 e10_3
    clear e0_2 e1_2
    refine Wp.condF (by go_simp) ?_
    replace he : ∃ _u : Unit, xs.length = ys.length := ⟨(), by omega⟩
    refine Wp.skip ?_
    refine thenK_normal ?_
    refine Wp.seq ?_
    refine Wp.seqRegion (.inl rfl) (by kernel_rfl) fun K' gd hK hg => ?_
    clear hg
    go_simp
    refine hK _ _ ?_
    clear hK K' gd
    refine Wp.keep [0, 1, 5] fun r4 hkeep => ?_
    obtain ⟨e0_4, e1_4, e5_4, -⟩ := hkeep
    simp [go_sem, e0_3, e1_3, e10_3] at e0_4 e1_4 e5_4
    clear e0_3 e1_3 e10_3
    refine Wp.block ?_
    refine Wp.loop (fun k ρ ds wk => AllEq [0, 1] ρ r4 ∧ ds = [] ∧ (Ext w wk) ∧ (ρ 5 = .int .i64 (k : Int) ∧ (∀ j, j < k → xs[j]? = ys[j]?))) (xs.length) ?_ ?_
    · refine ⟨AllEq.refl _ _, rfl, Ext.refl _, ?_⟩
      exact ⟨by rw [e5_4]; rfl, fun j hj => absurd hj (Nat.not_lt_zero _)⟩
    · rintro k r5 _ wk hk ⟨hA, rfl, xl1, ⟨e5, hn⟩⟩
      obtain ⟨e0_5, e1_5, -⟩ := hA
      rw [e0_4] at e0_5
      rw [e1_4] at e1_5
      have zxl1 := Below.size xl1
      replace xw := Ext.trans xw xl1
      refine Wp.seq ?_
      refine Wp.seqRegion (.inl rfl) (by kernel_rfl) fun K' gd hK hg => ?_
      clear hg
      go_simp
      refine hK _ _ ?_
      clear hK K' gd
      refine Wp.keep [0, 1, 5, 14] fun r6 hkeep => ?_
      obtain ⟨e0_6, e1_6, e5_6, e14_6, -⟩ := hkeep
      simp [go_sem, e0_5, e1_5, e5] at e0_6 e1_6 e5_6 e14_6
      clear e0_5 e1_5 e5
      by_cases h : k < xs.length
      · refine Wp.condT (by go_simp) ?_
        have hye : k < ys.length := by rw [← he.choose_spec]; exact h
        obtain ⟨b, o, rfl, hb, d1, d2⟩ := SpansV.two hx h
        obtain ⟨b2, o2, rfl, hb2, d3, d4⟩ := SpansV.two hy hye
        replace d1 := xw.cell d1
        replace d2 := xw.cell d2
        replace d3 := xw.cell d3
        replace d4 := xw.cell d4
        by_cases hq : xs[k].1 = ys[k].1 ∧ xs[k].2 = ys[k].2
        · skip
          obtain ⟨q1, q2⟩ := hq
          refine Wp.skip ?_
          refine thenK_normal ?_
          refine Wp.seq ?_
          refine Wp.block ?_
          refine Wp.seqDraw (.inl rfl) mixed [([0, 1, 2, 3, 4], none), ([5, 6, 7, 8], none)] (by kernel_rfl) fun K' gd hK hg => ?_
          clear hg
          simp only [pick, nth, List.map_cons, List.map_nil, Option.map_none, Option.map_some]
          refine Mops.absD fun D2 hD2 zD2 => ?_
          replace xw := Ext.trans xw hD2
          replace xl1 := Ext.trans xl1 hD2
          replace d1 := Ext.cell hD2 d1
          replace d2 := Ext.cell hD2 d2
          replace d3 := Ext.cell hD2 d3
          replace d4 := Ext.cell hD2 d4
          clear hD2
          apply Mops.none
          · intro w' hE'
            have hC' := hE'.cellsS
            go_simp
            with_reducible rfl
          apply Mops.none
          · intro w' hE'
            have hC' := hE'.cellsS
            go_simp
            with_reducible rfl
          refine Mops.done ?_
          refine hK _ _ ?_
          clear hK K' gd
          refine Wp.keep [0, 1, 5, 25] fun r7 hkeep => ?_
          obtain ⟨e0_7, e1_7, e5_7, e25_7, -⟩ := hkeep
          simp [go_sem, e0_6, e1_6, e5_6, e14_6] at e0_7 e1_7 e5_7 e25_7
          clear e0_6 e1_6 e5_6 e14_6
          refine Wp.condF (by go_simp) ?_
          refine Wp.skip ?_
          refine blockK_normal ?_
          refine thenK_normal ?_
          refine Wp.loneRegion (.inl rfl) (by kernel_rfl) fun K' gd hK hg => ?_
          clear hg
          go_simp
          refine hK _ _ ?_
          clear hK K' gd
          refine Ends.keep [0, 1, 5] fun r8 hkeep => ?_
          obtain ⟨e0_8, e1_8, e5_8, -⟩ := hkeep
          simp [go_sem, e0_7, e1_7, e5_7, e25_7] at e0_8 e1_8 e5_8
          clear e0_7 e1_7 e5_7 e25_7
          refine Ends.mk ?_
          refine thenK_normal ⟨by omega, ⟨by rw [e0_8, e0_4], by rw [e1_8, e1_4], trivial⟩, rfl, xl1, ?_⟩
          exact ⟨by rw [e5_8, IntWalk.i64_in _ (by omega)]; rfl, fun j hj => by rcases Nat.lt_succ_iff_lt_or_eq.1 hj with hj | rfl; exact hn j hj; rw [List.getElem?_eq_getElem h, List.getElem?_eq_getElem hye]; exact congrArg some (Prod.ext q1 q2)⟩
        · skip
          have hif : ∀ (R1 R2 : Result Next), (if xs[k].1 = ys[k].1 then if xs[k].2 = ys[k].2 then R1 else R2 else R2) = R2 := fun R1 R2 => by split; split; exact absurd ⟨‹_›, ‹_›⟩ hq; rfl; rfl
          refine Wp.skip ?_
          refine thenK_normal ?_
          refine Wp.seq ?_
          refine Wp.block ?_
          refine Wp.seqDraw (.inl rfl) mixed [([0, 1, 2, 3, 4], none), ([5, 6, 7, 8], none)] (by kernel_rfl) fun K' gd hK hg => ?_
          clear hg
          simp only [pick, nth, List.map_cons, List.map_nil, Option.map_none, Option.map_some]
          refine Mops.absD fun D3 hD3 zD3 => ?_
          replace xw := Ext.trans xw hD3
          replace xl1 := Ext.trans xl1 hD3
          replace d1 := Ext.cell hD3 d1
          replace d2 := Ext.cell hD3 d2
          replace d3 := Ext.cell hD3 d3
          replace d4 := Ext.cell hD3 d4
          clear hD3
          apply Mops.none
          · intro w' hE'
            have hC' := hE'.cellsS
            go_simp
            with_reducible rfl
          apply Mops.none
          · intro w' hE'
            have hC' := hE'.cellsS
            go_simp
            with_reducible rfl
          refine Mops.done ?_
          refine hK _ _ ?_
          clear hK K' gd
          refine Wp.keep [0, 1, 5, 25] fun r9 hkeep => ?_
          obtain ⟨e0_9, e1_9, e5_9, e25_9, -⟩ := hkeep
          simp [go_sem, e0_6, e1_6, e5_6, e14_6] at e0_9 e1_9 e5_9 e25_9
          clear e0_6 e1_6 e5_6 e14_6
          refine Wp.condT (by go_simp) ?_
          refine Wp.seqRegion (.inl rfl) (by kernel_rfl) fun K' gd hK hg => ?_
          clear hg
          go_simp
          refine hK _ _ ?_
          clear hK K' gd
          refine Wp.keep [4] fun r10 hkeep => ?_
          obtain ⟨e4_10, -⟩ := hkeep
          simp [go_sem, e0_9, e1_9, e5_9, e25_9] at e4_10
          clear e0_9 e1_9 e5_9 e25_9
          refine Wp.ret ?_
          refine blockK_ret ?_
          refine thenK_ret ?_
          refine thenK_ret ?_
          refine blockK_ret ?_
          refine thenK_ret ?_
          refine endK_tmp Try.results30 (by decide) ?_
          rw [e4_10]
          exact ⟨by rw [decide_eq_false fun e => hq (by subst e; exact ⟨rfl, rfl⟩)], xw⟩
      · refine Wp.condF (by go_simp) ?_
        obtain rfl : k = xs.length := by omega
        refine Wp.exit ?_
        refine thenK_exit ?_
        refine thenK_exit ?_
        refine blockK_here ?_
        refine thenK_normal ?_
        refine Wp.seqRegion (.inl rfl) (by kernel_rfl) fun K' gd hK hg => ?_
        clear hg
        go_simp
        refine hK _ _ ?_
        clear hK K' gd
        refine Wp.keep [4] fun r11 hkeep => ?_
        obtain ⟨e4_11, -⟩ := hkeep
        simp [go_sem, e0_6, e1_6, e5_6, e14_6] at e4_11
        clear e0_6 e1_6 e5_6 e14_6
        refine Wp.ret ?_
        refine endK_tmp Try.results30 (by decide) ?_
        rw [e4_11]
        exact ⟨by rw [decide_eq_true (List.ext_getElem? fun j => by by_cases hj : j < xs.length; exact hn j hj; rw [List.getElem?_eq_none (by omega), List.getElem?_eq_none (by have := he.choose_spec; omega)])], xw⟩
  · skip
    refine Wp.seqRegion (.inl rfl) (by kernel_rfl) fun K' gd hK hg => ?_
    clear hg
    go_simp
    refine hK _ _ ?_
    clear hK K' gd
    refine Wp.keep [0, 1] fun r12 hkeep => ?_
    obtain ⟨e0_12, e1_12, -⟩ := hkeep
    simp [go_sem, e0_1, e1_1] at e0_12 e1_12
    clear e0_1 e1_1
    refine Wp.seq ?_
    refine Wp.seqRegion (.inl rfl) (by kernel_rfl) fun K' gd hK hg => ?_
    clear hg
    go_simp
    refine hK _ _ ?_
    clear hK K' gd
    refine Wp.keep [0, 1, 10] fun r13 hkeep => ?_
    obtain ⟨e0_13, e1_13, e10_13, -⟩ := hkeep
    simp [go_sem, e0_12, e1_12] at e0_13 e1_13 e10_13
    clear e0_12 e1_12
    refine Wp.condT (by go_simp) ?_
    refine Wp.seqRegion (.inl rfl) (by kernel_rfl) fun K' gd hK hg => ?_
    clear hg
    go_simp
    refine hK _ _ ?_
    clear hK K' gd
    refine Wp.keep [4] fun r14 hkeep => ?_
    obtain ⟨e4_14, -⟩ := hkeep
    simp [go_sem, e0_13, e1_13, e10_13] at e4_14
    clear e0_13 e1_13 e10_13
    refine Wp.ret ?_
    refine thenK_ret ?_
    refine endK_tmp Try.results30 (by decide) ?_
    rw [e4_14]
    exact ⟨by rw [decide_eq_false fun e => he (by rw [e])], xw⟩
theorem inside_c (x : Value) (xs : List (Int × Int)) (d : Int) (w : World) (hx : SpansV w w.heap.size x xs) (hl : xs.length ≤ 1000000000000000) :
    CallsV Try.prog 36 #[x, .int .i64 d] w fun v w' => v = .bool (decide (inside xs d)) ∧ Ext w w' := by
  obtain ⟨A, c, rfl, -, -⟩ := id hx
  rw [← inside_any]
  refine Wp.fn Try.func36 rfl Try.ntmps36 (by simp) ?_
  have xw := Ext.refl w
  refine Wp.keep [0, 1] fun r1 hkeep => ?_
  obtain ⟨e0_1, e1_1, -⟩ := hkeep
  simp [go_sem] at e0_1 e1_1
  refine Wp.seqRegion (.inl rfl) (by kernel_rfl) fun K' gd hK hg => ?_
  clear hg
  go_simp
  refine hK _ _ ?_
  clear hK K' gd
  refine Wp.keep [0, 1] fun r2 hkeep => ?_
  obtain ⟨e0_2, e1_2, -⟩ := hkeep
  simp [go_sem, e0_1, e1_1] at e0_2 e1_2
  clear e0_1 e1_1
  refine Wp.seq ?_
  refine Wp.seqRegion (.inl rfl) (by kernel_rfl) fun K' gd hK hg => ?_
  clear hg
  go_simp
  refine hK _ _ ?_
  clear hK K' gd
  refine Wp.keep [0, 1, 5] fun r3 hkeep => ?_
  obtain ⟨e0_3, e1_3, e5_3, -⟩ := hkeep
  simp [go_sem, e0_2, e1_2] at e0_3 e1_3 e5_3
  clear e0_2 e1_2
  refine Wp.block ?_
  refine Wp.loop (fun k ρ ds wk => AllEq [0, 1] ρ r3 ∧ ds = [] ∧ (Ext w wk) ∧ (ρ 5 = .int .i64 (k : Int) ∧ (xs.take k).any (inP d) = false)) (xs.length) ?_ ?_
  · refine ⟨AllEq.refl _ _, rfl, Ext.refl _, ?_⟩
    exact ⟨by rw [e5_3]; rfl, by simp⟩
  · rintro k r4 _ wk hk ⟨hA, rfl, xl1, ⟨e5, hn⟩⟩
    obtain ⟨e0_4, e1_4, -⟩ := hA
    rw [e0_3] at e0_4
    rw [e1_3] at e1_4
    have zxl1 := Below.size xl1
    replace xw := Ext.trans xw xl1
    refine Wp.seq ?_
    refine Wp.seqRegion (.inl rfl) (by kernel_rfl) fun K' gd hK hg => ?_
    clear hg
    go_simp
    refine hK _ _ ?_
    clear hK K' gd
    refine Wp.keep [0, 1, 5, 9] fun r5 hkeep => ?_
    obtain ⟨e0_5, e1_5, e5_5, e9_5, -⟩ := hkeep
    simp [go_sem, e0_4, e1_4, e5] at e0_5 e1_5 e5_5 e9_5
    clear e0_4 e1_4 e5
    by_cases h : k < xs.length
    · refine Wp.condT (by go_simp) ?_
      obtain ⟨b, o, rfl, hb, d1, d2⟩ := SpansV.two hx h
      replace d1 := xw.cell d1
      replace d2 := xw.cell d2
      by_cases h1 : xs[k].1 ≤ d
      · skip
        by_cases h2 : d ≤ xs[k].2
        · skip
          refine Wp.skip ?_
          refine thenK_normal ?_
          refine Wp.seq ?_
          refine Wp.block ?_
          refine Wp.seqRegion (.inl rfl) (by kernel_rfl) fun K' gd hK hg => ?_
          have g7 : gd 7 = some 19 := hg 7
          clear hg
          go_simp
          refine hK _ _ ?_
          clear hK K' gd g7
          refine Wp.keep [0, 1, 5, 27] fun r6 hkeep => ?_
          obtain ⟨e0_6, e1_6, e5_6, e27_6, -⟩ := hkeep
          simp [go_sem, e0_5, e1_5, e5_5, e9_5] at e0_6 e1_6 e5_6 e27_6
          clear e0_5 e1_5 e5_5 e9_5
          refine Wp.condT (by go_simp) ?_
          refine Wp.seqRegion (.inl rfl) (by kernel_rfl) fun K' gd hK hg => ?_
          clear hg
          go_simp
          refine hK _ _ ?_
          clear hK K' gd
          refine Wp.keep [4] fun r7 hkeep => ?_
          obtain ⟨e4_7, -⟩ := hkeep
          simp [go_sem, e0_6, e1_6, e5_6, e27_6] at e4_7
          clear e0_6 e1_6 e5_6 e27_6
          refine Wp.ret ?_
          refine blockK_ret ?_
          refine thenK_ret ?_
          refine thenK_ret ?_
          refine blockK_ret ?_
          refine thenK_ret ?_
          refine endK_tmp Try.results36 (by decide) ?_
          rw [e4_7]
          exact ⟨by rw [List.any_eq_true.2 ⟨xs[k], List.getElem_mem h, decide_eq_true ⟨h1, h2⟩⟩], xw⟩
        · skip
          refine Wp.skip ?_
          refine thenK_normal ?_
          refine Wp.seq ?_
          refine Wp.block ?_
          refine Wp.seqRegion (.inl rfl) (by kernel_rfl) fun K' gd hK hg => ?_
          have g7 : gd 7 = some 19 := hg 7
          clear hg
          go_simp
          refine hK _ _ ?_
          clear hK K' gd g7
          refine Wp.keep [0, 1, 5, 27] fun r8 hkeep => ?_
          obtain ⟨e0_8, e1_8, e5_8, e27_8, -⟩ := hkeep
          simp [go_sem, e0_5, e1_5, e5_5, e9_5] at e0_8 e1_8 e5_8 e27_8
          clear e0_5 e1_5 e5_5 e9_5
          refine Wp.condF (by go_simp) ?_
          refine Wp.skip ?_
          refine blockK_normal ?_
          refine thenK_normal ?_
          refine Wp.loneRegion (.inl rfl) (by kernel_rfl) fun K' gd hK hg => ?_
          clear hg
          go_simp
          refine hK _ _ ?_
          clear hK K' gd
          refine Ends.keep [0, 1, 5] fun r9 hkeep => ?_
          obtain ⟨e0_9, e1_9, e5_9, -⟩ := hkeep
          simp [go_sem, e0_8, e1_8, e5_8, e27_8] at e0_9 e1_9 e5_9
          clear e0_8 e1_8 e5_8 e27_8
          refine Ends.mk ?_
          refine thenK_normal ⟨by omega, ⟨by rw [e0_9, e0_3], by rw [e1_9, e1_3], trivial⟩, rfl, xl1, ?_⟩
          exact ⟨by rw [e5_9, IntWalk.i64_in _ (by omega)]; rfl, by rw [take_snoc h, List.any_append, hn]; simp [inP, h2]⟩
      · skip
        refine Wp.skip ?_
        refine thenK_normal ?_
        refine Wp.seq ?_
        refine Wp.block ?_
        refine Wp.seqRegion (.inl rfl) (by kernel_rfl) fun K' gd hK hg => ?_
        have g7 : gd 7 = some 19 := hg 7
        clear hg
        go_simp
        refine hK _ _ ?_
        clear hK K' gd g7
        refine Wp.keep [0, 1, 5, 27] fun r10 hkeep => ?_
        obtain ⟨e0_10, e1_10, e5_10, e27_10, -⟩ := hkeep
        simp [go_sem, e0_5, e1_5, e5_5, e9_5] at e0_10 e1_10 e5_10 e27_10
        clear e0_5 e1_5 e5_5 e9_5
        refine Wp.condF (by go_simp) ?_
        refine Wp.skip ?_
        refine blockK_normal ?_
        refine thenK_normal ?_
        refine Wp.loneRegion (.inl rfl) (by kernel_rfl) fun K' gd hK hg => ?_
        clear hg
        go_simp
        refine hK _ _ ?_
        clear hK K' gd
        refine Ends.keep [0, 1, 5] fun r11 hkeep => ?_
        obtain ⟨e0_11, e1_11, e5_11, -⟩ := hkeep
        simp [go_sem, e0_10, e1_10, e5_10, e27_10] at e0_11 e1_11 e5_11
        clear e0_10 e1_10 e5_10 e27_10
        refine Ends.mk ?_
        refine thenK_normal ⟨by omega, ⟨by rw [e0_11, e0_3], by rw [e1_11, e1_3], trivial⟩, rfl, xl1, ?_⟩
        exact ⟨by rw [e5_11, IntWalk.i64_in _ (by omega)]; rfl, by rw [take_snoc h, List.any_append, hn]; simp [inP, h1]⟩
    · refine Wp.condF (by go_simp) ?_
      obtain rfl : k = xs.length := by omega
      rw [List.take_length] at hn
      refine Wp.exit ?_
      refine thenK_exit ?_
      refine thenK_exit ?_
      refine blockK_here ?_
      refine thenK_normal ?_
      refine Wp.seqRegion (.inl rfl) (by kernel_rfl) fun K' gd hK hg => ?_
      clear hg
      go_simp
      refine hK _ _ ?_
      clear hK K' gd
      refine Wp.keep [4] fun r12 hkeep => ?_
      obtain ⟨e4_12, -⟩ := hkeep
      simp [go_sem, e0_5, e1_5, e5_5, e9_5] at e4_12
      clear e0_5 e1_5 e5_5 e9_5
      refine Wp.ret ?_
      refine endK_tmp Try.results36 (by decide) ?_
      rw [e4_12]
      exact ⟨by rw [hn], xw⟩
theorem has_c (x : Value) (xs : List Int) (d : Int) (w : World) (hx : IntsV w w.heap.size x xs) (hl : xs.length ≤ 1000000000000000) :
    CallsV Try.prog 35 #[x, .int .i64 d] w fun v w' => v = .bool (decide (d ∈ xs)) ∧ Ext w w' := by
  obtain ⟨A, c, rfl, -, -⟩ := id hx
  refine Wp.fn Try.func35 rfl Try.ntmps35 (by simp) ?_
  have xw := Ext.refl w
  refine Wp.keep [0, 1] fun r1 hkeep => ?_
  obtain ⟨e0_1, e1_1, -⟩ := hkeep
  simp [go_sem] at e0_1 e1_1
  refine Wp.seqRegion (.inl rfl) (by kernel_rfl) fun K' gd hK hg => ?_
  clear hg
  go_simp
  refine hK _ _ ?_
  clear hK K' gd
  refine Wp.keep [0, 1] fun r2 hkeep => ?_
  obtain ⟨e0_2, e1_2, -⟩ := hkeep
  simp [go_sem, e0_1, e1_1] at e0_2 e1_2
  clear e0_1 e1_1
  refine Wp.seq ?_
  refine Wp.seqRegion (.inl rfl) (by kernel_rfl) fun K' gd hK hg => ?_
  clear hg
  go_simp
  refine hK _ _ ?_
  clear hK K' gd
  refine Wp.keep [0, 1, 5] fun r3 hkeep => ?_
  obtain ⟨e0_3, e1_3, e5_3, -⟩ := hkeep
  simp [go_sem, e0_2, e1_2] at e0_3 e1_3 e5_3
  clear e0_2 e1_2
  refine Wp.block ?_
  refine Wp.loop (fun k ρ ds wk => AllEq [0, 1] ρ r3 ∧ ds = [] ∧ (Ext w wk) ∧ (ρ 5 = .int .i64 (k : Int) ∧ d ∉ xs.take k)) (xs.length) ?_ ?_
  · refine ⟨AllEq.refl _ _, rfl, Ext.refl _, ?_⟩
    exact ⟨by rw [e5_3]; rfl, by simp⟩
  · rintro k r4 _ wk hk ⟨hA, rfl, xl1, ⟨e5, hn⟩⟩
    obtain ⟨e0_4, e1_4, -⟩ := hA
    rw [e0_3] at e0_4
    rw [e1_3] at e1_4
    have zxl1 := Below.size xl1
    replace xw := Ext.trans xw xl1
    refine Wp.seq ?_
    refine Wp.seqRegion (.inl rfl) (by kernel_rfl) fun K' gd hK hg => ?_
    clear hg
    go_simp
    refine hK _ _ ?_
    clear hK K' gd
    refine Wp.keep [0, 1, 5, 9] fun r5 hkeep => ?_
    obtain ⟨e0_5, e1_5, e5_5, e9_5, -⟩ := hkeep
    simp [go_sem, e0_4, e1_4, e5] at e0_5 e1_5 e5_5 e9_5
    clear e0_4 e1_4 e5
    by_cases h : k < xs.length
    · refine Wp.condT (by go_simp) ?_
      obtain ⟨b, o, c5, e1, hb, hc⟩ := hx.get h
      injection e1 with e1 _ e2
      subst e1
      subst e2
      have d1 := xw.cell (hc k h)
      rw [gI_lt h] at d1
      clear hc
      by_cases h1 : xs[k] = d
      · skip
        refine Wp.skip ?_
        refine thenK_normal ?_
        refine Wp.seq ?_
        refine Wp.block ?_
        refine Wp.seqRegion (.inl rfl) (by kernel_rfl) fun K' gd hK hg => ?_
        clear hg
        go_simp
        refine hK _ _ ?_
        clear hK K' gd
        refine Wp.keep [0, 1, 5, 17] fun r6 hkeep => ?_
        obtain ⟨e0_6, e1_6, e5_6, e17_6, -⟩ := hkeep
        simp [go_sem, e0_5, e1_5, e5_5, e9_5] at e0_6 e1_6 e5_6 e17_6
        clear e0_5 e1_5 e5_5 e9_5
        refine Wp.condT (by go_simp) ?_
        refine Wp.seqRegion (.inl rfl) (by kernel_rfl) fun K' gd hK hg => ?_
        clear hg
        go_simp
        refine hK _ _ ?_
        clear hK K' gd
        refine Wp.keep [4] fun r7 hkeep => ?_
        obtain ⟨e4_7, -⟩ := hkeep
        simp [go_sem, e0_6, e1_6, e5_6, e17_6] at e4_7
        clear e0_6 e1_6 e5_6 e17_6
        refine Wp.ret ?_
        refine blockK_ret ?_
        refine thenK_ret ?_
        refine thenK_ret ?_
        refine blockK_ret ?_
        refine thenK_ret ?_
        refine endK_tmp Try.results35 (by decide) ?_
        rw [e4_7]
        exact ⟨by rw [decide_eq_true (show d ∈ xs by rw [← h1]; exact List.getElem_mem h)], xw⟩
      · skip
        refine Wp.skip ?_
        refine thenK_normal ?_
        refine Wp.seq ?_
        refine Wp.block ?_
        refine Wp.seqRegion (.inl rfl) (by kernel_rfl) fun K' gd hK hg => ?_
        clear hg
        go_simp
        refine hK _ _ ?_
        clear hK K' gd
        refine Wp.keep [0, 1, 5, 17] fun r8 hkeep => ?_
        obtain ⟨e0_8, e1_8, e5_8, e17_8, -⟩ := hkeep
        simp [go_sem, e0_5, e1_5, e5_5, e9_5] at e0_8 e1_8 e5_8 e17_8
        clear e0_5 e1_5 e5_5 e9_5
        refine Wp.condF (by go_simp) ?_
        refine Wp.skip ?_
        refine blockK_normal ?_
        refine thenK_normal ?_
        refine Wp.loneRegion (.inl rfl) (by kernel_rfl) fun K' gd hK hg => ?_
        clear hg
        go_simp
        refine hK _ _ ?_
        clear hK K' gd
        refine Ends.keep [0, 1, 5] fun r9 hkeep => ?_
        obtain ⟨e0_9, e1_9, e5_9, -⟩ := hkeep
        simp [go_sem, e0_8, e1_8, e5_8, e17_8] at e0_9 e1_9 e5_9
        clear e0_8 e1_8 e5_8 e17_8
        refine Ends.mk ?_
        refine thenK_normal ⟨by omega, ⟨by rw [e0_9, e0_3], by rw [e1_9, e1_3], trivial⟩, rfl, xl1, ?_⟩
        exact ⟨by rw [e5_9, IntWalk.i64_in _ (by omega)]; rfl, by rw [take_snoc h, List.mem_append, List.mem_singleton]; rintro (h2 | h2); exact hn h2; exact h1 h2.symm⟩
    · refine Wp.condF (by go_simp) ?_
      obtain rfl : k = xs.length := by omega
      rw [List.take_length] at hn
      refine Wp.exit ?_
      refine thenK_exit ?_
      refine thenK_exit ?_
      refine blockK_here ?_
      refine thenK_normal ?_
      refine Wp.seqRegion (.inl rfl) (by kernel_rfl) fun K' gd hK hg => ?_
      clear hg
      go_simp
      refine hK _ _ ?_
      clear hK K' gd
      refine Wp.keep [4] fun r10 hkeep => ?_
      obtain ⟨e4_10, -⟩ := hkeep
      simp [go_sem, e0_5, e1_5, e5_5, e9_5] at e4_10
      clear e0_5 e1_5 e5_5 e9_5
      refine Wp.ret ?_
      refine endK_tmp Try.results35 (by decide) ?_
      rw [e4_10]
      exact ⟨by rw [decide_eq_false hn], xw⟩
def fewN (n : Nat) (m : Nat) : Prop := n ≤ 8 ∨ m < n ∧ n ≤ 50
def fewS (s : Sh) : Prop := fewN s.words.length 40 ∧ fewN s.alts.length 40
instance (n m : Nat) : Decidable (fewN n m) := by unfold fewN; infer_instance
instance (s : Sh) : Decidable (fewS s) := by unfold fewS; infer_instance
theorem few_c (v : Value) (s : Sh) (w : World) (hV : SheetV w w.heap.size v s) : CallsV Try.prog 23 #[v] w fun v w' => v = .bool (decide (fewS s)) ∧ Ext w w' := by
  obtain ⟨wv, av, rfl, ⟨A, c1, rfl, -, -⟩, ⟨A3, c3, rfl, -, -⟩⟩ := id hV
  by_cases a1 : (s.words.length : Int) ≤ 8 <;> by_cases a2 : (40 : Int) < (s.words.length : Int) <;> by_cases a3 : (s.words.length : Int) ≤ 50 <;> by_cases b1 : (s.alts.length : Int) ≤ 8 <;> by_cases b2 : (40 : Int) < (s.alts.length : Int) <;> by_cases b3 : (s.alts.length : Int) ≤ 50
  all_goals first | omega | skip
  all_goals
  refine Wp.fn Try.func23 rfl Try.ntmps23 (by simp) ?_
  have xw := Ext.refl w
  refine Wp.keep [0] fun r1 hkeep => ?_
  obtain ⟨e0_1, -⟩ := hkeep
  simp [go_sem] at e0_1
  refine Wp.seqRegion (.inl rfl) (by kernel_rfl) fun K' gd hK hg => ?_
  clear hg
  refine Wops.cut 1 fun K1 hK1 => ?_
  simp only [List.take_succ_cons, List.take_zero]
  go_simp
  refine hK1 _ _ ?_
  clear hK1 K1
  simp only [List.drop_succ_cons, List.drop_zero]
  refine Wops.absA fun V1_1 n1 hV1_1 => ?_
  obtain ⟨q1, hV1_1, s1, kV1_1, f1, r1⟩ := hV1_1
  try simp only [q1] at kV1_1 f1 r1 ⊢
  replace xw := Ext.trans xw hV1_1
  have c1_0 := kV1_1 0 _ rfl
  have c1_1 := kV1_1 1 _ rfl
  clear kV1_1 hV1_1
  clear r1
  go_simp
  refine hK _ _ ?_
  clear hK K' gd
  refine Wp.keep [1] fun r2 hkeep => ?_
  obtain ⟨e1_2, -⟩ := hkeep
  simp [go_sem, e0_1] at e1_2
  clear e0_1
  refine Wp.seqRegion (.inl rfl) (by kernel_rfl) fun K' gd hK hg => ?_
  have g4 : gd 4 = some 8 := hg 4
  have g9 : gd 9 = some 13 := hg 9
  clear hg
  go_simp
  refine hK _ _ ?_
  clear hK K' gd g4 g9
  refine Wp.keep [1, 3] fun r3 hkeep => ?_
  obtain ⟨e1_3, e3_3, -⟩ := hkeep
  simp [go_sem, e1_2] at e1_3 e3_3
  clear e1_2
  refine Wp.seqRegion (.inl rfl) (by kernel_rfl) fun K' gd hK hg => ?_
  have g1 : gd 1 = some 21 := hg 1
  have g6 : gd 6 = some 26 := hg 6
  have g11 : gd 11 = some 31 := hg 11
  clear hg
  go_simp
  refine hK _ _ ?_
  clear hK K' gd g1 g6 g11
  refine Wp.keep [2] fun r4 hkeep => ?_
  obtain ⟨e2_4, -⟩ := hkeep
  simp [go_sem, e1_3, e3_3] at e2_4
  clear e1_3 e3_3
  refine Wp.ret ?_
  refine endK_tmp Try.results23 (by decide) ?_
  rw [e2_4]
  refine ⟨congrArg Value.bool (Eq.symm ?_), xw⟩
  unfold fewS fewN; first | exact decide_eq_true (by omega) | exact decide_eq_false (by omega)
theorem brief_c (v : Value) (c : Cp) (w : World) (hV : CopyV w w.heap.size v c) : CallsV Try.prog 24 #[v] w fun v w' => v = .bool (decide (c.words.length ≤ 50)) ∧ Ext w w' := by
  obtain ⟨wu, rfl, ⟨A2, c2, rfl, -, -⟩⟩ := id hV
  refine Wp.fn Try.func24 rfl Try.ntmps24 (by simp) ?_
  have xw := Ext.refl w
  refine Wp.keep [0] fun r1 hkeep => ?_
  obtain ⟨e0_1, -⟩ := hkeep
  simp [go_sem] at e0_1
  refine Wp.seqRegion (.inl rfl) (by kernel_rfl) fun K' gd hK hg => ?_
  clear hg
  refine Wops.cut 1 fun K1 hK1 => ?_
  simp only [List.take_succ_cons, List.take_zero]
  go_simp
  refine hK1 _ _ ?_
  clear hK1 K1
  simp only [List.drop_succ_cons, List.drop_zero]
  refine Wops.absA fun V1_1 n1 hV1_1 => ?_
  obtain ⟨q1, hV1_1, s1, kV1_1, f1, r1⟩ := hV1_1
  try simp only [q1] at kV1_1 f1 r1 ⊢
  replace xw := Ext.trans xw hV1_1
  have c1_0 := kV1_1 0 _ rfl
  have c1_1 := kV1_1 1 _ rfl
  have c1_2 := kV1_1 2 _ rfl
  have c1_3 := kV1_1 3 _ rfl
  clear kV1_1 hV1_1
  clear r1
  go_simp
  refine hK _ _ ?_
  clear hK K' gd
  refine Wp.keep [1] fun r2 hkeep => ?_
  obtain ⟨e1_2, -⟩ := hkeep
  simp [go_sem, e0_1] at e1_2
  clear e0_1
  refine Wp.seqRegion (.inl rfl) (by kernel_rfl) fun K' gd hK hg => ?_
  clear hg
  go_simp
  refine hK _ _ ?_
  clear hK K' gd
  refine Wp.keep [2] fun r3 hkeep => ?_
  obtain ⟨e2_3, -⟩ := hkeep
  simp [go_sem, e1_2] at e2_3
  clear e1_2
  refine Wp.ret ?_
  refine endK_tmp Try.results24 (by decide) ?_
  rw [e2_3]
  exact ⟨by first | rfl | (congr 1; apply decide_eq_decide.2; omega) | go_simp, xw⟩
end Go.Proofs.Ytnjajbkkgfohaaa
namespace Go.Proofs.Ytnjajbkkgfohaaa
def exS : Sh := ⟨[11, 12, 13, 14], [⟨1, 3, 10, 1, 1, 22⟩, ⟨2, 4, 20, 2, 2, 33⟩, ⟨3, 1, 30, 0, 1, 0⟩, ⟨4, 2, 40, 3, 3, 0⟩]⟩
def exC : Cp := ⟨[11, 22, 33, 14], 0, 100, 2⟩
def exB : Cp := ⟨[0, 12, 13, 14], 0, 100, 2⟩
set_option maxRecDepth 100000
theorem ex_first : begE exS exC = 0 ∧ (exS.md exC).first = [0, 10, 20, 20] := by decide +kernel
theorem ex_last : (exS.md exC).last = [29, 38, 39, 39] := by decide +kernel
theorem ex_poss : possE exS exC 1 = 0 ∧ possL exS exC 1 = [(10, 38)] := by decide +kernel
theorem ex_long : longS (exS.md exC) = (1, 39) := by decide +kernel
theorem ex_ids : idsS exS (seenP (exS.md exC).first) = [1, 2] ∧ idsS exS (seenP (exS.md exC).last) = [1, 2, 3] := by decide +kernel
theorem ex_bad : begE exS exB = 9 ∧ copyS exS exB = 0 ∧ (exS.md exB).first.length = 2 := by decide +kernel
theorem ex_reads : readE exS 1 10 = 0 ∧ readsL (exS.on 1 10) = [12, 22] := by decide +kernel
theorem ex_when : whenE exS 3 0 = 0 ∧ exS.whenL 3 0 = [(40, 730)] := by decide +kernel
end Go.Proofs.Ytnjajbkkgfohaaa
namespace Go.Proofs.Ytnjajbkkgfohaaa
open Go.RowKit Go.Wk Go.Proofs
attribute [local irreducible] Go.Wk.Wops Go.Wk.Wp Go.Wk.Mtree Go.Wk.Mops
set_option maxHeartbeats 8000000
set_option maxRecDepth 20000

theorem rowC_ints {W : World} {b n : Nat} {t : TypeId} {xs : List Int} {cs : List Value} (h : RowC W b t cs) (hcs : cs = xs.map (Value.int .i64)) (hn : xs.length = n) : IntsV W W.heap.size (.slice (some ⟨b, 0, none⟩) n n) xs := by
  subst hcs
  exact RowI.allN ⟨t, h⟩ hn
theorem six_get (l : List Alt) : ∀ (i : Nat) (h : i < l.length) (r : Nat) (u : Value), (encA l[i])[r]? = some u → (l.flatMap encA)[i * 6 + r]? = some u := by
  induction l with
  | nil => intro i h; cases h
  | cons a l ih =>
    intro i h r u hu
    rw [List.flatMap_cons]
    cases i with
    | zero =>
      have hr : r < (encA a).length := (List.getElem?_eq_some_iff.1 hu).1
      rw [Nat.zero_mul, Nat.zero_add, List.getElem?_append_left hr]; exact hu
    | succ i =>
      have hl : (encA a).length = 6 := rfl
      rw [List.getElem?_append_right (by rw [hl]; omega), hl, show (i + 1) * 6 + r - 6 = i * 6 + r by omega]
      exact ih i (by simpa using h) r u hu
theorem rowC_alts {W : World} {b n : Nat} {t : TypeId} {al : List Alt} {cs : List Value} (h : RowC W b t cs) (hcs : cs = al.flatMap encA) (hn : al.length = n) : AltsV W W.heap.size (.slice (some ⟨b, 0, none⟩) n n) al := by
  subst hcs
  subst hn
  refine ⟨_, _, rfl, fun _ => ⟨b, 0, rfl, h.lt, fun i hi r u hu => ?_⟩, Nat.le_refl _⟩
  rw [Nat.zero_add, h.cell]
  exact six_get al i hi r u hu
theorem rowC_spans {W : World} {b n : Nat} {t : TypeId} {l : List (Int × Int)} {cs : List Value} (h : RowC W b t cs) (hcs : cs = encL l) (hn : l.length = n) : SpansV W W.heap.size (.slice (some ⟨b, 0, none⟩) n n) l := by
  subst hcs
  subst hn
  refine ⟨_, _, rfl, fun _ => ⟨b, 0, rfl, h.lt, fun i hi r u hu => ?_⟩, Nat.le_refl _⟩
  obtain ⟨h1, h2⟩ := encL_get (List.getElem?_eq_getElem hi)
  rw [h.cell]
  match r, hu with
  | 0, hu => simp [encZ] at hu; subst hu; simpa using h1
  | 1, hu => simp [encZ] at hu; subst hu; simpa using h2
  | r + 2, hu => simp [encZ] at hu
theorem Example_c (w : World) : CallsV Try.prog 74 #[] w fun v w' => SheetV w' w'.heap.size v exS ∧ Ext w w' := by
  refine Wp.fn Try.func74 rfl Try.ntmps74 (by simp) ?_
  have xw := Ext.refl w
  refine Wp.keep [] fun r1 hkeep => ?_
  clear hkeep
  refine Wp.seqRegion (.inl rfl) (by kernel_rfl) fun K' gd hK hg => ?_
  clear hg
  refine Wops.cut 1 fun K1 hK1 => ?_
  simp only [List.take_succ_cons, List.take_zero]
  go_simp
  refine hK1 _ _ ?_
  clear hK1 K1
  simp only [List.drop_succ_cons, List.drop_zero]
  refine Wops.absT fun V0_1 n0 hV0_1 R0 => ?_
  obtain ⟨q0, hV0_1, s0, kV0_1, f0, r0⟩ := hV0_1
  try simp only [q0] at kV0_1 f0 r0 ⊢
  replace R0 := (show RowC _ _ _ _ from R0)
  replace xw := Ext.trans xw hV0_1
  have c0_0 := kV0_1 0 _ rfl
  have c0_1 := kV0_1 1 _ rfl
  clear kV0_1 hV0_1
  clear r0
  try simp only [Wops_nil, updO_some, updO_none]
  refine hK _ _ ?_
  clear hK K' gd
  refine Wp.keep [0] fun r2 hkeep => ?_
  obtain ⟨e0_2, -⟩ := hkeep
  simp [go_sem] at e0_2
  refine Wp.seqRegion (.inl rfl) (by kernel_rfl) fun K' gd hK hg => ?_
  clear hg
  refine Wops.cut 1 fun K1 hK1 => ?_
  simp only [List.take_succ_cons, List.take_zero]
  go_simp
  refine hK1 _ _ ?_
  clear hK1 K1
  simp only [List.drop_succ_cons, List.drop_zero]
  refine Wops.absT fun V1_2 n1 hV1_2 R1 => ?_
  obtain ⟨q1, hV1_2, s1, kV1_2, f1, r1⟩ := hV1_2
  try simp only [q1] at kV1_2 f1 r1 ⊢
  replace R1 := (show RowC _ _ _ _ from R1)
  replace f0 := Ext.fz hV1_2 c0_0 f0
  replace xw := Ext.trans xw hV1_2
  replace c0_0 := Ext.cell hV1_2 c0_0
  replace c0_1 := Ext.cell hV1_2 c0_1
  clear hV1_2 f1
  have c1_0 := kV1_2 0 _ rfl
  have c1_1 := kV1_2 1 _ rfl
  have c1_2 := kV1_2 2 _ rfl
  have c1_3 := kV1_2 3 _ rfl
  clear kV1_2
  refine Wops.cut 5 fun K1 hK1 => ?_
  simp only [List.take_succ_cons, List.take_zero]
  go_simp
  refine hK1 _ _ ?_
  clear hK1 K1
  simp only [List.drop_succ_cons, List.drop_zero]
  refine Wops.absT fun V6_3 n6 hV6_3 R6 => ?_
  obtain ⟨q6, hV6_3, s6, kV6_3, f6, r6⟩ := hV6_3
  try simp only [q6] at kV6_3 f6 r6 ⊢
  replace R6 := (show RowC _ _ _ _ from R6)
  replace f0 := Ext.fz hV6_3 c0_0 f0
  replace R1 := R1.ext hV6_3
  replace xw := Ext.trans xw hV6_3
  replace c0_0 := Ext.cell hV6_3 c0_0
  replace c0_1 := Ext.cell hV6_3 c0_1
  replace c1_0 := Ext.cell hV6_3 c1_0
  replace c1_1 := Ext.cell hV6_3 c1_1
  replace c1_2 := Ext.cell hV6_3 c1_2
  replace c1_3 := Ext.cell hV6_3 c1_3
  clear hV6_3 f6
  have c6_0 := kV6_3 0 _ rfl
  have c6_1 := kV6_3 1 _ rfl
  have c6_2 := kV6_3 2 _ rfl
  have c6_3 := kV6_3 3 _ rfl
  have c6_4 := kV6_3 4 _ rfl
  have c6_5 := kV6_3 5 _ rfl
  have c6_6 := kV6_3 6 _ rfl
  have c6_7 := kV6_3 7 _ rfl
  have c6_8 := kV6_3 8 _ rfl
  have c6_9 := kV6_3 9 _ rfl
  have c6_10 := kV6_3 10 _ rfl
  have c6_11 := kV6_3 11 _ rfl
  have c6_12 := kV6_3 12 _ rfl
  have c6_13 := kV6_3 13 _ rfl
  have c6_14 := kV6_3 14 _ rfl
  have c6_15 := kV6_3 15 _ rfl
  have c6_16 := kV6_3 16 _ rfl
  have c6_17 := kV6_3 17 _ rfl
  have c6_18 := kV6_3 18 _ rfl
  have c6_19 := kV6_3 19 _ rfl
  have c6_20 := kV6_3 20 _ rfl
  have c6_21 := kV6_3 21 _ rfl
  have c6_22 := kV6_3 22 _ rfl
  have c6_23 := kV6_3 23 _ rfl
  clear kV6_3
  refine Wops.cut 2 fun K1 hK1 => ?_
  simp only [List.take_succ_cons, List.take_zero]
  go_simp
  refine hK1 _ _ ?_
  clear hK1 K1
  simp only [List.drop_succ_cons, List.drop_zero]
  refine Wops.absS (b := n0) (i := 0) [_, _] (somes [cellVal c0_0, cellVal c0_1] (by simp) (by intro j v hj; match j, hj with | 0, hj => (simp at hj; subst hj; exact c0_0) | 1, hj => (simp at hj; subst hj; exact c0_1))) fun P4 hP4 => ?_
  have zP4 := hP4.same
  replace f0 := Put.frz hP4 f0
  replace R1 := R1.put hP4 (by omega)
  replace R6 := R6.put hP4 (by omega)
  replace xw := Put.to xw hP4 (by omega)
  clear c0_0
  clear c0_1
  replace c1_0 := Put.cell hP4 c1_0 (by omega)
  replace c1_1 := Put.cell hP4 c1_1 (by omega)
  replace c1_2 := Put.cell hP4 c1_2 (by omega)
  replace c1_3 := Put.cell hP4 c1_3 (by omega)
  replace c6_0 := Put.cell hP4 c6_0 (by omega)
  replace c6_1 := Put.cell hP4 c6_1 (by omega)
  replace c6_2 := Put.cell hP4 c6_2 (by omega)
  replace c6_3 := Put.cell hP4 c6_3 (by omega)
  replace c6_4 := Put.cell hP4 c6_4 (by omega)
  replace c6_5 := Put.cell hP4 c6_5 (by omega)
  replace c6_6 := Put.cell hP4 c6_6 (by omega)
  replace c6_7 := Put.cell hP4 c6_7 (by omega)
  replace c6_8 := Put.cell hP4 c6_8 (by omega)
  replace c6_9 := Put.cell hP4 c6_9 (by omega)
  replace c6_10 := Put.cell hP4 c6_10 (by omega)
  replace c6_11 := Put.cell hP4 c6_11 (by omega)
  replace c6_12 := Put.cell hP4 c6_12 (by omega)
  replace c6_13 := Put.cell hP4 c6_13 (by omega)
  replace c6_14 := Put.cell hP4 c6_14 (by omega)
  replace c6_15 := Put.cell hP4 c6_15 (by omega)
  replace c6_16 := Put.cell hP4 c6_16 (by omega)
  replace c6_17 := Put.cell hP4 c6_17 (by omega)
  replace c6_18 := Put.cell hP4 c6_18 (by omega)
  replace c6_19 := Put.cell hP4 c6_19 (by omega)
  replace c6_20 := Put.cell hP4 c6_20 (by omega)
  replace c6_21 := Put.cell hP4 c6_21 (by omega)
  replace c6_22 := Put.cell hP4 c6_22 (by omega)
  replace c6_23 := Put.cell hP4 c6_23 (by omega)
  have c0_0 := hP4.new 0 _ rfl
  try simp only [Nat.reduceAdd, Nat.zero_add, Nat.add_zero] at c0_0
  have c0_1 := hP4.new 1 _ rfl
  try simp only [Nat.reduceAdd, Nat.zero_add, Nat.add_zero] at c0_1
  clear hP4
  try simp only [Wops_nil, updO_some, updO_none]
  refine hK _ _ ?_
  clear hK K' gd
  refine Wp.keep [0] fun r3 hkeep => ?_
  obtain ⟨e0_3, -⟩ := hkeep
  simp [go_sem, e0_2] at e0_3
  clear e0_2
  refine Wp.ret ?_
  refine endK_cell (v := .agg #[cellVal c0_0, cellVal c0_1]) Try.results74 (by decide) e0_3 (by dsimp only [cellVal]; go_simp) ?_
  dsimp only [cellVal]
  exact ⟨⟨_, _, rfl, rowC_ints R1 rfl rfl, rowC_alts R6 rfl rfl⟩, xw⟩
theorem sameI_T {x y : Value} {xs ys : List Int} (he : xs = ys) (w : World) (hx : IntsV w w.heap.size x xs) (hy : IntsV w w.heap.size y ys) (hl : xs.length ≤ 1000000000000000) :
    CallsV Try.prog 29 #[x, y] w fun v w' => v = .bool true ∧ Ext w w' :=
  (sameInts_c x y xs ys w hx hy hl).mono fun v w' ⟨h1, h2⟩ => ⟨by rw [h1, decide_eq_true he], h2⟩
theorem sameZ_T {x y : Value} {xs ys : List (Int × Int)} (he : xs = ys) (w : World) (hx : SpansV w w.heap.size x xs) (hy : SpansV w w.heap.size y ys) (hl : xs.length ≤ 1000000000000000) :
    CallsV Try.prog 30 #[x, y] w fun v w' => v = .bool true ∧ Ext w w' :=
  (sameSpans_c x y xs ys w hx hy hl).mono fun v w' ⟨h1, h2⟩ => ⟨by rw [h1, decide_eq_true he], h2⟩
theorem fitEx : FitS exS := ⟨by decide, by decide⟩
theorem fitC_of {c : Cp} (h : c.words.length ≤ 1000) : FitC c := Nat.le_trans h (by decide)
theorem head_c (w : World) : CallsV Try.prog 22 #[] w fun v w' => v = .bool true ∧ Ext w w' := by
  have k1 := ex_first.1
  have k2 := ex_poss.1
  have k3 := ex_reads.1
  have k4 := ex_when.1
  refine Wp.fn Try.func22 rfl Try.ntmps22 (by simp) ?_
  have xw := Ext.refl w
  refine Wp.keep [] fun r1 hkeep => ?_
  clear hkeep
  refine Wp.seqRegion (.inl rfl) (by kernel_rfl) fun K' gd hK hg => ?_
  clear hg
  go_simp
  refine hK _ _ ?_
  clear hK K' gd
  refine Wp.keep [] fun r2 hkeep => ?_
  clear hkeep
  refine Wp.seqRegion (.inl rfl) (by kernel_rfl) fun K' gd hK hg => ?_
  clear hg
  refine Wops.cut 1 fun K1 hK1 => ?_
  simp only [List.take_succ_cons, List.take_zero]
  go_simp
  refine Wcall (.inl rfl) (Example_c _) ?_
  rintro v w2 ⟨hS, hE⟩
  have xs := Ext.refl w2
  obtain ⟨wv, av, rfl, ⟨A, c1, rfl, hS1⟩, ⟨A3, c3, rfl, hS2⟩⟩ := hS
  have hS : SheetV w2 w2.heap.size (.agg #[.slice A exS.words.length c1, .slice A3 exS.alts.length c3]) exS := ⟨_, _, rfl, ⟨A, c1, rfl, hS1⟩, ⟨A3, c3, rfl, hS2⟩⟩
  go_simp
  refine hK1 _ _ ?_
  clear hK1 K1
  simp only [List.drop_succ_cons, List.drop_zero]
  have z3 := Below.size hE
  replace xw := Ext.trans xw hE
  clear hE
  refine Wops.cut 2 fun K1 hK1 => ?_
  simp only [List.take_succ_cons, List.take_zero]
  go_simp
  refine hK1 _ _ ?_
  clear hK1 K1
  simp only [List.drop_succ_cons, List.drop_zero]
  refine Wops.absT fun V1_2 n1 hV1_2 R1 => ?_
  obtain ⟨q1, hV1_2, s1, kV1_2, f1, r1⟩ := hV1_2
  try simp only [q1] at kV1_2 f1 r1 ⊢
  replace R1 := (show RowC _ _ _ _ from R1)
  replace xw := Ext.trans xw hV1_2
  replace xs := Ext.trans xs hV1_2
  have c1_0 := kV1_2 0 _ rfl
  have c1_1 := kV1_2 1 _ rfl
  clear kV1_2 hV1_2
  clear r1
  try simp only [Wops_nil, updO_some, updO_none]
  refine hK _ _ ?_
  clear hK K' gd
  refine Wp.keep [1] fun r4 hkeep => ?_
  obtain ⟨e1_4, -⟩ := hkeep
  simp [go_sem] at e1_4
  refine Wp.seqRegion (.inl rfl) (by kernel_rfl) fun K' gd hK hg => ?_
  clear hg
  refine Wops.cut 1 fun K1 hK1 => ?_
  simp only [List.take_succ_cons, List.take_zero]
  go_simp
  refine hK1 _ _ ?_
  clear hK1 K1
  simp only [List.drop_succ_cons, List.drop_zero]
  refine Wops.absT fun V25_3 n25 hV25_3 R25 => ?_
  obtain ⟨q25, hV25_3, s25, kV25_3, f25, r25⟩ := hV25_3
  try simp only [q25] at kV25_3 f25 r25 ⊢
  replace R25 := (show RowC _ _ _ _ from R25)
  replace f1 := Ext.fz hV25_3 c1_0 f1
  replace xw := Ext.trans xw hV25_3
  replace xs := Ext.trans xs hV25_3
  replace c1_0 := Ext.cell hV25_3 c1_0
  replace c1_1 := Ext.cell hV25_3 c1_1
  clear hV25_3 f25
  have c25_0 := kV25_3 0 _ rfl
  have c25_1 := kV25_3 1 _ rfl
  have c25_2 := kV25_3 2 _ rfl
  have c25_3 := kV25_3 3 _ rfl
  clear kV25_3
  refine Wops.cut 3 fun K1 hK1 => ?_
  simp only [List.take_succ_cons, List.take_zero]
  go_simp
  refine hK1 _ _ ?_
  clear hK1 K1
  simp only [List.drop_succ_cons, List.drop_zero]
  refine Wops.absT fun V2_4 n2 hV2_4 R2 => ?_
  obtain ⟨q2, hV2_4, s2, kV2_4, f2, r2⟩ := hV2_4
  try simp only [q2] at kV2_4 f2 r2 ⊢
  replace R2 := (show RowC _ _ _ _ from R2)
  replace f1 := Ext.fz hV2_4 c1_0 f1
  replace R25 := R25.ext hV2_4
  replace xw := Ext.trans xw hV2_4
  replace xs := Ext.trans xs hV2_4
  replace c1_0 := Ext.cell hV2_4 c1_0
  replace c1_1 := Ext.cell hV2_4 c1_1
  replace c25_0 := Ext.cell hV2_4 c25_0
  replace c25_1 := Ext.cell hV2_4 c25_1
  replace c25_2 := Ext.cell hV2_4 c25_2
  replace c25_3 := Ext.cell hV2_4 c25_3
  have c2_0 := kV2_4 0 _ rfl
  have c2_1 := kV2_4 1 _ rfl
  have c2_2 := kV2_4 2 _ rfl
  have c2_3 := kV2_4 3 _ rfl
  clear kV2_4 hV2_4
  clear r2
  try simp only [Wops_nil, updO_some, updO_none]
  refine hK _ _ ?_
  clear hK K' gd
  refine Wp.keep [1, 2] fun r5 hkeep => ?_
  obtain ⟨e1_5, e2_5, -⟩ := hkeep
  simp [go_sem, e1_4] at e1_5 e2_5
  clear e1_4
  refine Wp.seqRegion (.inl rfl) (by kernel_rfl) fun K' gd hK hg => ?_
  clear hg
  refine Wops.cut 1 fun K1 hK1 => ?_
  simp only [List.take_succ_cons, List.take_zero]
  go_simp
  refine hK1 _ _ ?_
  clear hK1 K1
  simp only [List.drop_succ_cons, List.drop_zero]
  refine Wops.absT fun V27_5 n27 hV27_5 R27 => ?_
  obtain ⟨q27, hV27_5, s27, kV27_5, f27, r27⟩ := hV27_5
  try simp only [q27] at kV27_5 f27 r27 ⊢
  replace R27 := (show RowC _ _ _ _ from R27)
  replace f1 := Ext.fz hV27_5 c1_0 f1
  replace f2 := Ext.fz hV27_5 c2_0 f2
  replace R25 := R25.ext hV27_5
  replace xw := Ext.trans xw hV27_5
  replace xs := Ext.trans xs hV27_5
  replace c1_0 := Ext.cell hV27_5 c1_0
  replace c1_1 := Ext.cell hV27_5 c1_1
  replace c25_0 := Ext.cell hV27_5 c25_0
  replace c25_1 := Ext.cell hV27_5 c25_1
  replace c25_2 := Ext.cell hV27_5 c25_2
  replace c25_3 := Ext.cell hV27_5 c25_3
  replace c2_0 := Ext.cell hV27_5 c2_0
  replace c2_1 := Ext.cell hV27_5 c2_1
  replace c2_2 := Ext.cell hV27_5 c2_2
  replace c2_3 := Ext.cell hV27_5 c2_3
  clear hV27_5 f27
  have c27_0 := kV27_5 0 _ rfl
  have c27_1 := kV27_5 1 _ rfl
  have c27_2 := kV27_5 2 _ rfl
  have c27_3 := kV27_5 3 _ rfl
  clear kV27_5
  refine Wops.cut 3 fun K1 hK1 => ?_
  simp only [List.take_succ_cons, List.take_zero]
  go_simp
  refine hK1 _ _ ?_
  clear hK1 K1
  simp only [List.drop_succ_cons, List.drop_zero]
  refine Wops.absT fun V3_6 n3 hV3_6 R3 => ?_
  obtain ⟨q3, hV3_6, s3, kV3_6, f3, r3⟩ := hV3_6
  try simp only [q3] at kV3_6 f3 r3 ⊢
  replace R3 := (show RowC _ _ _ _ from R3)
  replace f1 := Ext.fz hV3_6 c1_0 f1
  replace f2 := Ext.fz hV3_6 c2_0 f2
  replace R25 := R25.ext hV3_6
  replace R27 := R27.ext hV3_6
  replace xw := Ext.trans xw hV3_6
  replace xs := Ext.trans xs hV3_6
  replace c1_0 := Ext.cell hV3_6 c1_0
  replace c1_1 := Ext.cell hV3_6 c1_1
  replace c25_0 := Ext.cell hV3_6 c25_0
  replace c25_1 := Ext.cell hV3_6 c25_1
  replace c25_2 := Ext.cell hV3_6 c25_2
  replace c25_3 := Ext.cell hV3_6 c25_3
  replace c2_0 := Ext.cell hV3_6 c2_0
  replace c2_1 := Ext.cell hV3_6 c2_1
  replace c2_2 := Ext.cell hV3_6 c2_2
  replace c2_3 := Ext.cell hV3_6 c2_3
  replace c27_0 := Ext.cell hV3_6 c27_0
  replace c27_1 := Ext.cell hV3_6 c27_1
  replace c27_2 := Ext.cell hV3_6 c27_2
  replace c27_3 := Ext.cell hV3_6 c27_3
  have c3_0 := kV3_6 0 _ rfl
  have c3_1 := kV3_6 1 _ rfl
  have c3_2 := kV3_6 2 _ rfl
  have c3_3 := kV3_6 3 _ rfl
  clear kV3_6 hV3_6
  clear r3
  try simp only [Wops_nil, updO_some, updO_none]
  refine hK _ _ ?_
  clear hK K' gd
  refine Wp.keep [1, 2, 3] fun r6 hkeep => ?_
  obtain ⟨e1_6, e2_6, e3_6, -⟩ := hkeep
  simp [go_sem, e1_5, e2_5] at e1_6 e2_6 e3_6
  clear e1_5 e2_5
  refine Wp.seqRegion (.inl rfl) (by kernel_rfl) fun K' gd hK hg => ?_
  clear hg
  refine Wops.cut 3 fun K1 hK1 => ?_
  simp only [List.take_succ_cons, List.take_zero]
  go_simp
  refine Wcall (.inl rfl) (First_c _ _ exS exC _ (hS.ext xs) ⟨_, rfl, rowC_ints R25 rfl rfl⟩ fitEx (fitC_of (by decide))) ?_
  rintro v w3 ⟨t4, hv3, hI4, hE⟩
  rw [ex_first.1] at hv3
  subst hv3
  rw [if_pos ex_first.1] at hI4
  have x4 := Ext.refl w3
  go_simp
  refine hK1 _ _ ?_
  clear hK1 K1
  simp only [List.drop_succ_cons, List.drop_zero]
  have z7 := Below.size hE
  replace f1 := Ext.fz hE c1_0 f1
  replace f2 := Ext.fz hE c2_0 f2
  replace f3 := Ext.fz hE c3_0 f3
  replace R25 := R25.ext hE
  replace R27 := R27.ext hE
  replace xw := Ext.trans xw hE
  replace xs := Ext.trans xs hE
  replace c1_0 := Ext.cell hE c1_0
  replace c1_1 := Ext.cell hE c1_1
  replace c25_0 := Ext.cell hE c25_0
  replace c25_1 := Ext.cell hE c25_1
  replace c25_2 := Ext.cell hE c25_2
  replace c25_3 := Ext.cell hE c25_3
  replace c2_0 := Ext.cell hE c2_0
  replace c2_1 := Ext.cell hE c2_1
  replace c2_2 := Ext.cell hE c2_2
  replace c2_3 := Ext.cell hE c2_3
  replace c27_0 := Ext.cell hE c27_0
  replace c27_1 := Ext.cell hE c27_1
  replace c27_2 := Ext.cell hE c27_2
  replace c27_3 := Ext.cell hE c27_3
  replace c3_0 := Ext.cell hE c3_0
  replace c3_1 := Ext.cell hE c3_1
  replace c3_2 := Ext.cell hE c3_2
  replace c3_3 := Ext.cell hE c3_3
  clear hE
  go_simp
  refine hK _ _ ?_
  clear hK K' gd
  refine Wp.keep [1, 2, 3, 4, 5] fun r8 hkeep => ?_
  obtain ⟨e1_8, e2_8, e3_8, e4_8, e5_8, -⟩ := hkeep
  simp [go_sem, e1_6, e2_6, e3_6] at e1_8 e2_8 e3_8 e4_8 e5_8
  clear e1_6 e2_6 e3_6
  refine Wp.seqRegion (.inl rfl) (by kernel_rfl) fun K' gd hK hg => ?_
  clear hg
  refine Wops.cut 3 fun K1 hK1 => ?_
  simp only [List.take_succ_cons, List.take_zero]
  go_simp
  refine Wcall (.inl rfl) (Last_c _ _ exS exC _ (hS.ext xs) ⟨_, rfl, rowC_ints R25 rfl rfl⟩ fitEx (fitC_of (by decide))) ?_
  rintro v w4 ⟨t6, hv4, hI6, hE⟩
  rw [ex_first.1] at hv4
  subst hv4
  rw [if_pos ex_first.1] at hI6
  have x6 := Ext.refl w4
  go_simp
  refine hK1 _ _ ?_
  clear hK1 K1
  simp only [List.drop_succ_cons, List.drop_zero]
  have z9 := Below.size hE
  replace f1 := Ext.fz hE c1_0 f1
  replace f2 := Ext.fz hE c2_0 f2
  replace f3 := Ext.fz hE c3_0 f3
  replace R25 := R25.ext hE
  replace R27 := R27.ext hE
  replace xw := Ext.trans xw hE
  replace xs := Ext.trans xs hE
  replace x4 := Ext.trans x4 hE
  replace c1_0 := Ext.cell hE c1_0
  replace c1_1 := Ext.cell hE c1_1
  replace c25_0 := Ext.cell hE c25_0
  replace c25_1 := Ext.cell hE c25_1
  replace c25_2 := Ext.cell hE c25_2
  replace c25_3 := Ext.cell hE c25_3
  replace c2_0 := Ext.cell hE c2_0
  replace c2_1 := Ext.cell hE c2_1
  replace c2_2 := Ext.cell hE c2_2
  replace c2_3 := Ext.cell hE c2_3
  replace c27_0 := Ext.cell hE c27_0
  replace c27_1 := Ext.cell hE c27_1
  replace c27_2 := Ext.cell hE c27_2
  replace c27_3 := Ext.cell hE c27_3
  replace c3_0 := Ext.cell hE c3_0
  replace c3_1 := Ext.cell hE c3_1
  replace c3_2 := Ext.cell hE c3_2
  replace c3_3 := Ext.cell hE c3_3
  clear hE
  go_simp
  refine hK _ _ ?_
  clear hK K' gd
  refine Wp.keep [1, 2, 3, 4, 5, 6, 7] fun r10 hkeep => ?_
  obtain ⟨e1_10, e2_10, e3_10, e4_10, e5_10, e6_10, e7_10, -⟩ := hkeep
  simp [go_sem, e1_8, e2_8, e3_8, e4_8, e5_8] at e1_10 e2_10 e3_10 e4_10 e5_10 e6_10 e7_10
  clear e1_8 e2_8 e3_8 e4_8 e5_8
  refine Wp.seqRegion (.inl rfl) (by kernel_rfl) fun K' gd hK hg => ?_
  clear hg
  refine Wops.cut 3 fun K1 hK1 => ?_
  simp only [List.take_succ_cons, List.take_zero]
  go_simp
  refine Wcall (.inl rfl) (Possible_c _ _ exS exC 1 _ (hS.ext xs) ⟨_, rfl, rowC_ints R25 rfl rfl⟩ fitEx (fitC_of (by decide))) ?_
  rintro v w5 ⟨t8, hv5, hZ8, hE⟩
  rw [ex_poss.1] at hv5
  subst hv5
  rw [if_pos ex_poss.1] at hZ8
  have x8 := Ext.refl w5
  go_simp
  refine hK1 _ _ ?_
  clear hK1 K1
  simp only [List.drop_succ_cons, List.drop_zero]
  have z11 := Below.size hE
  replace f1 := Ext.fz hE c1_0 f1
  replace f2 := Ext.fz hE c2_0 f2
  replace f3 := Ext.fz hE c3_0 f3
  replace R25 := R25.ext hE
  replace R27 := R27.ext hE
  replace xw := Ext.trans xw hE
  replace xs := Ext.trans xs hE
  replace x4 := Ext.trans x4 hE
  replace x6 := Ext.trans x6 hE
  replace c1_0 := Ext.cell hE c1_0
  replace c1_1 := Ext.cell hE c1_1
  replace c25_0 := Ext.cell hE c25_0
  replace c25_1 := Ext.cell hE c25_1
  replace c25_2 := Ext.cell hE c25_2
  replace c25_3 := Ext.cell hE c25_3
  replace c2_0 := Ext.cell hE c2_0
  replace c2_1 := Ext.cell hE c2_1
  replace c2_2 := Ext.cell hE c2_2
  replace c2_3 := Ext.cell hE c2_3
  replace c27_0 := Ext.cell hE c27_0
  replace c27_1 := Ext.cell hE c27_1
  replace c27_2 := Ext.cell hE c27_2
  replace c27_3 := Ext.cell hE c27_3
  replace c3_0 := Ext.cell hE c3_0
  replace c3_1 := Ext.cell hE c3_1
  replace c3_2 := Ext.cell hE c3_2
  replace c3_3 := Ext.cell hE c3_3
  clear hE
  go_simp
  refine hK _ _ ?_
  clear hK K' gd
  refine Wp.keep [1, 2, 3, 4, 5, 6, 7, 8, 9] fun r12 hkeep => ?_
  obtain ⟨e1_12, e2_12, e3_12, e4_12, e5_12, e6_12, e7_12, e8_12, e9_12, -⟩ := hkeep
  simp [go_sem, e1_10, e2_10, e3_10, e4_10, e5_10, e6_10, e7_10] at e1_12 e2_12 e3_12 e4_12 e5_12 e6_12 e7_12 e8_12 e9_12
  clear e1_10 e2_10 e3_10 e4_10 e5_10 e6_10 e7_10
  refine Wp.seqRegion (.inl rfl) (by kernel_rfl) fun K' gd hK hg => ?_
  clear hg
  refine Wops.cut 3 fun K1 hK1 => ?_
  simp only [List.take_succ_cons, List.take_zero]
  go_simp
  refine Wcall (.inl rfl) (Long_c _ _ exS exC _ (hS.ext xs) ⟨_, rfl, rowC_ints R25 rfl rfl⟩ fitEx (fitC_of (by decide))) ?_
  rintro v w6 ⟨hv6, hE⟩
  rw [ex_first.1, if_pos rfl, ex_long] at hv6
  subst hv6
  go_simp
  refine hK1 _ _ ?_
  clear hK1 K1
  simp only [List.drop_succ_cons, List.drop_zero]
  have z13 := Below.size hE
  replace f1 := Ext.fz hE c1_0 f1
  replace f2 := Ext.fz hE c2_0 f2
  replace f3 := Ext.fz hE c3_0 f3
  replace R25 := R25.ext hE
  replace R27 := R27.ext hE
  replace xw := Ext.trans xw hE
  replace xs := Ext.trans xs hE
  replace x4 := Ext.trans x4 hE
  replace x6 := Ext.trans x6 hE
  replace x8 := Ext.trans x8 hE
  replace c1_0 := Ext.cell hE c1_0
  replace c1_1 := Ext.cell hE c1_1
  replace c25_0 := Ext.cell hE c25_0
  replace c25_1 := Ext.cell hE c25_1
  replace c25_2 := Ext.cell hE c25_2
  replace c25_3 := Ext.cell hE c25_3
  replace c2_0 := Ext.cell hE c2_0
  replace c2_1 := Ext.cell hE c2_1
  replace c2_2 := Ext.cell hE c2_2
  replace c2_3 := Ext.cell hE c2_3
  replace c27_0 := Ext.cell hE c27_0
  replace c27_1 := Ext.cell hE c27_1
  replace c27_2 := Ext.cell hE c27_2
  replace c27_3 := Ext.cell hE c27_3
  replace c3_0 := Ext.cell hE c3_0
  replace c3_1 := Ext.cell hE c3_1
  replace c3_2 := Ext.cell hE c3_2
  replace c3_3 := Ext.cell hE c3_3
  clear hE
  refine Wops.cut 5 fun K1 hK1 => ?_
  simp only [List.take_succ_cons, List.take_zero]
  go_simp
  refine hK1 _ _ ?_
  clear hK1 K1
  simp only [List.drop_succ_cons, List.drop_zero]
  refine Wops.absT fun V10_10 n10 hV10_10 R10 => ?_
  obtain ⟨q10, hV10_10, s10, kV10_10, f10, r10⟩ := hV10_10
  try simp only [q10] at kV10_10 f10 r10 ⊢
  replace R10 := (show RowC _ _ _ _ from R10)
  replace f1 := Ext.fz hV10_10 c1_0 f1
  replace f2 := Ext.fz hV10_10 c2_0 f2
  replace f3 := Ext.fz hV10_10 c3_0 f3
  replace R25 := R25.ext hV10_10
  replace R27 := R27.ext hV10_10
  replace xw := Ext.trans xw hV10_10
  replace xs := Ext.trans xs hV10_10
  replace x4 := Ext.trans x4 hV10_10
  replace x6 := Ext.trans x6 hV10_10
  replace x8 := Ext.trans x8 hV10_10
  replace c1_0 := Ext.cell hV10_10 c1_0
  replace c1_1 := Ext.cell hV10_10 c1_1
  replace c25_0 := Ext.cell hV10_10 c25_0
  replace c25_1 := Ext.cell hV10_10 c25_1
  replace c25_2 := Ext.cell hV10_10 c25_2
  replace c25_3 := Ext.cell hV10_10 c25_3
  replace c2_0 := Ext.cell hV10_10 c2_0
  replace c2_1 := Ext.cell hV10_10 c2_1
  replace c2_2 := Ext.cell hV10_10 c2_2
  replace c2_3 := Ext.cell hV10_10 c2_3
  replace c27_0 := Ext.cell hV10_10 c27_0
  replace c27_1 := Ext.cell hV10_10 c27_1
  replace c27_2 := Ext.cell hV10_10 c27_2
  replace c27_3 := Ext.cell hV10_10 c27_3
  replace c3_0 := Ext.cell hV10_10 c3_0
  replace c3_1 := Ext.cell hV10_10 c3_1
  replace c3_2 := Ext.cell hV10_10 c3_2
  replace c3_3 := Ext.cell hV10_10 c3_3
  have c10_0 := kV10_10 0 _ rfl
  have c10_1 := kV10_10 1 _ rfl
  clear kV10_10 hV10_10
  clear r10
  go_simp
  refine hK _ _ ?_
  clear hK K' gd
  refine Wp.keep [1, 2, 3, 4, 5, 6, 7, 8, 9, 10, 11] fun r14 hkeep => ?_
  obtain ⟨e1_14, e2_14, e3_14, e4_14, e5_14, e6_14, e7_14, e8_14, e9_14, e10_14, e11_14, -⟩ := hkeep
  simp [go_sem, e1_12, e2_12, e3_12, e4_12, e5_12, e6_12, e7_12, e8_12, e9_12] at e1_14 e2_14 e3_14 e4_14 e5_14 e6_14 e7_14 e8_14 e9_14 e10_14 e11_14
  clear e1_12 e2_12 e3_12 e4_12 e5_12 e6_12 e7_12 e8_12 e9_12
  refine Wp.seqRegion (.inl rfl) (by kernel_rfl) fun K' gd hK hg => ?_
  clear hg
  refine Wops.cut 3 fun K1 hK1 => ?_
  simp only [List.take_succ_cons, List.take_zero]
  go_simp
  refine Wcall (.inl rfl) (Seen_c _ _ exS exC _ (hS.ext xs) ⟨_, rfl, rowC_ints R25 rfl rfl⟩ fitEx (fitC_of (by decide)) (fun _ => by decide)) ?_
  rintro v w7 ⟨t12, t13, hv7, hI12, hI13, hE⟩
  rw [ex_first.1] at hv7
  subst hv7
  rw [if_pos ex_first.1] at hI12 hI13
  have x12 := Ext.refl w7
  go_simp
  refine hK1 _ _ ?_
  clear hK1 K1
  simp only [List.drop_succ_cons, List.drop_zero]
  have z15 := Below.size hE
  replace f1 := Ext.fz hE c1_0 f1
  replace f2 := Ext.fz hE c2_0 f2
  replace f3 := Ext.fz hE c3_0 f3
  replace f10 := Ext.fz hE c10_0 f10
  replace R25 := R25.ext hE
  replace R27 := R27.ext hE
  replace xw := Ext.trans xw hE
  replace xs := Ext.trans xs hE
  replace x4 := Ext.trans x4 hE
  replace x6 := Ext.trans x6 hE
  replace x8 := Ext.trans x8 hE
  replace c1_0 := Ext.cell hE c1_0
  replace c1_1 := Ext.cell hE c1_1
  replace c25_0 := Ext.cell hE c25_0
  replace c25_1 := Ext.cell hE c25_1
  replace c25_2 := Ext.cell hE c25_2
  replace c25_3 := Ext.cell hE c25_3
  replace c2_0 := Ext.cell hE c2_0
  replace c2_1 := Ext.cell hE c2_1
  replace c2_2 := Ext.cell hE c2_2
  replace c2_3 := Ext.cell hE c2_3
  replace c27_0 := Ext.cell hE c27_0
  replace c27_1 := Ext.cell hE c27_1
  replace c27_2 := Ext.cell hE c27_2
  replace c27_3 := Ext.cell hE c27_3
  replace c3_0 := Ext.cell hE c3_0
  replace c3_1 := Ext.cell hE c3_1
  replace c3_2 := Ext.cell hE c3_2
  replace c3_3 := Ext.cell hE c3_3
  replace c10_0 := Ext.cell hE c10_0
  replace c10_1 := Ext.cell hE c10_1
  clear hE
  go_simp
  refine hK _ _ ?_
  clear hK K' gd
  refine Wp.keep [1, 3, 4, 5, 6, 7, 8, 9, 10, 11, 12, 13, 14] fun r16 hkeep => ?_
  obtain ⟨e1_16, e3_16, e4_16, e5_16, e6_16, e7_16, e8_16, e9_16, e10_16, e11_16, e12_16, e13_16, e14_16, -⟩ := hkeep
  simp [go_sem, e1_14, e2_14, e3_14, e4_14, e5_14, e6_14, e7_14, e8_14, e9_14, e10_14, e11_14] at e1_16 e3_16 e4_16 e5_16 e6_16 e7_16 e8_16 e9_16 e10_16 e11_16 e12_16 e13_16 e14_16
  clear e1_14 e2_14 e3_14 e4_14 e5_14 e6_14 e7_14 e8_14 e9_14 e10_14 e11_14
  refine Wp.seqRegion (.inl rfl) (by kernel_rfl) fun K' gd hK hg => ?_
  clear hg
  refine Wops.cut 3 fun K1 hK1 => ?_
  simp only [List.take_succ_cons, List.take_zero]
  go_simp
  refine Wcall (.inl rfl) (Clash_c _ _ exS exB _ (hS.ext xs) ⟨_, rfl, rowC_ints R27 rfl rfl⟩ fitEx (fitC_of (by decide))) ?_
  rintro v w8 ⟨t15, hv8, hI15, hE⟩
  rw [ex_bad.1, ex_bad.2.1] at hv8
  subst hv8
  rw [if_pos ex_bad.1] at hI15
  have x15 := Ext.refl w8
  go_simp
  refine hK1 _ _ ?_
  clear hK1 K1
  simp only [List.drop_succ_cons, List.drop_zero]
  have z17 := Below.size hE
  replace f1 := Ext.fz hE c1_0 f1
  replace f2 := Ext.fz hE c2_0 f2
  replace f3 := Ext.fz hE c3_0 f3
  replace f10 := Ext.fz hE c10_0 f10
  replace R25 := R25.ext hE
  replace R27 := R27.ext hE
  replace xw := Ext.trans xw hE
  replace xs := Ext.trans xs hE
  replace x4 := Ext.trans x4 hE
  replace x6 := Ext.trans x6 hE
  replace x8 := Ext.trans x8 hE
  replace x12 := Ext.trans x12 hE
  replace c1_0 := Ext.cell hE c1_0
  replace c1_1 := Ext.cell hE c1_1
  replace c25_0 := Ext.cell hE c25_0
  replace c25_1 := Ext.cell hE c25_1
  replace c25_2 := Ext.cell hE c25_2
  replace c25_3 := Ext.cell hE c25_3
  replace c2_0 := Ext.cell hE c2_0
  replace c2_1 := Ext.cell hE c2_1
  replace c2_2 := Ext.cell hE c2_2
  replace c2_3 := Ext.cell hE c2_3
  replace c27_0 := Ext.cell hE c27_0
  replace c27_1 := Ext.cell hE c27_1
  replace c27_2 := Ext.cell hE c27_2
  replace c27_3 := Ext.cell hE c27_3
  replace c3_0 := Ext.cell hE c3_0
  replace c3_1 := Ext.cell hE c3_1
  replace c3_2 := Ext.cell hE c3_2
  replace c3_3 := Ext.cell hE c3_3
  replace c10_0 := Ext.cell hE c10_0
  replace c10_1 := Ext.cell hE c10_1
  clear hE
  go_simp
  refine hK _ _ ?_
  clear hK K' gd
  refine Wp.keep [1, 4, 5, 6, 7, 8, 9, 10, 11, 12, 13, 14, 15, 16, 17] fun r18 hkeep => ?_
  obtain ⟨e1_18, e4_18, e5_18, e6_18, e7_18, e8_18, e9_18, e10_18, e11_18, e12_18, e13_18, e14_18, e15_18, e16_18, e17_18, -⟩ := hkeep
  simp [go_sem, e1_16, e3_16, e4_16, e5_16, e6_16, e7_16, e8_16, e9_16, e10_16, e11_16, e12_16, e13_16, e14_16] at e1_18 e4_18 e5_18 e6_18 e7_18 e8_18 e9_18 e10_18 e11_18 e12_18 e13_18 e14_18 e15_18 e16_18 e17_18
  clear e1_16 e3_16 e4_16 e5_16 e6_16 e7_16 e8_16 e9_16 e10_16 e11_16 e12_16 e13_16 e14_16
  refine Wp.seqRegion (.inl rfl) (by kernel_rfl) fun K' gd hK hg => ?_
  clear hg
  refine Wops.cut 2 fun K1 hK1 => ?_
  simp only [List.take_succ_cons, List.take_zero]
  go_simp
  refine Wcall (.inl rfl) (Reads_c _ exS 1 10 _ (hS.ext xs) fitEx) ?_
  rintro v w9 ⟨t18, hv9, hI18, hE⟩
  rw [ex_reads.1] at hv9
  subst hv9
  rw [if_pos ex_reads.1] at hI18
  have x18 := Ext.refl w9
  go_simp
  refine hK1 _ _ ?_
  clear hK1 K1
  simp only [List.drop_succ_cons, List.drop_zero]
  have z19 := Below.size hE
  replace f1 := Ext.fz hE c1_0 f1
  replace f2 := Ext.fz hE c2_0 f2
  replace f3 := Ext.fz hE c3_0 f3
  replace f10 := Ext.fz hE c10_0 f10
  replace R25 := R25.ext hE
  replace R27 := R27.ext hE
  replace xw := Ext.trans xw hE
  replace xs := Ext.trans xs hE
  replace x4 := Ext.trans x4 hE
  replace x6 := Ext.trans x6 hE
  replace x8 := Ext.trans x8 hE
  replace x12 := Ext.trans x12 hE
  replace x15 := Ext.trans x15 hE
  replace c1_0 := Ext.cell hE c1_0
  replace c1_1 := Ext.cell hE c1_1
  replace c25_0 := Ext.cell hE c25_0
  replace c25_1 := Ext.cell hE c25_1
  replace c25_2 := Ext.cell hE c25_2
  replace c25_3 := Ext.cell hE c25_3
  replace c2_0 := Ext.cell hE c2_0
  replace c2_1 := Ext.cell hE c2_1
  replace c2_2 := Ext.cell hE c2_2
  replace c2_3 := Ext.cell hE c2_3
  replace c27_0 := Ext.cell hE c27_0
  replace c27_1 := Ext.cell hE c27_1
  replace c27_2 := Ext.cell hE c27_2
  replace c27_3 := Ext.cell hE c27_3
  replace c3_0 := Ext.cell hE c3_0
  replace c3_1 := Ext.cell hE c3_1
  replace c3_2 := Ext.cell hE c3_2
  replace c3_3 := Ext.cell hE c3_3
  replace c10_0 := Ext.cell hE c10_0
  replace c10_1 := Ext.cell hE c10_1
  clear hE
  go_simp
  refine hK _ _ ?_
  clear hK K' gd
  refine Wp.keep [1, 4, 5, 6, 7, 8, 9, 10, 11, 12, 13, 14, 15, 16, 17, 18, 19] fun r20 hkeep => ?_
  obtain ⟨e1_20, e4_20, e5_20, e6_20, e7_20, e8_20, e9_20, e10_20, e11_20, e12_20, e13_20, e14_20, e15_20, e16_20, e17_20, e18_20, e19_20, -⟩ := hkeep
  simp [go_sem, e1_18, e4_18, e5_18, e6_18, e7_18, e8_18, e9_18, e10_18, e11_18, e12_18, e13_18, e14_18, e15_18, e16_18, e17_18] at e1_20 e4_20 e5_20 e6_20 e7_20 e8_20 e9_20 e10_20 e11_20 e12_20 e13_20 e14_20 e15_20 e16_20 e17_20 e18_20 e19_20
  clear e1_18 e4_18 e5_18 e6_18 e7_18 e8_18 e9_18 e10_18 e11_18 e12_18 e13_18 e14_18 e15_18 e16_18 e17_18
  refine Wp.seqRegion (.inl rfl) (by kernel_rfl) fun K' gd hK hg => ?_
  clear hg
  refine Wops.cut 2 fun K1 hK1 => ?_
  simp only [List.take_succ_cons, List.take_zero]
  go_simp
  refine Wcall (.inl rfl) (When_c _ exS 3 0 _ (hS.ext xs) fitEx) ?_
  rintro v w10 ⟨t20, hv10, hZ20, hE⟩
  rw [ex_when.1] at hv10
  subst hv10
  rw [if_pos ex_when.1] at hZ20
  have x20 := Ext.refl w10
  go_simp
  refine hK1 _ _ ?_
  clear hK1 K1
  simp only [List.drop_succ_cons, List.drop_zero]
  have z21 := Below.size hE
  replace f1 := Ext.fz hE c1_0 f1
  replace f2 := Ext.fz hE c2_0 f2
  replace f3 := Ext.fz hE c3_0 f3
  replace f10 := Ext.fz hE c10_0 f10
  replace R25 := R25.ext hE
  replace R27 := R27.ext hE
  replace xw := Ext.trans xw hE
  replace xs := Ext.trans xs hE
  replace x4 := Ext.trans x4 hE
  replace x6 := Ext.trans x6 hE
  replace x8 := Ext.trans x8 hE
  replace x12 := Ext.trans x12 hE
  replace x15 := Ext.trans x15 hE
  replace x18 := Ext.trans x18 hE
  replace c1_0 := Ext.cell hE c1_0
  replace c1_1 := Ext.cell hE c1_1
  replace c25_0 := Ext.cell hE c25_0
  replace c25_1 := Ext.cell hE c25_1
  replace c25_2 := Ext.cell hE c25_2
  replace c25_3 := Ext.cell hE c25_3
  replace c2_0 := Ext.cell hE c2_0
  replace c2_1 := Ext.cell hE c2_1
  replace c2_2 := Ext.cell hE c2_2
  replace c2_3 := Ext.cell hE c2_3
  replace c27_0 := Ext.cell hE c27_0
  replace c27_1 := Ext.cell hE c27_1
  replace c27_2 := Ext.cell hE c27_2
  replace c27_3 := Ext.cell hE c27_3
  replace c3_0 := Ext.cell hE c3_0
  replace c3_1 := Ext.cell hE c3_1
  replace c3_2 := Ext.cell hE c3_2
  replace c3_3 := Ext.cell hE c3_3
  replace c10_0 := Ext.cell hE c10_0
  replace c10_1 := Ext.cell hE c10_1
  clear hE
  go_simp
  refine hK _ _ ?_
  clear hK K' gd
  refine Wp.keep [4, 5, 6, 7, 8, 9, 10, 11, 12, 13, 14, 15, 16, 17, 18, 19, 20, 21] fun r22 hkeep => ?_
  obtain ⟨e4_22, e5_22, e6_22, e7_22, e8_22, e9_22, e10_22, e11_22, e12_22, e13_22, e14_22, e15_22, e16_22, e17_22, e18_22, e19_22, e20_22, e21_22, -⟩ := hkeep
  simp [go_sem, e1_20, e4_20, e5_20, e6_20, e7_20, e8_20, e9_20, e10_20, e11_20, e12_20, e13_20, e14_20, e15_20, e16_20, e17_20, e18_20, e19_20] at e4_22 e5_22 e6_22 e7_22 e8_22 e9_22 e10_22 e11_22 e12_22 e13_22 e14_22 e15_22 e16_22 e17_22 e18_22 e19_22 e20_22 e21_22
  clear e1_20 e4_20 e5_20 e6_20 e7_20 e8_20 e9_20 e10_20 e11_20 e12_20 e13_20 e14_20 e15_20 e16_20 e17_20 e18_20 e19_20
  obtain ⟨A15, c15, rfl⟩ := hI15.slice
  have h15 : (exS.md exB).first.length = 2 := ex_bad.2.2
  refine Wp.seq ?_
  refine Wp.seqRegion (.inl rfl) (by kernel_rfl) fun K' gd hK hg => ?_
  have g2 : gd 2 = some 79 := hg 2
  have g6 : gd 6 = some 83 := hg 6
  have g10 : gd 10 = some 87 := hg 10
  have g14 : gd 14 = some 91 := hg 14
  have g18 : gd 18 = some 95 := hg 18
  have g22 : gd 22 = some 99 := hg 22
  have g26 : gd 26 = some 103 := hg 26
  clear hg
  go_simp
  refine hK _ _ ?_
  clear hK K' gd g2 g6 g10 g14 g18 g22 g26
  refine Wp.keep [4, 6, 8, 10, 12, 13, 15, 16, 18, 20, 106] fun r23 hkeep => ?_
  obtain ⟨e4_23, e6_23, e8_23, e10_23, e12_23, e13_23, e15_23, e16_23, e18_23, e20_23, e106_23, -⟩ := hkeep
  simp [go_sem, e4_22, e5_22, e6_22, e7_22, e8_22, e9_22, e10_22, e11_22, e12_22, e13_22, e14_22, e15_22, e16_22, e17_22, e18_22, e19_22, e20_22, e21_22] at e4_23 e6_23 e8_23 e10_23 e12_23 e13_23 e15_23 e16_23 e18_23 e20_23 e106_23
  clear e4_22 e5_22 e6_22 e7_22 e8_22 e9_22 e10_22 e11_22 e12_22 e13_22 e14_22 e15_22 e16_22 e17_22 e18_22 e19_22 e20_22 e21_22
  refine Wp.condF (by go_simp) ?_
  refine Wp.skip ?_
  refine thenK_normal ?_
  refine Wp.seqRegion (.inl rfl) (by kernel_rfl) fun K' gd hK hg => ?_
  have g3 : gd 3 = some 110 := hg 3
  have g8 : gd 8 = some 115 := hg 8
  have g14 : gd 14 = some 121 := hg 14
  have g19 : gd 19 = some 126 := hg 19
  clear hg
  refine Wops.cut 2 fun K1 hK1 => ?_
  simp only [List.take_succ_cons, List.take_zero]
  go_simp
  refine hK1 _ _ ?_
  clear hK1 K1
  simp only [List.drop_succ_cons, List.drop_zero]
  refine Wops.absT fun V108_15 n108 hV108_15 R108 => ?_
  obtain ⟨q108, hV108_15, s108, kV108_15, f108, r108⟩ := hV108_15
  try simp only [q108] at kV108_15 f108 r108 ⊢
  replace R108 := (show RowC _ _ _ _ from R108)
  replace f1 := Ext.fz hV108_15 c1_0 f1
  replace f2 := Ext.fz hV108_15 c2_0 f2
  replace f3 := Ext.fz hV108_15 c3_0 f3
  replace f10 := Ext.fz hV108_15 c10_0 f10
  replace R25 := R25.ext hV108_15
  replace R27 := R27.ext hV108_15
  replace xw := Ext.trans xw hV108_15
  replace xs := Ext.trans xs hV108_15
  replace x4 := Ext.trans x4 hV108_15
  replace x6 := Ext.trans x6 hV108_15
  replace x8 := Ext.trans x8 hV108_15
  replace x12 := Ext.trans x12 hV108_15
  replace x15 := Ext.trans x15 hV108_15
  replace x18 := Ext.trans x18 hV108_15
  replace x20 := Ext.trans x20 hV108_15
  replace c1_0 := Ext.cell hV108_15 c1_0
  replace c1_1 := Ext.cell hV108_15 c1_1
  replace c25_0 := Ext.cell hV108_15 c25_0
  replace c25_1 := Ext.cell hV108_15 c25_1
  replace c25_2 := Ext.cell hV108_15 c25_2
  replace c25_3 := Ext.cell hV108_15 c25_3
  replace c2_0 := Ext.cell hV108_15 c2_0
  replace c2_1 := Ext.cell hV108_15 c2_1
  replace c2_2 := Ext.cell hV108_15 c2_2
  replace c2_3 := Ext.cell hV108_15 c2_3
  replace c27_0 := Ext.cell hV108_15 c27_0
  replace c27_1 := Ext.cell hV108_15 c27_1
  replace c27_2 := Ext.cell hV108_15 c27_2
  replace c27_3 := Ext.cell hV108_15 c27_3
  replace c3_0 := Ext.cell hV108_15 c3_0
  replace c3_1 := Ext.cell hV108_15 c3_1
  replace c3_2 := Ext.cell hV108_15 c3_2
  replace c3_3 := Ext.cell hV108_15 c3_3
  replace c10_0 := Ext.cell hV108_15 c10_0
  replace c10_1 := Ext.cell hV108_15 c10_1
  clear hV108_15 f108
  have c108_0 := kV108_15 0 _ rfl
  have c108_1 := kV108_15 1 _ rfl
  have c108_2 := kV108_15 2 _ rfl
  have c108_3 := kV108_15 3 _ rfl
  clear kV108_15
  refine Wops.cut 1 fun K1 hK1 => ?_
  simp only [List.take_succ_cons, List.take_zero]
  go_simp
  refine Wcall (.inl rfl) (sameI_T ex_first.2 _ (hI4.ext x4).ints (rowC_ints R108 rfl rfl) (by rw [ex_first.2]; decide)) ?_
  rintro v w11 ⟨rfl, hE⟩
  go_simp
  refine hK1 _ _ ?_
  clear hK1 K1
  simp only [List.drop_succ_cons, List.drop_zero]
  have z24 := Below.size hE
  replace f1 := Ext.fz hE c1_0 f1
  replace f2 := Ext.fz hE c2_0 f2
  replace f3 := Ext.fz hE c3_0 f3
  replace f10 := Ext.fz hE c10_0 f10
  replace R25 := R25.ext hE
  replace R27 := R27.ext hE
  replace R108 := R108.ext hE
  replace xw := Ext.trans xw hE
  replace xs := Ext.trans xs hE
  replace x4 := Ext.trans x4 hE
  replace x6 := Ext.trans x6 hE
  replace x8 := Ext.trans x8 hE
  replace x12 := Ext.trans x12 hE
  replace x15 := Ext.trans x15 hE
  replace x18 := Ext.trans x18 hE
  replace x20 := Ext.trans x20 hE
  replace c1_0 := Ext.cell hE c1_0
  replace c1_1 := Ext.cell hE c1_1
  replace c25_0 := Ext.cell hE c25_0
  replace c25_1 := Ext.cell hE c25_1
  replace c25_2 := Ext.cell hE c25_2
  replace c25_3 := Ext.cell hE c25_3
  replace c2_0 := Ext.cell hE c2_0
  replace c2_1 := Ext.cell hE c2_1
  replace c2_2 := Ext.cell hE c2_2
  replace c2_3 := Ext.cell hE c2_3
  replace c27_0 := Ext.cell hE c27_0
  replace c27_1 := Ext.cell hE c27_1
  replace c27_2 := Ext.cell hE c27_2
  replace c27_3 := Ext.cell hE c27_3
  replace c3_0 := Ext.cell hE c3_0
  replace c3_1 := Ext.cell hE c3_1
  replace c3_2 := Ext.cell hE c3_2
  replace c3_3 := Ext.cell hE c3_3
  replace c10_0 := Ext.cell hE c10_0
  replace c10_1 := Ext.cell hE c10_1
  replace c108_0 := Ext.cell hE c108_0
  replace c108_1 := Ext.cell hE c108_1
  replace c108_2 := Ext.cell hE c108_2
  replace c108_3 := Ext.cell hE c108_3
  clear hE
  refine Wops.cut 3 fun K1 hK1 => ?_
  simp only [List.take_succ_cons, List.take_zero]
  go_simp
  refine hK1 _ _ ?_
  clear hK1 K1
  simp only [List.drop_succ_cons, List.drop_zero]
  refine Wops.absT fun V112_16 n112 hV112_16 R112 => ?_
  obtain ⟨q112, hV112_16, s112, kV112_16, f112, r112⟩ := hV112_16
  try simp only [q112] at kV112_16 f112 r112 ⊢
  replace R112 := (show RowC _ _ _ _ from R112)
  replace f1 := Ext.fz hV112_16 c1_0 f1
  replace f2 := Ext.fz hV112_16 c2_0 f2
  replace f3 := Ext.fz hV112_16 c3_0 f3
  replace f10 := Ext.fz hV112_16 c10_0 f10
  replace R25 := R25.ext hV112_16
  replace R27 := R27.ext hV112_16
  replace R108 := R108.ext hV112_16
  replace xw := Ext.trans xw hV112_16
  replace xs := Ext.trans xs hV112_16
  replace x4 := Ext.trans x4 hV112_16
  replace x6 := Ext.trans x6 hV112_16
  replace x8 := Ext.trans x8 hV112_16
  replace x12 := Ext.trans x12 hV112_16
  replace x15 := Ext.trans x15 hV112_16
  replace x18 := Ext.trans x18 hV112_16
  replace x20 := Ext.trans x20 hV112_16
  replace c1_0 := Ext.cell hV112_16 c1_0
  replace c1_1 := Ext.cell hV112_16 c1_1
  replace c25_0 := Ext.cell hV112_16 c25_0
  replace c25_1 := Ext.cell hV112_16 c25_1
  replace c25_2 := Ext.cell hV112_16 c25_2
  replace c25_3 := Ext.cell hV112_16 c25_3
  replace c2_0 := Ext.cell hV112_16 c2_0
  replace c2_1 := Ext.cell hV112_16 c2_1
  replace c2_2 := Ext.cell hV112_16 c2_2
  replace c2_3 := Ext.cell hV112_16 c2_3
  replace c27_0 := Ext.cell hV112_16 c27_0
  replace c27_1 := Ext.cell hV112_16 c27_1
  replace c27_2 := Ext.cell hV112_16 c27_2
  replace c27_3 := Ext.cell hV112_16 c27_3
  replace c3_0 := Ext.cell hV112_16 c3_0
  replace c3_1 := Ext.cell hV112_16 c3_1
  replace c3_2 := Ext.cell hV112_16 c3_2
  replace c3_3 := Ext.cell hV112_16 c3_3
  replace c10_0 := Ext.cell hV112_16 c10_0
  replace c10_1 := Ext.cell hV112_16 c10_1
  replace c108_0 := Ext.cell hV112_16 c108_0
  replace c108_1 := Ext.cell hV112_16 c108_1
  replace c108_2 := Ext.cell hV112_16 c108_2
  replace c108_3 := Ext.cell hV112_16 c108_3
  clear hV112_16 f112
  have c112_0 := kV112_16 0 _ rfl
  have c112_1 := kV112_16 1 _ rfl
  have c112_2 := kV112_16 2 _ rfl
  have c112_3 := kV112_16 3 _ rfl
  clear kV112_16
  refine Wops.cut 1 fun K1 hK1 => ?_
  simp only [List.take_succ_cons, List.take_zero]
  go_simp
  refine Wcall (.inl rfl) (sameI_T ex_last _ (hI6.ext x6).ints (rowC_ints R112 rfl rfl) (by rw [ex_last]; decide)) ?_
  rintro v w12 ⟨rfl, hE⟩
  go_simp
  refine hK1 _ _ ?_
  clear hK1 K1
  simp only [List.drop_succ_cons, List.drop_zero]
  have z25 := Below.size hE
  replace f1 := Ext.fz hE c1_0 f1
  replace f2 := Ext.fz hE c2_0 f2
  replace f3 := Ext.fz hE c3_0 f3
  replace f10 := Ext.fz hE c10_0 f10
  replace R25 := R25.ext hE
  replace R27 := R27.ext hE
  replace R108 := R108.ext hE
  replace R112 := R112.ext hE
  replace xw := Ext.trans xw hE
  replace xs := Ext.trans xs hE
  replace x4 := Ext.trans x4 hE
  replace x6 := Ext.trans x6 hE
  replace x8 := Ext.trans x8 hE
  replace x12 := Ext.trans x12 hE
  replace x15 := Ext.trans x15 hE
  replace x18 := Ext.trans x18 hE
  replace x20 := Ext.trans x20 hE
  replace c1_0 := Ext.cell hE c1_0
  replace c1_1 := Ext.cell hE c1_1
  replace c25_0 := Ext.cell hE c25_0
  replace c25_1 := Ext.cell hE c25_1
  replace c25_2 := Ext.cell hE c25_2
  replace c25_3 := Ext.cell hE c25_3
  replace c2_0 := Ext.cell hE c2_0
  replace c2_1 := Ext.cell hE c2_1
  replace c2_2 := Ext.cell hE c2_2
  replace c2_3 := Ext.cell hE c2_3
  replace c27_0 := Ext.cell hE c27_0
  replace c27_1 := Ext.cell hE c27_1
  replace c27_2 := Ext.cell hE c27_2
  replace c27_3 := Ext.cell hE c27_3
  replace c3_0 := Ext.cell hE c3_0
  replace c3_1 := Ext.cell hE c3_1
  replace c3_2 := Ext.cell hE c3_2
  replace c3_3 := Ext.cell hE c3_3
  replace c10_0 := Ext.cell hE c10_0
  replace c10_1 := Ext.cell hE c10_1
  replace c108_0 := Ext.cell hE c108_0
  replace c108_1 := Ext.cell hE c108_1
  replace c108_2 := Ext.cell hE c108_2
  replace c108_3 := Ext.cell hE c108_3
  replace c112_0 := Ext.cell hE c112_0
  replace c112_1 := Ext.cell hE c112_1
  replace c112_2 := Ext.cell hE c112_2
  replace c112_3 := Ext.cell hE c112_3
  clear hE
  refine Wops.cut 5 fun K1 hK1 => ?_
  simp only [List.take_succ_cons, List.take_zero]
  go_simp
  refine hK1 _ _ ?_
  clear hK1 K1
  simp only [List.drop_succ_cons, List.drop_zero]
  refine Wops.absT fun V118_17 n118 hV118_17 R118 => ?_
  obtain ⟨q118, hV118_17, s118, kV118_17, f118, r118⟩ := hV118_17
  try simp only [q118] at kV118_17 f118 r118 ⊢
  replace R118 := (show RowC _ _ _ _ from R118)
  replace f1 := Ext.fz hV118_17 c1_0 f1
  replace f2 := Ext.fz hV118_17 c2_0 f2
  replace f3 := Ext.fz hV118_17 c3_0 f3
  replace f10 := Ext.fz hV118_17 c10_0 f10
  replace R25 := R25.ext hV118_17
  replace R27 := R27.ext hV118_17
  replace R108 := R108.ext hV118_17
  replace R112 := R112.ext hV118_17
  replace xw := Ext.trans xw hV118_17
  replace xs := Ext.trans xs hV118_17
  replace x4 := Ext.trans x4 hV118_17
  replace x6 := Ext.trans x6 hV118_17
  replace x8 := Ext.trans x8 hV118_17
  replace x12 := Ext.trans x12 hV118_17
  replace x15 := Ext.trans x15 hV118_17
  replace x18 := Ext.trans x18 hV118_17
  replace x20 := Ext.trans x20 hV118_17
  replace c1_0 := Ext.cell hV118_17 c1_0
  replace c1_1 := Ext.cell hV118_17 c1_1
  replace c25_0 := Ext.cell hV118_17 c25_0
  replace c25_1 := Ext.cell hV118_17 c25_1
  replace c25_2 := Ext.cell hV118_17 c25_2
  replace c25_3 := Ext.cell hV118_17 c25_3
  replace c2_0 := Ext.cell hV118_17 c2_0
  replace c2_1 := Ext.cell hV118_17 c2_1
  replace c2_2 := Ext.cell hV118_17 c2_2
  replace c2_3 := Ext.cell hV118_17 c2_3
  replace c27_0 := Ext.cell hV118_17 c27_0
  replace c27_1 := Ext.cell hV118_17 c27_1
  replace c27_2 := Ext.cell hV118_17 c27_2
  replace c27_3 := Ext.cell hV118_17 c27_3
  replace c3_0 := Ext.cell hV118_17 c3_0
  replace c3_1 := Ext.cell hV118_17 c3_1
  replace c3_2 := Ext.cell hV118_17 c3_2
  replace c3_3 := Ext.cell hV118_17 c3_3
  replace c10_0 := Ext.cell hV118_17 c10_0
  replace c10_1 := Ext.cell hV118_17 c10_1
  replace c108_0 := Ext.cell hV118_17 c108_0
  replace c108_1 := Ext.cell hV118_17 c108_1
  replace c108_2 := Ext.cell hV118_17 c108_2
  replace c108_3 := Ext.cell hV118_17 c108_3
  replace c112_0 := Ext.cell hV118_17 c112_0
  replace c112_1 := Ext.cell hV118_17 c112_1
  replace c112_2 := Ext.cell hV118_17 c112_2
  replace c112_3 := Ext.cell hV118_17 c112_3
  clear hV118_17 f118
  have c118_0 := kV118_17 0 _ rfl
  have c118_1 := kV118_17 1 _ rfl
  clear kV118_17
  refine Wops.cut 1 fun K1 hK1 => ?_
  simp only [List.take_succ_cons, List.take_zero]
  go_simp
  refine Wcall (.inl rfl) (sameZ_T ex_poss.2 _ (hZ8.ext x8).spans (rowC_spans R118 rfl rfl) (by rw [ex_poss.2]; decide)) ?_
  rintro v w13 ⟨rfl, hE⟩
  go_simp
  refine hK1 _ _ ?_
  clear hK1 K1
  simp only [List.drop_succ_cons, List.drop_zero]
  have z26 := Below.size hE
  replace f1 := Ext.fz hE c1_0 f1
  replace f2 := Ext.fz hE c2_0 f2
  replace f3 := Ext.fz hE c3_0 f3
  replace f10 := Ext.fz hE c10_0 f10
  replace R25 := R25.ext hE
  replace R27 := R27.ext hE
  replace R108 := R108.ext hE
  replace R112 := R112.ext hE
  replace R118 := R118.ext hE
  replace xw := Ext.trans xw hE
  replace xs := Ext.trans xs hE
  replace x4 := Ext.trans x4 hE
  replace x6 := Ext.trans x6 hE
  replace x8 := Ext.trans x8 hE
  replace x12 := Ext.trans x12 hE
  replace x15 := Ext.trans x15 hE
  replace x18 := Ext.trans x18 hE
  replace x20 := Ext.trans x20 hE
  replace c1_0 := Ext.cell hE c1_0
  replace c1_1 := Ext.cell hE c1_1
  replace c25_0 := Ext.cell hE c25_0
  replace c25_1 := Ext.cell hE c25_1
  replace c25_2 := Ext.cell hE c25_2
  replace c25_3 := Ext.cell hE c25_3
  replace c2_0 := Ext.cell hE c2_0
  replace c2_1 := Ext.cell hE c2_1
  replace c2_2 := Ext.cell hE c2_2
  replace c2_3 := Ext.cell hE c2_3
  replace c27_0 := Ext.cell hE c27_0
  replace c27_1 := Ext.cell hE c27_1
  replace c27_2 := Ext.cell hE c27_2
  replace c27_3 := Ext.cell hE c27_3
  replace c3_0 := Ext.cell hE c3_0
  replace c3_1 := Ext.cell hE c3_1
  replace c3_2 := Ext.cell hE c3_2
  replace c3_3 := Ext.cell hE c3_3
  replace c10_0 := Ext.cell hE c10_0
  replace c10_1 := Ext.cell hE c10_1
  replace c108_0 := Ext.cell hE c108_0
  replace c108_1 := Ext.cell hE c108_1
  replace c108_2 := Ext.cell hE c108_2
  replace c108_3 := Ext.cell hE c108_3
  replace c112_0 := Ext.cell hE c112_0
  replace c112_1 := Ext.cell hE c112_1
  replace c112_2 := Ext.cell hE c112_2
  replace c112_3 := Ext.cell hE c112_3
  replace c118_0 := Ext.cell hE c118_0
  replace c118_1 := Ext.cell hE c118_1
  clear hE
  refine Wops.cut 4 fun K1 hK1 => ?_
  simp only [List.take_succ_cons, List.take_zero]
  go_simp
  refine hK1 _ _ ?_
  clear hK1 K1
  simp only [List.drop_succ_cons, List.drop_zero]
  refine Wops.absT fun V123_18 n123 hV123_18 R123 => ?_
  obtain ⟨q123, hV123_18, s123, kV123_18, f123, r123⟩ := hV123_18
  try simp only [q123] at kV123_18 f123 r123 ⊢
  replace R123 := (show RowC _ _ _ _ from R123)
  replace f1 := Ext.fz hV123_18 c1_0 f1
  replace f2 := Ext.fz hV123_18 c2_0 f2
  replace f3 := Ext.fz hV123_18 c3_0 f3
  replace f10 := Ext.fz hV123_18 c10_0 f10
  replace R25 := R25.ext hV123_18
  replace R27 := R27.ext hV123_18
  replace R108 := R108.ext hV123_18
  replace R112 := R112.ext hV123_18
  replace R118 := R118.ext hV123_18
  replace xw := Ext.trans xw hV123_18
  replace xs := Ext.trans xs hV123_18
  replace x4 := Ext.trans x4 hV123_18
  replace x6 := Ext.trans x6 hV123_18
  replace x8 := Ext.trans x8 hV123_18
  replace x12 := Ext.trans x12 hV123_18
  replace x15 := Ext.trans x15 hV123_18
  replace x18 := Ext.trans x18 hV123_18
  replace x20 := Ext.trans x20 hV123_18
  replace c1_0 := Ext.cell hV123_18 c1_0
  replace c1_1 := Ext.cell hV123_18 c1_1
  replace c25_0 := Ext.cell hV123_18 c25_0
  replace c25_1 := Ext.cell hV123_18 c25_1
  replace c25_2 := Ext.cell hV123_18 c25_2
  replace c25_3 := Ext.cell hV123_18 c25_3
  replace c2_0 := Ext.cell hV123_18 c2_0
  replace c2_1 := Ext.cell hV123_18 c2_1
  replace c2_2 := Ext.cell hV123_18 c2_2
  replace c2_3 := Ext.cell hV123_18 c2_3
  replace c27_0 := Ext.cell hV123_18 c27_0
  replace c27_1 := Ext.cell hV123_18 c27_1
  replace c27_2 := Ext.cell hV123_18 c27_2
  replace c27_3 := Ext.cell hV123_18 c27_3
  replace c3_0 := Ext.cell hV123_18 c3_0
  replace c3_1 := Ext.cell hV123_18 c3_1
  replace c3_2 := Ext.cell hV123_18 c3_2
  replace c3_3 := Ext.cell hV123_18 c3_3
  replace c10_0 := Ext.cell hV123_18 c10_0
  replace c10_1 := Ext.cell hV123_18 c10_1
  replace c108_0 := Ext.cell hV123_18 c108_0
  replace c108_1 := Ext.cell hV123_18 c108_1
  replace c108_2 := Ext.cell hV123_18 c108_2
  replace c108_3 := Ext.cell hV123_18 c108_3
  replace c112_0 := Ext.cell hV123_18 c112_0
  replace c112_1 := Ext.cell hV123_18 c112_1
  replace c112_2 := Ext.cell hV123_18 c112_2
  replace c112_3 := Ext.cell hV123_18 c112_3
  replace c118_0 := Ext.cell hV123_18 c118_0
  replace c118_1 := Ext.cell hV123_18 c118_1
  clear hV123_18 f123
  have c123_0 := kV123_18 0 _ rfl
  have c123_1 := kV123_18 1 _ rfl
  clear kV123_18
  refine Wops.cut 1 fun K1 hK1 => ?_
  simp only [List.take_succ_cons, List.take_zero]
  go_simp
  refine Wcall (.inl rfl) (sameI_T ex_ids.1 _ (hI12.ext x12).ints (rowC_ints R123 rfl rfl) (by rw [ex_ids.1]; decide)) ?_
  rintro v w14 ⟨rfl, hE⟩
  go_simp
  refine hK1 _ _ ?_
  clear hK1 K1
  simp only [List.drop_succ_cons, List.drop_zero]
  have z27 := Below.size hE
  replace f1 := Ext.fz hE c1_0 f1
  replace f2 := Ext.fz hE c2_0 f2
  replace f3 := Ext.fz hE c3_0 f3
  replace f10 := Ext.fz hE c10_0 f10
  replace R25 := R25.ext hE
  replace R27 := R27.ext hE
  replace R108 := R108.ext hE
  replace R112 := R112.ext hE
  replace R118 := R118.ext hE
  replace R123 := R123.ext hE
  replace xw := Ext.trans xw hE
  replace xs := Ext.trans xs hE
  replace x4 := Ext.trans x4 hE
  replace x6 := Ext.trans x6 hE
  replace x8 := Ext.trans x8 hE
  replace x12 := Ext.trans x12 hE
  replace x15 := Ext.trans x15 hE
  replace x18 := Ext.trans x18 hE
  replace x20 := Ext.trans x20 hE
  replace c1_0 := Ext.cell hE c1_0
  replace c1_1 := Ext.cell hE c1_1
  replace c25_0 := Ext.cell hE c25_0
  replace c25_1 := Ext.cell hE c25_1
  replace c25_2 := Ext.cell hE c25_2
  replace c25_3 := Ext.cell hE c25_3
  replace c2_0 := Ext.cell hE c2_0
  replace c2_1 := Ext.cell hE c2_1
  replace c2_2 := Ext.cell hE c2_2
  replace c2_3 := Ext.cell hE c2_3
  replace c27_0 := Ext.cell hE c27_0
  replace c27_1 := Ext.cell hE c27_1
  replace c27_2 := Ext.cell hE c27_2
  replace c27_3 := Ext.cell hE c27_3
  replace c3_0 := Ext.cell hE c3_0
  replace c3_1 := Ext.cell hE c3_1
  replace c3_2 := Ext.cell hE c3_2
  replace c3_3 := Ext.cell hE c3_3
  replace c10_0 := Ext.cell hE c10_0
  replace c10_1 := Ext.cell hE c10_1
  replace c108_0 := Ext.cell hE c108_0
  replace c108_1 := Ext.cell hE c108_1
  replace c108_2 := Ext.cell hE c108_2
  replace c108_3 := Ext.cell hE c108_3
  replace c112_0 := Ext.cell hE c112_0
  replace c112_1 := Ext.cell hE c112_1
  replace c112_2 := Ext.cell hE c112_2
  replace c112_3 := Ext.cell hE c112_3
  replace c118_0 := Ext.cell hE c118_0
  replace c118_1 := Ext.cell hE c118_1
  replace c123_0 := Ext.cell hE c123_0
  replace c123_1 := Ext.cell hE c123_1
  clear hE
  refine Wops.cut 4 fun K1 hK1 => ?_
  simp only [List.take_succ_cons, List.take_zero]
  go_simp
  refine hK1 _ _ ?_
  clear hK1 K1
  simp only [List.drop_succ_cons, List.drop_zero]
  refine Wops.absT fun V128_19 n128 hV128_19 R128 => ?_
  obtain ⟨q128, hV128_19, s128, kV128_19, f128, r128⟩ := hV128_19
  try simp only [q128] at kV128_19 f128 r128 ⊢
  replace R128 := (show RowC _ _ _ _ from R128)
  replace f1 := Ext.fz hV128_19 c1_0 f1
  replace f2 := Ext.fz hV128_19 c2_0 f2
  replace f3 := Ext.fz hV128_19 c3_0 f3
  replace f10 := Ext.fz hV128_19 c10_0 f10
  replace R25 := R25.ext hV128_19
  replace R27 := R27.ext hV128_19
  replace R108 := R108.ext hV128_19
  replace R112 := R112.ext hV128_19
  replace R118 := R118.ext hV128_19
  replace R123 := R123.ext hV128_19
  replace xw := Ext.trans xw hV128_19
  replace xs := Ext.trans xs hV128_19
  replace x4 := Ext.trans x4 hV128_19
  replace x6 := Ext.trans x6 hV128_19
  replace x8 := Ext.trans x8 hV128_19
  replace x12 := Ext.trans x12 hV128_19
  replace x15 := Ext.trans x15 hV128_19
  replace x18 := Ext.trans x18 hV128_19
  replace x20 := Ext.trans x20 hV128_19
  replace c1_0 := Ext.cell hV128_19 c1_0
  replace c1_1 := Ext.cell hV128_19 c1_1
  replace c25_0 := Ext.cell hV128_19 c25_0
  replace c25_1 := Ext.cell hV128_19 c25_1
  replace c25_2 := Ext.cell hV128_19 c25_2
  replace c25_3 := Ext.cell hV128_19 c25_3
  replace c2_0 := Ext.cell hV128_19 c2_0
  replace c2_1 := Ext.cell hV128_19 c2_1
  replace c2_2 := Ext.cell hV128_19 c2_2
  replace c2_3 := Ext.cell hV128_19 c2_3
  replace c27_0 := Ext.cell hV128_19 c27_0
  replace c27_1 := Ext.cell hV128_19 c27_1
  replace c27_2 := Ext.cell hV128_19 c27_2
  replace c27_3 := Ext.cell hV128_19 c27_3
  replace c3_0 := Ext.cell hV128_19 c3_0
  replace c3_1 := Ext.cell hV128_19 c3_1
  replace c3_2 := Ext.cell hV128_19 c3_2
  replace c3_3 := Ext.cell hV128_19 c3_3
  replace c10_0 := Ext.cell hV128_19 c10_0
  replace c10_1 := Ext.cell hV128_19 c10_1
  replace c108_0 := Ext.cell hV128_19 c108_0
  replace c108_1 := Ext.cell hV128_19 c108_1
  replace c108_2 := Ext.cell hV128_19 c108_2
  replace c108_3 := Ext.cell hV128_19 c108_3
  replace c112_0 := Ext.cell hV128_19 c112_0
  replace c112_1 := Ext.cell hV128_19 c112_1
  replace c112_2 := Ext.cell hV128_19 c112_2
  replace c112_3 := Ext.cell hV128_19 c112_3
  replace c118_0 := Ext.cell hV128_19 c118_0
  replace c118_1 := Ext.cell hV128_19 c118_1
  replace c123_0 := Ext.cell hV128_19 c123_0
  replace c123_1 := Ext.cell hV128_19 c123_1
  clear hV128_19 f128
  have c128_0 := kV128_19 0 _ rfl
  have c128_1 := kV128_19 1 _ rfl
  have c128_2 := kV128_19 2 _ rfl
  clear kV128_19
  refine Wops.cut 1 fun K1 hK1 => ?_
  simp only [List.take_succ_cons, List.take_zero]
  go_simp
  refine Wcall (.inl rfl) (sameI_T ex_ids.2 _ (hI13.ext x12).ints (rowC_ints R128 rfl rfl) (by rw [ex_ids.2]; decide)) ?_
  rintro v w15 ⟨rfl, hE⟩
  go_simp
  refine hK1 _ _ ?_
  clear hK1 K1
  simp only [List.drop_succ_cons, List.drop_zero]
  have z28 := Below.size hE
  replace f1 := Ext.fz hE c1_0 f1
  replace f2 := Ext.fz hE c2_0 f2
  replace f3 := Ext.fz hE c3_0 f3
  replace f10 := Ext.fz hE c10_0 f10
  replace R25 := R25.ext hE
  replace R27 := R27.ext hE
  replace R108 := R108.ext hE
  replace R112 := R112.ext hE
  replace R118 := R118.ext hE
  replace R123 := R123.ext hE
  replace R128 := R128.ext hE
  replace xw := Ext.trans xw hE
  replace xs := Ext.trans xs hE
  replace x4 := Ext.trans x4 hE
  replace x6 := Ext.trans x6 hE
  replace x8 := Ext.trans x8 hE
  replace x12 := Ext.trans x12 hE
  replace x15 := Ext.trans x15 hE
  replace x18 := Ext.trans x18 hE
  replace x20 := Ext.trans x20 hE
  replace c1_0 := Ext.cell hE c1_0
  replace c1_1 := Ext.cell hE c1_1
  replace c25_0 := Ext.cell hE c25_0
  replace c25_1 := Ext.cell hE c25_1
  replace c25_2 := Ext.cell hE c25_2
  replace c25_3 := Ext.cell hE c25_3
  replace c2_0 := Ext.cell hE c2_0
  replace c2_1 := Ext.cell hE c2_1
  replace c2_2 := Ext.cell hE c2_2
  replace c2_3 := Ext.cell hE c2_3
  replace c27_0 := Ext.cell hE c27_0
  replace c27_1 := Ext.cell hE c27_1
  replace c27_2 := Ext.cell hE c27_2
  replace c27_3 := Ext.cell hE c27_3
  replace c3_0 := Ext.cell hE c3_0
  replace c3_1 := Ext.cell hE c3_1
  replace c3_2 := Ext.cell hE c3_2
  replace c3_3 := Ext.cell hE c3_3
  replace c10_0 := Ext.cell hE c10_0
  replace c10_1 := Ext.cell hE c10_1
  replace c108_0 := Ext.cell hE c108_0
  replace c108_1 := Ext.cell hE c108_1
  replace c108_2 := Ext.cell hE c108_2
  replace c108_3 := Ext.cell hE c108_3
  replace c112_0 := Ext.cell hE c112_0
  replace c112_1 := Ext.cell hE c112_1
  replace c112_2 := Ext.cell hE c112_2
  replace c112_3 := Ext.cell hE c112_3
  replace c118_0 := Ext.cell hE c118_0
  replace c118_1 := Ext.cell hE c118_1
  replace c123_0 := Ext.cell hE c123_0
  replace c123_1 := Ext.cell hE c123_1
  replace c128_0 := Ext.cell hE c128_0
  replace c128_1 := Ext.cell hE c128_1
  replace c128_2 := Ext.cell hE c128_2
  clear hE
  go_simp
  refine hK _ _ ?_
  clear hK K' gd g3 g8 g14 g19
  refine Wp.keep [10, 15, 16, 18, 20, 22] fun r29 hkeep => ?_
  obtain ⟨e10_29, e15_29, e16_29, e18_29, e20_29, e22_29, -⟩ := hkeep
  simp [go_sem, e4_23, e6_23, e8_23, e10_23, e12_23, e13_23, e15_23, e16_23, e18_23, e20_23, e106_23] at e10_29 e15_29 e16_29 e18_29 e20_29 e22_29
  clear e4_23 e6_23 e8_23 e10_23 e12_23 e13_23 e15_23 e16_23 e18_23 e20_23 e106_23
  refine Wp.seqRegion (.inl rfl) (by kernel_rfl) fun K' gd hK hg => ?_
  have g3 : gd 3 = some 134 := hg 3
  clear hg
  refine Wops.cut 2 fun K1 hK1 => ?_
  simp only [List.take_succ_cons, List.take_zero]
  go_simp
  refine hK1 _ _ ?_
  clear hK1 K1
  simp only [List.drop_succ_cons, List.drop_zero]
  refine Wops.absT fun V132_20 n132 hV132_20 R132 => ?_
  obtain ⟨q132, hV132_20, s132, kV132_20, f132, r132⟩ := hV132_20
  try simp only [q132] at kV132_20 f132 r132 ⊢
  replace R132 := (show RowC _ _ _ _ from R132)
  replace f1 := Ext.fz hV132_20 c1_0 f1
  replace f2 := Ext.fz hV132_20 c2_0 f2
  replace f3 := Ext.fz hV132_20 c3_0 f3
  replace f10 := Ext.fz hV132_20 c10_0 f10
  replace R25 := R25.ext hV132_20
  replace R27 := R27.ext hV132_20
  replace R108 := R108.ext hV132_20
  replace R112 := R112.ext hV132_20
  replace R118 := R118.ext hV132_20
  replace R123 := R123.ext hV132_20
  replace R128 := R128.ext hV132_20
  replace xw := Ext.trans xw hV132_20
  replace xs := Ext.trans xs hV132_20
  replace x4 := Ext.trans x4 hV132_20
  replace x6 := Ext.trans x6 hV132_20
  replace x8 := Ext.trans x8 hV132_20
  replace x12 := Ext.trans x12 hV132_20
  replace x15 := Ext.trans x15 hV132_20
  replace x18 := Ext.trans x18 hV132_20
  replace x20 := Ext.trans x20 hV132_20
  replace c1_0 := Ext.cell hV132_20 c1_0
  replace c1_1 := Ext.cell hV132_20 c1_1
  replace c25_0 := Ext.cell hV132_20 c25_0
  replace c25_1 := Ext.cell hV132_20 c25_1
  replace c25_2 := Ext.cell hV132_20 c25_2
  replace c25_3 := Ext.cell hV132_20 c25_3
  replace c2_0 := Ext.cell hV132_20 c2_0
  replace c2_1 := Ext.cell hV132_20 c2_1
  replace c2_2 := Ext.cell hV132_20 c2_2
  replace c2_3 := Ext.cell hV132_20 c2_3
  replace c27_0 := Ext.cell hV132_20 c27_0
  replace c27_1 := Ext.cell hV132_20 c27_1
  replace c27_2 := Ext.cell hV132_20 c27_2
  replace c27_3 := Ext.cell hV132_20 c27_3
  replace c3_0 := Ext.cell hV132_20 c3_0
  replace c3_1 := Ext.cell hV132_20 c3_1
  replace c3_2 := Ext.cell hV132_20 c3_2
  replace c3_3 := Ext.cell hV132_20 c3_3
  replace c10_0 := Ext.cell hV132_20 c10_0
  replace c10_1 := Ext.cell hV132_20 c10_1
  replace c108_0 := Ext.cell hV132_20 c108_0
  replace c108_1 := Ext.cell hV132_20 c108_1
  replace c108_2 := Ext.cell hV132_20 c108_2
  replace c108_3 := Ext.cell hV132_20 c108_3
  replace c112_0 := Ext.cell hV132_20 c112_0
  replace c112_1 := Ext.cell hV132_20 c112_1
  replace c112_2 := Ext.cell hV132_20 c112_2
  replace c112_3 := Ext.cell hV132_20 c112_3
  replace c118_0 := Ext.cell hV132_20 c118_0
  replace c118_1 := Ext.cell hV132_20 c118_1
  replace c123_0 := Ext.cell hV132_20 c123_0
  replace c123_1 := Ext.cell hV132_20 c123_1
  replace c128_0 := Ext.cell hV132_20 c128_0
  replace c128_1 := Ext.cell hV132_20 c128_1
  replace c128_2 := Ext.cell hV132_20 c128_2
  clear hV132_20 f132
  have c132_0 := kV132_20 0 _ rfl
  have c132_1 := kV132_20 1 _ rfl
  clear kV132_20
  refine Wops.cut 1 fun K1 hK1 => ?_
  simp only [List.take_succ_cons, List.take_zero]
  go_simp
  refine Wcall (.inl rfl) (sameI_T ex_reads.2 _ (hI18.ext x18).intsV (rowC_ints R132 rfl rfl) (by rw [ex_reads.2]; decide)) ?_
  rintro v w16 ⟨rfl, hE⟩
  go_simp
  refine hK1 _ _ ?_
  clear hK1 K1
  simp only [List.drop_succ_cons, List.drop_zero]
  have z30 := Below.size hE
  replace f1 := Ext.fz hE c1_0 f1
  replace f2 := Ext.fz hE c2_0 f2
  replace f3 := Ext.fz hE c3_0 f3
  replace f10 := Ext.fz hE c10_0 f10
  replace R25 := R25.ext hE
  replace R27 := R27.ext hE
  replace R108 := R108.ext hE
  replace R112 := R112.ext hE
  replace R118 := R118.ext hE
  replace R123 := R123.ext hE
  replace R128 := R128.ext hE
  replace R132 := R132.ext hE
  replace xw := Ext.trans xw hE
  replace xs := Ext.trans xs hE
  replace x4 := Ext.trans x4 hE
  replace x6 := Ext.trans x6 hE
  replace x8 := Ext.trans x8 hE
  replace x12 := Ext.trans x12 hE
  replace x15 := Ext.trans x15 hE
  replace x18 := Ext.trans x18 hE
  replace x20 := Ext.trans x20 hE
  replace c1_0 := Ext.cell hE c1_0
  replace c1_1 := Ext.cell hE c1_1
  replace c25_0 := Ext.cell hE c25_0
  replace c25_1 := Ext.cell hE c25_1
  replace c25_2 := Ext.cell hE c25_2
  replace c25_3 := Ext.cell hE c25_3
  replace c2_0 := Ext.cell hE c2_0
  replace c2_1 := Ext.cell hE c2_1
  replace c2_2 := Ext.cell hE c2_2
  replace c2_3 := Ext.cell hE c2_3
  replace c27_0 := Ext.cell hE c27_0
  replace c27_1 := Ext.cell hE c27_1
  replace c27_2 := Ext.cell hE c27_2
  replace c27_3 := Ext.cell hE c27_3
  replace c3_0 := Ext.cell hE c3_0
  replace c3_1 := Ext.cell hE c3_1
  replace c3_2 := Ext.cell hE c3_2
  replace c3_3 := Ext.cell hE c3_3
  replace c10_0 := Ext.cell hE c10_0
  replace c10_1 := Ext.cell hE c10_1
  replace c108_0 := Ext.cell hE c108_0
  replace c108_1 := Ext.cell hE c108_1
  replace c108_2 := Ext.cell hE c108_2
  replace c108_3 := Ext.cell hE c108_3
  replace c112_0 := Ext.cell hE c112_0
  replace c112_1 := Ext.cell hE c112_1
  replace c112_2 := Ext.cell hE c112_2
  replace c112_3 := Ext.cell hE c112_3
  replace c118_0 := Ext.cell hE c118_0
  replace c118_1 := Ext.cell hE c118_1
  replace c123_0 := Ext.cell hE c123_0
  replace c123_1 := Ext.cell hE c123_1
  replace c128_0 := Ext.cell hE c128_0
  replace c128_1 := Ext.cell hE c128_1
  replace c128_2 := Ext.cell hE c128_2
  replace c132_0 := Ext.cell hE c132_0
  replace c132_1 := Ext.cell hE c132_1
  clear hE
  refine Wops.cut 4 fun K1 hK1 => ?_
  simp only [List.take_succ_cons, List.take_zero]
  go_simp
  refine hK1 _ _ ?_
  clear hK1 K1
  simp only [List.drop_succ_cons, List.drop_zero]
  refine Wops.absT fun V137_21 n137 hV137_21 R137 => ?_
  obtain ⟨q137, hV137_21, s137, kV137_21, f137, r137⟩ := hV137_21
  try simp only [q137] at kV137_21 f137 r137 ⊢
  replace R137 := (show RowC _ _ _ _ from R137)
  replace f1 := Ext.fz hV137_21 c1_0 f1
  replace f2 := Ext.fz hV137_21 c2_0 f2
  replace f3 := Ext.fz hV137_21 c3_0 f3
  replace f10 := Ext.fz hV137_21 c10_0 f10
  replace R25 := R25.ext hV137_21
  replace R27 := R27.ext hV137_21
  replace R108 := R108.ext hV137_21
  replace R112 := R112.ext hV137_21
  replace R118 := R118.ext hV137_21
  replace R123 := R123.ext hV137_21
  replace R128 := R128.ext hV137_21
  replace R132 := R132.ext hV137_21
  replace xw := Ext.trans xw hV137_21
  replace xs := Ext.trans xs hV137_21
  replace x4 := Ext.trans x4 hV137_21
  replace x6 := Ext.trans x6 hV137_21
  replace x8 := Ext.trans x8 hV137_21
  replace x12 := Ext.trans x12 hV137_21
  replace x15 := Ext.trans x15 hV137_21
  replace x18 := Ext.trans x18 hV137_21
  replace x20 := Ext.trans x20 hV137_21
  replace c1_0 := Ext.cell hV137_21 c1_0
  replace c1_1 := Ext.cell hV137_21 c1_1
  replace c25_0 := Ext.cell hV137_21 c25_0
  replace c25_1 := Ext.cell hV137_21 c25_1
  replace c25_2 := Ext.cell hV137_21 c25_2
  replace c25_3 := Ext.cell hV137_21 c25_3
  replace c2_0 := Ext.cell hV137_21 c2_0
  replace c2_1 := Ext.cell hV137_21 c2_1
  replace c2_2 := Ext.cell hV137_21 c2_2
  replace c2_3 := Ext.cell hV137_21 c2_3
  replace c27_0 := Ext.cell hV137_21 c27_0
  replace c27_1 := Ext.cell hV137_21 c27_1
  replace c27_2 := Ext.cell hV137_21 c27_2
  replace c27_3 := Ext.cell hV137_21 c27_3
  replace c3_0 := Ext.cell hV137_21 c3_0
  replace c3_1 := Ext.cell hV137_21 c3_1
  replace c3_2 := Ext.cell hV137_21 c3_2
  replace c3_3 := Ext.cell hV137_21 c3_3
  replace c10_0 := Ext.cell hV137_21 c10_0
  replace c10_1 := Ext.cell hV137_21 c10_1
  replace c108_0 := Ext.cell hV137_21 c108_0
  replace c108_1 := Ext.cell hV137_21 c108_1
  replace c108_2 := Ext.cell hV137_21 c108_2
  replace c108_3 := Ext.cell hV137_21 c108_3
  replace c112_0 := Ext.cell hV137_21 c112_0
  replace c112_1 := Ext.cell hV137_21 c112_1
  replace c112_2 := Ext.cell hV137_21 c112_2
  replace c112_3 := Ext.cell hV137_21 c112_3
  replace c118_0 := Ext.cell hV137_21 c118_0
  replace c118_1 := Ext.cell hV137_21 c118_1
  replace c123_0 := Ext.cell hV137_21 c123_0
  replace c123_1 := Ext.cell hV137_21 c123_1
  replace c128_0 := Ext.cell hV137_21 c128_0
  replace c128_1 := Ext.cell hV137_21 c128_1
  replace c128_2 := Ext.cell hV137_21 c128_2
  replace c132_0 := Ext.cell hV137_21 c132_0
  replace c132_1 := Ext.cell hV137_21 c132_1
  clear hV137_21 f137
  have c137_0 := kV137_21 0 _ rfl
  have c137_1 := kV137_21 1 _ rfl
  clear kV137_21
  refine Wops.cut 1 fun K1 hK1 => ?_
  simp only [List.take_succ_cons, List.take_zero]
  go_simp
  refine Wcall (.inl rfl) (sameZ_T ex_when.2 _ (hZ20.ext x20).spans (rowC_spans R137 rfl rfl) (by rw [ex_when.2]; decide)) ?_
  rintro v w17 ⟨rfl, hE⟩
  go_simp
  refine hK1 _ _ ?_
  clear hK1 K1
  simp only [List.drop_succ_cons, List.drop_zero]
  have z31 := Below.size hE
  replace f1 := Ext.fz hE c1_0 f1
  replace f2 := Ext.fz hE c2_0 f2
  replace f3 := Ext.fz hE c3_0 f3
  replace f10 := Ext.fz hE c10_0 f10
  replace R25 := R25.ext hE
  replace R27 := R27.ext hE
  replace R108 := R108.ext hE
  replace R112 := R112.ext hE
  replace R118 := R118.ext hE
  replace R123 := R123.ext hE
  replace R128 := R128.ext hE
  replace R132 := R132.ext hE
  replace R137 := R137.ext hE
  replace xw := Ext.trans xw hE
  replace xs := Ext.trans xs hE
  replace x4 := Ext.trans x4 hE
  replace x6 := Ext.trans x6 hE
  replace x8 := Ext.trans x8 hE
  replace x12 := Ext.trans x12 hE
  replace x15 := Ext.trans x15 hE
  replace x18 := Ext.trans x18 hE
  replace x20 := Ext.trans x20 hE
  replace c1_0 := Ext.cell hE c1_0
  replace c1_1 := Ext.cell hE c1_1
  replace c25_0 := Ext.cell hE c25_0
  replace c25_1 := Ext.cell hE c25_1
  replace c25_2 := Ext.cell hE c25_2
  replace c25_3 := Ext.cell hE c25_3
  replace c2_0 := Ext.cell hE c2_0
  replace c2_1 := Ext.cell hE c2_1
  replace c2_2 := Ext.cell hE c2_2
  replace c2_3 := Ext.cell hE c2_3
  replace c27_0 := Ext.cell hE c27_0
  replace c27_1 := Ext.cell hE c27_1
  replace c27_2 := Ext.cell hE c27_2
  replace c27_3 := Ext.cell hE c27_3
  replace c3_0 := Ext.cell hE c3_0
  replace c3_1 := Ext.cell hE c3_1
  replace c3_2 := Ext.cell hE c3_2
  replace c3_3 := Ext.cell hE c3_3
  replace c10_0 := Ext.cell hE c10_0
  replace c10_1 := Ext.cell hE c10_1
  replace c108_0 := Ext.cell hE c108_0
  replace c108_1 := Ext.cell hE c108_1
  replace c108_2 := Ext.cell hE c108_2
  replace c108_3 := Ext.cell hE c108_3
  replace c112_0 := Ext.cell hE c112_0
  replace c112_1 := Ext.cell hE c112_1
  replace c112_2 := Ext.cell hE c112_2
  replace c112_3 := Ext.cell hE c112_3
  replace c118_0 := Ext.cell hE c118_0
  replace c118_1 := Ext.cell hE c118_1
  replace c123_0 := Ext.cell hE c123_0
  replace c123_1 := Ext.cell hE c123_1
  replace c128_0 := Ext.cell hE c128_0
  replace c128_1 := Ext.cell hE c128_1
  replace c128_2 := Ext.cell hE c128_2
  replace c132_0 := Ext.cell hE c132_0
  replace c132_1 := Ext.cell hE c132_1
  replace c137_0 := Ext.cell hE c137_0
  replace c137_1 := Ext.cell hE c137_1
  clear hE
  go_simp
  refine hK _ _ ?_
  clear hK K' gd g3
  refine Wp.keep [10, 15, 16, 22, 23] fun r32 hkeep => ?_
  obtain ⟨e10_32, e15_32, e16_32, e22_32, e23_32, -⟩ := hkeep
  simp [go_sem, e10_29, e15_29, e16_29, e18_29, e20_29, e22_29] at e10_32 e15_32 e16_32 e22_32 e23_32
  clear e10_29 e15_29 e16_29 e18_29 e20_29 e22_29
  refine Wp.seqRegion (.inl rfl) (by kernel_rfl) fun K' gd hK hg => ?_
  have g1 : gd 1 = some 141 := hg 1
  have g4 : gd 4 = some 144 := hg 4
  have g9 : gd 9 = some 149 := hg 9
  have g12 : gd 12 = some 152 := hg 12
  clear hg
  go_simp
  refine hK _ _ ?_
  clear hK K' gd g1 g4 g9 g12
  refine Wp.keep [0] fun r33 hkeep => ?_
  obtain ⟨e0_33, -⟩ := hkeep
  simp [go_sem, e10_32, e15_32, e16_32, e22_32, e23_32] at e0_33
  clear e10_32 e15_32 e16_32 e22_32 e23_32
  refine Wp.ret ?_
  refine endK_tmp Try.results22 (by decide) ?_
  rw [e0_33]
  exact ⟨by first | rfl | go_simp, xw⟩
end Go.Proofs.Ytnjajbkkgfohaaa
namespace Go.Proofs.Ytnjajbkkgfohaaa
open Go.RowKit Go.Wk Go.Proofs

theorem list_six {α : Type} {l : List α} (h : l.length = 6) : ∃ a b c d e f, l = [a, b, c, d, e, f] := by
  match l, h with
  | [a, b, c, d, e, f], _ => exact ⟨a, b, c, d, e, f, rfl⟩
theorem list_four {α : Type} {l : List α} (h : l.length = 4) : ∃ a b c d, l = [a, b, c, d] := by
  match l, h with
  | [a, b, c, d], _ => exact ⟨a, b, c, d, rfl⟩
theorem list_two {α : Type} {l : List α} (h : l.length = 2) : ∃ a b, l = [a, b] := by
  match l, h with
  | [a, b], _ => exact ⟨a, b, rfl⟩
theorem openI {w : World} {v : Value} (h : Rd Try.prog w 22 [v]) : ∃ xs, IntsV w w.heap.size v xs ∧ xs.length ≤ farI := by
  have e1 : Try.prog.cellsOf 3 = 1 := by kernel_rfl
  have e2 : Try.prog.bytesOf 3 = 8 := by kernel_rfl
  obtain ⟨A, n, c, rfl, hn, hc, hx⟩ := h.list Try.underlying22 (by rw [e1]; decide) (by rw [e2]; decide)
  rw [e1] at hx
  clear e1 e2
  obtain ⟨f, hf⟩ := Go.Deep.choose_lt (α := Int) (p := fun i z => ∃ b o, A = some ⟨b, o, none⟩ ∧ b < w.heap.size ∧ w.cell? ⟨b, o + i, none⟩ = some (.int .i64 z)) fun i hi => by
    obtain ⟨b, o, cs, h1, h2, h3, h4, h5⟩ := hx i hi
    obtain ⟨z, rfl, -⟩ := h5.int Try.underlying3
    exact ⟨z, b, o, h1, h2, by have := h4 0 (by decide); simpa using this⟩
  have hl : ((List.range n).map f).length = n := by simp
  refine ⟨(List.range n).map f, ⟨A, c, by rw [hl], fun hne => ?_, by rw [hl]; exact hn⟩, by rw [hl]; omega⟩
  have h0 : 0 < n := by
    rcases Nat.eq_zero_or_pos n with e | e
    · subst e; exact absurd rfl hne
    · exact e
  obtain ⟨b, o, h1, h2, -⟩ := hf 0 h0
  refine ⟨b, o, h1, h2, fun k hk => ?_⟩
  rw [hl] at hk
  obtain ⟨b', o', h1', h2', h3'⟩ := hf k hk
  rw [h1] at h1'
  injection h1' with h1'
  injection h1' with hb ho
  subst hb; subst ho
  simpa using h3'
theorem openAl {w : World} {cs : List Value} (h : Rd Try.prog w 51 cs) : ∃ a : Alt, cs = encA a := by
  have e1 : Try.prog.cellsOf 51 = 6 := by kernel_rfl
  have e3 : Try.prog.cellsOf 3 = 1 := by kernel_rfl
  obtain ⟨hl, hs⟩ := h.struct Try.underlying51
  have s0 : Rd Try.prog w 3 ((cs.drop 0).take (Try.prog.cellsOf 3)) := hs 0 _ rfl
  have s1 : Rd Try.prog w 3 ((cs.drop 1).take (Try.prog.cellsOf 3)) := hs 1 _ rfl
  have s2 : Rd Try.prog w 3 ((cs.drop 2).take (Try.prog.cellsOf 3)) := hs 2 _ rfl
  have s3 : Rd Try.prog w 3 ((cs.drop 3).take (Try.prog.cellsOf 3)) := hs 3 _ rfl
  have s4 : Rd Try.prog w 3 ((cs.drop 4).take (Try.prog.cellsOf 3)) := hs 4 _ rfl
  have s5 : Rd Try.prog w 3 ((cs.drop 5).take (Try.prog.cellsOf 3)) := hs 5 _ rfl
  rw [e1] at hl
  rw [e3] at s0 s1 s2 s3 s4 s5
  obtain ⟨c0, c1, c2, c3, c4, c5, rfl⟩ := list_six hl
  obtain ⟨z0, q0, -⟩ := s0.int Try.underlying3
  obtain ⟨z1, q1, -⟩ := s1.int Try.underlying3
  obtain ⟨z2, q2, -⟩ := s2.int Try.underlying3
  obtain ⟨z3, q3, -⟩ := s3.int Try.underlying3
  obtain ⟨z4, q4, -⟩ := s4.int Try.underlying3
  obtain ⟨z5, q5, -⟩ := s5.int Try.underlying3
  simp only [List.drop_zero, List.take_succ_cons, List.take_zero, List.drop_succ_cons, List.cons.injEq, and_true] at q0 q1 q2 q3 q4 q5
  subst q0; subst q1; subst q2; subst q3; subst q4; subst q5
  exact ⟨⟨z0, z1, z2, z3, z4, z5⟩, rfl⟩
theorem openAs {w : World} {v : Value} (h : Rd Try.prog w 23 [v]) : ∃ al, AltsV w w.heap.size v al ∧ al.length ≤ farI := by
  have e1 : Try.prog.cellsOf 51 = 6 := by kernel_rfl
  have e2 : Try.prog.bytesOf 51 = 48 := by kernel_rfl
  obtain ⟨A, n, c, rfl, hn, hc, hx⟩ := h.list Try.underlying23 (by rw [e1]; decide) (by rw [e2]; decide)
  rw [e1] at hx
  clear e1 e2
  obtain ⟨f, hf⟩ := Go.Deep.choose_lt (α := Alt) (p := fun i z => ∃ b o, A = some ⟨b, o, none⟩ ∧ b < w.heap.size ∧ ∀ r u, (encA z)[r]? = some u → w.cell? ⟨b, o + i * 6 + r, none⟩ = some u) fun i hi => by
    obtain ⟨b, o, cs, h1, h2, h3, h4, h5⟩ := hx i hi
    obtain ⟨a, rfl⟩ := openAl h5
    exact ⟨a, b, o, h1, h2, fun r u hu => by
      have hr : r < 6 := (List.getElem?_eq_some_iff.1 hu).1
      rw [h4 r hr]; exact hu⟩
  have hl : ((List.range n).map f).length = n := by simp
  refine ⟨(List.range n).map f, ⟨A, c, by rw [hl], fun hne => ?_, by rw [hl]; exact hn⟩, by rw [hl]; omega⟩
  have h0 : 0 < n := by
    rcases Nat.eq_zero_or_pos n with e | e
    · subst e; exact absurd rfl hne
    · exact e
  obtain ⟨b, o, h1, h2, -⟩ := hf 0 h0
  refine ⟨b, o, h1, h2, fun k hk r u hu => ?_⟩
  rw [hl] at hk
  obtain ⟨b', o', h1', h2', h3'⟩ := hf k hk
  rw [h1] at h1'
  injection h1' with h1'
  injection h1' with hb ho
  subst hb; subst ho
  exact h3' r u (by simpa using hu)
theorem openSh {w : World} {v : Value} (hv : ∃ cs, v = .agg cs) (h : Rd Try.prog w 25 v.cells.toList) : ∃ s, SheetV w w.heap.size v s ∧ FitS s := by
  obtain ⟨cs, rfl⟩ := hv
  have e1 : Try.prog.cellsOf 25 = 2 := by kernel_rfl
  have e4 : Try.prog.cellsOf 22 = 1 := by kernel_rfl
  have e5 : Try.prog.cellsOf 23 = 1 := by kernel_rfl
  obtain ⟨hl, hs⟩ := h.struct Try.underlying25
  have s0 : Rd Try.prog w 22 (((Value.agg cs).cells.toList.drop 0).take (Try.prog.cellsOf 22)) := hs 0 _ rfl
  have s1 : Rd Try.prog w 23 (((Value.agg cs).cells.toList.drop 1).take (Try.prog.cellsOf 23)) := hs 1 _ rfl
  rw [e1] at hl
  simp only [Value.cells] at hl s0 s1
  rw [e4] at s0
  rw [e5] at s1
  clear e1 e4 e5
  obtain ⟨l⟩ := cs
  obtain ⟨c0, c1, rfl⟩ := list_two hl
  obtain ⟨xs, hx, hxl⟩ := openI s0
  obtain ⟨al, ha, hal⟩ := openAs s1
  exact ⟨⟨xs, al⟩, ⟨c0, c1, rfl, hx, ha⟩, by unfold farI at hxl hal; exact ⟨hxl, hal⟩⟩
theorem openCp {w : World} {v : Value} (hv : ∃ cs, v = .agg cs) (h : Rd Try.prog w 27 v.cells.toList) : ∃ c, CopyV w w.heap.size v c ∧ FitC c := by
  obtain ⟨cs, rfl⟩ := hv
  have e1 : Try.prog.cellsOf 27 = 4 := by kernel_rfl
  have e3 : Try.prog.cellsOf 3 = 1 := by kernel_rfl
  have e4 : Try.prog.cellsOf 22 = 1 := by kernel_rfl
  obtain ⟨hl, hs⟩ := h.struct Try.underlying27
  have s0 : Rd Try.prog w 22 (((Value.agg cs).cells.toList.drop 0).take (Try.prog.cellsOf 22)) := hs 0 _ rfl
  have s1 : Rd Try.prog w 3 (((Value.agg cs).cells.toList.drop 1).take (Try.prog.cellsOf 3)) := hs 1 _ rfl
  have s2 : Rd Try.prog w 3 (((Value.agg cs).cells.toList.drop 2).take (Try.prog.cellsOf 3)) := hs 2 _ rfl
  have s3 : Rd Try.prog w 3 (((Value.agg cs).cells.toList.drop 3).take (Try.prog.cellsOf 3)) := hs 3 _ rfl
  rw [e1] at hl
  simp only [Value.cells] at hl s0 s1 s2 s3
  rw [e4] at s0
  rw [e3] at s1 s2 s3
  clear e1 e3 e4
  obtain ⟨l⟩ := cs
  obtain ⟨c0, c1, c2, c3, rfl⟩ := list_four hl
  obtain ⟨xs, hx, hxl⟩ := openI s0
  obtain ⟨z1, q1, -⟩ := s1.int Try.underlying3
  obtain ⟨z2, q2, -⟩ := s2.int Try.underlying3
  obtain ⟨z3, q3, -⟩ := s3.int Try.underlying3
  simp only [List.drop_zero, List.take_succ_cons, List.take_zero, List.drop_succ_cons, List.cons.injEq, and_true] at q1 q2 q3
  subst q1; subst q2; subst q3
  exact ⟨⟨xs, z1, z2, z3⟩, ⟨c0, rfl, hx⟩, by unfold farI at hxl; exact hxl⟩
end Go.Proofs.Ytnjajbkkgfohaaa
