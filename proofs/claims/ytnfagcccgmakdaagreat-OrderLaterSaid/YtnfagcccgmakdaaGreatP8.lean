/- The specification's Check; few. few; the specification's Hold. The specification's Hold. The specification's latest. The specification's end, Times, End. -/
import Derived.Test.YtnfagcccgmakdaaGreatP7
import Derived.Test.YtnfagcccgmakdaaGreatP6
set_option linter.all false
namespace Go.Proofs.YtnfagcccgmakdaaGreat
open Go.RowKit Go.Wk Go.Proofs
attribute [local irreducible] Go.Wk.Wops Go.Wk.Wp Go.Wk.Mtree Go.Wk.Mops
set_option maxHeartbeats 4000000
theorem RunsV.at {w : World} {B n c : Nat} {A : Option Addr} {rs : List Run} (h : RunsV w B (.slice A n c) rs) {k : Nat} (hk : k < rs.length) : ∃ b o A2 c2, A = some ⟨b, o, none⟩ ∧ w.cell? ⟨b, o + k * 3, none⟩ = some (.int .i64 rs[k].id) ∧ w.cell? ⟨b, o + k * 3 + 1, none⟩ = some (.int .i64 rs[k].arr) ∧
    w.cell? ⟨b, o + k * 3 + 2, none⟩ = some (.slice A2 rs[k].takes.length c2) ∧ IntsV w B (.slice A2 rs[k].takes.length c2) rs[k].takes := by
  obtain ⟨A', c', tv, hv, hx, ht, -⟩ := h
  injection hv with h1 h2 h3
  subst h1
  obtain ⟨b, o, rfl, -, hc⟩ := hx (by intro e; rw [e] at hk; exact absurd hk (Nat.not_lt_zero _))
  obtain ⟨A2, c2, e2⟩ := (ht k hk).slice
  have h3 := (hc k hk).2.2
  have h4 := ht k hk
  rw [e2] at h3 h4
  exact ⟨b, o, A2, c2, rfl, (hc k hk).1, (hc k hk).2.1, h3, h4⟩
theorem withinR_T {n lo hi : Int} (h : lo ≤ n ∧ n ≤ hi) (w : World) : CallsV Tryz.prog 91 #[.int .i64 n, .int .i64 lo, .int .i64 hi] w fun v w' => v = .bool true ∧ Ext w w' :=
  (withinR_c n lo hi w).mono fun _ _ ⟨h1, h2⟩ => by rw [decide_eq_true h] at h1; exact ⟨h1, h2⟩
theorem withinR_F {n lo hi : Int} (h : ¬ (lo ≤ n ∧ n ≤ hi)) (w : World) : CallsV Tryz.prog 91 #[.int .i64 n, .int .i64 lo, .int .i64 hi] w fun v w' => v = .bool false ∧ Ext w w' :=
  (withinR_c n lo hi w).mono fun _ _ ⟨h1, h2⟩ => by rw [decide_eq_false h] at h1; exact ⟨h1, h2⟩
theorem any_take {p : Int → Bool} {l : List Int} {k : Nat} (h : k < l.length) (h0 : (l.take k).any p = false) (h1 : p l[k] = false) : (l.take (k + 1)).any p = false := by
  rw [List.take_add_one, List.getElem?_eq_getElem h, List.any_append, h0]; simp [h1]
theorem any_hit {p : Int → Bool} {l : List Int} {k : Nat} (h : k < l.length) (h1 : p l[k] = true) : l.any p = true := List.any_eq_true.2 ⟨_, List.getElem_mem h, h1⟩
theorem refCheck_c (v : Value) (o : Ord) (w : World) (hV : OrderV w w.heap.size v o) (hf : Fits o) :
    CallsV Tryz.prog 25 #[v] w fun v w' => v = .int .i64 (checkS o) ∧ Ext w w' := by
  obtain ⟨cv, rv, rfl, hc, hr⟩ := id hV
  obtain ⟨cA, cc, rfl, -⟩ := id hc
  obtain ⟨rA, rc, -, rfl, -⟩ := id hr
  obtain ⟨hf1, hf2, hf3⟩ : Fits o := hf
  have hm : o.cop.length ≤ farI := by unfold farI; exact hf1
  have hn : o.runs.length ≤ farI := by unfold farI; exact hf2
  have hk3 : ∀ k (h : k < o.runs.length), o.runs[k].takes.length ≤ farI := fun k h => by unfold farI; exact hf3 k h
  clear hf1 hf2 hf3
  refine Wp.fn Tryz.func25 rfl Tryz.ntmps25 (by simp) ?_
  refine Wp.keep [0] fun r1 hkeep => ?_
  obtain ⟨e0_1, -⟩ := hkeep
  simp [go_sem] at e0_1
  refine Wp.seqRegion (.inl rfl) (by kernel_rfl) fun K' gd hK hg => ?_
  clear hg
  go_simp
  refine hK _ _ ?_
  clear hK K' gd
  refine Wp.keep [1] fun r2 hkeep => ?_
  obtain ⟨e1_2, -⟩ := hkeep
  simp [go_sem, e0_1] at e1_2
  clear e0_1
  refine Wp.seq ?_
  refine Wp.seqRegion (.inl rfl) (by kernel_rfl) fun K' gd hK hg => ?_
  clear hg
  go_simp
  refine hK _ _ ?_
  clear hK K' gd
  refine Wp.keep [1, 15] fun r3 hkeep => ?_
  obtain ⟨e1_3, e15_3, -⟩ := hkeep
  simp [go_sem, e1_2] at e1_3 e15_3
  clear e1_2
  by_cases g0 : o.cop.length = 0
  · refine Wp.condT (by go_simp) ?_
    refine Wp.seqRegion (.inl rfl) (by kernel_rfl) fun K' gd hK hg => ?_
    clear hg
    go_simp
    refine hK _ _ ?_
    clear hK K' gd
    refine Wp.keep [2] fun r4 hkeep => ?_
    obtain ⟨e2_4, -⟩ := hkeep
    simp [go_sem, e1_3, e15_3] at e2_4
    clear e1_3 e15_3
    refine Wp.ret ?_
    refine thenK_ret ?_
    refine endK_tmp Tryz.results25 (by decide) ?_
    rw [e2_4]
    exact ⟨by rw [checkS, if_pos g0], (by repeat (first | assumption | exact Ext.refl _ | refine Ext.drew ?_ | refine Ext.alloc ?_ _ | refine Ext.trans ?_ (by assumption)))⟩
  · refine Wp.condF (by go_simp) ?_
    by_cases g1 : (15 : Int) < (o.cop.length : Int)
    · skip
      refine Wp.skip ?_
      refine thenK_normal ?_
      refine Wp.seq ?_
      refine Wp.seqRegion (.inl rfl) (by kernel_rfl) fun K' gd hK hg => ?_
      have g4 : gd 4 = some 20 := hg 4
      clear hg
      go_simp
      refine hK _ _ ?_
      clear hK K' gd g4
      refine Wp.keep [1, 25] fun r5 hkeep => ?_
      obtain ⟨e1_5, e25_5, -⟩ := hkeep
      simp [go_sem, e1_3, e15_3] at e1_5 e25_5
      clear e1_3 e15_3
      refine Wp.condT (by go_simp) ?_
      refine Wp.seqRegion (.inl rfl) (by kernel_rfl) fun K' gd hK hg => ?_
      clear hg
      go_simp
      refine hK _ _ ?_
      clear hK K' gd
      refine Wp.keep [2] fun r6 hkeep => ?_
      obtain ⟨e2_6, -⟩ := hkeep
      simp [go_sem, e1_5, e25_5] at e2_6
      clear e1_5 e25_5
      refine Wp.ret ?_
      refine thenK_ret ?_
      refine endK_tmp Tryz.results25 (by decide) ?_
      rw [e2_6]
      exact ⟨by rw [checkS, if_neg g0, if_pos (by omega)], (by repeat (first | assumption | exact Ext.refl _ | refine Ext.drew ?_ | refine Ext.alloc ?_ _ | refine Ext.trans ?_ (by assumption)))⟩
    · skip
      by_cases g2 : (20 : Int) < (o.runs.length : Int)
      · skip
        refine Wp.skip ?_
        refine thenK_normal ?_
        refine Wp.seq ?_
        refine Wp.seqRegion (.inl rfl) (by kernel_rfl) fun K' gd hK hg => ?_
        have g4 : gd 4 = some 20 := hg 4
        clear hg
        go_simp
        refine hK _ _ ?_
        clear hK K' gd g4
        refine Wp.keep [1, 25] fun r7 hkeep => ?_
        obtain ⟨e1_7, e25_7, -⟩ := hkeep
        simp [go_sem, e1_3, e15_3] at e1_7 e25_7
        clear e1_3 e15_3
        refine Wp.condT (by go_simp) ?_
        refine Wp.seqRegion (.inl rfl) (by kernel_rfl) fun K' gd hK hg => ?_
        clear hg
        go_simp
        refine hK _ _ ?_
        clear hK K' gd
        refine Wp.keep [2] fun r8 hkeep => ?_
        obtain ⟨e2_8, -⟩ := hkeep
        simp [go_sem, e1_7, e25_7] at e2_8
        clear e1_7 e25_7
        refine Wp.ret ?_
        refine thenK_ret ?_
        refine endK_tmp Tryz.results25 (by decide) ?_
        rw [e2_8]
        exact ⟨by rw [checkS, if_neg g0, if_neg (by omega), if_pos (by omega)], (by repeat (first | assumption | exact Ext.refl _ | refine Ext.drew ?_ | refine Ext.alloc ?_ _ | refine Ext.trans ?_ (by assumption)))⟩
      · skip
        refine Wp.skip ?_
        refine thenK_normal ?_
        refine Wp.seq ?_
        refine Wp.seqRegion (.inl rfl) (by kernel_rfl) fun K' gd hK hg => ?_
        have g4 : gd 4 = some 20 := hg 4
        clear hg
        go_simp
        refine hK _ _ ?_
        clear hK K' gd g4
        refine Wp.keep [1, 25] fun r9 hkeep => ?_
        obtain ⟨e1_9, e25_9, -⟩ := hkeep
        simp [go_sem, e1_3, e15_3] at e1_9 e25_9
        clear e1_3 e15_3
        refine Wp.condF (by go_simp) ?_
        have hS0 : checkS o = if o.cop.any bad20 = true then 1 else checkRuns o.cop.length [] o.runs := by rw [checkS, if_neg g0, if_neg (by omega), if_neg (by omega)]
        have hS : ∃ _u : Unit, checkS o = if o.cop.any bad20 = true then 1 else checkRuns o.cop.length [] o.runs := ⟨(), hS0⟩
        clear hS0 hm hn hk3
        have hm : o.cop.length ≤ 15 := by omega
        have hn : o.runs.length ≤ 20 := by omega
        clear g0 g1 g2
        refine Wp.skip ?_
        refine thenK_normal ?_
        refine Wp.seq ?_
        refine Wp.seqRegion (.inl rfl) (by kernel_rfl) fun K' gd hK hg => ?_
        clear hg
        go_simp
        refine hK _ _ ?_
        clear hK K' gd
        refine Wp.keep [1, 3] fun r10 hkeep => ?_
        obtain ⟨e1_10, e3_10, -⟩ := hkeep
        simp [go_sem, e1_9, e25_9] at e1_10 e3_10
        clear e1_9 e25_9
        refine Wp.block ?_
        refine Wp.loop (fun j ρ ds wj => AllEq [1] ρ r10 ∧ ds = [] ∧ (ρ 3 = .int .i64 (j : Int) ∧ Ext w wj ∧ wj.cell? ⟨w.heap.size, 0, none⟩ = some (.slice cA o.cop.length cc) ∧ wj.cell? ⟨w.heap.size, 1, none⟩ = some (.slice rA o.runs.length rc) ∧ (o.cop.take j).any bad20 = false)) (o.cop.length) ?_ ?_
        · refine ⟨AllEq.refl _ _, rfl, ?_⟩
          exact ⟨by rw [e3_10]; rfl, (by repeat (first | assumption | exact Ext.refl _ | refine Ext.drew ?_ | refine Ext.alloc ?_ _ | refine Ext.trans ?_ (by assumption))), by go_simp, by go_simp, rfl⟩
        · rintro j r11 _ wj hj ⟨hA, rfl, ⟨e3, hEj, x0, x1, hj0⟩⟩
          obtain ⟨e1_11, -⟩ := hA
          rw [e1_10] at e1_11
          refine Wp.seq ?_
          refine Wp.seqRegion (.inl rfl) (by kernel_rfl) fun K' gd hK hg => ?_
          clear hg
          go_simp
          refine hK _ _ ?_
          clear hK K' gd
          refine Wp.keep [1, 3, 30] fun r12 hkeep => ?_
          obtain ⟨e1_12, e3_12, e30_12, -⟩ := hkeep
          simp [go_sem, e1_11, e3] at e1_12 e3_12 e30_12
          clear e1_11 e3
          by_cases h : j < o.cop.length
          · refine Wp.condT (by go_simp) ?_
            obtain ⟨b, ob, rfl, d0⟩ := hc.at h
            have d0 := hEj.cell d0
            obtain ⟨x, hx⟩ : ∃ x, o.cop[j] = x := ⟨_, rfl⟩
            rw [hx] at d0
            have b3 : (j : Int) < (o.cop.length : Int) := by omega
            by_cases hb : 1 ≤ x ∧ x ≤ 20
            · skip
              refine Wp.skip ?_
              refine thenK_normal ?_
              refine Wp.seq ?_
              refine Wp.block ?_
              refine Wp.seqRegion (.inl rfl) (by kernel_rfl) fun K' gd hK hg => ?_
              clear hg
              go_simp
              refine Wcall (.inl rfl) (withinR_T hb _) ?_
              rintro v w2 ⟨rfl, hE2⟩
              go_simp
              refine hK _ _ ?_
              clear hK K' gd
              refine Wp.keep [1, 3, 4] fun r13 hkeep => ?_
              obtain ⟨e1_13, e3_13, e4_13, -⟩ := hkeep
              simp [go_sem, e1_12, e3_12, e30_12] at e1_13 e3_13 e4_13
              clear e1_12 e3_12 e30_12
              refine Wp.seqRegion (.inl rfl) (by kernel_rfl) fun K' gd hK hg => ?_
              clear hg
              go_simp
              refine hK _ _ ?_
              clear hK K' gd
              refine Wp.keep [1, 3, 40] fun r14 hkeep => ?_
              obtain ⟨e1_14, e3_14, e40_14, -⟩ := hkeep
              simp [go_sem, e1_13, e3_13, e4_13] at e1_14 e3_14 e40_14
              clear e1_13 e3_13 e4_13
              refine Wp.condF (by go_simp) ?_
              refine Wp.skip ?_
              refine blockK_normal ?_
              refine thenK_normal ?_
              refine Wp.loneRegion (.inl rfl) (by kernel_rfl) fun K' gd hK hg => ?_
              clear hg
              go_simp
              refine hK _ _ ?_
              clear hK K' gd
              refine Ends.keep [1, 3] fun r15 hkeep => ?_
              obtain ⟨e1_15, e3_15, -⟩ := hkeep
              simp [go_sem, e1_14, e3_14, e40_14] at e1_15 e3_15
              clear e1_14 e3_14 e40_14
              refine Ends.mk ?_
              refine thenK_normal ⟨by omega, ⟨by rw [e1_15, e1_10], trivial⟩, rfl, ?_⟩
              exact ⟨by rw [e3_15, IntWalk.i64_in _ (by omega)]; rfl, (by repeat (first | assumption | exact Ext.refl _ | refine Ext.drew ?_ | refine Ext.alloc ?_ _ | refine Ext.trans ?_ (by assumption))), hE2.cell x0, hE2.cell x1, any_take h hj0 (by rw [hx]; unfold bad20; rw [decide_eq_true hb]; rfl)⟩
            · skip
              refine Wp.skip ?_
              refine thenK_normal ?_
              refine Wp.seq ?_
              refine Wp.block ?_
              refine Wp.seqRegion (.inl rfl) (by kernel_rfl) fun K' gd hK hg => ?_
              clear hg
              go_simp
              refine Wcall (.inl rfl) (withinR_F hb _) ?_
              rintro v w2 ⟨rfl, hE2⟩
              go_simp
              refine hK _ _ ?_
              clear hK K' gd
              refine Wp.keep [1, 3, 4] fun r16 hkeep => ?_
              obtain ⟨e1_16, e3_16, e4_16, -⟩ := hkeep
              simp [go_sem, e1_12, e3_12, e30_12] at e1_16 e3_16 e4_16
              clear e1_12 e3_12 e30_12
              refine Wp.seqRegion (.inl rfl) (by kernel_rfl) fun K' gd hK hg => ?_
              clear hg
              go_simp
              refine hK _ _ ?_
              clear hK K' gd
              refine Wp.keep [1, 3, 40] fun r17 hkeep => ?_
              obtain ⟨e1_17, e3_17, e40_17, -⟩ := hkeep
              simp [go_sem, e1_16, e3_16, e4_16] at e1_17 e3_17 e40_17
              clear e1_16 e3_16 e4_16
              refine Wp.condT (by go_simp) ?_
              refine Wp.seqRegion (.inl rfl) (by kernel_rfl) fun K' gd hK hg => ?_
              clear hg
              go_simp
              refine hK _ _ ?_
              clear hK K' gd
              refine Wp.keep [2] fun r18 hkeep => ?_
              obtain ⟨e2_18, -⟩ := hkeep
              simp [go_sem, e1_17, e3_17, e40_17] at e2_18
              clear e1_17 e3_17 e40_17
              refine Wp.ret ?_
              refine blockK_ret ?_
              refine thenK_ret ?_
              refine thenK_ret ?_
              refine blockK_ret ?_
              refine thenK_ret ?_
              refine endK_tmp Tryz.results25 (by decide) ?_
              rw [e2_18]
              obtain ⟨-, hS⟩ := hS
              exact ⟨by rw [hS, if_pos (any_hit h (by rw [hx]; unfold bad20; rw [decide_eq_false hb]; rfl))], (by repeat (first | assumption | exact Ext.refl _ | refine Ext.drew ?_ | refine Ext.alloc ?_ _ | refine Ext.trans ?_ (by assumption)))⟩
          · refine Wp.condF (by go_simp) ?_
            obtain rfl : j = o.cop.length := by omega
            rw [List.take_length] at hj0
            have hS2 : ∃ _u : Unit, checkS o = checkRuns o.cop.length [] o.runs := by obtain ⟨-, hS⟩ := hS; exact ⟨(), by rw [hS, if_neg (by rw [hj0]; decide)]⟩
            clear hS hj0
            refine Wp.exit ?_
            refine thenK_exit ?_
            refine thenK_exit ?_
            refine blockK_here ?_
            refine thenK_normal ?_
            refine Wp.seq ?_
            refine Wp.seqRegion (.inl rfl) (by kernel_rfl) fun K' gd hK hg => ?_
            clear hg
            go_simp
            refine hK _ _ ?_
            clear hK K' gd
            refine Wp.keep [1, 5] fun r19 hkeep => ?_
            obtain ⟨e1_19, e5_19, -⟩ := hkeep
            simp [go_sem, e1_12, e3_12, e30_12] at e1_19 e5_19
            clear e1_12 e3_12 e30_12
            refine Wp.block ?_
            refine Wp.loop (fun n ρ ds wn => AllEq [1] ρ r19 ∧ ds = [] ∧ (ρ 5 = .int .i64 (n : Int) ∧ Ext w wn ∧ wn.cell? ⟨w.heap.size, 0, none⟩ = some (.slice cA o.cop.length cc) ∧ wn.cell? ⟨w.heap.size, 1, none⟩ = some (.slice rA o.runs.length rc) ∧ (∃ _u : Unit, checkS o = checkRuns o.cop.length (o.runs.take n) (o.runs.drop n)))) (o.runs.length) ?_ ?_
            · refine ⟨AllEq.refl _ _, rfl, ?_⟩
              exact ⟨by rw [e5_19]; rfl, hEj, x0, x1, hS2⟩
            · rintro n r20 _ wn hn ⟨hA, rfl, ⟨e5, hEn, x0, x1, hS⟩⟩
              obtain ⟨e1_20, -⟩ := hA
              rw [e1_19] at e1_20
              refine Wp.seq ?_
              refine Wp.seqRegion (.inl rfl) (by kernel_rfl) fun K' gd hK hg => ?_
              clear hg
              go_simp
              refine hK _ _ ?_
              clear hK K' gd
              refine Wp.keep [1, 5, 45] fun r21 hkeep => ?_
              obtain ⟨e1_21, e5_21, e45_21, -⟩ := hkeep
              simp [go_sem, e1_20, e5] at e1_21 e5_21 e45_21
              clear e1_20 e5
              by_cases h : n < o.runs.length
              · refine Wp.condT (by go_simp) ?_
                obtain ⟨b, ob, tA, tc, rfl, d0, d1, d2, hI⟩ := hr.at h
                have hS' : ∃ _u : Unit, checkS o = _ := ⟨(), hS.elim fun _ h' => h'.trans (checkRuns_at h)⟩
                clear hS
                obtain ⟨r, hre⟩ : ∃ r, o.runs[n] = r := ⟨_, rfl⟩
                rw [hre] at d0 d1 d2 hI hS'
                have d0 := hEn.cell d0
                have d1 := hEn.cell d1
                have d2 := hEn.cell d2
                have b3 : (n : Int) < (o.runs.length : Int) := by omega
                refine Wp.skip ?_
                refine thenK_normal ?_
                refine Wp.seq ?_
                refine Wp.block ?_
                refine Wp.seqRegion (.inl rfl) (by kernel_rfl) fun K' gd hK hg => ?_
                clear hg
                go_simp
                refine hK _ _ ?_
                clear hK K' gd
                refine Wp.keep [1, 5, 6] fun r22 hkeep => ?_
                obtain ⟨e1_22, e5_22, e6_22, -⟩ := hkeep
                simp [go_sem, e1_21, e5_21, e45_21] at e1_22 e5_22 e6_22
                clear e1_21 e5_21 e45_21
                have y0 := cell_nn wn #[.int .i64 r.id, .int .i64 r.arr, .slice tA r.takes.length tc] 103 0 rfl (v := .int .i64 r.id) rfl
                have y1 := cell_nn wn #[.int .i64 r.id, .int .i64 r.arr, .slice tA r.takes.length tc] 103 1 rfl (v := .int .i64 r.arr) rfl
                have y2 := cell_nn wn #[.int .i64 r.id, .int .i64 r.arr, .slice tA r.takes.length tc] 103 2 rfl (v := .slice tA r.takes.length tc) rfl
                have hE6 : Ext wn (wn.alloc (.cells #[.int .i64 r.id, .int .i64 r.arr, .slice tA r.takes.length tc] 103)) := (by repeat (first | assumption | exact Ext.refl _ | refine Ext.drew ?_ | refine Ext.alloc ?_ _ | refine Ext.trans ?_ (by assumption)))
                have hEw6 : Ext w (wn.alloc (.cells #[.int .i64 r.id, .int .i64 r.arr, .slice tA r.takes.length tc] 103)) := (by repeat (first | assumption | exact Ext.refl _ | refine Ext.drew ?_ | refine Ext.alloc ?_ _ | refine Ext.trans ?_ (by assumption)))
                generalize wn.alloc (.cells #[.int .i64 r.id, .int .i64 r.arr, .slice tA r.takes.length tc] 103) = W6 at *
                have x0 := hE6.cell x0
                have x1 := hE6.cell x1
                clear d0 d1 d2
                by_cases k1 : 1 ≤ r.id ∧ r.id ≤ 1099511627776
                · skip
                  refine Wp.seqRegion (.inl rfl) (by kernel_rfl) fun K' gd hK hg => ?_
                  clear hg
                  go_simp
                  refine Wcall (.inl rfl) (withinR_T k1 _) ?_
                  rintro v w7 ⟨rfl, hE7⟩
                  have y1 := hE7.cell y1
                  have y2 := hE7.cell y2
                  have y0 := hE7.cell y0
                  have x0 := hE7.cell x0
                  have x1 := hE7.cell x1
                  go_simp
                  refine hK _ _ ?_
                  clear hK K' gd
                  refine Wp.keep [1, 5, 6, 7] fun r23 hkeep => ?_
                  obtain ⟨e1_23, e5_23, e6_23, e7_23, -⟩ := hkeep
                  simp [go_sem, e1_22, e5_22, e6_22] at e1_23 e5_23 e6_23 e7_23
                  clear e1_22 e5_22 e6_22
                  by_cases k2 : 0 ≤ r.arr ∧ r.arr ≤ 730
                  · skip
                    refine Wp.seqRegion (.inl rfl) (by kernel_rfl) fun K' gd hK hg => ?_
                    clear hg
                    go_simp
                    refine Wcall (.inl rfl) (withinR_T k2 _) ?_
                    rintro v w8 ⟨rfl, hE8⟩
                    have y2 := hE8.cell y2
                    have y0 := hE8.cell y0
                    have x0 := hE8.cell x0
                    have x1 := hE8.cell x1
                    go_simp
                    refine hK _ _ ?_
                    clear hK K' gd
                    refine Wp.keep [1, 5, 6, 7, 8] fun r24 hkeep => ?_
                    obtain ⟨e1_24, e5_24, e6_24, e7_24, e8_24, -⟩ := hkeep
                    simp [go_sem, e1_23, e5_23, e6_23, e7_23] at e1_24 e5_24 e6_24 e7_24 e8_24
                    clear e1_23 e5_23 e6_23 e7_23
                    by_cases k3 : (r.takes.length : Int) = (o.cop.length : Int)
                    · skip
                      refine Wp.seq ?_
                      refine Wp.seqRegion (.inl rfl) (by kernel_rfl) fun K' gd hK hg => ?_
                      have g2 : gd 2 = some 61 := hg 2
                      have g6 : gd 6 = some 65 := hg 6
                      clear hg
                      go_simp
                      refine hK _ _ ?_
                      clear hK K' gd g2 g6
                      refine Wp.keep [1, 5, 6, 73] fun r25 hkeep => ?_
                      obtain ⟨e1_25, e5_25, e6_25, e73_25, -⟩ := hkeep
                      simp [go_sem, e1_24, e5_24, e6_24, e7_24, e8_24] at e1_25 e5_25 e6_25 e73_25
                      clear e1_24 e5_24 e6_24 e7_24 e8_24
                      refine Wp.condF (by go_simp) ?_
                      have k3' : o.cop.length = r.takes.length := by omega
                      clear k3
                      have hEw8 : Ext w w8 := (by repeat (first | assumption | exact Ext.refl _ | refine Ext.drew ?_ | refine Ext.alloc ?_ _ | refine Ext.trans ?_ (by assumption)))
                      clear hEw6 hE6 hE7 hE8 hEn hEj
                      have hmt : r.takes.length ≤ 15 := by omega
                      refine Wp.skip ?_
                      refine thenK_normal ?_
                      refine Wp.seq ?_
                      refine Wp.seqRegion (.inl rfl) (by kernel_rfl) fun K' gd hK hg => ?_
                      clear hg
                      go_simp
                      refine hK _ _ ?_
                      clear hK K' gd
                      refine Wp.keep [1, 5, 6, 9] fun r26 hkeep => ?_
                      obtain ⟨e1_26, e5_26, e6_26, e9_26, -⟩ := hkeep
                      simp [go_sem, e1_25, e5_25, e6_25, e73_25] at e1_26 e5_26 e6_26 e9_26
                      clear e1_25 e5_25 e6_25 e73_25
                      refine Wp.block ?_
                      refine Wp.loop (fun j ρ ds wj => AllEq [1, 5, 6] ρ r26 ∧ ds = [] ∧ (ρ 9 = .int .i64 (j : Int) ∧ Ext w8 wj ∧ (r.takes.take j).any bad60 = false)) (r.takes.length) ?_ ?_
                      · refine ⟨AllEq.refl _ _, rfl, ?_⟩
                        exact ⟨by rw [e9_26]; rfl, (by repeat (first | assumption | exact Ext.refl _ | refine Ext.drew ?_ | refine Ext.alloc ?_ _ | refine Ext.trans ?_ (by assumption))), rfl⟩
                      · rintro j r27 _ wj hj ⟨hA, rfl, ⟨e9, hEj, hj0⟩⟩
                        obtain ⟨e1_27, e5_27, e6_27, -⟩ := hA
                        rw [e1_26] at e1_27
                        rw [e5_26] at e5_27
                        rw [e6_26] at e6_27
                        have y2' := hEj.cell y2
                        refine Wp.seq ?_
                        refine Wp.seqRegion (.inl rfl) (by kernel_rfl) fun K' gd hK hg => ?_
                        clear hg
                        go_simp
                        refine hK _ _ ?_
                        clear hK K' gd
                        refine Wp.keep [1, 5, 6, 9, 78] fun r28 hkeep => ?_
                        obtain ⟨e1_28, e5_28, e6_28, e9_28, e78_28, -⟩ := hkeep
                        simp [go_sem, e1_27, e5_27, e6_27, e9] at e1_28 e5_28 e6_28 e9_28 e78_28
                        clear e1_27 e5_27 e6_27 e9
                        by_cases h2 : j < r.takes.length
                        · refine Wp.condT (by go_simp) ?_
                          obtain ⟨b2, ob2, rfl, d0⟩ := hI.at h2
                          have d0 := hEj.cell (hEw8.cell d0)
                          obtain ⟨x, hx⟩ : ∃ x, r.takes[j] = x := ⟨_, rfl⟩
                          rw [hx] at d0
                          have b4 : (j : Int) < (r.takes.length : Int) := by omega
                          by_cases hb : 1 ≤ x ∧ x ≤ 60
                          · skip
                            refine Wp.skip ?_
                            refine thenK_normal ?_
                            refine Wp.seq ?_
                            refine Wp.block ?_
                            refine Wp.seqRegion (.inl rfl) (by kernel_rfl) fun K' gd hK hg => ?_
                            clear hg
                            go_simp
                            refine Wcall (.inl rfl) (withinR_T hb _) ?_
                            rintro v w9 ⟨rfl, hE9⟩
                            go_simp
                            refine hK _ _ ?_
                            clear hK K' gd
                            refine Wp.keep [1, 5, 6, 9, 10] fun r29 hkeep => ?_
                            obtain ⟨e1_29, e5_29, e6_29, e9_29, e10_29, -⟩ := hkeep
                            simp [go_sem, e1_28, e5_28, e6_28, e9_28, e78_28] at e1_29 e5_29 e6_29 e9_29 e10_29
                            clear e1_28 e5_28 e6_28 e9_28 e78_28
                            refine Wp.seqRegion (.inl rfl) (by kernel_rfl) fun K' gd hK hg => ?_
                            clear hg
                            go_simp
                            refine hK _ _ ?_
                            clear hK K' gd
                            refine Wp.keep [1, 5, 6, 9, 88] fun r30 hkeep => ?_
                            obtain ⟨e1_30, e5_30, e6_30, e9_30, e88_30, -⟩ := hkeep
                            simp [go_sem, e1_29, e5_29, e6_29, e9_29, e10_29] at e1_30 e5_30 e6_30 e9_30 e88_30
                            clear e1_29 e5_29 e6_29 e9_29 e10_29
                            refine Wp.condF (by go_simp) ?_
                            refine Wp.skip ?_
                            refine blockK_normal ?_
                            refine thenK_normal ?_
                            refine Wp.loneRegion (.inl rfl) (by kernel_rfl) fun K' gd hK hg => ?_
                            clear hg
                            go_simp
                            refine hK _ _ ?_
                            clear hK K' gd
                            refine Ends.keep [1, 5, 6, 9] fun r31 hkeep => ?_
                            obtain ⟨e1_31, e5_31, e6_31, e9_31, -⟩ := hkeep
                            simp [go_sem, e1_30, e5_30, e6_30, e9_30, e88_30] at e1_31 e5_31 e6_31 e9_31
                            clear e1_30 e5_30 e6_30 e9_30 e88_30
                            refine Ends.mk ?_
                            refine thenK_normal ⟨by omega, ⟨by rw [e1_31, e1_26], by rw [e5_31, e5_26], by rw [e6_31, e6_26], trivial⟩, rfl, ?_⟩
                            exact ⟨by rw [e9_31, IntWalk.i64_in _ (by omega)]; rfl, (by repeat (first | assumption | exact Ext.refl _ | refine Ext.drew ?_ | refine Ext.alloc ?_ _ | refine Ext.trans ?_ (by assumption))), any_take h2 hj0 (by rw [hx]; unfold bad60; rw [decide_eq_true hb]; rfl)⟩
                          · skip
                            refine Wp.skip ?_
                            refine thenK_normal ?_
                            refine Wp.seq ?_
                            refine Wp.block ?_
                            refine Wp.seqRegion (.inl rfl) (by kernel_rfl) fun K' gd hK hg => ?_
                            clear hg
                            go_simp
                            refine Wcall (.inl rfl) (withinR_F hb _) ?_
                            rintro v w9 ⟨rfl, hE9⟩
                            go_simp
                            refine hK _ _ ?_
                            clear hK K' gd
                            refine Wp.keep [1, 5, 6, 9, 10] fun r32 hkeep => ?_
                            obtain ⟨e1_32, e5_32, e6_32, e9_32, e10_32, -⟩ := hkeep
                            simp [go_sem, e1_28, e5_28, e6_28, e9_28, e78_28] at e1_32 e5_32 e6_32 e9_32 e10_32
                            clear e1_28 e5_28 e6_28 e9_28 e78_28
                            refine Wp.seqRegion (.inl rfl) (by kernel_rfl) fun K' gd hK hg => ?_
                            clear hg
                            go_simp
                            refine hK _ _ ?_
                            clear hK K' gd
                            refine Wp.keep [1, 5, 6, 9, 88] fun r33 hkeep => ?_
                            obtain ⟨e1_33, e5_33, e6_33, e9_33, e88_33, -⟩ := hkeep
                            simp [go_sem, e1_32, e5_32, e6_32, e9_32, e10_32] at e1_33 e5_33 e6_33 e9_33 e88_33
                            clear e1_32 e5_32 e6_32 e9_32 e10_32
                            refine Wp.condT (by go_simp) ?_
                            refine Wp.seqRegion (.inl rfl) (by kernel_rfl) fun K' gd hK hg => ?_
                            clear hg
                            go_simp
                            refine hK _ _ ?_
                            clear hK K' gd
                            refine Wp.keep [2] fun r34 hkeep => ?_
                            obtain ⟨e2_34, -⟩ := hkeep
                            simp [go_sem, e1_33, e5_33, e6_33, e9_33, e88_33] at e2_34
                            clear e1_33 e5_33 e6_33 e9_33 e88_33
                            refine Wp.ret ?_
                            refine blockK_ret ?_
                            refine thenK_ret ?_
                            refine thenK_ret ?_
                            refine blockK_ret ?_
                            refine thenK_ret ?_
                            refine blockK_ret ?_
                            refine thenK_ret ?_
                            refine thenK_ret ?_
                            refine blockK_ret ?_
                            refine thenK_ret ?_
                            refine endK_tmp Tryz.results25 (by decide) ?_
                            rw [e2_34]
                            obtain ⟨-, hS⟩ := hS'
                            exact ⟨by rw [hS, if_neg (not_not_intro k1), if_neg (not_not_intro k2), if_neg (not_not_intro k3'.symm), if_pos (any_hit h2 (by rw [hx]; unfold bad60; rw [decide_eq_false hb]; rfl))], (by repeat (first | assumption | exact Ext.refl _ | refine Ext.drew ?_ | refine Ext.alloc ?_ _ | refine Ext.trans ?_ (by assumption)))⟩
                        · refine Wp.condF (by go_simp) ?_
                          obtain rfl : j = r.takes.length := by omega
                          rw [List.take_length] at hj0
                          have hj1 : ¬ r.takes.any bad60 = true := by rw [hj0]; decide
                          clear hj0
                          refine Wp.exit ?_
                          refine thenK_exit ?_
                          refine thenK_exit ?_
                          refine blockK_here ?_
                          refine thenK_normal ?_
                          refine Wp.seqRegion (.inl rfl) (by kernel_rfl) fun K' gd hK hg => ?_
                          clear hg
                          go_simp
                          refine hK _ _ ?_
                          clear hK K' gd
                          refine Wp.keep [1, 5, 6, 11] fun r35 hkeep => ?_
                          obtain ⟨e1_35, e5_35, e6_35, e11_35, -⟩ := hkeep
                          simp [go_sem, e1_28, e5_28, e6_28, e9_28, e78_28] at e1_35 e5_35 e6_35 e11_35
                          clear e1_28 e5_28 e6_28 e9_28 e78_28
                          refine Wp.block ?_
                          refine Wp.loop (fun k ρ ds wk => AllEq [1, 5, 6] ρ r35 ∧ ds = [] ∧ (ρ 11 = .int .i64 (k : Int) ∧ Ext w8 wk ∧ (∀ q (hq : q < o.runs.length), q < k → o.runs[q].id ≠ r.id))) (n) ?_ ?_
                          · refine ⟨AllEq.refl _ _, rfl, ?_⟩
                            exact ⟨by rw [e11_35]; rfl, (by repeat (first | assumption | exact Ext.refl _ | refine Ext.drew ?_ | refine Ext.alloc ?_ _ | refine Ext.trans ?_ (by assumption))), fun q _ h => absurd h (Nat.not_lt_zero _)⟩
                          · rintro k r36 _ wk hk ⟨hA, rfl, ⟨e11, hEk, hno⟩⟩
                            obtain ⟨e1_36, e5_36, e6_36, -⟩ := hA
                            rw [e1_35] at e1_36
                            rw [e5_35] at e5_36
                            rw [e6_35] at e6_36
                            refine Wp.seq ?_
                            refine Wp.seqRegion (.inl rfl) (by kernel_rfl) fun K' gd hK hg => ?_
                            clear hg
                            go_simp
                            refine hK _ _ ?_
                            clear hK K' gd
                            refine Wp.keep [1, 5, 6, 11, 91] fun r37 hkeep => ?_
                            obtain ⟨e1_37, e5_37, e6_37, e11_37, e91_37, -⟩ := hkeep
                            simp [go_sem, e1_36, e5_36, e6_36, e11] at e1_37 e5_37 e6_37 e11_37 e91_37
                            clear e1_36 e5_36 e6_36 e11
                            by_cases h3 : k < n
                            · refine Wp.condT (by go_simp) ?_
                              have hkl : k < o.runs.length := by omega
                              obtain ⟨b5, ob5, A5, c5, hA5, d5, -, -, -⟩ := hr.at hkl
                              injection hA5 with hA5
                              injection hA5 with hb5 ho5
                              subst hb5 ho5
                              have d5 := hEk.cell (hEw8.cell d5)
                              have y0' := hEk.cell y0
                              have x1' := hEk.cell x1
                              obtain ⟨y, hy⟩ : ∃ y, o.runs[k].id = y := ⟨_, rfl⟩
                              rw [hy] at d5
                              have b6 : (k : Int) < (o.runs.length : Int) := by omega
                              have hy2 : ∃ _u : Unit, o.runs[k].id = y := ⟨(), hy⟩
                              clear hy
                              by_cases hyr : y = r.id
                              · skip
                                have hq : (y == r.id) = true := by rw [hyr]; simp
                                clear hno
                                refine Wp.skip ?_
                                refine thenK_normal ?_
                                refine Wp.seq ?_
                                refine Wp.block ?_
                                refine Wp.seqDraw (.inl rfl) mixed [([0, 1, 2, 3, 4], none), ([5, 6, 7, 8], none)] (by kernel_rfl) fun K' gd hK hg => ?_
                                clear hg
                                simp only [pick, nth, List.map_cons, List.map_nil, Option.map_none, Option.map_some]
                                apply Mops.none
                                · intro w' hE'
                                  have hC' := hE'.cellsS
                                  go_simp
                                  with_reducible rfl
                                apply Mops.none
                                · intro w' hE'
                                  have hC' := hE'.cellsS
                                  go_simp
                                  with_reducible rfl
                                refine Mops.done ?_
                                refine hK _ _ ?_
                                clear hK K' gd
                                refine Wp.keep [1, 5, 6, 11, 102] fun r38 hkeep => ?_
                                obtain ⟨e1_38, e5_38, e6_38, e11_38, e102_38, -⟩ := hkeep
                                simp [go_sem, e1_37, e5_37, e6_37, e11_37, e91_37] at e1_38 e5_38 e6_38 e11_38 e102_38
                                clear e1_37 e5_37 e6_37 e11_37 e91_37
                                refine Wp.condT (by go_simp) ?_
                                refine Wp.seqRegion (.inl rfl) (by kernel_rfl) fun K' gd hK hg => ?_
                                clear hg
                                go_simp
                                refine hK _ _ ?_
                                clear hK K' gd
                                refine Wp.keep [2] fun r39 hkeep => ?_
                                obtain ⟨e2_39, -⟩ := hkeep
                                simp [go_sem, e1_38, e5_38, e6_38, e11_38, e102_38] at e2_39
                                clear e1_38 e5_38 e6_38 e11_38 e102_38
                                refine Wp.ret ?_
                                refine blockK_ret ?_
                                refine thenK_ret ?_
                                refine thenK_ret ?_
                                refine blockK_ret ?_
                                refine blockK_ret ?_
                                refine thenK_ret ?_
                                refine thenK_ret ?_
                                refine blockK_ret ?_
                                refine thenK_ret ?_
                                refine endK_tmp Tryz.results25 (by decide) ?_
                                rw [e2_39]
                                obtain ⟨-, hS⟩ := hS'
                                obtain ⟨-, hy⟩ := hy2
                                exact ⟨by rw [hS, if_neg (not_not_intro k1), if_neg (not_not_intro k2), if_neg (not_not_intro k3'.symm), if_neg hj1, if_pos (List.any_eq_true.2 ⟨o.runs[k], List.mem_take_iff_getElem.2 ⟨k, by omega, rfl⟩, decide_eq_true (hy.trans hyr)⟩)], (by repeat (first | assumption | exact Ext.refl _ | refine Ext.drew ?_ | refine Ext.alloc ?_ _ | refine Ext.trans ?_ (by assumption)))⟩
                              · skip
                                refine Wp.skip ?_
                                refine thenK_normal ?_
                                refine Wp.seq ?_
                                refine Wp.block ?_
                                refine Wp.seqDraw (.inl rfl) mixed [([0, 1, 2, 3, 4], none), ([5, 6, 7, 8], none)] (by kernel_rfl) fun K' gd hK hg => ?_
                                clear hg
                                simp only [pick, nth, List.map_cons, List.map_nil, Option.map_none, Option.map_some]
                                apply Mops.none
                                · intro w' hE'
                                  have hC' := hE'.cellsS
                                  go_simp
                                  with_reducible rfl
                                apply Mops.none
                                · intro w' hE'
                                  have hC' := hE'.cellsS
                                  go_simp
                                  with_reducible rfl
                                refine Mops.done ?_
                                refine hK _ _ ?_
                                clear hK K' gd
                                refine Wp.keep [1, 5, 6, 11, 102] fun r40 hkeep => ?_
                                obtain ⟨e1_40, e5_40, e6_40, e11_40, e102_40, -⟩ := hkeep
                                simp [go_sem, e1_37, e5_37, e6_37, e11_37, e91_37] at e1_40 e5_40 e6_40 e11_40 e102_40
                                clear e1_37 e5_37 e6_37 e11_37 e91_37
                                refine Wp.condF (by go_simp) ?_
                                refine Wp.skip ?_
                                refine blockK_normal ?_
                                refine thenK_normal ?_
                                refine Wp.loneRegion (.inl rfl) (by kernel_rfl) fun K' gd hK hg => ?_
                                clear hg
                                go_simp
                                refine hK _ _ ?_
                                clear hK K' gd
                                refine Ends.keep [1, 5, 6, 11] fun r41 hkeep => ?_
                                obtain ⟨e1_41, e5_41, e6_41, e11_41, -⟩ := hkeep
                                simp [go_sem, e1_40, e5_40, e6_40, e11_40, e102_40] at e1_41 e5_41 e6_41 e11_41
                                clear e1_40 e5_40 e6_40 e11_40 e102_40
                                refine Ends.mk ?_
                                refine thenK_normal ⟨by omega, ⟨by rw [e1_41, e1_35], by rw [e5_41, e5_35], by rw [e6_41, e6_35], trivial⟩, rfl, ?_⟩
                                refine ⟨by rw [e11_41, IntWalk.i64_in _ (by omega)]; rfl, (by repeat (first | assumption | exact Ext.refl _ | refine Ext.drew ?_ | refine Ext.alloc ?_ _ | refine Ext.trans ?_ (by assumption))), fun q hq hqk => ?_⟩
                                obtain ⟨-, hy⟩ := hy2
                                by_cases e : q = k
                                · subst e; rw [hy]; exact hyr
                                · exact hno q hq (by omega)
                            · refine Wp.condF (by go_simp) ?_
                              obtain rfl : k = n := by omega
                              refine Wp.exit ?_
                              refine thenK_exit ?_
                              refine thenK_exit ?_
                              refine blockK_here ?_
                              refine blockK_normal ?_
                              refine thenK_normal ?_
                              refine Wp.loneRegion (.inl rfl) (by kernel_rfl) fun K' gd hK hg => ?_
                              clear hg
                              go_simp
                              refine hK _ _ ?_
                              clear hK K' gd
                              refine Ends.keep [1, 5] fun r42 hkeep => ?_
                              obtain ⟨e1_42, e5_42, -⟩ := hkeep
                              simp [go_sem, e1_37, e5_37, e6_37, e11_37, e91_37] at e1_42 e5_42
                              clear e1_37 e5_37 e6_37 e11_37 e91_37
                              refine Ends.mk ?_
                              refine thenK_normal ⟨by omega, ⟨by rw [e1_42, e1_19], trivial⟩, rfl, ?_⟩
                              refine ⟨by rw [e5_42, IntWalk.i64_in _ (by omega)]; rfl, (by repeat (first | assumption | exact Ext.refl _ | refine Ext.drew ?_ | refine Ext.alloc ?_ _ | refine Ext.trans ?_ (by assumption))), hEk.cell x0, hEk.cell x1, ?_⟩
                              obtain ⟨-, hS⟩ := hS'
                              refine ⟨(), ?_⟩
                              rw [hS, if_neg (not_not_intro k1), if_neg (not_not_intro k2), if_neg (not_not_intro k3'.symm), if_neg hj1, if_neg ?_]
                              rw [List.any_eq_true]
                              rintro ⟨x, hx, hxe⟩
                              obtain ⟨q, hq, rfl⟩ := List.mem_take_iff_getElem.1 hx
                              exact hno q (by omega) (by omega) (of_decide_eq_true hxe)
                    · skip
                      refine Wp.seq ?_
                      refine Wp.seqRegion (.inl rfl) (by kernel_rfl) fun K' gd hK hg => ?_
                      have g2 : gd 2 = some 61 := hg 2
                      have g6 : gd 6 = some 65 := hg 6
                      clear hg
                      go_simp
                      refine hK _ _ ?_
                      clear hK K' gd g2 g6
                      refine Wp.keep [1, 5, 6, 73] fun r43 hkeep => ?_
                      obtain ⟨e1_43, e5_43, e6_43, e73_43, -⟩ := hkeep
                      simp [go_sem, e1_24, e5_24, e6_24, e7_24, e8_24] at e1_43 e5_43 e6_43 e73_43
                      clear e1_24 e5_24 e6_24 e7_24 e8_24
                      refine Wp.condT (by go_simp) ?_
                      refine Wp.seqRegion (.inl rfl) (by kernel_rfl) fun K' gd hK hg => ?_
                      clear hg
                      go_simp
                      refine hK _ _ ?_
                      clear hK K' gd
                      refine Wp.keep [2] fun r44 hkeep => ?_
                      obtain ⟨e2_44, -⟩ := hkeep
                      simp [go_sem, e1_43, e5_43, e6_43, e73_43] at e2_44
                      clear e1_43 e5_43 e6_43 e73_43
                      refine Wp.ret ?_
                      refine thenK_ret ?_
                      refine blockK_ret ?_
                      refine thenK_ret ?_
                      refine thenK_ret ?_
                      refine blockK_ret ?_
                      refine thenK_ret ?_
                      refine endK_tmp Tryz.results25 (by decide) ?_
                      rw [e2_44]
                      obtain ⟨-, hS⟩ := hS'
                      exact ⟨by rw [hS, if_neg (not_not_intro k1), if_neg (not_not_intro k2), if_pos (by omega)], (by repeat (first | assumption | exact Ext.refl _ | refine Ext.drew ?_ | refine Ext.alloc ?_ _ | refine Ext.trans ?_ (by assumption)))⟩
                  · skip
                    refine Wp.seqRegion (.inl rfl) (by kernel_rfl) fun K' gd hK hg => ?_
                    clear hg
                    go_simp
                    refine Wcall (.inl rfl) (withinR_F k2 _) ?_
                    rintro v w8 ⟨rfl, hE8⟩
                    have y2 := hE8.cell y2
                    go_simp
                    refine hK _ _ ?_
                    clear hK K' gd
                    refine Wp.keep [1, 5, 6, 7, 8] fun r45 hkeep => ?_
                    obtain ⟨e1_45, e5_45, e6_45, e7_45, e8_45, -⟩ := hkeep
                    simp [go_sem, e1_23, e5_23, e6_23, e7_23] at e1_45 e5_45 e6_45 e7_45 e8_45
                    clear e1_23 e5_23 e6_23 e7_23
                    refine Wp.seq ?_
                    refine Wp.seqRegion (.inl rfl) (by kernel_rfl) fun K' gd hK hg => ?_
                    have g2 : gd 2 = some 61 := hg 2
                    have g6 : gd 6 = some 65 := hg 6
                    clear hg
                    go_simp
                    refine hK _ _ ?_
                    clear hK K' gd g2 g6
                    refine Wp.keep [1, 5, 6, 73] fun r46 hkeep => ?_
                    obtain ⟨e1_46, e5_46, e6_46, e73_46, -⟩ := hkeep
                    simp [go_sem, e1_45, e5_45, e6_45, e7_45, e8_45] at e1_46 e5_46 e6_46 e73_46
                    clear e1_45 e5_45 e6_45 e7_45 e8_45
                    refine Wp.condT (by go_simp) ?_
                    refine Wp.seqRegion (.inl rfl) (by kernel_rfl) fun K' gd hK hg => ?_
                    clear hg
                    go_simp
                    refine hK _ _ ?_
                    clear hK K' gd
                    refine Wp.keep [2] fun r47 hkeep => ?_
                    obtain ⟨e2_47, -⟩ := hkeep
                    simp [go_sem, e1_46, e5_46, e6_46, e73_46] at e2_47
                    clear e1_46 e5_46 e6_46 e73_46
                    refine Wp.ret ?_
                    refine thenK_ret ?_
                    refine blockK_ret ?_
                    refine thenK_ret ?_
                    refine thenK_ret ?_
                    refine blockK_ret ?_
                    refine thenK_ret ?_
                    refine endK_tmp Tryz.results25 (by decide) ?_
                    rw [e2_47]
                    obtain ⟨-, hS⟩ := hS'
                    exact ⟨by rw [hS, if_neg (not_not_intro k1), if_pos k2], (by repeat (first | assumption | exact Ext.refl _ | refine Ext.drew ?_ | refine Ext.alloc ?_ _ | refine Ext.trans ?_ (by assumption)))⟩
                · skip
                  refine Wp.seqRegion (.inl rfl) (by kernel_rfl) fun K' gd hK hg => ?_
                  clear hg
                  go_simp
                  refine Wcall (.inl rfl) (withinR_F k1 _) ?_
                  rintro v w7 ⟨rfl, hE7⟩
                  have y1 := hE7.cell y1
                  go_simp
                  refine hK _ _ ?_
                  clear hK K' gd
                  refine Wp.keep [1, 5, 6, 7] fun r48 hkeep => ?_
                  obtain ⟨e1_48, e5_48, e6_48, e7_48, -⟩ := hkeep
                  simp [go_sem, e1_22, e5_22, e6_22] at e1_48 e5_48 e6_48 e7_48
                  clear e1_22 e5_22 e6_22
                  refine Wp.seqRegion (.inl rfl) (by kernel_rfl) fun K' gd hK hg => ?_
                  clear hg
                  go_simp
                  refine Wcall (.inl rfl) (withinR_c r.arr 0 730 _) ?_
                  rintro v w8 ⟨rfl, hE8⟩
                  go_simp
                  refine hK _ _ ?_
                  clear hK K' gd
                  refine Wp.keep [1, 5, 6, 7, 8] fun r49 hkeep => ?_
                  obtain ⟨e1_49, e5_49, e6_49, e7_49, e8_49, -⟩ := hkeep
                  simp [go_sem, e1_48, e5_48, e6_48, e7_48] at e1_49 e5_49 e6_49 e7_49 e8_49
                  clear e1_48 e5_48 e6_48 e7_48
                  refine Wp.seq ?_
                  refine Wp.seqRegion (.inl rfl) (by kernel_rfl) fun K' gd hK hg => ?_
                  have g2 : gd 2 = some 61 := hg 2
                  have g6 : gd 6 = some 65 := hg 6
                  clear hg
                  go_simp
                  refine hK _ _ ?_
                  clear hK K' gd g2 g6
                  refine Wp.keep [1, 5, 6, 73] fun r50 hkeep => ?_
                  obtain ⟨e1_50, e5_50, e6_50, e73_50, -⟩ := hkeep
                  simp [go_sem, e1_49, e5_49, e6_49, e7_49, e8_49] at e1_50 e5_50 e6_50 e73_50
                  clear e1_49 e5_49 e6_49 e7_49 e8_49
                  refine Wp.condT (by go_simp) ?_
                  refine Wp.seqRegion (.inl rfl) (by kernel_rfl) fun K' gd hK hg => ?_
                  clear hg
                  go_simp
                  refine hK _ _ ?_
                  clear hK K' gd
                  refine Wp.keep [2] fun r51 hkeep => ?_
                  obtain ⟨e2_51, -⟩ := hkeep
                  simp [go_sem, e1_50, e5_50, e6_50, e73_50] at e2_51
                  clear e1_50 e5_50 e6_50 e73_50
                  refine Wp.ret ?_
                  refine thenK_ret ?_
                  refine blockK_ret ?_
                  refine thenK_ret ?_
                  refine thenK_ret ?_
                  refine blockK_ret ?_
                  refine thenK_ret ?_
                  refine endK_tmp Tryz.results25 (by decide) ?_
                  rw [e2_51]
                  obtain ⟨-, hS⟩ := hS'
                  exact ⟨by rw [hS, if_pos k1], (by repeat (first | assumption | exact Ext.refl _ | refine Ext.drew ?_ | refine Ext.alloc ?_ _ | refine Ext.trans ?_ (by assumption)))⟩
              · refine Wp.condF (by go_simp) ?_
                refine Wp.exit ?_
                refine thenK_exit ?_
                refine thenK_exit ?_
                refine blockK_here ?_
                refine thenK_normal ?_
                refine Wp.seqRegion (.inl rfl) (by kernel_rfl) fun K' gd hK hg => ?_
                clear hg
                go_simp
                refine hK _ _ ?_
                clear hK K' gd
                refine Wp.keep [2] fun r52 hkeep => ?_
                obtain ⟨e2_52, -⟩ := hkeep
                simp [go_sem, e1_21, e5_21, e45_21] at e2_52
                clear e1_21 e5_21 e45_21
                refine Wp.ret ?_
                refine endK_tmp Tryz.results25 (by decide) ?_
                rw [e2_52]
                refine ⟨?_, hEn⟩
                obtain ⟨-, hS⟩ := hS
                rw [hS, List.drop_eq_nil_of_le (by omega)]; rfl
end Go.Proofs.YtnfagcccgmakdaaGreat
namespace Go.Proofs.YtnfagcccgmakdaaGreat
open Go.RowKit Go.Wk Go.Proofs
attribute [local irreducible] Go.Wk.Wops Go.Wk.Wp Go.Wk.Mtree Go.Wk.Mops
set_option maxHeartbeats 4000000
def FewP (o : Ord) : Prop := (o.cop.length ≤ 30 ∧ o.runs.length ≤ 30 ∧ ∀ r ∈ o.runs, r.takes.length ≤ 30) ∧ ((o.cop.length ≤ 6 ∧ o.runs.length ≤ 6) ∨ checkS o ≠ 0)
instance (o : Ord) : Decidable (FewP o) := inferInstanceAs (Decidable (_ ∧ _))
theorem few_c (v : Value) (o : Ord) (w : World) (hV : OrderV w w.heap.size v o) (hf : Fits o) :
    CallsV Tryz.prog 10 #[v] w fun v w' => v = .bool (decide (FewP o)) ∧ Ext w w' := by
  obtain ⟨cv, rv, rfl, hc, hr⟩ := id hV
  obtain ⟨cA, cc, rfl, -⟩ := id hc
  obtain ⟨rA, rc, -, rfl, -⟩ := id hr
  refine Wp.fn Tryz.func10 rfl Tryz.ntmps10 (by simp) ?_
  refine Wp.keep [0] fun r1 hkeep => ?_
  obtain ⟨e0_1, -⟩ := hkeep
  simp [go_sem] at e0_1
  by_cases g1 : (30 : Int) < (o.cop.length : Int)
  · skip
    refine Wp.seqRegion (.inl rfl) (by kernel_rfl) fun K' gd hK hg => ?_
    clear hg
    go_simp
    refine hK _ _ ?_
    clear hK K' gd
    refine Wp.keep [1] fun r2 hkeep => ?_
    obtain ⟨e1_2, -⟩ := hkeep
    simp [go_sem, e0_1] at e1_2
    clear e0_1
    refine Wp.seq ?_
    refine Wp.seqRegion (.inl rfl) (by kernel_rfl) fun K' gd hK hg => ?_
    have g4 : gd 4 = some 8 := hg 4
    clear hg
    go_simp
    refine hK _ _ ?_
    clear hK K' gd g4
    refine Wp.keep [1, 13] fun r3 hkeep => ?_
    obtain ⟨e1_3, e13_3, -⟩ := hkeep
    simp [go_sem, e1_2] at e1_3 e13_3
    clear e1_2
    refine Wp.condT (by go_simp) ?_
    refine Wp.seqRegion (.inl rfl) (by kernel_rfl) fun K' gd hK hg => ?_
    clear hg
    go_simp
    refine hK _ _ ?_
    clear hK K' gd
    refine Wp.keep [2] fun r4 hkeep => ?_
    obtain ⟨e2_4, -⟩ := hkeep
    simp [go_sem, e1_3, e13_3] at e2_4
    clear e1_3 e13_3
    refine Wp.ret ?_
    refine thenK_ret ?_
    refine endK_tmp Tryz.results10 (by decide) ?_
    rw [e2_4]
    refine ⟨?_, (by repeat (first | assumption | exact Ext.refl _ | refine Ext.drew ?_ | refine Ext.alloc ?_ _ | refine Ext.trans ?_ (by assumption)))⟩
    rw [decide_eq_false (fun h : FewP o => by have := h.1.1; omega)]
  · skip
    by_cases g2 : (30 : Int) < (o.runs.length : Int)
    · skip
      refine Wp.seqRegion (.inl rfl) (by kernel_rfl) fun K' gd hK hg => ?_
      clear hg
      go_simp
      refine hK _ _ ?_
      clear hK K' gd
      refine Wp.keep [1] fun r5 hkeep => ?_
      obtain ⟨e1_5, -⟩ := hkeep
      simp [go_sem, e0_1] at e1_5
      clear e0_1
      refine Wp.seq ?_
      refine Wp.seqRegion (.inl rfl) (by kernel_rfl) fun K' gd hK hg => ?_
      have g4 : gd 4 = some 8 := hg 4
      clear hg
      go_simp
      refine hK _ _ ?_
      clear hK K' gd g4
      refine Wp.keep [1, 13] fun r6 hkeep => ?_
      obtain ⟨e1_6, e13_6, -⟩ := hkeep
      simp [go_sem, e1_5] at e1_6 e13_6
      clear e1_5
      refine Wp.condT (by go_simp) ?_
      refine Wp.seqRegion (.inl rfl) (by kernel_rfl) fun K' gd hK hg => ?_
      clear hg
      go_simp
      refine hK _ _ ?_
      clear hK K' gd
      refine Wp.keep [2] fun r7 hkeep => ?_
      obtain ⟨e2_7, -⟩ := hkeep
      simp [go_sem, e1_6, e13_6] at e2_7
      clear e1_6 e13_6
      refine Wp.ret ?_
      refine thenK_ret ?_
      refine endK_tmp Tryz.results10 (by decide) ?_
      rw [e2_7]
      refine ⟨?_, (by repeat (first | assumption | exact Ext.refl _ | refine Ext.drew ?_ | refine Ext.alloc ?_ _ | refine Ext.trans ?_ (by assumption)))⟩
      rw [decide_eq_false (fun h : FewP o => by have := h.1.2.1; omega)]
    · skip
      refine Wp.seqRegion (.inl rfl) (by kernel_rfl) fun K' gd hK hg => ?_
      clear hg
      go_simp
      refine hK _ _ ?_
      clear hK K' gd
      refine Wp.keep [1] fun r8 hkeep => ?_
      obtain ⟨e1_8, -⟩ := hkeep
      simp [go_sem, e0_1] at e1_8
      clear e0_1
      refine Wp.seq ?_
      refine Wp.seqRegion (.inl rfl) (by kernel_rfl) fun K' gd hK hg => ?_
      have g4 : gd 4 = some 8 := hg 4
      clear hg
      go_simp
      refine hK _ _ ?_
      clear hK K' gd g4
      refine Wp.keep [1, 13] fun r9 hkeep => ?_
      obtain ⟨e1_9, e13_9, -⟩ := hkeep
      simp [go_sem, e1_8] at e1_9 e13_9
      clear e1_8
      refine Wp.condF (by go_simp) ?_
      refine Wp.skip ?_
      refine thenK_normal ?_
      refine Wp.seq ?_
      refine Wp.seqRegion (.inl rfl) (by kernel_rfl) fun K' gd hK hg => ?_
      clear hg
      go_simp
      refine hK _ _ ?_
      clear hK K' gd
      refine Wp.keep [1, 3] fun r10 hkeep => ?_
      obtain ⟨e1_10, e3_10, -⟩ := hkeep
      simp [go_sem, e1_9, e13_9] at e1_10 e3_10
      clear e1_9 e13_9
      refine Wp.block ?_
      refine Wp.loop (fun i ρ ds wi => AllEq [1] ρ r10 ∧ ds = [] ∧ (ρ 3 = .int .i64 (i : Int) ∧ Ext w wi ∧ wi.cell? ⟨w.heap.size, 0, none⟩ = some (.slice cA o.cop.length cc) ∧ wi.cell? ⟨w.heap.size, 1, none⟩ = some (.slice rA o.runs.length rc) ∧ (∀ q (hq : q < o.runs.length), q < i → o.runs[q].takes.length ≤ 30))) (o.runs.length) ?_ ?_
      · refine ⟨AllEq.refl _ _, rfl, ?_⟩
        exact ⟨by rw [e3_10]; rfl, (by repeat (first | assumption | exact Ext.refl _ | refine Ext.drew ?_ | refine Ext.alloc ?_ _ | refine Ext.trans ?_ (by assumption))), by go_simp, by go_simp, fun q _ h => absurd h (Nat.not_lt_zero _)⟩
      · rintro i r11 _ wi hi ⟨hA, rfl, ⟨e3, hEi, x0, x1, hq⟩⟩
        obtain ⟨e1_11, -⟩ := hA
        rw [e1_10] at e1_11
        refine Wp.seq ?_
        refine Wp.seqRegion (.inl rfl) (by kernel_rfl) fun K' gd hK hg => ?_
        clear hg
        go_simp
        refine hK _ _ ?_
        clear hK K' gd
        refine Wp.keep [1, 3, 18] fun r12 hkeep => ?_
        obtain ⟨e1_12, e3_12, e18_12, -⟩ := hkeep
        simp [go_sem, e1_11, e3] at e1_12 e3_12 e18_12
        clear e1_11 e3
        by_cases h : i < o.runs.length
        · refine Wp.condT (by go_simp) ?_
          obtain ⟨b, ob, tA, tc, rfl, -, -, d2, hI⟩ := hr.at h
          obtain ⟨r, hre⟩ : ∃ r, o.runs[i] = r := ⟨_, rfl⟩
          have hre2 : ∃ _u : Unit, o.runs[i] = r := ⟨(), hre⟩
          rw [hre] at d2 hI
          clear hre
          have d2 := hEi.cell d2
          have b3 : (i : Int) < (o.runs.length : Int) := by omega
          refine Wp.skip ?_
          refine thenK_normal ?_
          refine Wp.seq ?_
          refine Wp.block ?_
          refine Wp.seqRegion (.inl rfl) (by kernel_rfl) fun K' gd hK hg => ?_
          clear hg
          go_simp
          refine hK _ _ ?_
          clear hK K' gd
          refine Wp.keep [1, 3, 28] fun r13 hkeep => ?_
          obtain ⟨e1_13, e3_13, e28_13, -⟩ := hkeep
          simp [go_sem, e1_12, e3_12, e18_12] at e1_13 e3_13 e28_13
          clear e1_12 e3_12 e18_12
          by_cases hk : (30 : Int) < (r.takes.length : Int)
          · refine Wp.condT (by go_simp) ?_
            refine Wp.seqRegion (.inl rfl) (by kernel_rfl) fun K' gd hK hg => ?_
            clear hg
            go_simp
            refine hK _ _ ?_
            clear hK K' gd
            refine Wp.keep [2] fun r14 hkeep => ?_
            obtain ⟨e2_14, -⟩ := hkeep
            simp [go_sem, e1_13, e3_13, e28_13] at e2_14
            clear e1_13 e3_13 e28_13
            refine Wp.ret ?_
            refine blockK_ret ?_
            refine thenK_ret ?_
            refine thenK_ret ?_
            refine blockK_ret ?_
            refine thenK_ret ?_
            refine endK_tmp Tryz.results10 (by decide) ?_
            rw [e2_14]
            refine ⟨?_, (by repeat (first | assumption | exact Ext.refl _ | refine Ext.drew ?_ | refine Ext.alloc ?_ _ | refine Ext.trans ?_ (by assumption)))⟩
            obtain ⟨-, hre⟩ := hre2
            rw [decide_eq_false (fun h' : FewP o => by have := h'.1.2.2 _ (List.getElem_mem h); rw [hre] at this; omega)]
          · refine Wp.condF (by go_simp) ?_
            refine Wp.skip ?_
            refine blockK_normal ?_
            refine thenK_normal ?_
            refine Wp.loneRegion (.inl rfl) (by kernel_rfl) fun K' gd hK hg => ?_
            clear hg
            go_simp
            refine hK _ _ ?_
            clear hK K' gd
            refine Ends.keep [1, 3] fun r15 hkeep => ?_
            obtain ⟨e1_15, e3_15, -⟩ := hkeep
            simp [go_sem, e1_13, e3_13, e28_13] at e1_15 e3_15
            clear e1_13 e3_13 e28_13
            refine Ends.mk ?_
            refine thenK_normal ⟨by omega, ⟨by rw [e1_15, e1_10], trivial⟩, rfl, ?_⟩
            refine ⟨by rw [e3_15, IntWalk.i64_in _ (by omega)]; rfl, (by repeat (first | assumption | exact Ext.refl _ | refine Ext.drew ?_ | refine Ext.alloc ?_ _ | refine Ext.trans ?_ (by assumption))), x0, x1, fun q hq' hqi => ?_⟩
            obtain ⟨-, hre⟩ := hre2
            by_cases e : q = i
            · subst e; rw [hre]; omega
            · exact hq q hq' (by omega)
        · refine Wp.condF (by go_simp) ?_
          have hall : ∀ r ∈ o.runs, r.takes.length ≤ 30 := fun r hrm => (by obtain ⟨q, hq', rfl⟩ := List.getElem_of_mem hrm; exact hq q hq' (by omega))
          clear hq
          by_cases k1 : (o.cop.length : Int) ≤ 6
          · skip
            by_cases k2 : (o.runs.length : Int) ≤ 6
            · skip
              refine Wp.exit ?_
              refine thenK_exit ?_
              refine thenK_exit ?_
              refine blockK_here ?_
              refine thenK_normal ?_
              refine Wp.seqRegion (.inl rfl) (by kernel_rfl) fun K' gd hK hg => ?_
              have g4 : gd 4 = some 33 := hg 4
              have g10 : gd 10 = some 39 := hg 10
              clear hg
              go_simp
              refine hK _ _ ?_
              clear hK K' gd g4 g10
              refine Wp.keep [2] fun r16 hkeep => ?_
              obtain ⟨e2_16, -⟩ := hkeep
              simp [go_sem, e1_12, e3_12, e18_12] at e2_16
              clear e1_12 e3_12 e18_12
              refine Wp.ret ?_
              refine endK_tmp Tryz.results10 (by decide) ?_
              rw [e2_16]
              refine ⟨?_, hEi⟩
              rw [decide_eq_true (show FewP o from ⟨⟨by omega, by omega, hall⟩, .inl ⟨by omega, by omega⟩⟩)]
            · skip
              refine Wp.exit ?_
              refine thenK_exit ?_
              refine thenK_exit ?_
              refine blockK_here ?_
              refine thenK_normal ?_
              refine Wp.seqRegion (.inl rfl) (by kernel_rfl) fun K' gd hK hg => ?_
              have g4 : gd 4 = some 33 := hg 4
              have g10 : gd 10 = some 39 := hg 10
              clear hg
              go_simp
              refine Wcall (.inl rfl) (refCheck_c _ o _ (hV.ext (by repeat (first | assumption | exact Ext.refl _ | refine Ext.drew ?_ | refine Ext.alloc ?_ _ | refine Ext.trans ?_ (by assumption)))) hf) ?_
              rintro v w2 ⟨rfl, hE2⟩
              go_simp
              refine hK _ _ ?_
              clear hK K' gd g4 g10
              refine Wp.keep [2] fun r17 hkeep => ?_
              obtain ⟨e2_17, -⟩ := hkeep
              simp [go_sem, e1_12, e3_12, e18_12] at e2_17
              clear e1_12 e3_12 e18_12
              refine Wp.ret ?_
              refine endK_tmp Tryz.results10 (by decide) ?_
              rw [e2_17]
              refine ⟨?_, (by repeat (first | assumption | exact Ext.refl _ | refine Ext.drew ?_ | refine Ext.alloc ?_ _ | refine Ext.trans ?_ (by assumption)))⟩
              congr 1
              rw [Bool.eq_iff_iff, decide_eq_true_iff]
              constructor
              · intro e; exact ⟨⟨by omega, by omega, hall⟩, .inr (by simpa using e)⟩
              · rintro ⟨-, h' | h'⟩
                · omega
                · simpa using h'
          · skip
            refine Wp.exit ?_
            refine thenK_exit ?_
            refine thenK_exit ?_
            refine blockK_here ?_
            refine thenK_normal ?_
            refine Wp.seqRegion (.inl rfl) (by kernel_rfl) fun K' gd hK hg => ?_
            have g4 : gd 4 = some 33 := hg 4
            have g10 : gd 10 = some 39 := hg 10
            clear hg
            go_simp
            refine Wcall (.inl rfl) (refCheck_c _ o _ (hV.ext (by repeat (first | assumption | exact Ext.refl _ | refine Ext.drew ?_ | refine Ext.alloc ?_ _ | refine Ext.trans ?_ (by assumption)))) hf) ?_
            rintro v w2 ⟨rfl, hE2⟩
            go_simp
            refine hK _ _ ?_
            clear hK K' gd g4 g10
            refine Wp.keep [2] fun r18 hkeep => ?_
            obtain ⟨e2_18, -⟩ := hkeep
            simp [go_sem, e1_12, e3_12, e18_12] at e2_18
            clear e1_12 e3_12 e18_12
            refine Wp.ret ?_
            refine endK_tmp Tryz.results10 (by decide) ?_
            rw [e2_18]
            refine ⟨?_, (by repeat (first | assumption | exact Ext.refl _ | refine Ext.drew ?_ | refine Ext.alloc ?_ _ | refine Ext.trans ?_ (by assumption)))⟩
            congr 1
            rw [Bool.eq_iff_iff, decide_eq_true_iff]
            constructor
            · intro e; exact ⟨⟨by omega, by omega, hall⟩, .inr (by simpa using e)⟩
            · rintro ⟨-, h' | h'⟩
              · omega
              · simpa using h'
theorem few_T {v : Value} {o : Ord} (hs : FewP o) (w : World) (hV : OrderV w w.heap.size v o) (hf : Fits o) : CallsV Tryz.prog 10 #[v] w fun v w' => v = .bool true ∧ Ext w w' :=
  (few_c v o w hV hf).mono fun _ _ ⟨h1, h3⟩ => by rw [decide_eq_true hs] at h1; exact ⟨h1, h3⟩
theorem few_F {v : Value} {o : Ord} (hs : ¬ FewP o) (w : World) (hV : OrderV w w.heap.size v o) (hf : Fits o) : CallsV Tryz.prog 10 #[v] w fun v w' => v = .bool false ∧ Ext w w' :=
  (few_c v o w hV hf).mono fun _ _ ⟨h1, h3⟩ => by rw [decide_eq_false hs] at h1; exact ⟨h1, h3⟩
end Go.Proofs.YtnfagcccgmakdaaGreat
namespace Go.Proofs.YtnfagcccgmakdaaGreat
open Go.RowKit Go.Wk Go.Proofs
attribute [local irreducible] Go.Wk.Wops Go.Wk.Wp Go.Wk.Mtree Go.Wk.Mops
set_option maxHeartbeats 4000000
def HoldW (w : World) (v : Value) (H : List (Nat × Nat)) : Prop := ∃ A c, v = .slice A H.length c ∧ ∀ k x, H[k]? = some x → ∃ b ob, A = some ⟨b, ob, none⟩ ∧ w.cell? ⟨b, ob + k * 2, none⟩ = some (.int .i64 (x.1 : Int)) ∧ w.cell? ⟨b, ob + k * 2 + 1, none⟩ = some (.int .i64 (x.2 : Int))
theorem HoldW.of {w : World} {B : Nat} {v : Value} {H : List (Nat × Nat)} (h : StintsV w B v (H.map zS)) : HoldW w v H := by
  obtain ⟨A, c, rfl, hx, -⟩ := h
  refine ⟨A, c, by rw [List.length_map], fun k x hk => ?_⟩
  obtain ⟨hl, he⟩ := List.getElem?_eq_some_iff.1 hk
  obtain ⟨b, ob, h1, h2, h3⟩ := hx (by intro e; rw [List.map_eq_nil_iff] at e; rw [e] at hl; exact absurd hl (Nat.not_lt_zero _))
  obtain ⟨h4, h5⟩ := h3 k (by rw [List.length_map]; exact hl)
  rw [List.getElem_map, he] at h4 h5
  exact ⟨b, ob, h1, h4, h5⟩
theorem HoldW.ext {w w' : World} {v : Value} {H : List (Nat × Nat)} (h : HoldW w v H) (hE : Ext w w') : HoldW w' v H := by
  obtain ⟨A, c, h1, h2⟩ := h
  refine ⟨A, c, h1, fun k x hk => ?_⟩
  obtain ⟨b, ob, h3, h4, h5⟩ := h2 k x hk
  exact ⟨b, ob, h3, hE.cell h4, hE.cell h5⟩
theorem own_set {w : World} {base e size n b k : Nat} {v u : Value} {xs : List Value} (h : w.ownsRow base e size v n xs) (hb : b < base) : (w.setCell ⟨b, k, none⟩ u).ownsRow base e size v n xs := by
  refine ownsRow_setCell_other h ?_ _
  intro hv
  rcases h.2 with ⟨rfl, -⟩ | ⟨g, cap, cur, rfl, hg, -⟩
  · cases hv
  · have e : g = b := Option.some.inj hv
    omega
end Go.Proofs.YtnfagcccgmakdaaGreat
namespace Go.Proofs.YtnfagcccgmakdaaGreat
open Go.RowKit Go.Wk Go.Proofs
attribute [local irreducible] Go.Wk.Wops Go.Wk.Wp Go.Wk.Mtree Go.Wk.Mops
set_option maxHeartbeats 4000000
theorem behind_iff {o : Ord} (ho : OrdOk o) {s x : Nat × Nat} (hi : s.1 < o.n) (hj : s.2 < o.m) : x ∈ behindL o s ↔ (x.1 < o.n ∧ x.2 < o.m ∧ s ∈ beforeL o x) := by
  obtain ⟨i, j⟩ := s
  obtain ⟨x1, x2⟩ := x
  dsimp only at hi hj ⊢
  constructor
  · intro h
    have hC := (ho.vC j hj).1
    rcases behindL_mem hC h with ⟨h1, h2, h3⟩ | ⟨h1, h2, h3⟩
    · dsimp only at h1 h2 h3
      subst h1; subst h2
      exact ⟨hi, h3, before_piece o x1 j⟩
    · dsimp only at h1 h2 h3
      subst h1
      exact ⟨h3, hj, before_copy hC h2.symm⟩
  · rintro ⟨h1, h2, h3⟩
    have hC := (ho.vC x2 h2).1
    rcases beforeL_mem hC h3 with ⟨h4, h5⟩ | ⟨h4, h5⟩
    · dsimp only at h4 h5
      subst h5; subst h4
      exact behind_piece h2
    · dsimp only at h4 h5
      subst h4
      exact behind_copy hC h1 h5
theorem scan_all {o : Ord} (ho : OrdOk o) {s : Nat × Nat} (hi : s.1 < o.n) (hj : s.2 < o.m) (t : Nat → Nat → Int) (d : Int) :
    leastL t d ((stintsL o.n o.m).filter fun y => decide (s ∈ beforeL o y)) = leastL t d (behindL o s) := by
  refine Int.le_antisymm ?_ ?_
  · refine leastL_ge leastL_le fun x hx => ?_
    obtain ⟨h1, h2, h3⟩ := (behind_iff ho hi hj).1 hx
    exact leastL_le_mem (List.mem_filter.2 ⟨stintsL_mem.2 ⟨h1, h2⟩, decide_eq_true h3⟩)
  · refine leastL_ge leastL_le fun x hx => ?_
    obtain ⟨h1, h2⟩ := List.mem_filter.1 hx
    obtain ⟨h3, h4⟩ := stintsL_mem.1 h1
    exact leastL_le_mem ((behind_iff ho hi hj).2 ⟨h3, h4, of_decide_eq_true h2⟩)
theorem scan_step {W : List (Nat × Nat)} {x z : Nat × Nat} {u : Nat} (h : W[u]? = some z) (D tv : Int) : (if x ∈ W.take (u + 1) then min D tv else D) = if z = x then min (if x ∈ W.take u then min D tv else D) tv else (if x ∈ W.take u then min D tv else D) := by
  rw [List.take_add_one, h]
  by_cases e : z = x
  · subst e
    rw [if_pos (by simp), if_pos rfl]
    split <;> omega
  · rw [if_neg e]
    by_cases m : x ∈ W.take u
    · rw [if_pos (List.mem_append_left _ m), if_pos m]
    · rw [if_neg m, if_neg (fun h' => by rcases List.mem_append.1 h' with h' | h'; exact m h'; simp at h'; exact e h'.symm)]
theorem scan_next {l : List (Nat × Nat)} {y : Nat × Nat} {k : Nat} (t : Nat → Nat → Int) (d : Int) (p : Nat × Nat → Bool) (h : l[k]? = some y) :
    leastL t d ((l.take (k + 1)).filter p) = if p y = true then min (leastL t d ((l.take k).filter p)) (t y.1 y.2) else leastL t d ((l.take k).filter p) := by
  rw [List.take_add_one, h, List.filter_append]
  unfold leastL
  rw [List.foldl_append]
  by_cases e : p y = true
  · rw [if_pos e]; simp [e]
  · rw [if_neg e]; simp [e]
theorem latestR_c (a : OA) (o : Ord) (d : Int) (w : World) (hO : OrdF w w.heap.size a o) (hd : 0 ≤ d ∧ d ≤ 1048576) :
    CallsV Tryz.prog 95 #[.agg #[a.cv o, a.rv o], .int .i64 d] w fun v w' => OwnTab w' w.heap.size v (tabL o (lstA o d)) ∧ Ext w w' := by
  have ho := hO.ok
  have hm := hO.hm2
  have hm1 := hO.hm1
  have hn := hO.hn2
  have hm9 : o.m ≤ 1000000000 := by omega
  simp only [OA.cv, OA.rv]
  refine Wp.fn Tryz.func95 rfl Tryz.ntmps95 (by simp) ?_
  refine Wp.keep [0, 1] fun r1 hkeep => ?_
  obtain ⟨e0_1, e1_1, -⟩ := hkeep
  simp [go_sem] at e0_1 e1_1
  have x0 := cell_nn w #[.slice (some ⟨a.cb, a.co, none⟩) o.m a.cc, .slice a.rA o.n a.rc] 25 0 rfl (v := .slice (some ⟨a.cb, a.co, none⟩) o.m a.cc) rfl
  have x1 := cell_nn w #[.slice (some ⟨a.cb, a.co, none⟩) o.m a.cc, .slice a.rA o.n a.rc] 25 1 rfl (v := .slice a.rA o.n a.rc) rfl
  have hEV : Ext w (w.alloc (.cells #[.slice (some ⟨a.cb, a.co, none⟩) o.m a.cc, .slice a.rA o.n a.rc] 25)) := (by repeat (first | assumption | exact Ext.refl _ | refine Ext.drew ?_ | refine Ext.alloc ?_ _ | refine Ext.trans ?_ (by assumption)))
  refine Wp.seqRegion (.inl rfl) (by kernel_rfl) fun K' gd hK hg => ?_
  clear hg
  go_simp
  refine hK _ _ ?_
  clear hK K' gd
  refine Wp.keep [1, 2] fun r2 hkeep => ?_
  obtain ⟨e1_2, e2_2, -⟩ := hkeep
  simp [go_sem, e0_1, e1_1] at e1_2 e2_2
  clear e0_1 e1_1
  refine Wp.seqRegion (.inl rfl) (by kernel_rfl) fun K' gd hK hg => ?_
  clear hg
  go_simp
  refine hK _ _ ?_
  clear hK K' gd
  refine Wp.keep [1, 2, 5] fun r3 hkeep => ?_
  obtain ⟨e1_3, e2_3, e5_3, -⟩ := hkeep
  simp [go_sem, e1_2, e2_2] at e1_3 e2_3 e5_3
  clear e1_2 e2_2
  refine Wp.seq ?_
  generalize w.alloc (.cells #[.slice (some ⟨a.cb, a.co, none⟩) o.m a.cc, .slice a.rA o.n a.rc] 25) = V at *
  have hlV : w.heap.size < V.heap.size := cell_lt x0
  refine Wp.seqRegion (.inl rfl) (by kernel_rfl) fun K' gd hK hg => ?_
  clear hg
  go_simp
  refine hK _ _ ?_
  clear hK K' gd
  refine Wp.keep [1, 2, 5, 6] fun r4 hkeep => ?_
  obtain ⟨e1_4, e2_4, e5_4, e6_4, -⟩ := hkeep
  simp [go_sem, e1_3, e2_3, e5_3] at e1_4 e2_4 e5_4 e6_4
  clear e1_3 e2_3 e5_3
  refine Wp.block ?_
  refine Wp.loop (fun k ρ ds wk => AllEq [1, 2] ρ r4 ∧ ds = [] ∧ (∃ v3 rb, ρ 6 = .int .i64 (k : Int) ∧ ρ 5 = v3 ∧ TabW wk V.heap.size v3 k o.m rb (fun _ _ => 0) ∧ Ext V wk)) (o.n) ?_ ?_
  · refine ⟨AllEq.refl _ _, rfl, ?_⟩
    exact ⟨_, fun _ => 0, by rw [e6_4]; rfl, e5_4, ⟨World.ownsRow_nil _ _ _ _, fun k hk => absurd hk (Nat.not_lt_zero _), fun k j hk => absurd hk (Nat.not_lt_zero _), fun k hk => absurd hk (Nat.not_lt_zero _), fun i j _ hj => absurd hj (Nat.not_lt_zero _)⟩, Ext.refl _⟩
  · rintro k r5 _ wk hk ⟨hA, rfl, ⟨v3, rb, e6, e5, i1, hEk⟩⟩
    obtain ⟨e1_5, e2_5, -⟩ := hA
    rw [e1_4] at e1_5
    rw [e2_4] at e2_5
    have y0 := hEk.cell x0
    have y1 := hEk.cell x1
    have hVk := Below.size hEk
    refine Wp.seq ?_
    refine Wp.seqRegion (.inl rfl) (by kernel_rfl) fun K' gd hK hg => ?_
    clear hg
    go_simp
    refine hK _ _ ?_
    clear hK K' gd
    refine Wp.keep [1, 2, 5, 6, 18] fun r6 hkeep => ?_
    obtain ⟨e1_6, e2_6, e5_6, e6_6, e18_6, -⟩ := hkeep
    simp [go_sem, e1_5, e2_5, e5, e6] at e1_6 e2_6 e5_6 e6_6 e18_6
    clear e1_5 e2_5 e5 e6
    by_cases h : k < o.n
    · refine Wp.condT (by go_simp) ?_
      refine Wp.skip ?_
      refine thenK_normal ?_
      refine Wp.seq ?_
      refine Wp.block ?_
      refine Wp.loneRegion (.inl rfl) (by kernel_rfl) fun K' gd hK hg => ?_
      clear hg
      refine Wops.cut 6 fun K1 hK1 => ?_
      simp only [List.take_succ_cons, List.take_zero]
      go_simp
      refine hK1 _ _ ?_
      clear hK1 K1
      simp only [List.drop_succ_cons, List.drop_zero]
      obtain ⟨v', w', hrun, hown, hgr, -⟩ := app_run tab_T (ownsRow_ext i1.own (by repeat (first | assumption | exact Ext.refl _ | refine Ext.drew ?_ | refine Ext.alloc ?_ _ | refine Ext.trans ?_ (by assumption)))) ⟨wk.heap.size + 1, 0, none⟩ 1 1 [.slice (some ⟨wk.heap.size, 0, none⟩) o.m o.m] 28 rfl (news_one (cell_nn _ _ _ 0 (by simp) rfl)) (one_one rfl) (by omega) (by simp; omega) (w := ((wk.alloc (.cells (madeC Tryz.prog 3 o.m) 3)).alloc (.cells #[.slice (some ⟨wk.heap.size, 0, none⟩) o.m o.m] 22)))
      refine Wops.law rfl (exec_append2 rfl hrun (by go_simp) (by go_simp)) ?_
      go_simp
      refine hK _ _ ?_
      clear hK K' gd
      refine Ends.keep [1, 2, 5, 6] fun r7 hkeep => ?_
      obtain ⟨e1_7, e2_7, e5_7, e6_7, -⟩ := hkeep
      simp [go_sem, e1_6, e2_6, e5_6, e6_6, e18_6] at e1_7 e2_7 e5_7 e6_7
      clear e1_6 e2_6 e5_6 e6_6 e18_6
      refine Ends.mk ?_
      refine blockK_normal ?_
      refine thenK_normal ?_
      refine Wp.loneRegion (.inl rfl) (by kernel_rfl) fun K' gd hK hg => ?_
      clear hg
      go_simp
      refine hK _ _ ?_
      clear hK K' gd
      refine Ends.keep [1, 2, 5, 6] fun r8 hkeep => ?_
      obtain ⟨e1_8, e2_8, e5_8, e6_8, -⟩ := hkeep
      simp [go_sem, e1_7, e2_7, e5_7, e6_7] at e1_8 e2_8 e5_8 e6_8
      clear e1_7 e2_7 e5_7 e6_7
      refine Ends.mk ?_
      refine thenK_normal ⟨by omega, ⟨by rw [e1_8, e1_4], by rw [e2_8, e2_4], trivial⟩, rfl, ?_⟩
      have hE0 : Ext wk ((wk.alloc (.cells (madeC Tryz.prog 3 o.m) 3)).alloc (.cells #[.slice (some ⟨wk.heap.size, 0, none⟩) o.m o.m] 22)) := (by repeat (first | assumption | exact Ext.refl _ | refine Ext.drew ?_ | refine Ext.alloc ?_ _ | refine Ext.trans ?_ (by assumption)))
      have hg0 : ((wk.alloc (.cells (madeC Tryz.prog 3 o.m) 3)).alloc (.cells #[.slice (some ⟨wk.heap.size, 0, none⟩) o.m o.m] 22)).heap[wk.heap.size]? = some (.cells (madeC Tryz.prog 3 o.m) 3 (0, 0)) := (Below.heap_alloc _ _ _ (by simp)).trans (World.alloc_heap_new wk _)
      have hz : ∀ j, j < o.m → ((wk.alloc (.cells (madeC Tryz.prog 3 o.m) 3)).alloc (.cells #[.slice (some ⟨wk.heap.size, 0, none⟩) o.m o.m] 22)).cell? ⟨wk.heap.size, j, none⟩ = some (.int .i64 0) := fun j hj => by rw [cell_of_row _ _ j _ _ _ hg0]; exact madeI o.m j hj
      have hp := TabW.push (i1.ext hE0) ⟨_, hg0, by rw [madeC_size ints_T, Nat.mul_one]⟩ hz hVk (fun k' hk' => (i1.row k' hk').lt) hown hgr
      exact ⟨v', _, by rw [e6_8, IntWalk.i64_in _ (by omega)]; rfl, e5_8, hp, Below.grown (Ext.trans hEk hE0) (ownsRow_ext i1.own hE0) hgr (Nat.le_refl _) (Nat.le_refl _)⟩
    · refine Wp.condF (by go_simp) ?_
      obtain rfl : k = o.n := by omega
      refine Wp.exit ?_
      refine thenK_exit ?_
      refine thenK_exit ?_
      refine blockK_here ?_
      refine thenK_normal ?_
      refine Wp.seqRegion (.inl rfl) (by kernel_rfl) fun K' gd hK hg => ?_
      clear hg
      go_simp
      refine Wcall (.inl rfl) (stintsR_c (some ⟨a.cb, a.co, none⟩) a.rA o.n o.m a.cc a.rc _ (by omega) (by omega)) ?_
      rintro v5 w2 ⟨hL, hE2⟩
      obtain ⟨A5, c5, rfl⟩ := hL.slice
      rw [stintsL_len] at hL ⊢
      obtain ⟨N, hN⟩ : ∃ N, o.n * o.m = N := ⟨_, rfl⟩
      rw [hN] at hL ⊢
      go_simp
      refine hK _ _ ?_
      clear hK K' gd
      refine Wp.keep [1, 2, 5, 7] fun r9 hkeep => ?_
      obtain ⟨e1_9, e2_9, e5_9, e7_9, -⟩ := hkeep
      simp [go_sem, e1_6, e2_6, e5_6, e6_6, e18_6] at e1_9 e2_9 e5_9 e7_9
      clear e1_6 e2_6 e5_6 e6_6 e18_6
      have hEV2 : Ext V w2 := (by repeat (first | assumption | exact Ext.refl _ | refine Ext.drew ?_ | refine Ext.alloc ?_ _ | refine Ext.trans ?_ (by assumption)))
      have hT2 := i1.ext hE2
      obtain ⟨A3, c3, rfl⟩ := i1.slice
      have hnm : N ≤ 20 * 15 := by rw [← hN]; exact Nat.mul_le_mul hn hm
      refine Wp.seq ?_
      refine Wp.seqRegion (.inl rfl) (by kernel_rfl) fun K' gd hK hg => ?_
      clear hg
      go_simp
      refine hK _ _ ?_
      clear hK K' gd
      refine Wp.keep [1, 2, 5, 7, 8] fun r10 hkeep => ?_
      obtain ⟨e1_10, e2_10, e5_10, e7_10, e8_10, -⟩ := hkeep
      simp [go_sem, e1_9, e2_9, e5_9, e7_9] at e1_10 e2_10 e5_10 e7_10 e8_10
      clear e1_9 e2_9 e5_9 e7_9
      refine Wp.block ?_
      refine Wp.loop (fun q ρ ds wq => AllEq [1, 2, 5, 7] ρ r10 ∧ ds = [] ∧ (ρ 8 = .int .i64 ((N : Int) - 1 - (q : Int)) ∧ TabW wq V.heap.size (.slice A3 o.n c3) o.n o.m rb (lstT o d q) ∧ OwnS wq wk.heap.size (.slice A5 N c5) ((stintsL o.n o.m).map zS) ∧ Ext V wq)) (N) ?_ ?_
      · refine ⟨AllEq.refl _ _, rfl, ?_⟩
        exact ⟨by rw [e8_10, IntWalk.i64_in _ (by omega)]; congr 1; omega, by rw [lstT_zero]; exact hT2, hL, hEV2⟩
      · rintro q r11 _ wq hq ⟨hA, rfl, ⟨e8, hT, hLi, hEi⟩⟩
        obtain ⟨e1_11, e2_11, e5_11, e7_11, -⟩ := hA
        rw [e1_10] at e1_11
        rw [e2_10] at e2_11
        rw [e5_10] at e5_11
        rw [e7_10] at e7_11
        have z0 := hEi.cell x0
        have z1 := hEi.cell x1
        have hOi := hO.ext (Ext.trans hEV hEi)
        refine Wp.seq ?_
        refine Wp.seqRegion (.inl rfl) (by kernel_rfl) fun K' gd hK hg => ?_
        clear hg
        go_simp
        refine hK _ _ ?_
        clear hK K' gd
        refine Wp.keep [1, 2, 5, 7, 8, 34] fun r12 hkeep => ?_
        obtain ⟨e1_12, e2_12, e5_12, e7_12, e8_12, e34_12, -⟩ := hkeep
        simp [go_sem, e1_11, e2_11, e5_11, e7_11, e8] at e1_12 e2_12 e5_12 e7_12 e8_12 e34_12
        clear e1_11 e2_11 e5_11 e7_11 e8
        by_cases h3 : (q : Int) ≤ (N : Int) - 1
        · refine Wp.condT (by go_simp) ?_
          obtain ⟨i, hi⟩ : ∃ i : Nat, (i : Int) = (N : Int) - 1 - (q : Int) := ⟨N - 1 - q, by omega⟩
          have hiN : i < N := by omega
          have hiq : i + q + 1 = N := by omega
          rw [← hi] at e8_12
          have hi2 : ∃ _u : Unit, (i : Int) = (N : Int) - 1 - (q : Int) := ⟨(), hi⟩
          clear hi
          obtain ⟨x, hx⟩ : ∃ x, (stintsL o.n o.m)[i]? = some x := ⟨_, List.getElem?_eq_getElem (by rw [stintsL_len, hN]; exact hiN)⟩
          obtain ⟨-, -, hx1, hx2, hix'⟩ := stintsL_at hx
          obtain ⟨b5, rfl, c51, c52⟩ := hLi.at hx
          have b6 : (i : Int) < (N : Int) := by omega
          have hkl : (o.n - 1 - x.1) * o.m + (o.m - 1 - x.2) = q := by (obtain ⟨k0, hk0⟩ : ∃ k0, o.n - 1 - x.1 = k0 := ⟨_, rfl⟩); (rw [hk0]); (have e1 : o.n = x.1 + k0 + 1 := by omega); (have e2 : o.n * o.m = (x.1 + k0 + 1) * o.m := by rw [← e1]); (rw [Nat.add_mul, Nat.add_mul, Nat.one_mul] at e2); omega
          clear hix'
          have hE0 : Ext wq (wq.alloc (.cells #[.int .i64 (x.1 : Int), .int .i64 (x.2 : Int)] 56)) := (by repeat (first | assumption | exact Ext.refl _ | refine Ext.drew ?_ | refine Ext.alloc ?_ _ | refine Ext.trans ?_ (by assumption)))
          have g0 := cell_nn wq #[.int .i64 (x.1 : Int), .int .i64 (x.2 : Int)] 56 0 rfl (v := .int .i64 (x.1 : Int)) rfl
          have g1 := cell_nn wq #[.int .i64 (x.1 : Int), .int .i64 (x.2 : Int)] 56 1 rfl (v := .int .i64 (x.2 : Int)) rfl
          refine Wp.skip ?_
          refine thenK_normal ?_
          refine Wp.seq ?_
          refine Wp.block ?_
          refine Wp.seqRegion (.inl rfl) (by kernel_rfl) fun K' gd hK hg => ?_
          clear hg
          go_simp
          refine hK _ _ ?_
          clear hK K' gd
          refine Wp.keep [1, 2, 5, 7, 8, 9] fun r13 hkeep => ?_
          obtain ⟨e1_13, e2_13, e5_13, e7_13, e8_13, e9_13, -⟩ := hkeep
          simp [go_sem, e1_12, e2_12, e5_12, e7_12, e8_12, e34_12] at e1_13 e2_13 e5_13 e7_13 e8_13 e9_13
          clear e1_12 e2_12 e5_12 e7_12 e8_12 e34_12
          refine Wp.seqRegion (.inl rfl) (by kernel_rfl) fun K' gd hK hg => ?_
          clear hg
          go_simp
          refine hK _ _ ?_
          clear hK K' gd
          refine Wp.keep [1, 2, 5, 7, 8, 9, 10] fun r14 hkeep => ?_
          obtain ⟨e1_14, e2_14, e5_14, e7_14, e8_14, e9_14, e10_14, -⟩ := hkeep
          simp [go_sem, e1_13, e2_13, e5_13, e7_13, e8_13, e9_13] at e1_14 e2_14 e5_14 e7_14 e8_14 e9_14 e10_14
          clear e1_13 e2_13 e5_13 e7_13 e8_13 e9_13
          refine Wp.seq ?_
          obtain ⟨t, ht⟩ : ∃ t, lstT o d q = t := ⟨_, rfl⟩
          have ht2 : ∃ _u : Unit, lstT o d q = t := ⟨(), ht⟩
          rw [ht] at hT
          clear ht
          obtain ⟨p, hp⟩ : ∃ p, (fun y : Nat × Nat => decide (x ∈ beforeL o y)) = p := ⟨_, rfl⟩
          have hL' := ownsRow_ext hLi hE0
          have hT' := hT.ext hE0
          have hOq := hOi.ext hE0
          have z0 := hE0.cell z0
          have z1 := hE0.cell z1
          have hEVq := Ext.trans hEi hE0
          generalize hWq : wq.alloc (.cells #[.int .i64 (x.1 : Int), .int .i64 (x.2 : Int)] 56) = V2 at *
          have hS := hlV
          refine Wp.seqRegion (.inl rfl) (by kernel_rfl) fun K' gd hK hg => ?_
          clear hg
          go_simp
          refine hK _ _ ?_
          clear hK K' gd
          refine Wp.keep [1, 2, 5, 7, 8, 9, 10, 11] fun r15 hkeep => ?_
          obtain ⟨e1_15, e2_15, e5_15, e7_15, e8_15, e9_15, e10_15, e11_15, -⟩ := hkeep
          simp [go_sem, e1_14, e2_14, e5_14, e7_14, e8_14, e9_14, e10_14] at e1_15 e2_15 e5_15 e7_15 e8_15 e9_15 e10_15 e11_15
          clear e1_14 e2_14 e5_14 e7_14 e8_14 e9_14 e10_14
          refine Wp.block ?_
          refine Wp.loop (fun l ρ ds wl => AllEq [1, 2, 5, 7, 8, 9] ρ r15 ∧ ds = [] ∧ (ρ 11 = .int .i64 (l : Int) ∧ ρ 10 = .int .i64 (leastL t d (((stintsL o.n o.m).take l).filter p)) ∧ Ext V2 wl)) (N) ?_ ?_
          · refine ⟨AllEq.refl _ _, rfl, ?_⟩
            exact ⟨by rw [e11_15]; rfl, by rw [e10_15]; rfl, Ext.refl _⟩
          · rintro l r16 _ wl hl ⟨hA, rfl, ⟨e11, e10, hEk2⟩⟩
            obtain ⟨e1_16, e2_16, e5_16, e7_16, e8_16, e9_16, -⟩ := hA
            rw [e1_15] at e1_16
            rw [e2_15] at e2_16
            rw [e5_15] at e5_16
            rw [e7_15] at e7_16
            rw [e8_15] at e8_16
            rw [e9_15] at e9_16
            refine Wp.seq ?_
            refine Wp.seqRegion (.inl rfl) (by kernel_rfl) fun K' gd hK hg => ?_
            clear hg
            go_simp
            refine hK _ _ ?_
            clear hK K' gd
            refine Wp.keep [1, 2, 5, 7, 8, 9, 10, 11, 45] fun r17 hkeep => ?_
            obtain ⟨e1_17, e2_17, e5_17, e7_17, e8_17, e9_17, e10_17, e11_17, e45_17, -⟩ := hkeep
            simp [go_sem, e1_16, e2_16, e5_16, e7_16, e8_16, e9_16, e10, e11] at e1_17 e2_17 e5_17 e7_17 e8_17 e9_17 e10_17 e11_17 e45_17
            clear e1_16 e2_16 e5_16 e7_16 e8_16 e9_16 e10 e11
            by_cases h4 : l < N
            · refine Wp.condT (by go_simp) ?_
              obtain ⟨y, hy⟩ : ∃ y, (stintsL o.n o.m)[l]? = some y := ⟨_, List.getElem?_eq_getElem (by rw [stintsL_len, hN]; exact h4)⟩
              obtain ⟨-, -, hy1, hy2, -⟩ := stintsL_at hy
              have hLk := ownsRow_ext hL' hEk2
              obtain ⟨b5, hb5, d1, d2⟩ := OwnS.at hLk hy
              injection hb5 with hb5
              injection hb5 with hb5
              subst hb5
              have b7 : (l : Int) < (N : Int) := by omega
              have y0 := hEk2.cell z0
              have y1 := hEk2.cell z1
              have hOk := hOq.ext hEk2
              refine Wp.skip ?_
              refine thenK_normal ?_
              refine Wp.seq ?_
              refine Wp.block ?_
              refine Wp.seqDraw (.inl rfl) mixed [([0, 1, 2, 3, 4], some (5, false)), ([6], none)] (by kernel_rfl) fun K' gd hK hg => ?_
              clear hg
              simp only [pick, nth, List.map_cons, List.map_nil, Option.map_none, Option.map_some]
              apply Mops.act
              · intro w' hE'
                have hC' := hE'.cellsS
                go_simp
                with_reducible rfl
              intro K1 hK1
              go_simp
              refine Wcall (.inl rfl) (waitsR_c a o y.1 y.2 _ (hOk.ext (by repeat (first | assumption | exact Ext.refl _ | refine Ext.drew ?_ | refine Ext.alloc ?_ _ | refine Ext.trans ?_ (by assumption)))) hy1 hy2) ?_
              rintro v9 w4 ⟨hW9, hE4⟩
              obtain ⟨A9, c9, rfl⟩ := hW9.slice
              have hE4l : Ext wl w4 := Ext.trans ((Ext.refl wl).drew) hE4
              have hE24 : Ext V2 w4 := Ext.trans hEk2 hE4l
              go_simp
              refine hK1 _ _ (by first | assumption | exact Ext.refl _) ?_
              clear hK1 K1
              apply Mops.none
              · intro w' hE'
                have hC' := hE'.cellsS
                go_simp
                with_reducible rfl
              refine Mops.done ?_
              refine hK _ _ ?_
              clear hK K' gd
              refine Wp.keep [1, 2, 5, 7, 8, 9, 10, 11, 12] fun r18 hkeep => ?_
              obtain ⟨e1_18, e2_18, e5_18, e7_18, e8_18, e9_18, e10_18, e11_18, e12_18, -⟩ := hkeep
              simp [go_sem, e1_17, e2_17, e5_17, e7_17, e8_17, e9_17, e10_17, e11_17, e45_17] at e1_18 e2_18 e5_18 e7_18 e8_18 e9_18 e10_18 e11_18 e12_18
              clear e1_17 e2_17 e5_17 e7_17 e8_17 e9_17 e10_17 e11_17 e45_17
              have hsn := scan_next t d p hy
              obtain ⟨D, hD⟩ : ∃ D, leastL t d (((stintsL o.n o.m).take l).filter p) = D := ⟨_, rfl⟩
              rw [hD] at hsn e10_18
              clear hD
              have hpy : p y = decide (x ∈ beforeL o (y.1, y.2)) := by rw [← hp]
              obtain ⟨W9, hW9'⟩ : ∃ W9, beforeL o (y.1, y.2) = W9 := ⟨_, rfl⟩
              have hblen : W9.length ≤ 1000 := by rw [← hW9']; unfold beforeL; simp only [List.length_append]; split <;> split <;> simp
              rw [hW9'] at hW9 hpy e12_18
              obtain ⟨tv, htv⟩ : ∃ tv, t y.1 y.2 = tv := ⟨_, rfl⟩
              rw [htv] at hsn
              have hsn2 : ∃ _u : Unit, leastL t d (((stintsL o.n o.m).take (l + 1)).filter p) = if p y = true then min D tv else D := ⟨(), hsn⟩
              clear hsn
              refine Wp.seqRegion (.inl rfl) (by kernel_rfl) fun K' gd hK hg => ?_
              clear hg
              go_simp
              refine hK _ _ ?_
              clear hK K' gd
              refine Wp.keep [1, 2, 5, 7, 8, 9, 10, 11, 12, 13] fun r19 hkeep => ?_
              obtain ⟨e1_19, e2_19, e5_19, e7_19, e8_19, e9_19, e10_19, e11_19, e12_19, e13_19, -⟩ := hkeep
              simp [go_sem, e1_18, e2_18, e5_18, e7_18, e8_18, e9_18, e10_18, e11_18, e12_18] at e1_19 e2_19 e5_19 e7_19 e8_19 e9_19 e10_19 e11_19 e12_19 e13_19
              clear e1_18 e2_18 e5_18 e7_18 e8_18 e9_18 e10_18 e11_18 e12_18
              refine Wp.block ?_
              refine Wp.loop (fun u ρ ds wu => AllEq [1, 2, 5, 7, 8, 9, 11, 12] ρ r19 ∧ ds = [] ∧ (ρ 13 = .int .i64 (u : Int) ∧ ρ 10 = .int .i64 (if x ∈ W9.take u then min D tv else D) ∧ Ext w4 wu)) (W9.length) ?_ ?_
              · refine ⟨AllEq.refl _ _, rfl, ?_⟩
                exact ⟨by rw [e13_19]; rfl, by rw [e10_19, if_neg (by simp)], Ext.refl _⟩
              · rintro u r20 _ wu hu ⟨hA, rfl, ⟨e13, e10, hEu⟩⟩
                obtain ⟨e1_20, e2_20, e5_20, e7_20, e8_20, e9_20, e11_20, e12_20, -⟩ := hA
                rw [e1_19] at e1_20
                rw [e2_19] at e2_20
                rw [e5_19] at e5_20
                rw [e7_19] at e7_20
                rw [e8_19] at e8_20
                rw [e9_19] at e9_20
                rw [e11_19] at e11_20
                rw [e12_19] at e12_20
                have hE2u : Ext V2 wu := Ext.trans hE24 hEu
                have f0 := hE2u.cell g0
                have f1 := hE2u.cell g1
                refine Wp.seq ?_
                refine Wp.seqRegion (.inl rfl) (by kernel_rfl) fun K' gd hK hg => ?_
                clear hg
                go_simp
                refine hK _ _ ?_
                clear hK K' gd
                refine Wp.keep [1, 2, 5, 7, 8, 9, 10, 11, 12, 13, 57] fun r21 hkeep => ?_
                obtain ⟨e1_21, e2_21, e5_21, e7_21, e8_21, e9_21, e10_21, e11_21, e12_21, e13_21, e57_21, -⟩ := hkeep
                simp [go_sem, e1_20, e2_20, e5_20, e7_20, e8_20, e9_20, e10, e11_20, e12_20, e13] at e1_21 e2_21 e5_21 e7_21 e8_21 e9_21 e10_21 e11_21 e12_21 e13_21 e57_21
                clear e1_20 e2_20 e5_20 e7_20 e8_20 e9_20 e10 e11_20 e12_20 e13
                by_cases h6 : u < W9.length
                · refine Wp.condT (by go_simp) ?_
                  obtain ⟨z, hz⟩ : ∃ z, W9[u]? = some z := ⟨_, List.getElem?_eq_getElem h6⟩
                  obtain ⟨b9, rfl, c91, c92⟩ := OwnS.at (ownsRow_ext hW9 hEu) hz
                  have b11 : (u : Int) < (W9.length : Int) := by omega
                  have hss := scan_step (x := x) hz D tv
                  obtain ⟨E, hE⟩ : ∃ E, (if x ∈ W9.take u then min D tv else D) = E := ⟨_, rfl⟩
                  rw [hE] at hss e10_21
                  have hss2 : ∃ _u : Unit, (if x ∈ W9.take (u + 1) then min D tv else D) = if z = x then min E tv else E := ⟨(), hss⟩
                  clear hss hE
                  by_cases k1 : z.1 = x.1
                  · skip
                    by_cases k2 : z.2 = x.2
                    · skip
                      refine Wp.skip ?_
                      refine thenK_normal ?_
                      refine Wp.seq ?_
                      refine Wp.block ?_
                      refine Wp.seqDraw (.inl rfl) mixed [([0, 1, 2, 3, 4], none), ([5], none)] (by kernel_rfl) fun K' gd hK hg => ?_
                      clear hg
                      simp only [pick, nth, List.map_cons, List.map_nil, Option.map_none, Option.map_some]
                      apply Mops.none
                      · intro w' hE'
                        have hC' := hE'.cellsS
                        go_simp
                        with_reducible rfl
                      apply Mops.none
                      · intro w' hE'
                        have hC' := hE'.cellsS
                        go_simp
                        with_reducible rfl
                      refine Mops.done ?_
                      refine hK _ _ ?_
                      clear hK K' gd
                      refine Wp.keep [1, 2, 5, 7, 8, 9, 10, 11, 12, 13, 65] fun r22 hkeep => ?_
                      obtain ⟨e1_22, e2_22, e5_22, e7_22, e8_22, e9_22, e10_22, e11_22, e12_22, e13_22, e65_22, -⟩ := hkeep
                      simp [go_sem, e1_21, e2_21, e5_21, e7_21, e8_21, e9_21, e10_21, e11_21, e12_21, e13_21, e57_21] at e1_22 e2_22 e5_22 e7_22 e8_22 e9_22 e10_22 e11_22 e12_22 e13_22 e65_22
                      clear e1_21 e2_21 e5_21 e7_21 e8_21 e9_21 e10_21 e11_21 e12_21 e13_21 e57_21
                      refine Wp.condT (by go_simp) ?_
                      have hzx : ∃ _u : Unit, z = x := ⟨(), Prod.ext k1 k2⟩
                      clear k1 k2
                      have hTu := hT'.ext hE2u
                      obtain ⟨g3, rfl, c3c⟩ := hTu.rowCell hy1
                      have cy := hTu.cell y.1 y.2 hy1 hy2
                      rw [htv] at cy
                      have hElu : Ext wl wu := Ext.trans hE4l hEu
                      have d1 := hElu.cell d1
                      have d2 := hElu.cell d2
                      have b12 : (y.1 : Int) < (o.n : Int) := by omega
                      have b13 : (y.2 : Int) < (o.m : Int) := by omega
                      refine Wp.loneDraw (.inl rfl) mixed [([0, 1, 2, 3, 4], none), ([5, 6, 7, 8, 9], none), ([10, 11, 12, 13, 14], none), ([15, 16, 17], none)] (by kernel_rfl) fun K' gd hK hg => ?_
                      clear hg
                      simp only [pick, nth, List.map_cons, List.map_nil, Option.map_none, Option.map_some]
                      apply Mops.none
                      · intro w' hE'
                        have hC' := hE'.cellsS
                        go_simp
                        with_reducible rfl
                      apply Mops.none
                      · intro w' hE'
                        have hC' := hE'.cellsS
                        go_simp
                        with_reducible rfl
                      apply Mops.none
                      · intro w' hE'
                        have hC' := hE'.cellsS
                        go_simp
                        with_reducible rfl
                      apply Mops.none
                      · intro w' hE'
                        have hC' := hE'.cellsS
                        go_simp
                        with_reducible rfl
                      refine Mops.done ?_
                      refine hK _ _ ?_
                      clear hK K' gd
                      refine Ends.keep [1, 2, 5, 7, 8, 9, 10, 11, 12, 13] fun r23 hkeep => ?_
                      obtain ⟨e1_23, e2_23, e5_23, e7_23, e8_23, e9_23, e10_23, e11_23, e12_23, e13_23, -⟩ := hkeep
                      simp [go_sem, e1_22, e2_22, e5_22, e7_22, e8_22, e9_22, e10_22, e11_22, e12_22, e13_22, e65_22] at e1_23 e2_23 e5_23 e7_23 e8_23 e9_23 e10_23 e11_23 e12_23 e13_23
                      clear e1_22 e2_22 e5_22 e7_22 e8_22 e9_22 e10_22 e11_22 e12_22 e13_22 e65_22
                      refine Ends.mk ?_
                      refine blockK_normal ?_
                      refine thenK_normal ?_
                      refine Wp.loneRegion (.inl rfl) (by kernel_rfl) fun K' gd hK hg => ?_
                      clear hg
                      go_simp
                      refine hK _ _ ?_
                      clear hK K' gd
                      refine Ends.keep [1, 2, 5, 7, 8, 9, 10, 11, 12, 13] fun r24 hkeep => ?_
                      obtain ⟨e1_24, e2_24, e5_24, e7_24, e8_24, e9_24, e10_24, e11_24, e12_24, e13_24, -⟩ := hkeep
                      simp [go_sem, e1_23, e2_23, e5_23, e7_23, e8_23, e9_23, e10_23, e11_23, e12_23, e13_23] at e1_24 e2_24 e5_24 e7_24 e8_24 e9_24 e10_24 e11_24 e12_24 e13_24
                      clear e1_23 e2_23 e5_23 e7_23 e8_23 e9_23 e10_23 e11_23 e12_23 e13_23
                      refine Ends.mk ?_
                      refine thenK_normal ⟨by omega, ⟨by rw [e1_24, e1_19], by rw [e2_24, e2_19], by rw [e5_24, e5_19], by rw [e7_24, e7_19], by rw [e8_24, e8_19], by rw [e9_24, e9_19], by rw [e11_24, e11_19], by rw [e12_24, e12_19], trivial⟩, rfl, ?_⟩
                      refine ⟨by rw [e13_24, IntWalk.i64_in _ (by omega)]; rfl, ?_, (by repeat (first | assumption | exact Ext.refl _ | refine Ext.drew ?_ | refine Ext.alloc ?_ _ | refine Ext.trans ?_ (by assumption)))⟩
                      obtain ⟨-, hss⟩ := hss2
                      obtain ⟨-, hzx⟩ := hzx
                      rw [hss, if_pos hzx, e10_24]
                      congr 1
                      first | omega | (split <;> omega)
                    · skip
                      have k2' : ¬ (z.2 : Int) = (x.2 : Int) := by omega
                      refine Wp.skip ?_
                      refine thenK_normal ?_
                      refine Wp.seq ?_
                      refine Wp.block ?_
                      refine Wp.seqDraw (.inl rfl) mixed [([0, 1, 2, 3, 4], none), ([5], none)] (by kernel_rfl) fun K' gd hK hg => ?_
                      clear hg
                      simp only [pick, nth, List.map_cons, List.map_nil, Option.map_none, Option.map_some]
                      apply Mops.none
                      · intro w' hE'
                        have hC' := hE'.cellsS
                        go_simp
                        with_reducible rfl
                      apply Mops.none
                      · intro w' hE'
                        have hC' := hE'.cellsS
                        go_simp
                        with_reducible rfl
                      refine Mops.done ?_
                      refine hK _ _ ?_
                      clear hK K' gd
                      refine Wp.keep [1, 2, 5, 7, 8, 9, 10, 11, 12, 13, 65] fun r25 hkeep => ?_
                      obtain ⟨e1_25, e2_25, e5_25, e7_25, e8_25, e9_25, e10_25, e11_25, e12_25, e13_25, e65_25, -⟩ := hkeep
                      simp [go_sem, e1_21, e2_21, e5_21, e7_21, e8_21, e9_21, e10_21, e11_21, e12_21, e13_21, e57_21] at e1_25 e2_25 e5_25 e7_25 e8_25 e9_25 e10_25 e11_25 e12_25 e13_25 e65_25
                      clear e1_21 e2_21 e5_21 e7_21 e8_21 e9_21 e10_21 e11_21 e12_21 e13_21 e57_21
                      refine Wp.condF (by go_simp) ?_
                      refine Wp.skip ?_
                      refine blockK_normal ?_
                      refine thenK_normal ?_
                      refine Wp.loneRegion (.inl rfl) (by kernel_rfl) fun K' gd hK hg => ?_
                      clear hg
                      go_simp
                      refine hK _ _ ?_
                      clear hK K' gd
                      refine Ends.keep [1, 2, 5, 7, 8, 9, 10, 11, 12, 13] fun r26 hkeep => ?_
                      obtain ⟨e1_26, e2_26, e5_26, e7_26, e8_26, e9_26, e10_26, e11_26, e12_26, e13_26, -⟩ := hkeep
                      simp [go_sem, e1_25, e2_25, e5_25, e7_25, e8_25, e9_25, e10_25, e11_25, e12_25, e13_25, e65_25] at e1_26 e2_26 e5_26 e7_26 e8_26 e9_26 e10_26 e11_26 e12_26 e13_26
                      clear e1_25 e2_25 e5_25 e7_25 e8_25 e9_25 e10_25 e11_25 e12_25 e13_25 e65_25
                      refine Ends.mk ?_
                      refine thenK_normal ⟨by omega, ⟨by rw [e1_26, e1_19], by rw [e2_26, e2_19], by rw [e5_26, e5_19], by rw [e7_26, e7_19], by rw [e8_26, e8_19], by rw [e9_26, e9_19], by rw [e11_26, e11_19], by rw [e12_26, e12_19], trivial⟩, rfl, ?_⟩
                      refine ⟨by rw [e13_26, IntWalk.i64_in _ (by omega)]; rfl, ?_, (by repeat (first | assumption | exact Ext.refl _ | refine Ext.drew ?_ | refine Ext.alloc ?_ _ | refine Ext.trans ?_ (by assumption)))⟩
                      obtain ⟨-, hss⟩ := hss2
                      rw [hss, if_neg (fun e => k2 (by rw [e]))]; exact e10_26
                  · skip
                    have k1' : ¬ (z.1 : Int) = (x.1 : Int) := by omega
                    refine Wp.skip ?_
                    refine thenK_normal ?_
                    refine Wp.seq ?_
                    refine Wp.block ?_
                    refine Wp.seqDraw (.inl rfl) mixed [([0, 1, 2, 3, 4], none), ([5], none)] (by kernel_rfl) fun K' gd hK hg => ?_
                    clear hg
                    simp only [pick, nth, List.map_cons, List.map_nil, Option.map_none, Option.map_some]
                    apply Mops.none
                    · intro w' hE'
                      have hC' := hE'.cellsS
                      go_simp
                      with_reducible rfl
                    apply Mops.none
                    · intro w' hE'
                      have hC' := hE'.cellsS
                      go_simp
                      with_reducible rfl
                    refine Mops.done ?_
                    refine hK _ _ ?_
                    clear hK K' gd
                    refine Wp.keep [1, 2, 5, 7, 8, 9, 10, 11, 12, 13, 65] fun r27 hkeep => ?_
                    obtain ⟨e1_27, e2_27, e5_27, e7_27, e8_27, e9_27, e10_27, e11_27, e12_27, e13_27, e65_27, -⟩ := hkeep
                    simp [go_sem, e1_21, e2_21, e5_21, e7_21, e8_21, e9_21, e10_21, e11_21, e12_21, e13_21, e57_21] at e1_27 e2_27 e5_27 e7_27 e8_27 e9_27 e10_27 e11_27 e12_27 e13_27 e65_27
                    clear e1_21 e2_21 e5_21 e7_21 e8_21 e9_21 e10_21 e11_21 e12_21 e13_21 e57_21
                    refine Wp.condF (by go_simp) ?_
                    refine Wp.skip ?_
                    refine blockK_normal ?_
                    refine thenK_normal ?_
                    refine Wp.loneRegion (.inl rfl) (by kernel_rfl) fun K' gd hK hg => ?_
                    clear hg
                    go_simp
                    refine hK _ _ ?_
                    clear hK K' gd
                    refine Ends.keep [1, 2, 5, 7, 8, 9, 10, 11, 12, 13] fun r28 hkeep => ?_
                    obtain ⟨e1_28, e2_28, e5_28, e7_28, e8_28, e9_28, e10_28, e11_28, e12_28, e13_28, -⟩ := hkeep
                    simp [go_sem, e1_27, e2_27, e5_27, e7_27, e8_27, e9_27, e10_27, e11_27, e12_27, e13_27, e65_27] at e1_28 e2_28 e5_28 e7_28 e8_28 e9_28 e10_28 e11_28 e12_28 e13_28
                    clear e1_27 e2_27 e5_27 e7_27 e8_27 e9_27 e10_27 e11_27 e12_27 e13_27 e65_27
                    refine Ends.mk ?_
                    refine thenK_normal ⟨by omega, ⟨by rw [e1_28, e1_19], by rw [e2_28, e2_19], by rw [e5_28, e5_19], by rw [e7_28, e7_19], by rw [e8_28, e8_19], by rw [e9_28, e9_19], by rw [e11_28, e11_19], by rw [e12_28, e12_19], trivial⟩, rfl, ?_⟩
                    refine ⟨by rw [e13_28, IntWalk.i64_in _ (by omega)]; rfl, ?_, (by repeat (first | assumption | exact Ext.refl _ | refine Ext.drew ?_ | refine Ext.alloc ?_ _ | refine Ext.trans ?_ (by assumption)))⟩
                    obtain ⟨-, hss⟩ := hss2
                    rw [hss, if_neg (fun e => k1 (by rw [e]))]; exact e10_28
                · refine Wp.condF (by go_simp) ?_
                  obtain rfl : u = W9.length := by omega
                  rw [stripTake] at e10_21
                  refine Wp.exit ?_
                  refine thenK_exit ?_
                  refine thenK_exit ?_
                  refine blockK_here ?_
                  refine blockK_normal ?_
                  refine thenK_normal ?_
                  refine Wp.loneRegion (.inl rfl) (by kernel_rfl) fun K' gd hK hg => ?_
                  clear hg
                  go_simp
                  refine hK _ _ ?_
                  clear hK K' gd
                  refine Ends.keep [1, 2, 5, 7, 8, 9, 10, 11] fun r29 hkeep => ?_
                  obtain ⟨e1_29, e2_29, e5_29, e7_29, e8_29, e9_29, e10_29, e11_29, -⟩ := hkeep
                  simp [go_sem, e1_21, e2_21, e5_21, e7_21, e8_21, e9_21, e10_21, e11_21, e12_21, e13_21, e57_21] at e1_29 e2_29 e5_29 e7_29 e8_29 e9_29 e10_29 e11_29
                  clear e1_21 e2_21 e5_21 e7_21 e8_21 e9_21 e10_21 e11_21 e12_21 e13_21 e57_21
                  refine Ends.mk ?_
                  refine thenK_normal ⟨by omega, ⟨by rw [e1_29, e1_15], by rw [e2_29, e2_15], by rw [e5_29, e5_15], by rw [e7_29, e7_15], by rw [e8_29, e8_15], by rw [e9_29, e9_15], trivial⟩, rfl, ?_⟩
                  refine ⟨by rw [e11_29, IntWalk.i64_in _ (by omega)]; rfl, ?_, (by repeat (first | assumption | exact Ext.refl _ | refine Ext.drew ?_ | refine Ext.alloc ?_ _ | refine Ext.trans ?_ (by assumption)))⟩
                  obtain ⟨-, hsn⟩ := hsn2
                  rw [hsn, hpy]; simpa using e10_29
            · refine Wp.condF (by go_simp) ?_
              obtain rfl : l = N := by omega
              rw [List.take_of_length_le (by rw [stintsL_len, hN]; exact Nat.le_refl _)] at e10_17
              obtain ⟨-, ht⟩ := ht2
              have hfill : leastL t d ((stintsL o.n o.m).filter p) = lst o d x.1 x.2 + o.T x.1 x.2 := by (have e1 := lst_eq (d := d) ho hx1 hx2); (have e2 : leastL (lstT o d q) d (behindL o x) = leastL (lst o d) d (behindL o (x.1, x.2)) := leastL_congr fun y hy => (by have h := lstT_behind (d := d) ho (i := x.1) (j := x.2) (k := o.n - 1 - x.1) (l := o.m - 1 - x.2) (by omega) (by omega) hy; rw [hkl] at h; exact h)); (rw [← hp, scan_all ho hx1 hx2, ← ht, e2]); omega
              rw [hfill] at e10_17
              have hlok := lst_ok (d := d) ho hx1 hx2
              have hTx := ho.vT x.1 x.2 hx1 hx2
              have hTu := hT'.ext hEk2
              have hOk := hOq.ext hEk2
              obtain ⟨g3, rfl, c3c⟩ := hTu.rowCell hx1
              have cx := hTu.cell x.1 x.2 hx1 hx2
              have p3 : (x.2 : Int) < (o.m : Int) := by omega
              have p4 : (x.1 : Int) < (o.n : Int) := by omega
              have f0 := hEk2.cell g0
              have f1 := hEk2.cell g1
              have k0 := hEk2.cell z0
              have k1 := hEk2.cell z1
              have hwx : IntKind.i64.wrap (lst o d x.1 x.2) = lst o d x.1 x.2 := IntWalk.i64_in _ (by omega)
              refine Wp.exit ?_
              refine thenK_exit ?_
              refine thenK_exit ?_
              refine blockK_here ?_
              refine thenK_normal ?_
              refine Wp.loneDraw (.inl rfl) mixed [([0, 1, 2, 3, 4], none), ([5, 6, 7, 8, 9], some (10, false)), ([11, 12], some (13, true))] (by kernel_rfl) fun K' gd hK hg => ?_
              clear hg
              simp only [pick, nth, List.map_cons, List.map_nil, Option.map_none, Option.map_some]
              apply Mops.none
              · intro w' hE'
                have hC' := hE'.cellsS
                go_simp
                with_reducible rfl
              apply Mops.act
              · intro w' hE'
                have hC' := hE'.cellsS
                go_simp
                with_reducible rfl
              intro K1 hK1
              go_simp
              refine Wcall (.inl rfl) (takesR_c a o x.1 x.2 _ (hOk.ext (by repeat (first | assumption | exact Ext.refl _ | refine Ext.drew ?_ | refine Ext.alloc ?_ _ | refine Ext.trans ?_ (by assumption)))) hx1 hx2) ?_
              rintro v w5 ⟨rfl, hE5⟩
              have hE5l := Ext.trans ((Ext.refl wl).drew) hE5
              have hTw := hTu.ext hE5l
              have cx := hE5l.cell cx
              have pf := (hTw.row x.1 hx1).frozen x.2
              go_simp
              refine hK1 _ _ (by first | assumption | exact Ext.refl _) ?_
              clear hK1 K1
              apply Mops.last
              · intro w' hE'
                have hC' := hE'.cellsS
                go_simp
                with_reducible rfl
              intro K1 hK1
              go_simp
              refine hK1 _ _ ?_
              clear hK1 K1
              refine Mops.done ?_
              refine hK _ _ ?_
              clear hK K' gd
              refine Ends.keep [1, 2, 5, 7, 8] fun r30 hkeep => ?_
              obtain ⟨e1_30, e2_30, e5_30, e7_30, e8_30, -⟩ := hkeep
              simp [go_sem, e1_17, e2_17, e5_17, e7_17, e8_17, e9_17, e10_17, e11_17, e45_17] at e1_30 e2_30 e5_30 e7_30 e8_30
              clear e1_17 e2_17 e5_17 e7_17 e8_17 e9_17 e10_17 e11_17 e45_17
              refine Ends.mk ?_
              refine blockK_normal ?_
              refine thenK_normal ?_
              refine Wp.loneRegion (.inl rfl) (by kernel_rfl) fun K' gd hK hg => ?_
              clear hg
              go_simp
              refine hK _ _ ?_
              clear hK K' gd
              refine Ends.keep [1, 2, 5, 7, 8] fun r31 hkeep => ?_
              obtain ⟨e1_31, e2_31, e5_31, e7_31, e8_31, -⟩ := hkeep
              simp [go_sem, e1_30, e2_30, e5_30, e7_30, e8_30] at e1_31 e2_31 e5_31 e7_31 e8_31
              clear e1_30 e2_30 e5_30 e7_30 e8_30
              refine Ends.mk ?_
              refine thenK_normal ⟨by omega, ⟨by rw [e1_31, e1_10], by rw [e2_31, e2_10], by rw [e5_31, e5_10], by rw [e7_31, e7_10], trivial⟩, rfl, ?_⟩
              have hset := hTw.set hx1 hx2 (lst o d x.1 x.2)
              have hst := lstT_step (o := o) (d := d) (i := x.1) (j := x.2) (k := o.n - 1 - x.1) (l := o.m - 1 - x.2) (by omega) (by omega)
              rw [hkl] at hst
              rw [← ht, hst] at hset
              obtain ⟨-, hi⟩ := hi2
              refine ⟨by rw [e8_31, IntWalk.i64_in _ (by omega)]; congr 1; omega, hset, ?_, ?_⟩
              · exact ownsRow_setCell_other (ownsRow_ext hL' (Ext.trans hEk2 hE5l)) (row_own_ne (hTw.row x.1 hx1) (ownsRow_ext hL' (Ext.trans hEk2 hE5l)) (by decide)) _
              · exact (Ext.setC (Ext.trans hEVq (Ext.trans hEk2 hE5l)) (hTw.ge x.1 hx1) _)
        · refine Wp.condF (by go_simp) ?_
          obtain rfl : q = N := by omega
          refine Wp.exit ?_
          refine thenK_exit ?_
          refine thenK_exit ?_
          refine blockK_here ?_
          refine thenK_normal ?_
          refine Wp.seqRegion (.inl rfl) (by kernel_rfl) fun K' gd hK hg => ?_
          clear hg
          go_simp
          refine hK _ _ ?_
          clear hK K' gd
          refine Wp.keep [4] fun r32 hkeep => ?_
          obtain ⟨e4_32, -⟩ := hkeep
          simp [go_sem, e1_12, e2_12, e5_12, e7_12, e8_12, e34_12] at e4_32
          clear e1_12 e2_12 e5_12 e7_12 e8_12 e34_12
          refine Wp.ret ?_
          refine endK_tmp Tryz.results95 (by decide) ?_
          rw [e4_32]
          rw [← hN, lstT_all] at hT
          exact ⟨(hT.tab hm).less (Below.size hEV), Ext.trans hEV hEi⟩
end Go.Proofs.YtnfagcccgmakdaaGreat
namespace Go.Proofs.YtnfagcccgmakdaaGreat
open Go.RowKit Go.Wk Go.Proofs
attribute [local irreducible] Go.Wk.Wops Go.Wk.Wp Go.Wk.Mtree Go.Wk.Mops
set_option maxHeartbeats 4000000
theorem endT_ok {o : Ord} (ho : OrdOk o) (k : Nat) : 0 ≤ mostL o (begA o) 0 ((stintsL o.n o.m).take k) ∧ mostL o (begA o) 0 ((stintsL o.n o.m).take k) ≤ 4000 := by
  refine ⟨mostL_ge, mostL_le (by omega) fun x hx => ?_⟩
  obtain ⟨h1, h2⟩ := stintsL_mem.1 (List.mem_of_mem_take hx)
  have e1 := begA_ok ho h1 h2
  have e2 := ho.vT x.1 x.2 h1 h2
  omega
theorem endR_c (a : OA) (o : Ord) (w : World) (hO : OrdF w w.heap.size a o) :
    CallsV Tryz.prog 73 #[.agg #[a.cv o, a.rv o]] w fun v w' => v = .int .i64 (endS o) ∧ Ext w w' := by
  have ho := hO.ok
  have hm := hO.hm2
  have hm1 := hO.hm1
  have hn := hO.hn2
  simp only [OA.cv, OA.rv]
  refine Wp.fn Tryz.func73 rfl Tryz.ntmps73 (by simp) ?_
  refine Wp.keep [0] fun r1 hkeep => ?_
  obtain ⟨e0_1, -⟩ := hkeep
  simp [go_sem] at e0_1
  have x0 := cell_nn w #[.slice (some ⟨a.cb, a.co, none⟩) o.m a.cc, .slice a.rA o.n a.rc] 25 0 rfl (v := .slice (some ⟨a.cb, a.co, none⟩) o.m a.cc) rfl
  have x1 := cell_nn w #[.slice (some ⟨a.cb, a.co, none⟩) o.m a.cc, .slice a.rA o.n a.rc] 25 1 rfl (v := .slice a.rA o.n a.rc) rfl
  have hEV : Ext w (w.alloc (.cells #[.slice (some ⟨a.cb, a.co, none⟩) o.m a.cc, .slice a.rA o.n a.rc] 25)) := (by repeat (first | assumption | exact Ext.refl _ | refine Ext.drew ?_ | refine Ext.alloc ?_ _ | refine Ext.trans ?_ (by assumption)))
  refine Wp.seqRegion (.inl rfl) (by kernel_rfl) fun K' gd hK hg => ?_
  clear hg
  go_simp
  refine hK _ _ ?_
  clear hK K' gd
  refine Wp.keep [1] fun r2 hkeep => ?_
  obtain ⟨e1_2, -⟩ := hkeep
  simp [go_sem, e0_1] at e1_2
  clear e0_1
  generalize w.alloc (.cells #[.slice (some ⟨a.cb, a.co, none⟩) o.m a.cc, .slice a.rA o.n a.rc] 25) = V at *
  have hOV := hO.ext hEV
  refine Wp.seqRegion (.inl rfl) (by kernel_rfl) fun K' gd hK hg => ?_
  clear hg
  go_simp
  refine Wcall (.inl rfl) (timesR_c a o _ hOV) ?_
  rintro v3 w2 ⟨hT, hE2⟩
  have x0 := hE2.cell x0
  have x1 := hE2.cell x1
  have hT := hT.tabV
  go_simp
  refine hK _ _ ?_
  clear hK K' gd
  refine Wp.keep [1, 3] fun r3 hkeep => ?_
  obtain ⟨e1_3, e3_3, -⟩ := hkeep
  simp [go_sem, e1_2] at e1_3 e3_3
  clear e1_2
  refine Wp.seqRegion (.inl rfl) (by kernel_rfl) fun K' gd hK hg => ?_
  clear hg
  go_simp
  refine Wcall (.inl rfl) (stintsR_c _ _ o.n o.m _ _ _ (by omega) (by omega)) ?_
  rintro v4 w3 ⟨hL, hE3⟩
  have x0 := hE3.cell x0
  have x1 := hE3.cell x1
  have hT := hT.ext hE3
  obtain ⟨AL, cL, rfl, hHc⟩ := HoldW.of hL.stintsV
  go_simp
  refine hK _ _ ?_
  clear hK K' gd
  refine Wp.keep [1, 3, 4] fun r4 hkeep => ?_
  obtain ⟨e1_4, e3_4, e4_4, -⟩ := hkeep
  simp [go_sem, e1_3, e3_3] at e1_4 e3_4 e4_4
  clear e1_3 e3_3
  have hO3 := hOV.ext (Ext.trans hE2 hE3)
  have hEw3 : Ext w w3 := Ext.trans hEV (Ext.trans hE2 hE3)
  obtain ⟨L, hLe⟩ : ∃ L, stintsL o.n o.m = L := ⟨_, rfl⟩
  have hLm : ∀ x ∈ L, x.1 < o.n ∧ x.2 < o.m := fun x hx => stintsL_mem.1 (by rw [hLe]; exact hx)
  have hLl : L.length ≤ 300 := by (rw [← hLe, stintsL_len]; have := Nat.mul_le_mul hn hm; omega)
  have htk := endT_ok ho
  rw [hLe] at hHc e4_4 htk
  have hend : ∃ _u : Unit, endS o = mostL o (begA o) 0 L := ⟨(), by rw [← hLe]; rfl⟩
  clear hLe hE2 hE3 hEV hL
  refine Wp.seqRegion (.inl rfl) (by kernel_rfl) fun K' gd hK hg => ?_
  clear hg
  go_simp
  refine hK _ _ ?_
  clear hK K' gd
  refine Wp.keep [1, 3, 4, 5] fun r5 hkeep => ?_
  obtain ⟨e1_5, e3_5, e4_5, e5_5, -⟩ := hkeep
  simp [go_sem, e1_4, e3_4, e4_4] at e1_5 e3_5 e4_5 e5_5
  clear e1_4 e3_4 e4_4
  refine Wp.seq ?_
  refine Wp.seqRegion (.inl rfl) (by kernel_rfl) fun K' gd hK hg => ?_
  clear hg
  go_simp
  refine hK _ _ ?_
  clear hK K' gd
  refine Wp.keep [1, 3, 4, 5, 6] fun r6 hkeep => ?_
  obtain ⟨e1_6, e3_6, e4_6, e5_6, e6_6, -⟩ := hkeep
  simp [go_sem, e1_5, e3_5, e4_5, e5_5] at e1_6 e3_6 e4_6 e5_6 e6_6
  clear e1_5 e3_5 e4_5 e5_5
  refine Wp.block ?_
  refine Wp.loop (fun i ρ ds wi => AllEq [1, 3, 4] ρ r6 ∧ ds = [] ∧ (ρ 6 = .int .i64 (i : Int) ∧ ρ 5 = .int .i64 (mostL o (begA o) 0 (L.take i)) ∧ Ext w3 wi)) (L.length) ?_ ?_
  · refine ⟨AllEq.refl _ _, rfl, ?_⟩
    exact ⟨by rw [e6_6]; rfl, by rw [e5_6]; rfl, Ext.refl _⟩
  · rintro i r7 _ wi hi ⟨hA, rfl, ⟨e6, e5, hEi⟩⟩
    obtain ⟨e1_7, e3_7, e4_7, -⟩ := hA
    rw [e1_6] at e1_7
    rw [e3_6] at e3_7
    rw [e4_6] at e4_7
    refine Wp.seq ?_
    refine Wp.seqRegion (.inl rfl) (by kernel_rfl) fun K' gd hK hg => ?_
    clear hg
    go_simp
    refine hK _ _ ?_
    clear hK K' gd
    refine Wp.keep [1, 3, 4, 5, 6, 14] fun r8 hkeep => ?_
    obtain ⟨e1_8, e3_8, e4_8, e5_8, e6_8, e14_8, -⟩ := hkeep
    simp [go_sem, e1_7, e3_7, e4_7, e5, e6] at e1_8 e3_8 e4_8 e5_8 e6_8 e14_8
    clear e1_7 e3_7 e4_7 e5 e6
    by_cases h : i < L.length
    · refine Wp.condT (by go_simp) ?_
      obtain ⟨x, hx⟩ : ∃ x, L[i]? = some x := ⟨_, List.getElem?_eq_getElem h⟩
      obtain ⟨b1, o1, rfl, d1, d2⟩ := hHc i x hx
      obtain ⟨hx1, hx2⟩ := hLm x (List.mem_of_getElem? hx)
      have d1 := hEi.cell d1
      have d2 := hEi.cell d2
      have b3 : (i : Int) < (L.length : Int) := by omega
      obtain ⟨bt, obt, ct, rbt, rot, rct, rfl, hG⟩ := tabG_of hT (by omega) (by omega)
      have g1 := (hG.ext hEi).row x.1 hx1
      have g2 := (hG.ext hEi).cell x.1 x.2 hx1 hx2
      have b4 : ((x.1 : Nat) : Int) < (o.n : Int) := by omega
      have b5 : ((x.2 : Nat) : Int) < (o.m : Int) := by omega
      have hb := begA_ok ho hx1 hx2
      have hTx := ho.vT x.1 x.2 hx1 hx2
      have z0 := hEi.cell x0
      have z1 := hEi.cell x1
      have hmt := mostL_take o (begA o) 0 L hx
      have hti := htk i
      obtain ⟨D, hD⟩ : ∃ D, mostL o (begA o) 0 (L.take i) = D := ⟨_, rfl⟩
      rw [hD] at hmt hti e5_8
      have hmt2 : ∃ _u : Unit, mostL o (begA o) 0 (L.take (i + 1)) = max D (begA o x.1 x.2 + o.T x.1 x.2) := ⟨(), hmt⟩
      clear hmt hD
      have hws : IntKind.i64.wrap (begA o x.1 x.2 + o.T x.1 x.2) = begA o x.1 x.2 + o.T x.1 x.2 := IntWalk.i64_in _ (by omega)
      refine Wp.skip ?_
      refine thenK_normal ?_
      refine Wp.seq ?_
      refine Wp.block ?_
      refine Wp.loneDraw (.inl rfl) mixed [([0, 1, 2, 3, 4], none), ([5, 6, 7, 8, 9], none), ([10, 11, 12, 13, 14], none), ([15, 16, 17, 18, 19], none), ([20], some (21, false)), ([22, 23, 24], none)] (by kernel_rfl) fun K' gd hK hg => ?_
      clear hg
      simp only [pick, nth, List.map_cons, List.map_nil, Option.map_none, Option.map_some]
      apply Mops.none
      · intro w' hE'
        have hC' := hE'.cellsS
        go_simp
        with_reducible rfl
      apply Mops.none
      · intro w' hE'
        have hC' := hE'.cellsS
        go_simp
        with_reducible rfl
      apply Mops.none
      · intro w' hE'
        have hC' := hE'.cellsS
        go_simp
        with_reducible rfl
      apply Mops.none
      · intro w' hE'
        have hC' := hE'.cellsS
        go_simp
        with_reducible rfl
      apply Mops.act
      · intro w' hE'
        have hC' := hE'.cellsS
        go_simp
        with_reducible rfl
      intro K1 hK1
      go_simp
      refine Wcall (.inl rfl) (takesR_c a o x.1 x.2 _ ((hO3.ext hEi).ext (by repeat (first | assumption | exact Ext.refl _ | refine Ext.drew ?_ | refine Ext.alloc ?_ _ | refine Ext.trans ?_ (by assumption)))) hx1 hx2) ?_
      rintro v w4 ⟨rfl, hE4⟩
      go_simp
      refine hK1 _ _ (by first | assumption | exact Ext.refl _) ?_
      clear hK1 K1
      apply Mops.none
      · intro w' hE'
        have hC' := hE'.cellsS
        go_simp
        with_reducible rfl
      refine Mops.done ?_
      refine hK _ _ ?_
      clear hK K' gd
      refine Ends.keep [1, 3, 4, 5, 6] fun r9 hkeep => ?_
      obtain ⟨e1_9, e3_9, e4_9, e5_9, e6_9, -⟩ := hkeep
      simp [go_sem, e1_8, e3_8, e4_8, e5_8, e6_8, e14_8] at e1_9 e3_9 e4_9 e5_9 e6_9
      clear e1_8 e3_8 e4_8 e5_8 e6_8 e14_8
      refine Ends.mk ?_
      refine blockK_normal ?_
      refine thenK_normal ?_
      refine Wp.loneRegion (.inl rfl) (by kernel_rfl) fun K' gd hK hg => ?_
      clear hg
      go_simp
      refine hK _ _ ?_
      clear hK K' gd
      refine Ends.keep [1, 3, 4, 5, 6] fun r10 hkeep => ?_
      obtain ⟨e1_10, e3_10, e4_10, e5_10, e6_10, -⟩ := hkeep
      simp [go_sem, e1_9, e3_9, e4_9, e5_9, e6_9] at e1_10 e3_10 e4_10 e5_10 e6_10
      clear e1_9 e3_9 e4_9 e5_9 e6_9
      refine Ends.mk ?_
      refine thenK_normal ⟨by omega, ⟨by rw [e1_10, e1_6], by rw [e3_10, e3_6], by rw [e4_10, e4_6], trivial⟩, rfl, ?_⟩
      refine ⟨by rw [e6_10, IntWalk.i64_in _ (by omega)]; rfl, ?_, (by repeat (first | assumption | exact Ext.refl _ | refine Ext.drew ?_ | refine Ext.alloc ?_ _ | refine Ext.trans ?_ (by assumption)))⟩
      obtain ⟨-, hmt⟩ := hmt2
      rw [hmt, e5_10]
      congr 1
      first | omega | (split <;> omega)
    · refine Wp.condF (by go_simp) ?_
      obtain rfl : i = L.length := by omega
      rw [List.take_length] at e5_8
      refine Wp.exit ?_
      refine thenK_exit ?_
      refine thenK_exit ?_
      refine blockK_here ?_
      refine thenK_normal ?_
      refine Wp.seqRegion (.inl rfl) (by kernel_rfl) fun K' gd hK hg => ?_
      clear hg
      go_simp
      refine hK _ _ ?_
      clear hK K' gd
      refine Wp.keep [2] fun r11 hkeep => ?_
      obtain ⟨e2_11, -⟩ := hkeep
      simp [go_sem, e1_8, e3_8, e4_8, e5_8, e6_8, e14_8] at e2_11
      clear e1_8 e3_8 e4_8 e5_8 e6_8 e14_8
      refine Wp.ret ?_
      refine endK_tmp Tryz.results73 (by decide) ?_
      rw [e2_11]
      obtain ⟨-, hend⟩ := hend
      exact ⟨by rw [hend], (by repeat (first | assumption | exact Ext.refl _ | refine Ext.drew ?_ | refine Ext.alloc ?_ _ | refine Ext.trans ?_ (by assumption)))⟩
theorem OwnTab.setB {w : World} {base b k : Nat} {v u : Value} {t : List (List Int)} (h : OwnTab w base v t) (hb : b < base) : OwnTab (w.setCell ⟨b, k, none⟩ u) base v t := by
  obtain ⟨vs, h1, h2⟩ := h
  exact ⟨vs, own_set h1 hb, fun i hi => (by obtain ⟨u, h3, h4⟩ := h2 i hi; exact ⟨u, h3, own_set h4 hb⟩)⟩
theorem tabV_nil (w : World) (B : Nat) : TabV w B (.slice none 0 0) [] := ⟨none, 0, fun _ => .slice none 0 0, rfl, fun h => absurd rfl h, fun k h => absurd h (Nat.not_lt_zero _), Nat.le_refl _⟩
theorem stintsV_nil (w : World) (B : Nat) : StintsV w B (.slice none 0 0) [] := ⟨none, 0, rfl, fun h => absurd rfl h, Nat.le_refl _⟩
end Go.Proofs.YtnfagcccgmakdaaGreat
