/- The specification's Check; few. few; the specification's Hold. The specification's Hold. OrderHolds. For every input, in whatever memory: OrderHolds returns true, and its arguments read as before. No condition. -/
import Derived.Test.YtnfagcccgmakdaaP7
import Derived.Test.YtnfagcccgmakdaaP6
import Derived.Test.YtnfagcccgmakdaaRows
import Derived.ProofKit
import Derived.JoinedOf
import Derived.OpenShut
set_option linter.all false
namespace Go.Proofs.Ytnfagcccgmakdaa
open Go.RowKit Go.Wk Go.Proofs
attribute [local irreducible] Go.Wk.Wops Go.Wk.Wp Go.Wk.Mtree Go.Wk.Mops
set_option maxHeartbeats 4000000

theorem RunsV.at {w : World} {B n c : Nat} {A : Option Addr} {rs : List Run} (h : RunsV w B (.slice A n c) rs) {k : Nat} (hk : k < rs.length) : ∃ b o A2 c2, A = some ⟨b, o, none⟩ ∧ w.cell? ⟨b, o + k * 3, none⟩ = some (.int .i64 rs[k].id) ∧ w.cell? ⟨b, o + k * 3 + 1, none⟩ = some (.int .i64 rs[k].arr) ∧
    w.cell? ⟨b, o + k * 3 + 2, none⟩ = some (.slice A2 rs[k].takes.length c2) ∧ IntsV w B (.slice A2 rs[k].takes.length c2) rs[k].takes := by
  obtain ⟨A', c', tv, hv, hx, ht, -⟩ := h
  injection hv with h1 h2 h3
  subst h1
  obtain ⟨b, o, rfl, -, hc⟩ := hx (by intro e; rw [e] at hk; exact absurd hk (Nat.not_lt_zero _))
  obtain ⟨A2, c2, e2⟩ := (ht k hk).slice
  have h3 := (hc k hk).2.2
  have h4 := ht k hk
  rw [e2] at h3 h4
  exact ⟨b, o, A2, c2, rfl, (hc k hk).1, (hc k hk).2.1, h3, h4⟩
theorem withinR_T {n lo hi : Int} (h : lo ≤ n ∧ n ≤ hi) (w : World) : CallsV Try.prog 69 #[.int .i64 n, .int .i64 lo, .int .i64 hi] w fun v w' => v = .bool true ∧ Ext w w' :=
  (withinR_c n lo hi w).mono fun _ _ ⟨h1, h2⟩ => by rw [decide_eq_true h] at h1; exact ⟨h1, h2⟩
theorem withinR_F {n lo hi : Int} (h : ¬ (lo ≤ n ∧ n ≤ hi)) (w : World) : CallsV Try.prog 69 #[.int .i64 n, .int .i64 lo, .int .i64 hi] w fun v w' => v = .bool false ∧ Ext w w' :=
  (withinR_c n lo hi w).mono fun _ _ ⟨h1, h2⟩ => by rw [decide_eq_false h] at h1; exact ⟨h1, h2⟩
theorem any_take {p : Int → Bool} {l : List Int} {k : Nat} (h : k < l.length) (h0 : (l.take k).any p = false) (h1 : p l[k] = false) : (l.take (k + 1)).any p = false := by
  rw [List.take_add_one, List.getElem?_eq_getElem h, List.any_append, h0]; simp [h1]
theorem any_hit {p : Int → Bool} {l : List Int} {k : Nat} (h : k < l.length) (h1 : p l[k] = true) : l.any p = true := List.any_eq_true.2 ⟨_, List.getElem_mem h, h1⟩
theorem refCheck_c (v : Value) (o : Ord) (w : World) (hV : OrderV w w.heap.size v o) (hf : Fits o) :
    CallsV Try.prog 68 #[v] w fun v w' => v = .int .i64 (checkS o) ∧ Ext w w' := by
  obtain ⟨cv, rv, rfl, hc, hr⟩ := id hV
  obtain ⟨cA, cc, rfl, -⟩ := id hc
  obtain ⟨rA, rc, -, rfl, -⟩ := id hr
  obtain ⟨hf1, hf2, hf3⟩ : Fits o := hf
  have hm : o.cop.length ≤ farI := by unfold farI; exact hf1
  have hn : o.runs.length ≤ farI := by unfold farI; exact hf2
  have hk3 : ∀ k (h : k < o.runs.length), o.runs[k].takes.length ≤ farI := fun k h => by unfold farI; exact hf3 k h
  clear hf1 hf2 hf3
  refine Wp.fn Try.func68 rfl Try.ntmps68 (by simp) ?_
  refine Wp.keep [0] fun r1 hkeep => ?_
  obtain ⟨e0_1, -⟩ := hkeep
  simp [go_sem] at e0_1
  refine Wp.seqRegion (.inl rfl) (by kernel_rfl) fun K' gd hK hg => ?_
  clear hg
  go_simp
  refine hK _ _ ?_
  clear hK K' gd
  refine Wp.keep [1] fun r2 hkeep => ?_
  obtain ⟨e1_2, -⟩ := hkeep
  simp [go_sem, e0_1] at e1_2
  clear e0_1
  refine Wp.seq ?_
  refine Wp.seqRegion (.inl rfl) (by kernel_rfl) fun K' gd hK hg => ?_
  clear hg
  go_simp
  refine hK _ _ ?_
  clear hK K' gd
  refine Wp.keep [1, 15] fun r3 hkeep => ?_
  obtain ⟨e1_3, e15_3, -⟩ := hkeep
  simp [go_sem, e1_2] at e1_3 e15_3
  clear e1_2
  by_cases g0 : o.cop.length = 0
  · refine Wp.condT (by go_simp) ?_
    refine Wp.seqRegion (.inl rfl) (by kernel_rfl) fun K' gd hK hg => ?_
    clear hg
    go_simp
    refine hK _ _ ?_
    clear hK K' gd
    refine Wp.keep [2] fun r4 hkeep => ?_
    obtain ⟨e2_4, -⟩ := hkeep
    simp [go_sem, e1_3, e15_3] at e2_4
    clear e1_3 e15_3
    refine Wp.ret ?_
    refine thenK_ret ?_
    refine endK_tmp Try.results68 (by decide) ?_
    rw [e2_4]
    exact ⟨by rw [checkS, if_pos g0], (by repeat (first | assumption | exact Ext.refl _ | refine Ext.drew ?_ | refine Ext.alloc ?_ _ | refine Ext.trans ?_ (by assumption)))⟩
  · refine Wp.condF (by go_simp) ?_
    by_cases g1 : (15 : Int) < (o.cop.length : Int)
    · skip
      refine Wp.skip ?_
      refine thenK_normal ?_
      refine Wp.seq ?_
      refine Wp.seqRegion (.inl rfl) (by kernel_rfl) fun K' gd hK hg => ?_
      have g4 : gd 4 = some 20 := hg 4
      clear hg
      go_simp
      refine hK _ _ ?_
      clear hK K' gd g4
      refine Wp.keep [1, 25] fun r5 hkeep => ?_
      obtain ⟨e1_5, e25_5, -⟩ := hkeep
      simp [go_sem, e1_3, e15_3] at e1_5 e25_5
      clear e1_3 e15_3
      refine Wp.condT (by go_simp) ?_
      refine Wp.seqRegion (.inl rfl) (by kernel_rfl) fun K' gd hK hg => ?_
      clear hg
      go_simp
      refine hK _ _ ?_
      clear hK K' gd
      refine Wp.keep [2] fun r6 hkeep => ?_
      obtain ⟨e2_6, -⟩ := hkeep
      simp [go_sem, e1_5, e25_5] at e2_6
      clear e1_5 e25_5
      refine Wp.ret ?_
      refine thenK_ret ?_
      refine endK_tmp Try.results68 (by decide) ?_
      rw [e2_6]
      exact ⟨by rw [checkS, if_neg g0, if_pos (by omega)], (by repeat (first | assumption | exact Ext.refl _ | refine Ext.drew ?_ | refine Ext.alloc ?_ _ | refine Ext.trans ?_ (by assumption)))⟩
    · skip
      by_cases g2 : (20 : Int) < (o.runs.length : Int)
      · skip
        refine Wp.skip ?_
        refine thenK_normal ?_
        refine Wp.seq ?_
        refine Wp.seqRegion (.inl rfl) (by kernel_rfl) fun K' gd hK hg => ?_
        have g4 : gd 4 = some 20 := hg 4
        clear hg
        go_simp
        refine hK _ _ ?_
        clear hK K' gd g4
        refine Wp.keep [1, 25] fun r7 hkeep => ?_
        obtain ⟨e1_7, e25_7, -⟩ := hkeep
        simp [go_sem, e1_3, e15_3] at e1_7 e25_7
        clear e1_3 e15_3
        refine Wp.condT (by go_simp) ?_
        refine Wp.seqRegion (.inl rfl) (by kernel_rfl) fun K' gd hK hg => ?_
        clear hg
        go_simp
        refine hK _ _ ?_
        clear hK K' gd
        refine Wp.keep [2] fun r8 hkeep => ?_
        obtain ⟨e2_8, -⟩ := hkeep
        simp [go_sem, e1_7, e25_7] at e2_8
        clear e1_7 e25_7
        refine Wp.ret ?_
        refine thenK_ret ?_
        refine endK_tmp Try.results68 (by decide) ?_
        rw [e2_8]
        exact ⟨by rw [checkS, if_neg g0, if_neg (by omega), if_pos (by omega)], (by repeat (first | assumption | exact Ext.refl _ | refine Ext.drew ?_ | refine Ext.alloc ?_ _ | refine Ext.trans ?_ (by assumption)))⟩
      · skip
        refine Wp.skip ?_
        refine thenK_normal ?_
        refine Wp.seq ?_
        refine Wp.seqRegion (.inl rfl) (by kernel_rfl) fun K' gd hK hg => ?_
        have g4 : gd 4 = some 20 := hg 4
        clear hg
        go_simp
        refine hK _ _ ?_
        clear hK K' gd g4
        refine Wp.keep [1, 25] fun r9 hkeep => ?_
        obtain ⟨e1_9, e25_9, -⟩ := hkeep
        simp [go_sem, e1_3, e15_3] at e1_9 e25_9
        clear e1_3 e15_3
        refine Wp.condF (by go_simp) ?_
        have hS0 : checkS o = if o.cop.any bad20 = true then 1 else checkRuns o.cop.length [] o.runs := by rw [checkS, if_neg g0, if_neg (by omega), if_neg (by omega)]
        have hS : ∃ _u : Unit, checkS o = if o.cop.any bad20 = true then 1 else checkRuns o.cop.length [] o.runs := ⟨(), hS0⟩
        clear hS0 hm hn hk3
        have hm : o.cop.length ≤ 15 := by omega
        have hn : o.runs.length ≤ 20 := by omega
        clear g0 g1 g2
        refine Wp.skip ?_
        refine thenK_normal ?_
        refine Wp.seq ?_
        refine Wp.seqRegion (.inl rfl) (by kernel_rfl) fun K' gd hK hg => ?_
        clear hg
        go_simp
        refine hK _ _ ?_
        clear hK K' gd
        refine Wp.keep [1, 3] fun r10 hkeep => ?_
        obtain ⟨e1_10, e3_10, -⟩ := hkeep
        simp [go_sem, e1_9, e25_9] at e1_10 e3_10
        clear e1_9 e25_9
        refine Wp.block ?_
        refine Wp.loop (fun j ρ ds wj => AllEq [1] ρ r10 ∧ ds = [] ∧ (ρ 3 = .int .i64 (j : Int) ∧ Ext w wj ∧ wj.cell? ⟨w.heap.size, 0, none⟩ = some (.slice cA o.cop.length cc) ∧ wj.cell? ⟨w.heap.size, 1, none⟩ = some (.slice rA o.runs.length rc) ∧ (o.cop.take j).any bad20 = false)) (o.cop.length) ?_ ?_
        · refine ⟨AllEq.refl _ _, rfl, ?_⟩
          exact ⟨by rw [e3_10]; rfl, (by repeat (first | assumption | exact Ext.refl _ | refine Ext.drew ?_ | refine Ext.alloc ?_ _ | refine Ext.trans ?_ (by assumption))), by go_simp, by go_simp, rfl⟩
        · rintro j r11 _ wj hj ⟨hA, rfl, ⟨e3, hEj, x0, x1, hj0⟩⟩
          obtain ⟨e1_11, -⟩ := hA
          rw [e1_10] at e1_11
          refine Wp.seq ?_
          refine Wp.seqRegion (.inl rfl) (by kernel_rfl) fun K' gd hK hg => ?_
          clear hg
          go_simp
          refine hK _ _ ?_
          clear hK K' gd
          refine Wp.keep [1, 3, 30] fun r12 hkeep => ?_
          obtain ⟨e1_12, e3_12, e30_12, -⟩ := hkeep
          simp [go_sem, e1_11, e3] at e1_12 e3_12 e30_12
          clear e1_11 e3
          by_cases h : j < o.cop.length
          · refine Wp.condT (by go_simp) ?_
            obtain ⟨b, ob, rfl, d0⟩ := hc.at h
            have d0 := hEj.cell d0
            obtain ⟨x, hx⟩ : ∃ x, o.cop[j] = x := ⟨_, rfl⟩
            rw [hx] at d0
            have b3 : (j : Int) < (o.cop.length : Int) := by omega
            by_cases hb : 1 ≤ x ∧ x ≤ 20
            · skip
              refine Wp.skip ?_
              refine thenK_normal ?_
              refine Wp.seq ?_
              refine Wp.block ?_
              refine Wp.seqRegion (.inl rfl) (by kernel_rfl) fun K' gd hK hg => ?_
              clear hg
              go_simp
              refine Wcall (.inl rfl) (withinR_T hb _) ?_
              rintro v w2 ⟨rfl, hE2⟩
              go_simp
              refine hK _ _ ?_
              clear hK K' gd
              refine Wp.keep [1, 3, 4] fun r13 hkeep => ?_
              obtain ⟨e1_13, e3_13, e4_13, -⟩ := hkeep
              simp [go_sem, e1_12, e3_12, e30_12] at e1_13 e3_13 e4_13
              clear e1_12 e3_12 e30_12
              refine Wp.seqRegion (.inl rfl) (by kernel_rfl) fun K' gd hK hg => ?_
              clear hg
              go_simp
              refine hK _ _ ?_
              clear hK K' gd
              refine Wp.keep [1, 3, 40] fun r14 hkeep => ?_
              obtain ⟨e1_14, e3_14, e40_14, -⟩ := hkeep
              simp [go_sem, e1_13, e3_13, e4_13] at e1_14 e3_14 e40_14
              clear e1_13 e3_13 e4_13
              refine Wp.condF (by go_simp) ?_
              refine Wp.skip ?_
              refine blockK_normal ?_
              refine thenK_normal ?_
              refine Wp.loneRegion (.inl rfl) (by kernel_rfl) fun K' gd hK hg => ?_
              clear hg
              go_simp
              refine hK _ _ ?_
              clear hK K' gd
              refine Ends.keep [1, 3] fun r15 hkeep => ?_
              obtain ⟨e1_15, e3_15, -⟩ := hkeep
              simp [go_sem, e1_14, e3_14, e40_14] at e1_15 e3_15
              clear e1_14 e3_14 e40_14
              refine Ends.mk ?_
              refine thenK_normal ⟨by omega, ⟨by rw [e1_15, e1_10], trivial⟩, rfl, ?_⟩
              exact ⟨by rw [e3_15, IntWalk.i64_in _ (by omega)]; rfl, (by repeat (first | assumption | exact Ext.refl _ | refine Ext.drew ?_ | refine Ext.alloc ?_ _ | refine Ext.trans ?_ (by assumption))), hE2.cell x0, hE2.cell x1, any_take h hj0 (by rw [hx]; unfold bad20; rw [decide_eq_true hb]; rfl)⟩
            · skip
              refine Wp.skip ?_
              refine thenK_normal ?_
              refine Wp.seq ?_
              refine Wp.block ?_
              refine Wp.seqRegion (.inl rfl) (by kernel_rfl) fun K' gd hK hg => ?_
              clear hg
              go_simp
              refine Wcall (.inl rfl) (withinR_F hb _) ?_
              rintro v w2 ⟨rfl, hE2⟩
              go_simp
              refine hK _ _ ?_
              clear hK K' gd
              refine Wp.keep [1, 3, 4] fun r16 hkeep => ?_
              obtain ⟨e1_16, e3_16, e4_16, -⟩ := hkeep
              simp [go_sem, e1_12, e3_12, e30_12] at e1_16 e3_16 e4_16
              clear e1_12 e3_12 e30_12
              refine Wp.seqRegion (.inl rfl) (by kernel_rfl) fun K' gd hK hg => ?_
              clear hg
              go_simp
              refine hK _ _ ?_
              clear hK K' gd
              refine Wp.keep [1, 3, 40] fun r17 hkeep => ?_
              obtain ⟨e1_17, e3_17, e40_17, -⟩ := hkeep
              simp [go_sem, e1_16, e3_16, e4_16] at e1_17 e3_17 e40_17
              clear e1_16 e3_16 e4_16
              refine Wp.condT (by go_simp) ?_
              refine Wp.seqRegion (.inl rfl) (by kernel_rfl) fun K' gd hK hg => ?_
              clear hg
              go_simp
              refine hK _ _ ?_
              clear hK K' gd
              refine Wp.keep [2] fun r18 hkeep => ?_
              obtain ⟨e2_18, -⟩ := hkeep
              simp [go_sem, e1_17, e3_17, e40_17] at e2_18
              clear e1_17 e3_17 e40_17
              refine Wp.ret ?_
              refine blockK_ret ?_
              refine thenK_ret ?_
              refine thenK_ret ?_
              refine blockK_ret ?_
              refine thenK_ret ?_
              refine endK_tmp Try.results68 (by decide) ?_
              rw [e2_18]
              obtain ⟨-, hS⟩ := hS
              exact ⟨by rw [hS, if_pos (any_hit h (by rw [hx]; unfold bad20; rw [decide_eq_false hb]; rfl))], (by repeat (first | assumption | exact Ext.refl _ | refine Ext.drew ?_ | refine Ext.alloc ?_ _ | refine Ext.trans ?_ (by assumption)))⟩
          · refine Wp.condF (by go_simp) ?_
            obtain rfl : j = o.cop.length := by omega
            rw [List.take_length] at hj0
            have hS2 : ∃ _u : Unit, checkS o = checkRuns o.cop.length [] o.runs := by obtain ⟨-, hS⟩ := hS; exact ⟨(), by rw [hS, if_neg (by rw [hj0]; decide)]⟩
            clear hS hj0
            refine Wp.exit ?_
            refine thenK_exit ?_
            refine thenK_exit ?_
            refine blockK_here ?_
            refine thenK_normal ?_
            refine Wp.seq ?_
            refine Wp.seqRegion (.inl rfl) (by kernel_rfl) fun K' gd hK hg => ?_
            clear hg
            go_simp
            refine hK _ _ ?_
            clear hK K' gd
            refine Wp.keep [1, 5] fun r19 hkeep => ?_
            obtain ⟨e1_19, e5_19, -⟩ := hkeep
            simp [go_sem, e1_12, e3_12, e30_12] at e1_19 e5_19
            clear e1_12 e3_12 e30_12
            refine Wp.block ?_
            refine Wp.loop (fun n ρ ds wn => AllEq [1] ρ r19 ∧ ds = [] ∧ (ρ 5 = .int .i64 (n : Int) ∧ Ext w wn ∧ wn.cell? ⟨w.heap.size, 0, none⟩ = some (.slice cA o.cop.length cc) ∧ wn.cell? ⟨w.heap.size, 1, none⟩ = some (.slice rA o.runs.length rc) ∧ (∃ _u : Unit, checkS o = checkRuns o.cop.length (o.runs.take n) (o.runs.drop n)))) (o.runs.length) ?_ ?_
            · refine ⟨AllEq.refl _ _, rfl, ?_⟩
              exact ⟨by rw [e5_19]; rfl, hEj, x0, x1, hS2⟩
            · rintro n r20 _ wn hn ⟨hA, rfl, ⟨e5, hEn, x0, x1, hS⟩⟩
              obtain ⟨e1_20, -⟩ := hA
              rw [e1_19] at e1_20
              refine Wp.seq ?_
              refine Wp.seqRegion (.inl rfl) (by kernel_rfl) fun K' gd hK hg => ?_
              clear hg
              go_simp
              refine hK _ _ ?_
              clear hK K' gd
              refine Wp.keep [1, 5, 45] fun r21 hkeep => ?_
              obtain ⟨e1_21, e5_21, e45_21, -⟩ := hkeep
              simp [go_sem, e1_20, e5] at e1_21 e5_21 e45_21
              clear e1_20 e5
              by_cases h : n < o.runs.length
              · refine Wp.condT (by go_simp) ?_
                obtain ⟨b, ob, tA, tc, rfl, d0, d1, d2, hI⟩ := hr.at h
                have hS' : ∃ _u : Unit, checkS o = _ := ⟨(), hS.elim fun _ h' => h'.trans (checkRuns_at h)⟩
                clear hS
                obtain ⟨r, hre⟩ : ∃ r, o.runs[n] = r := ⟨_, rfl⟩
                rw [hre] at d0 d1 d2 hI hS'
                have d0 := hEn.cell d0
                have d1 := hEn.cell d1
                have d2 := hEn.cell d2
                have b3 : (n : Int) < (o.runs.length : Int) := by omega
                refine Wp.skip ?_
                refine thenK_normal ?_
                refine Wp.seq ?_
                refine Wp.block ?_
                refine Wp.seqRegion (.inl rfl) (by kernel_rfl) fun K' gd hK hg => ?_
                clear hg
                go_simp
                refine hK _ _ ?_
                clear hK K' gd
                refine Wp.keep [1, 5, 6] fun r22 hkeep => ?_
                obtain ⟨e1_22, e5_22, e6_22, -⟩ := hkeep
                simp [go_sem, e1_21, e5_21, e45_21] at e1_22 e5_22 e6_22
                clear e1_21 e5_21 e45_21
                have y0 := cell_nn wn #[.int .i64 r.id, .int .i64 r.arr, .slice tA r.takes.length tc] 37 0 rfl (v := .int .i64 r.id) rfl
                have y1 := cell_nn wn #[.int .i64 r.id, .int .i64 r.arr, .slice tA r.takes.length tc] 37 1 rfl (v := .int .i64 r.arr) rfl
                have y2 := cell_nn wn #[.int .i64 r.id, .int .i64 r.arr, .slice tA r.takes.length tc] 37 2 rfl (v := .slice tA r.takes.length tc) rfl
                have hE6 : Ext wn (wn.alloc (.cells #[.int .i64 r.id, .int .i64 r.arr, .slice tA r.takes.length tc] 37)) := (by repeat (first | assumption | exact Ext.refl _ | refine Ext.drew ?_ | refine Ext.alloc ?_ _ | refine Ext.trans ?_ (by assumption)))
                have hEw6 : Ext w (wn.alloc (.cells #[.int .i64 r.id, .int .i64 r.arr, .slice tA r.takes.length tc] 37)) := (by repeat (first | assumption | exact Ext.refl _ | refine Ext.drew ?_ | refine Ext.alloc ?_ _ | refine Ext.trans ?_ (by assumption)))
                generalize wn.alloc (.cells #[.int .i64 r.id, .int .i64 r.arr, .slice tA r.takes.length tc] 37) = W6 at *
                have x0 := hE6.cell x0
                have x1 := hE6.cell x1
                clear d0 d1 d2
                by_cases k1 : 1 ≤ r.id ∧ r.id ≤ 1099511627776
                · skip
                  refine Wp.seqRegion (.inl rfl) (by kernel_rfl) fun K' gd hK hg => ?_
                  clear hg
                  go_simp
                  refine Wcall (.inl rfl) (withinR_T k1 _) ?_
                  rintro v w7 ⟨rfl, hE7⟩
                  have y1 := hE7.cell y1
                  have y2 := hE7.cell y2
                  have y0 := hE7.cell y0
                  have x0 := hE7.cell x0
                  have x1 := hE7.cell x1
                  go_simp
                  refine hK _ _ ?_
                  clear hK K' gd
                  refine Wp.keep [1, 5, 6, 7] fun r23 hkeep => ?_
                  obtain ⟨e1_23, e5_23, e6_23, e7_23, -⟩ := hkeep
                  simp [go_sem, e1_22, e5_22, e6_22] at e1_23 e5_23 e6_23 e7_23
                  clear e1_22 e5_22 e6_22
                  by_cases k2 : 0 ≤ r.arr ∧ r.arr ≤ 730
                  · skip
                    refine Wp.seqRegion (.inl rfl) (by kernel_rfl) fun K' gd hK hg => ?_
                    clear hg
                    go_simp
                    refine Wcall (.inl rfl) (withinR_T k2 _) ?_
                    rintro v w8 ⟨rfl, hE8⟩
                    have y2 := hE8.cell y2
                    have y0 := hE8.cell y0
                    have x0 := hE8.cell x0
                    have x1 := hE8.cell x1
                    go_simp
                    refine hK _ _ ?_
                    clear hK K' gd
                    refine Wp.keep [1, 5, 6, 7, 8] fun r24 hkeep => ?_
                    obtain ⟨e1_24, e5_24, e6_24, e7_24, e8_24, -⟩ := hkeep
                    simp [go_sem, e1_23, e5_23, e6_23, e7_23] at e1_24 e5_24 e6_24 e7_24 e8_24
                    clear e1_23 e5_23 e6_23 e7_23
                    by_cases k3 : (r.takes.length : Int) = (o.cop.length : Int)
                    · skip
                      refine Wp.seq ?_
                      refine Wp.seqRegion (.inl rfl) (by kernel_rfl) fun K' gd hK hg => ?_
                      have g2 : gd 2 = some 61 := hg 2
                      have g6 : gd 6 = some 65 := hg 6
                      clear hg
                      go_simp
                      refine hK _ _ ?_
                      clear hK K' gd g2 g6
                      refine Wp.keep [1, 5, 6, 73] fun r25 hkeep => ?_
                      obtain ⟨e1_25, e5_25, e6_25, e73_25, -⟩ := hkeep
                      simp [go_sem, e1_24, e5_24, e6_24, e7_24, e8_24] at e1_25 e5_25 e6_25 e73_25
                      clear e1_24 e5_24 e6_24 e7_24 e8_24
                      refine Wp.condF (by go_simp) ?_
                      have k3' : o.cop.length = r.takes.length := by omega
                      clear k3
                      have hEw8 : Ext w w8 := (by repeat (first | assumption | exact Ext.refl _ | refine Ext.drew ?_ | refine Ext.alloc ?_ _ | refine Ext.trans ?_ (by assumption)))
                      clear hEw6 hE6 hE7 hE8 hEn hEj
                      have hmt : r.takes.length ≤ 15 := by omega
                      refine Wp.skip ?_
                      refine thenK_normal ?_
                      refine Wp.seq ?_
                      refine Wp.seqRegion (.inl rfl) (by kernel_rfl) fun K' gd hK hg => ?_
                      clear hg
                      go_simp
                      refine hK _ _ ?_
                      clear hK K' gd
                      refine Wp.keep [1, 5, 6, 9] fun r26 hkeep => ?_
                      obtain ⟨e1_26, e5_26, e6_26, e9_26, -⟩ := hkeep
                      simp [go_sem, e1_25, e5_25, e6_25, e73_25] at e1_26 e5_26 e6_26 e9_26
                      clear e1_25 e5_25 e6_25 e73_25
                      refine Wp.block ?_
                      refine Wp.loop (fun j ρ ds wj => AllEq [1, 5, 6] ρ r26 ∧ ds = [] ∧ (ρ 9 = .int .i64 (j : Int) ∧ Ext w8 wj ∧ (r.takes.take j).any bad60 = false)) (r.takes.length) ?_ ?_
                      · refine ⟨AllEq.refl _ _, rfl, ?_⟩
                        exact ⟨by rw [e9_26]; rfl, (by repeat (first | assumption | exact Ext.refl _ | refine Ext.drew ?_ | refine Ext.alloc ?_ _ | refine Ext.trans ?_ (by assumption))), rfl⟩
                      · rintro j r27 _ wj hj ⟨hA, rfl, ⟨e9, hEj, hj0⟩⟩
                        obtain ⟨e1_27, e5_27, e6_27, -⟩ := hA
                        rw [e1_26] at e1_27
                        rw [e5_26] at e5_27
                        rw [e6_26] at e6_27
                        have y2' := hEj.cell y2
                        refine Wp.seq ?_
                        refine Wp.seqRegion (.inl rfl) (by kernel_rfl) fun K' gd hK hg => ?_
                        clear hg
                        go_simp
                        refine hK _ _ ?_
                        clear hK K' gd
                        refine Wp.keep [1, 5, 6, 9, 78] fun r28 hkeep => ?_
                        obtain ⟨e1_28, e5_28, e6_28, e9_28, e78_28, -⟩ := hkeep
                        simp [go_sem, e1_27, e5_27, e6_27, e9] at e1_28 e5_28 e6_28 e9_28 e78_28
                        clear e1_27 e5_27 e6_27 e9
                        by_cases h2 : j < r.takes.length
                        · refine Wp.condT (by go_simp) ?_
                          obtain ⟨b2, ob2, rfl, d0⟩ := hI.at h2
                          have d0 := hEj.cell (hEw8.cell d0)
                          obtain ⟨x, hx⟩ : ∃ x, r.takes[j] = x := ⟨_, rfl⟩
                          rw [hx] at d0
                          have b4 : (j : Int) < (r.takes.length : Int) := by omega
                          by_cases hb : 1 ≤ x ∧ x ≤ 60
                          · skip
                            refine Wp.skip ?_
                            refine thenK_normal ?_
                            refine Wp.seq ?_
                            refine Wp.block ?_
                            refine Wp.seqRegion (.inl rfl) (by kernel_rfl) fun K' gd hK hg => ?_
                            clear hg
                            go_simp
                            refine Wcall (.inl rfl) (withinR_T hb _) ?_
                            rintro v w9 ⟨rfl, hE9⟩
                            go_simp
                            refine hK _ _ ?_
                            clear hK K' gd
                            refine Wp.keep [1, 5, 6, 9, 10] fun r29 hkeep => ?_
                            obtain ⟨e1_29, e5_29, e6_29, e9_29, e10_29, -⟩ := hkeep
                            simp [go_sem, e1_28, e5_28, e6_28, e9_28, e78_28] at e1_29 e5_29 e6_29 e9_29 e10_29
                            clear e1_28 e5_28 e6_28 e9_28 e78_28
                            refine Wp.seqRegion (.inl rfl) (by kernel_rfl) fun K' gd hK hg => ?_
                            clear hg
                            go_simp
                            refine hK _ _ ?_
                            clear hK K' gd
                            refine Wp.keep [1, 5, 6, 9, 88] fun r30 hkeep => ?_
                            obtain ⟨e1_30, e5_30, e6_30, e9_30, e88_30, -⟩ := hkeep
                            simp [go_sem, e1_29, e5_29, e6_29, e9_29, e10_29] at e1_30 e5_30 e6_30 e9_30 e88_30
                            clear e1_29 e5_29 e6_29 e9_29 e10_29
                            refine Wp.condF (by go_simp) ?_
                            refine Wp.skip ?_
                            refine blockK_normal ?_
                            refine thenK_normal ?_
                            refine Wp.loneRegion (.inl rfl) (by kernel_rfl) fun K' gd hK hg => ?_
                            clear hg
                            go_simp
                            refine hK _ _ ?_
                            clear hK K' gd
                            refine Ends.keep [1, 5, 6, 9] fun r31 hkeep => ?_
                            obtain ⟨e1_31, e5_31, e6_31, e9_31, -⟩ := hkeep
                            simp [go_sem, e1_30, e5_30, e6_30, e9_30, e88_30] at e1_31 e5_31 e6_31 e9_31
                            clear e1_30 e5_30 e6_30 e9_30 e88_30
                            refine Ends.mk ?_
                            refine thenK_normal ⟨by omega, ⟨by rw [e1_31, e1_26], by rw [e5_31, e5_26], by rw [e6_31, e6_26], trivial⟩, rfl, ?_⟩
                            exact ⟨by rw [e9_31, IntWalk.i64_in _ (by omega)]; rfl, (by repeat (first | assumption | exact Ext.refl _ | refine Ext.drew ?_ | refine Ext.alloc ?_ _ | refine Ext.trans ?_ (by assumption))), any_take h2 hj0 (by rw [hx]; unfold bad60; rw [decide_eq_true hb]; rfl)⟩
                          · skip
                            refine Wp.skip ?_
                            refine thenK_normal ?_
                            refine Wp.seq ?_
                            refine Wp.block ?_
                            refine Wp.seqRegion (.inl rfl) (by kernel_rfl) fun K' gd hK hg => ?_
                            clear hg
                            go_simp
                            refine Wcall (.inl rfl) (withinR_F hb _) ?_
                            rintro v w9 ⟨rfl, hE9⟩
                            go_simp
                            refine hK _ _ ?_
                            clear hK K' gd
                            refine Wp.keep [1, 5, 6, 9, 10] fun r32 hkeep => ?_
                            obtain ⟨e1_32, e5_32, e6_32, e9_32, e10_32, -⟩ := hkeep
                            simp [go_sem, e1_28, e5_28, e6_28, e9_28, e78_28] at e1_32 e5_32 e6_32 e9_32 e10_32
                            clear e1_28 e5_28 e6_28 e9_28 e78_28
                            refine Wp.seqRegion (.inl rfl) (by kernel_rfl) fun K' gd hK hg => ?_
                            clear hg
                            go_simp
                            refine hK _ _ ?_
                            clear hK K' gd
                            refine Wp.keep [1, 5, 6, 9, 88] fun r33 hkeep => ?_
                            obtain ⟨e1_33, e5_33, e6_33, e9_33, e88_33, -⟩ := hkeep
                            simp [go_sem, e1_32, e5_32, e6_32, e9_32, e10_32] at e1_33 e5_33 e6_33 e9_33 e88_33
                            clear e1_32 e5_32 e6_32 e9_32 e10_32
                            refine Wp.condT (by go_simp) ?_
                            refine Wp.seqRegion (.inl rfl) (by kernel_rfl) fun K' gd hK hg => ?_
                            clear hg
                            go_simp
                            refine hK _ _ ?_
                            clear hK K' gd
                            refine Wp.keep [2] fun r34 hkeep => ?_
                            obtain ⟨e2_34, -⟩ := hkeep
                            simp [go_sem, e1_33, e5_33, e6_33, e9_33, e88_33] at e2_34
                            clear e1_33 e5_33 e6_33 e9_33 e88_33
                            refine Wp.ret ?_
                            refine blockK_ret ?_
                            refine thenK_ret ?_
                            refine thenK_ret ?_
                            refine blockK_ret ?_
                            refine thenK_ret ?_
                            refine blockK_ret ?_
                            refine thenK_ret ?_
                            refine thenK_ret ?_
                            refine blockK_ret ?_
                            refine thenK_ret ?_
                            refine endK_tmp Try.results68 (by decide) ?_
                            rw [e2_34]
                            obtain ⟨-, hS⟩ := hS'
                            exact ⟨by rw [hS, if_neg (not_not_intro k1), if_neg (not_not_intro k2), if_neg (not_not_intro k3'.symm), if_pos (any_hit h2 (by rw [hx]; unfold bad60; rw [decide_eq_false hb]; rfl))], (by repeat (first | assumption | exact Ext.refl _ | refine Ext.drew ?_ | refine Ext.alloc ?_ _ | refine Ext.trans ?_ (by assumption)))⟩
                        · refine Wp.condF (by go_simp) ?_
                          obtain rfl : j = r.takes.length := by omega
                          rw [List.take_length] at hj0
                          have hj1 : ¬ r.takes.any bad60 = true := by rw [hj0]; decide
                          clear hj0
                          refine Wp.exit ?_
                          refine thenK_exit ?_
                          refine thenK_exit ?_
                          refine blockK_here ?_
                          refine thenK_normal ?_
                          refine Wp.seqRegion (.inl rfl) (by kernel_rfl) fun K' gd hK hg => ?_
                          clear hg
                          go_simp
                          refine hK _ _ ?_
                          clear hK K' gd
                          refine Wp.keep [1, 5, 6, 11] fun r35 hkeep => ?_
                          obtain ⟨e1_35, e5_35, e6_35, e11_35, -⟩ := hkeep
                          simp [go_sem, e1_28, e5_28, e6_28, e9_28, e78_28] at e1_35 e5_35 e6_35 e11_35
                          clear e1_28 e5_28 e6_28 e9_28 e78_28
                          refine Wp.block ?_
                          refine Wp.loop (fun k ρ ds wk => AllEq [1, 5, 6] ρ r35 ∧ ds = [] ∧ (ρ 11 = .int .i64 (k : Int) ∧ Ext w8 wk ∧ (∀ q (hq : q < o.runs.length), q < k → o.runs[q].id ≠ r.id))) (n) ?_ ?_
                          · refine ⟨AllEq.refl _ _, rfl, ?_⟩
                            exact ⟨by rw [e11_35]; rfl, (by repeat (first | assumption | exact Ext.refl _ | refine Ext.drew ?_ | refine Ext.alloc ?_ _ | refine Ext.trans ?_ (by assumption))), fun q _ h => absurd h (Nat.not_lt_zero _)⟩
                          · rintro k r36 _ wk hk ⟨hA, rfl, ⟨e11, hEk, hno⟩⟩
                            obtain ⟨e1_36, e5_36, e6_36, -⟩ := hA
                            rw [e1_35] at e1_36
                            rw [e5_35] at e5_36
                            rw [e6_35] at e6_36
                            refine Wp.seq ?_
                            refine Wp.seqRegion (.inl rfl) (by kernel_rfl) fun K' gd hK hg => ?_
                            clear hg
                            go_simp
                            refine hK _ _ ?_
                            clear hK K' gd
                            refine Wp.keep [1, 5, 6, 11, 91] fun r37 hkeep => ?_
                            obtain ⟨e1_37, e5_37, e6_37, e11_37, e91_37, -⟩ := hkeep
                            simp [go_sem, e1_36, e5_36, e6_36, e11] at e1_37 e5_37 e6_37 e11_37 e91_37
                            clear e1_36 e5_36 e6_36 e11
                            by_cases h3 : k < n
                            · refine Wp.condT (by go_simp) ?_
                              have hkl : k < o.runs.length := by omega
                              obtain ⟨b5, ob5, A5, c5, hA5, d5, -, -, -⟩ := hr.at hkl
                              injection hA5 with hA5
                              injection hA5 with hb5 ho5
                              subst hb5 ho5
                              have d5 := hEk.cell (hEw8.cell d5)
                              have y0' := hEk.cell y0
                              have x1' := hEk.cell x1
                              obtain ⟨y, hy⟩ : ∃ y, o.runs[k].id = y := ⟨_, rfl⟩
                              rw [hy] at d5
                              have b6 : (k : Int) < (o.runs.length : Int) := by omega
                              have hy2 : ∃ _u : Unit, o.runs[k].id = y := ⟨(), hy⟩
                              clear hy
                              by_cases hyr : y = r.id
                              · skip
                                have hq : (y == r.id) = true := by rw [hyr]; simp
                                clear hno
                                refine Wp.skip ?_
                                refine thenK_normal ?_
                                refine Wp.seq ?_
                                refine Wp.block ?_
                                refine Wp.seqDraw (.inl rfl) mixed [([0, 1, 2, 3, 4], none), ([5, 6, 7, 8], none)] (by kernel_rfl) fun K' gd hK hg => ?_
                                clear hg
                                simp only [pick, nth, List.map_cons, List.map_nil, Option.map_none, Option.map_some]
                                apply Mops.none
                                · intro w' hE'
                                  have hC' := hE'.cellsS
                                  go_simp
                                  with_reducible rfl
                                apply Mops.none
                                · intro w' hE'
                                  have hC' := hE'.cellsS
                                  go_simp
                                  with_reducible rfl
                                refine Mops.done ?_
                                refine hK _ _ ?_
                                clear hK K' gd
                                refine Wp.keep [1, 5, 6, 11, 102] fun r38 hkeep => ?_
                                obtain ⟨e1_38, e5_38, e6_38, e11_38, e102_38, -⟩ := hkeep
                                simp [go_sem, e1_37, e5_37, e6_37, e11_37, e91_37] at e1_38 e5_38 e6_38 e11_38 e102_38
                                clear e1_37 e5_37 e6_37 e11_37 e91_37
                                refine Wp.condT (by go_simp) ?_
                                refine Wp.seqRegion (.inl rfl) (by kernel_rfl) fun K' gd hK hg => ?_
                                clear hg
                                go_simp
                                refine hK _ _ ?_
                                clear hK K' gd
                                refine Wp.keep [2] fun r39 hkeep => ?_
                                obtain ⟨e2_39, -⟩ := hkeep
                                simp [go_sem, e1_38, e5_38, e6_38, e11_38, e102_38] at e2_39
                                clear e1_38 e5_38 e6_38 e11_38 e102_38
                                refine Wp.ret ?_
                                refine blockK_ret ?_
                                refine thenK_ret ?_
                                refine thenK_ret ?_
                                refine blockK_ret ?_
                                refine blockK_ret ?_
                                refine thenK_ret ?_
                                refine thenK_ret ?_
                                refine blockK_ret ?_
                                refine thenK_ret ?_
                                refine endK_tmp Try.results68 (by decide) ?_
                                rw [e2_39]
                                obtain ⟨-, hS⟩ := hS'
                                obtain ⟨-, hy⟩ := hy2
                                exact ⟨by rw [hS, if_neg (not_not_intro k1), if_neg (not_not_intro k2), if_neg (not_not_intro k3'.symm), if_neg hj1, if_pos (List.any_eq_true.2 ⟨o.runs[k], List.mem_take_iff_getElem.2 ⟨k, by omega, rfl⟩, decide_eq_true (hy.trans hyr)⟩)], (by repeat (first | assumption | exact Ext.refl _ | refine Ext.drew ?_ | refine Ext.alloc ?_ _ | refine Ext.trans ?_ (by assumption)))⟩
                              · skip
                                refine Wp.skip ?_
                                refine thenK_normal ?_
                                refine Wp.seq ?_
                                refine Wp.block ?_
                                refine Wp.seqDraw (.inl rfl) mixed [([0, 1, 2, 3, 4], none), ([5, 6, 7, 8], none)] (by kernel_rfl) fun K' gd hK hg => ?_
                                clear hg
                                simp only [pick, nth, List.map_cons, List.map_nil, Option.map_none, Option.map_some]
                                apply Mops.none
                                · intro w' hE'
                                  have hC' := hE'.cellsS
                                  go_simp
                                  with_reducible rfl
                                apply Mops.none
                                · intro w' hE'
                                  have hC' := hE'.cellsS
                                  go_simp
                                  with_reducible rfl
                                refine Mops.done ?_
                                refine hK _ _ ?_
                                clear hK K' gd
                                refine Wp.keep [1, 5, 6, 11, 102] fun r40 hkeep => ?_
                                obtain ⟨e1_40, e5_40, e6_40, e11_40, e102_40, -⟩ := hkeep
                                simp [go_sem, e1_37, e5_37, e6_37, e11_37, e91_37] at e1_40 e5_40 e6_40 e11_40 e102_40
                                clear e1_37 e5_37 e6_37 e11_37 e91_37
                                refine Wp.condF (by go_simp) ?_
                                refine Wp.skip ?_
                                refine blockK_normal ?_
                                refine thenK_normal ?_
                                refine Wp.loneRegion (.inl rfl) (by kernel_rfl) fun K' gd hK hg => ?_
                                clear hg
                                go_simp
                                refine hK _ _ ?_
                                clear hK K' gd
                                refine Ends.keep [1, 5, 6, 11] fun r41 hkeep => ?_
                                obtain ⟨e1_41, e5_41, e6_41, e11_41, -⟩ := hkeep
                                simp [go_sem, e1_40, e5_40, e6_40, e11_40, e102_40] at e1_41 e5_41 e6_41 e11_41
                                clear e1_40 e5_40 e6_40 e11_40 e102_40
                                refine Ends.mk ?_
                                refine thenK_normal ⟨by omega, ⟨by rw [e1_41, e1_35], by rw [e5_41, e5_35], by rw [e6_41, e6_35], trivial⟩, rfl, ?_⟩
                                refine ⟨by rw [e11_41, IntWalk.i64_in _ (by omega)]; rfl, (by repeat (first | assumption | exact Ext.refl _ | refine Ext.drew ?_ | refine Ext.alloc ?_ _ | refine Ext.trans ?_ (by assumption))), fun q hq hqk => ?_⟩
                                obtain ⟨-, hy⟩ := hy2
                                by_cases e : q = k
                                · subst e; rw [hy]; exact hyr
                                · exact hno q hq (by omega)
                            · refine Wp.condF (by go_simp) ?_
                              obtain rfl : k = n := by omega
                              refine Wp.exit ?_
                              refine thenK_exit ?_
                              refine thenK_exit ?_
                              refine blockK_here ?_
                              refine blockK_normal ?_
                              refine thenK_normal ?_
                              refine Wp.loneRegion (.inl rfl) (by kernel_rfl) fun K' gd hK hg => ?_
                              clear hg
                              go_simp
                              refine hK _ _ ?_
                              clear hK K' gd
                              refine Ends.keep [1, 5] fun r42 hkeep => ?_
                              obtain ⟨e1_42, e5_42, -⟩ := hkeep
                              simp [go_sem, e1_37, e5_37, e6_37, e11_37, e91_37] at e1_42 e5_42
                              clear e1_37 e5_37 e6_37 e11_37 e91_37
                              refine Ends.mk ?_
                              refine thenK_normal ⟨by omega, ⟨by rw [e1_42, e1_19], trivial⟩, rfl, ?_⟩
                              refine ⟨by rw [e5_42, IntWalk.i64_in _ (by omega)]; rfl, (by repeat (first | assumption | exact Ext.refl _ | refine Ext.drew ?_ | refine Ext.alloc ?_ _ | refine Ext.trans ?_ (by assumption))), hEk.cell x0, hEk.cell x1, ?_⟩
                              obtain ⟨-, hS⟩ := hS'
                              refine ⟨(), ?_⟩
                              rw [hS, if_neg (not_not_intro k1), if_neg (not_not_intro k2), if_neg (not_not_intro k3'.symm), if_neg hj1, if_neg ?_]
                              rw [List.any_eq_true]
                              rintro ⟨x, hx, hxe⟩
                              obtain ⟨q, hq, rfl⟩ := List.mem_take_iff_getElem.1 hx
                              exact hno q (by omega) (by omega) (of_decide_eq_true hxe)
                    · skip
                      refine Wp.seq ?_
                      refine Wp.seqRegion (.inl rfl) (by kernel_rfl) fun K' gd hK hg => ?_
                      have g2 : gd 2 = some 61 := hg 2
                      have g6 : gd 6 = some 65 := hg 6
                      clear hg
                      go_simp
                      refine hK _ _ ?_
                      clear hK K' gd g2 g6
                      refine Wp.keep [1, 5, 6, 73] fun r43 hkeep => ?_
                      obtain ⟨e1_43, e5_43, e6_43, e73_43, -⟩ := hkeep
                      simp [go_sem, e1_24, e5_24, e6_24, e7_24, e8_24] at e1_43 e5_43 e6_43 e73_43
                      clear e1_24 e5_24 e6_24 e7_24 e8_24
                      refine Wp.condT (by go_simp) ?_
                      refine Wp.seqRegion (.inl rfl) (by kernel_rfl) fun K' gd hK hg => ?_
                      clear hg
                      go_simp
                      refine hK _ _ ?_
                      clear hK K' gd
                      refine Wp.keep [2] fun r44 hkeep => ?_
                      obtain ⟨e2_44, -⟩ := hkeep
                      simp [go_sem, e1_43, e5_43, e6_43, e73_43] at e2_44
                      clear e1_43 e5_43 e6_43 e73_43
                      refine Wp.ret ?_
                      refine thenK_ret ?_
                      refine blockK_ret ?_
                      refine thenK_ret ?_
                      refine thenK_ret ?_
                      refine blockK_ret ?_
                      refine thenK_ret ?_
                      refine endK_tmp Try.results68 (by decide) ?_
                      rw [e2_44]
                      obtain ⟨-, hS⟩ := hS'
                      exact ⟨by rw [hS, if_neg (not_not_intro k1), if_neg (not_not_intro k2), if_pos (by omega)], (by repeat (first | assumption | exact Ext.refl _ | refine Ext.drew ?_ | refine Ext.alloc ?_ _ | refine Ext.trans ?_ (by assumption)))⟩
                  · skip
                    refine Wp.seqRegion (.inl rfl) (by kernel_rfl) fun K' gd hK hg => ?_
                    clear hg
                    go_simp
                    refine Wcall (.inl rfl) (withinR_F k2 _) ?_
                    rintro v w8 ⟨rfl, hE8⟩
                    have y2 := hE8.cell y2
                    go_simp
                    refine hK _ _ ?_
                    clear hK K' gd
                    refine Wp.keep [1, 5, 6, 7, 8] fun r45 hkeep => ?_
                    obtain ⟨e1_45, e5_45, e6_45, e7_45, e8_45, -⟩ := hkeep
                    simp [go_sem, e1_23, e5_23, e6_23, e7_23] at e1_45 e5_45 e6_45 e7_45 e8_45
                    clear e1_23 e5_23 e6_23 e7_23
                    refine Wp.seq ?_
                    refine Wp.seqRegion (.inl rfl) (by kernel_rfl) fun K' gd hK hg => ?_
                    have g2 : gd 2 = some 61 := hg 2
                    have g6 : gd 6 = some 65 := hg 6
                    clear hg
                    go_simp
                    refine hK _ _ ?_
                    clear hK K' gd g2 g6
                    refine Wp.keep [1, 5, 6, 73] fun r46 hkeep => ?_
                    obtain ⟨e1_46, e5_46, e6_46, e73_46, -⟩ := hkeep
                    simp [go_sem, e1_45, e5_45, e6_45, e7_45, e8_45] at e1_46 e5_46 e6_46 e73_46
                    clear e1_45 e5_45 e6_45 e7_45 e8_45
                    refine Wp.condT (by go_simp) ?_
                    refine Wp.seqRegion (.inl rfl) (by kernel_rfl) fun K' gd hK hg => ?_
                    clear hg
                    go_simp
                    refine hK _ _ ?_
                    clear hK K' gd
                    refine Wp.keep [2] fun r47 hkeep => ?_
                    obtain ⟨e2_47, -⟩ := hkeep
                    simp [go_sem, e1_46, e5_46, e6_46, e73_46] at e2_47
                    clear e1_46 e5_46 e6_46 e73_46
                    refine Wp.ret ?_
                    refine thenK_ret ?_
                    refine blockK_ret ?_
                    refine thenK_ret ?_
                    refine thenK_ret ?_
                    refine blockK_ret ?_
                    refine thenK_ret ?_
                    refine endK_tmp Try.results68 (by decide) ?_
                    rw [e2_47]
                    obtain ⟨-, hS⟩ := hS'
                    exact ⟨by rw [hS, if_neg (not_not_intro k1), if_pos k2], (by repeat (first | assumption | exact Ext.refl _ | refine Ext.drew ?_ | refine Ext.alloc ?_ _ | refine Ext.trans ?_ (by assumption)))⟩
                · skip
                  refine Wp.seqRegion (.inl rfl) (by kernel_rfl) fun K' gd hK hg => ?_
                  clear hg
                  go_simp
                  refine Wcall (.inl rfl) (withinR_F k1 _) ?_
                  rintro v w7 ⟨rfl, hE7⟩
                  have y1 := hE7.cell y1
                  go_simp
                  refine hK _ _ ?_
                  clear hK K' gd
                  refine Wp.keep [1, 5, 6, 7] fun r48 hkeep => ?_
                  obtain ⟨e1_48, e5_48, e6_48, e7_48, -⟩ := hkeep
                  simp [go_sem, e1_22, e5_22, e6_22] at e1_48 e5_48 e6_48 e7_48
                  clear e1_22 e5_22 e6_22
                  refine Wp.seqRegion (.inl rfl) (by kernel_rfl) fun K' gd hK hg => ?_
                  clear hg
                  go_simp
                  refine Wcall (.inl rfl) (withinR_c r.arr 0 730 _) ?_
                  rintro v w8 ⟨rfl, hE8⟩
                  go_simp
                  refine hK _ _ ?_
                  clear hK K' gd
                  refine Wp.keep [1, 5, 6, 7, 8] fun r49 hkeep => ?_
                  obtain ⟨e1_49, e5_49, e6_49, e7_49, e8_49, -⟩ := hkeep
                  simp [go_sem, e1_48, e5_48, e6_48, e7_48] at e1_49 e5_49 e6_49 e7_49 e8_49
                  clear e1_48 e5_48 e6_48 e7_48
                  refine Wp.seq ?_
                  refine Wp.seqRegion (.inl rfl) (by kernel_rfl) fun K' gd hK hg => ?_
                  have g2 : gd 2 = some 61 := hg 2
                  have g6 : gd 6 = some 65 := hg 6
                  clear hg
                  go_simp
                  refine hK _ _ ?_
                  clear hK K' gd g2 g6
                  refine Wp.keep [1, 5, 6, 73] fun r50 hkeep => ?_
                  obtain ⟨e1_50, e5_50, e6_50, e73_50, -⟩ := hkeep
                  simp [go_sem, e1_49, e5_49, e6_49, e7_49, e8_49] at e1_50 e5_50 e6_50 e73_50
                  clear e1_49 e5_49 e6_49 e7_49 e8_49
                  refine Wp.condT (by go_simp) ?_
                  refine Wp.seqRegion (.inl rfl) (by kernel_rfl) fun K' gd hK hg => ?_
                  clear hg
                  go_simp
                  refine hK _ _ ?_
                  clear hK K' gd
                  refine Wp.keep [2] fun r51 hkeep => ?_
                  obtain ⟨e2_51, -⟩ := hkeep
                  simp [go_sem, e1_50, e5_50, e6_50, e73_50] at e2_51
                  clear e1_50 e5_50 e6_50 e73_50
                  refine Wp.ret ?_
                  refine thenK_ret ?_
                  refine blockK_ret ?_
                  refine thenK_ret ?_
                  refine thenK_ret ?_
                  refine blockK_ret ?_
                  refine thenK_ret ?_
                  refine endK_tmp Try.results68 (by decide) ?_
                  rw [e2_51]
                  obtain ⟨-, hS⟩ := hS'
                  exact ⟨by rw [hS, if_pos k1], (by repeat (first | assumption | exact Ext.refl _ | refine Ext.drew ?_ | refine Ext.alloc ?_ _ | refine Ext.trans ?_ (by assumption)))⟩
              · refine Wp.condF (by go_simp) ?_
                refine Wp.exit ?_
                refine thenK_exit ?_
                refine thenK_exit ?_
                refine blockK_here ?_
                refine thenK_normal ?_
                refine Wp.seqRegion (.inl rfl) (by kernel_rfl) fun K' gd hK hg => ?_
                clear hg
                go_simp
                refine hK _ _ ?_
                clear hK K' gd
                refine Wp.keep [2] fun r52 hkeep => ?_
                obtain ⟨e2_52, -⟩ := hkeep
                simp [go_sem, e1_21, e5_21, e45_21] at e2_52
                clear e1_21 e5_21 e45_21
                refine Wp.ret ?_
                refine endK_tmp Try.results68 (by decide) ?_
                rw [e2_52]
                refine ⟨?_, hEn⟩
                obtain ⟨-, hS⟩ := hS
                rw [hS, List.drop_eq_nil_of_le (by omega)]; rfl
end Go.Proofs.Ytnfagcccgmakdaa
namespace Go.Proofs.Ytnfagcccgmakdaa
open Go.RowKit Go.Wk Go.Proofs
attribute [local irreducible] Go.Wk.Wops Go.Wk.Wp Go.Wk.Mtree Go.Wk.Mops
set_option maxHeartbeats 4000000

def FewP (o : Ord) : Prop := (o.cop.length ≤ 30 ∧ o.runs.length ≤ 30 ∧ ∀ r ∈ o.runs, r.takes.length ≤ 30) ∧ ((o.cop.length ≤ 6 ∧ o.runs.length ≤ 6) ∨ checkS o ≠ 0)
instance (o : Ord) : Decidable (FewP o) := inferInstanceAs (Decidable (_ ∧ _))
theorem few_c (v : Value) (o : Ord) (w : World) (hV : OrderV w w.heap.size v o) (hf : Fits o) :
    CallsV Try.prog 28 #[v] w fun v w' => v = .bool (decide (FewP o)) ∧ Ext w w' := by
  obtain ⟨cv, rv, rfl, hc, hr⟩ := id hV
  obtain ⟨cA, cc, rfl, -⟩ := id hc
  obtain ⟨rA, rc, -, rfl, -⟩ := id hr
  refine Wp.fn Try.func28 rfl Try.ntmps28 (by simp) ?_
  refine Wp.keep [0] fun r1 hkeep => ?_
  obtain ⟨e0_1, -⟩ := hkeep
  simp [go_sem] at e0_1
  by_cases g1 : (30 : Int) < (o.cop.length : Int)
  · skip
    refine Wp.seqRegion (.inl rfl) (by kernel_rfl) fun K' gd hK hg => ?_
    clear hg
    go_simp
    refine hK _ _ ?_
    clear hK K' gd
    refine Wp.keep [1] fun r2 hkeep => ?_
    obtain ⟨e1_2, -⟩ := hkeep
    simp [go_sem, e0_1] at e1_2
    clear e0_1
    refine Wp.seq ?_
    refine Wp.seqRegion (.inl rfl) (by kernel_rfl) fun K' gd hK hg => ?_
    have g4 : gd 4 = some 8 := hg 4
    clear hg
    go_simp
    refine hK _ _ ?_
    clear hK K' gd g4
    refine Wp.keep [1, 13] fun r3 hkeep => ?_
    obtain ⟨e1_3, e13_3, -⟩ := hkeep
    simp [go_sem, e1_2] at e1_3 e13_3
    clear e1_2
    refine Wp.condT (by go_simp) ?_
    refine Wp.seqRegion (.inl rfl) (by kernel_rfl) fun K' gd hK hg => ?_
    clear hg
    go_simp
    refine hK _ _ ?_
    clear hK K' gd
    refine Wp.keep [2] fun r4 hkeep => ?_
    obtain ⟨e2_4, -⟩ := hkeep
    simp [go_sem, e1_3, e13_3] at e2_4
    clear e1_3 e13_3
    refine Wp.ret ?_
    refine thenK_ret ?_
    refine endK_tmp Try.results28 (by decide) ?_
    rw [e2_4]
    refine ⟨?_, (by repeat (first | assumption | exact Ext.refl _ | refine Ext.drew ?_ | refine Ext.alloc ?_ _ | refine Ext.trans ?_ (by assumption)))⟩
    rw [decide_eq_false (fun h : FewP o => by have := h.1.1; omega)]
  · skip
    by_cases g2 : (30 : Int) < (o.runs.length : Int)
    · skip
      refine Wp.seqRegion (.inl rfl) (by kernel_rfl) fun K' gd hK hg => ?_
      clear hg
      go_simp
      refine hK _ _ ?_
      clear hK K' gd
      refine Wp.keep [1] fun r5 hkeep => ?_
      obtain ⟨e1_5, -⟩ := hkeep
      simp [go_sem, e0_1] at e1_5
      clear e0_1
      refine Wp.seq ?_
      refine Wp.seqRegion (.inl rfl) (by kernel_rfl) fun K' gd hK hg => ?_
      have g4 : gd 4 = some 8 := hg 4
      clear hg
      go_simp
      refine hK _ _ ?_
      clear hK K' gd g4
      refine Wp.keep [1, 13] fun r6 hkeep => ?_
      obtain ⟨e1_6, e13_6, -⟩ := hkeep
      simp [go_sem, e1_5] at e1_6 e13_6
      clear e1_5
      refine Wp.condT (by go_simp) ?_
      refine Wp.seqRegion (.inl rfl) (by kernel_rfl) fun K' gd hK hg => ?_
      clear hg
      go_simp
      refine hK _ _ ?_
      clear hK K' gd
      refine Wp.keep [2] fun r7 hkeep => ?_
      obtain ⟨e2_7, -⟩ := hkeep
      simp [go_sem, e1_6, e13_6] at e2_7
      clear e1_6 e13_6
      refine Wp.ret ?_
      refine thenK_ret ?_
      refine endK_tmp Try.results28 (by decide) ?_
      rw [e2_7]
      refine ⟨?_, (by repeat (first | assumption | exact Ext.refl _ | refine Ext.drew ?_ | refine Ext.alloc ?_ _ | refine Ext.trans ?_ (by assumption)))⟩
      rw [decide_eq_false (fun h : FewP o => by have := h.1.2.1; omega)]
    · skip
      refine Wp.seqRegion (.inl rfl) (by kernel_rfl) fun K' gd hK hg => ?_
      clear hg
      go_simp
      refine hK _ _ ?_
      clear hK K' gd
      refine Wp.keep [1] fun r8 hkeep => ?_
      obtain ⟨e1_8, -⟩ := hkeep
      simp [go_sem, e0_1] at e1_8
      clear e0_1
      refine Wp.seq ?_
      refine Wp.seqRegion (.inl rfl) (by kernel_rfl) fun K' gd hK hg => ?_
      have g4 : gd 4 = some 8 := hg 4
      clear hg
      go_simp
      refine hK _ _ ?_
      clear hK K' gd g4
      refine Wp.keep [1, 13] fun r9 hkeep => ?_
      obtain ⟨e1_9, e13_9, -⟩ := hkeep
      simp [go_sem, e1_8] at e1_9 e13_9
      clear e1_8
      refine Wp.condF (by go_simp) ?_
      refine Wp.skip ?_
      refine thenK_normal ?_
      refine Wp.seq ?_
      refine Wp.seqRegion (.inl rfl) (by kernel_rfl) fun K' gd hK hg => ?_
      clear hg
      go_simp
      refine hK _ _ ?_
      clear hK K' gd
      refine Wp.keep [1, 3] fun r10 hkeep => ?_
      obtain ⟨e1_10, e3_10, -⟩ := hkeep
      simp [go_sem, e1_9, e13_9] at e1_10 e3_10
      clear e1_9 e13_9
      refine Wp.block ?_
      refine Wp.loop (fun i ρ ds wi => AllEq [1] ρ r10 ∧ ds = [] ∧ (ρ 3 = .int .i64 (i : Int) ∧ Ext w wi ∧ wi.cell? ⟨w.heap.size, 0, none⟩ = some (.slice cA o.cop.length cc) ∧ wi.cell? ⟨w.heap.size, 1, none⟩ = some (.slice rA o.runs.length rc) ∧ (∀ q (hq : q < o.runs.length), q < i → o.runs[q].takes.length ≤ 30))) (o.runs.length) ?_ ?_
      · refine ⟨AllEq.refl _ _, rfl, ?_⟩
        exact ⟨by rw [e3_10]; rfl, (by repeat (first | assumption | exact Ext.refl _ | refine Ext.drew ?_ | refine Ext.alloc ?_ _ | refine Ext.trans ?_ (by assumption))), by go_simp, by go_simp, fun q _ h => absurd h (Nat.not_lt_zero _)⟩
      · rintro i r11 _ wi hi ⟨hA, rfl, ⟨e3, hEi, x0, x1, hq⟩⟩
        obtain ⟨e1_11, -⟩ := hA
        rw [e1_10] at e1_11
        refine Wp.seq ?_
        refine Wp.seqRegion (.inl rfl) (by kernel_rfl) fun K' gd hK hg => ?_
        clear hg
        go_simp
        refine hK _ _ ?_
        clear hK K' gd
        refine Wp.keep [1, 3, 18] fun r12 hkeep => ?_
        obtain ⟨e1_12, e3_12, e18_12, -⟩ := hkeep
        simp [go_sem, e1_11, e3] at e1_12 e3_12 e18_12
        clear e1_11 e3
        by_cases h : i < o.runs.length
        · refine Wp.condT (by go_simp) ?_
          obtain ⟨b, ob, tA, tc, rfl, -, -, d2, hI⟩ := hr.at h
          obtain ⟨r, hre⟩ : ∃ r, o.runs[i] = r := ⟨_, rfl⟩
          have hre2 : ∃ _u : Unit, o.runs[i] = r := ⟨(), hre⟩
          rw [hre] at d2 hI
          clear hre
          have d2 := hEi.cell d2
          have b3 : (i : Int) < (o.runs.length : Int) := by omega
          refine Wp.skip ?_
          refine thenK_normal ?_
          refine Wp.seq ?_
          refine Wp.block ?_
          refine Wp.seqRegion (.inl rfl) (by kernel_rfl) fun K' gd hK hg => ?_
          clear hg
          go_simp
          refine hK _ _ ?_
          clear hK K' gd
          refine Wp.keep [1, 3, 28] fun r13 hkeep => ?_
          obtain ⟨e1_13, e3_13, e28_13, -⟩ := hkeep
          simp [go_sem, e1_12, e3_12, e18_12] at e1_13 e3_13 e28_13
          clear e1_12 e3_12 e18_12
          by_cases hk : (30 : Int) < (r.takes.length : Int)
          · refine Wp.condT (by go_simp) ?_
            refine Wp.seqRegion (.inl rfl) (by kernel_rfl) fun K' gd hK hg => ?_
            clear hg
            go_simp
            refine hK _ _ ?_
            clear hK K' gd
            refine Wp.keep [2] fun r14 hkeep => ?_
            obtain ⟨e2_14, -⟩ := hkeep
            simp [go_sem, e1_13, e3_13, e28_13] at e2_14
            clear e1_13 e3_13 e28_13
            refine Wp.ret ?_
            refine blockK_ret ?_
            refine thenK_ret ?_
            refine thenK_ret ?_
            refine blockK_ret ?_
            refine thenK_ret ?_
            refine endK_tmp Try.results28 (by decide) ?_
            rw [e2_14]
            refine ⟨?_, (by repeat (first | assumption | exact Ext.refl _ | refine Ext.drew ?_ | refine Ext.alloc ?_ _ | refine Ext.trans ?_ (by assumption)))⟩
            obtain ⟨-, hre⟩ := hre2
            rw [decide_eq_false (fun h' : FewP o => by have := h'.1.2.2 _ (List.getElem_mem h); rw [hre] at this; omega)]
          · refine Wp.condF (by go_simp) ?_
            refine Wp.skip ?_
            refine blockK_normal ?_
            refine thenK_normal ?_
            refine Wp.loneRegion (.inl rfl) (by kernel_rfl) fun K' gd hK hg => ?_
            clear hg
            go_simp
            refine hK _ _ ?_
            clear hK K' gd
            refine Ends.keep [1, 3] fun r15 hkeep => ?_
            obtain ⟨e1_15, e3_15, -⟩ := hkeep
            simp [go_sem, e1_13, e3_13, e28_13] at e1_15 e3_15
            clear e1_13 e3_13 e28_13
            refine Ends.mk ?_
            refine thenK_normal ⟨by omega, ⟨by rw [e1_15, e1_10], trivial⟩, rfl, ?_⟩
            refine ⟨by rw [e3_15, IntWalk.i64_in _ (by omega)]; rfl, (by repeat (first | assumption | exact Ext.refl _ | refine Ext.drew ?_ | refine Ext.alloc ?_ _ | refine Ext.trans ?_ (by assumption))), x0, x1, fun q hq' hqi => ?_⟩
            obtain ⟨-, hre⟩ := hre2
            by_cases e : q = i
            · subst e; rw [hre]; omega
            · exact hq q hq' (by omega)
        · refine Wp.condF (by go_simp) ?_
          have hall : ∀ r ∈ o.runs, r.takes.length ≤ 30 := fun r hrm => (by obtain ⟨q, hq', rfl⟩ := List.getElem_of_mem hrm; exact hq q hq' (by omega))
          clear hq
          by_cases k1 : (o.cop.length : Int) ≤ 6
          · skip
            by_cases k2 : (o.runs.length : Int) ≤ 6
            · skip
              refine Wp.exit ?_
              refine thenK_exit ?_
              refine thenK_exit ?_
              refine blockK_here ?_
              refine thenK_normal ?_
              refine Wp.seqRegion (.inl rfl) (by kernel_rfl) fun K' gd hK hg => ?_
              have g4 : gd 4 = some 33 := hg 4
              have g10 : gd 10 = some 39 := hg 10
              clear hg
              go_simp
              refine hK _ _ ?_
              clear hK K' gd g4 g10
              refine Wp.keep [2] fun r16 hkeep => ?_
              obtain ⟨e2_16, -⟩ := hkeep
              simp [go_sem, e1_12, e3_12, e18_12] at e2_16
              clear e1_12 e3_12 e18_12
              refine Wp.ret ?_
              refine endK_tmp Try.results28 (by decide) ?_
              rw [e2_16]
              refine ⟨?_, hEi⟩
              rw [decide_eq_true (show FewP o from ⟨⟨by omega, by omega, hall⟩, .inl ⟨by omega, by omega⟩⟩)]
            · skip
              refine Wp.exit ?_
              refine thenK_exit ?_
              refine thenK_exit ?_
              refine blockK_here ?_
              refine thenK_normal ?_
              refine Wp.seqRegion (.inl rfl) (by kernel_rfl) fun K' gd hK hg => ?_
              have g4 : gd 4 = some 33 := hg 4
              have g10 : gd 10 = some 39 := hg 10
              clear hg
              go_simp
              refine Wcall (.inl rfl) (refCheck_c _ o _ (hV.ext (by repeat (first | assumption | exact Ext.refl _ | refine Ext.drew ?_ | refine Ext.alloc ?_ _ | refine Ext.trans ?_ (by assumption)))) hf) ?_
              rintro v w2 ⟨rfl, hE2⟩
              go_simp
              refine hK _ _ ?_
              clear hK K' gd g4 g10
              refine Wp.keep [2] fun r17 hkeep => ?_
              obtain ⟨e2_17, -⟩ := hkeep
              simp [go_sem, e1_12, e3_12, e18_12] at e2_17
              clear e1_12 e3_12 e18_12
              refine Wp.ret ?_
              refine endK_tmp Try.results28 (by decide) ?_
              rw [e2_17]
              refine ⟨?_, (by repeat (first | assumption | exact Ext.refl _ | refine Ext.drew ?_ | refine Ext.alloc ?_ _ | refine Ext.trans ?_ (by assumption)))⟩
              congr 1
              rw [Bool.eq_iff_iff, decide_eq_true_iff]
              constructor
              · intro e; exact ⟨⟨by omega, by omega, hall⟩, .inr (by simpa using e)⟩
              · rintro ⟨-, h' | h'⟩
                · omega
                · simpa using h'
          · skip
            refine Wp.exit ?_
            refine thenK_exit ?_
            refine thenK_exit ?_
            refine blockK_here ?_
            refine thenK_normal ?_
            refine Wp.seqRegion (.inl rfl) (by kernel_rfl) fun K' gd hK hg => ?_
            have g4 : gd 4 = some 33 := hg 4
            have g10 : gd 10 = some 39 := hg 10
            clear hg
            go_simp
            refine Wcall (.inl rfl) (refCheck_c _ o _ (hV.ext (by repeat (first | assumption | exact Ext.refl _ | refine Ext.drew ?_ | refine Ext.alloc ?_ _ | refine Ext.trans ?_ (by assumption)))) hf) ?_
            rintro v w2 ⟨rfl, hE2⟩
            go_simp
            refine hK _ _ ?_
            clear hK K' gd g4 g10
            refine Wp.keep [2] fun r18 hkeep => ?_
            obtain ⟨e2_18, -⟩ := hkeep
            simp [go_sem, e1_12, e3_12, e18_12] at e2_18
            clear e1_12 e3_12 e18_12
            refine Wp.ret ?_
            refine endK_tmp Try.results28 (by decide) ?_
            rw [e2_18]
            refine ⟨?_, (by repeat (first | assumption | exact Ext.refl _ | refine Ext.drew ?_ | refine Ext.alloc ?_ _ | refine Ext.trans ?_ (by assumption)))⟩
            congr 1
            rw [Bool.eq_iff_iff, decide_eq_true_iff]
            constructor
            · intro e; exact ⟨⟨by omega, by omega, hall⟩, .inr (by simpa using e)⟩
            · rintro ⟨-, h' | h'⟩
              · omega
              · simpa using h'
theorem few_T {v : Value} {o : Ord} (hs : FewP o) (w : World) (hV : OrderV w w.heap.size v o) (hf : Fits o) : CallsV Try.prog 28 #[v] w fun v w' => v = .bool true ∧ Ext w w' :=
  (few_c v o w hV hf).mono fun _ _ ⟨h1, h3⟩ => by rw [decide_eq_true hs] at h1; exact ⟨h1, h3⟩
theorem few_F {v : Value} {o : Ord} (hs : ¬ FewP o) (w : World) (hV : OrderV w w.heap.size v o) (hf : Fits o) : CallsV Try.prog 28 #[v] w fun v w' => v = .bool false ∧ Ext w w' :=
  (few_c v o w hV hf).mono fun _ _ ⟨h1, h3⟩ => by rw [decide_eq_false hs] at h1; exact ⟨h1, h3⟩
end Go.Proofs.Ytnfagcccgmakdaa
namespace Go.Proofs.Ytnfagcccgmakdaa
open Go.RowKit Go.Wk Go.Proofs
attribute [local irreducible] Go.Wk.Wops Go.Wk.Wp Go.Wk.Mtree Go.Wk.Mops
set_option maxHeartbeats 4000000

def HoldW (w : World) (v : Value) (H : List (Nat × Nat)) : Prop := ∃ A c, v = .slice A H.length c ∧ ∀ k x, H[k]? = some x → ∃ b ob, A = some ⟨b, ob, none⟩ ∧ w.cell? ⟨b, ob + k * 2, none⟩ = some (.int .i64 (x.1 : Int)) ∧ w.cell? ⟨b, ob + k * 2 + 1, none⟩ = some (.int .i64 (x.2 : Int))
theorem HoldW.of {w : World} {B : Nat} {v : Value} {H : List (Nat × Nat)} (h : StintsV w B v (H.map zS)) : HoldW w v H := by
  obtain ⟨A, c, rfl, hx, -⟩ := h
  refine ⟨A, c, by rw [List.length_map], fun k x hk => ?_⟩
  obtain ⟨hl, he⟩ := List.getElem?_eq_some_iff.1 hk
  obtain ⟨b, ob, h1, h2, h3⟩ := hx (by intro e; rw [List.map_eq_nil_iff] at e; rw [e] at hl; exact absurd hl (Nat.not_lt_zero _))
  obtain ⟨h4, h5⟩ := h3 k (by rw [List.length_map]; exact hl)
  rw [List.getElem_map, he] at h4 h5
  exact ⟨b, ob, h1, h4, h5⟩
theorem HoldW.ext {w w' : World} {v : Value} {H : List (Nat × Nat)} (h : HoldW w v H) (hE : Ext w w') : HoldW w' v H := by
  obtain ⟨A, c, h1, h2⟩ := h
  refine ⟨A, c, h1, fun k x hk => ?_⟩
  obtain ⟨b, ob, h3, h4, h5⟩ := h2 k x hk
  exact ⟨b, ob, h3, hE.cell h4, hE.cell h5⟩
theorem own_set {w : World} {base e size n b k : Nat} {v u : Value} {xs : List Value} (h : w.ownsRow base e size v n xs) (hb : b < base) : (w.setCell ⟨b, k, none⟩ u).ownsRow base e size v n xs := by
  refine ownsRow_setCell_other h ?_ _
  intro hv
  rcases h.2 with ⟨rfl, -⟩ | ⟨g, cap, cur, rfl, hg, -⟩
  · cases hv
  · have e : g = b := Option.some.inj hv
    omega
theorem refHold_c (v : Value) (o : Ord) (d : Int) (w : World) (hV : OrderV w w.heap.size v o) (hf : Fits o) :
    CallsV Try.prog 29 #[v, .int .i64 d] w fun v w' => ∃ A n c, v = .agg #[.slice A n c, .int .i64 (askS o (okDay d))] ∧ StintsV w' w'.heap.size (.slice A n c) (if askS o (okDay d) = 0 then holdL o d else []) ∧ Ext w w' := by
  obtain ⟨A1, n1, c1, A2, n2, c2, rfl, hV⟩ := hV.two
  refine Wp.fn Try.func29 rfl Try.ntmps29 (by simp) ?_
  refine Wp.keep [0, 1] fun r1 hkeep => ?_
  obtain ⟨e0_1, e1_1, -⟩ := hkeep
  simp [go_sem] at e0_1 e1_1
  have x0 := cell_al (.cells #[.slice none 0 0, .int .i64 0] 62) (cell_nn w #[.slice A1 n1 c1, .slice A2 n2 c2] 25 0 rfl (v := .slice A1 n1 c1) rfl)
  have x1 := cell_al (.cells #[.slice none 0 0, .int .i64 0] 62) (cell_nn w #[.slice A1 n1 c1, .slice A2 n2 c2] 25 1 rfl (v := .slice A2 n2 c2) rfl)
  have y0 := cell_nn (w.alloc (.cells #[.slice A1 n1 c1, .slice A2 n2 c2] 25)) #[.slice none 0 0, .int .i64 0] 62 0 (n := w.heap.size + 1) (by simp) (v := .slice none 0 0) rfl
  have y1 := cell_nn (w.alloc (.cells #[.slice A1 n1 c1, .slice A2 n2 c2] 25)) #[.slice none 0 0, .int .i64 0] 62 1 (n := w.heap.size + 1) (by simp) (v := .int .i64 0) rfl
  have fz := frz_nw (w.alloc (.cells #[.slice A1 n1 c1, .slice A2 n2 c2] 25)) #[.slice none 0 0, .int .i64 0] 62 (n := w.heap.size + 1) (by simp)
  have hEV : Ext w ((w.alloc (.cells #[.slice A1 n1 c1, .slice A2 n2 c2] 25)).alloc (.cells #[.slice none 0 0, .int .i64 0] 62)) := (by repeat (first | assumption | exact Ext.refl _ | refine Ext.drew ?_ | refine Ext.alloc ?_ _ | refine Ext.trans ?_ (by assumption)))
  refine Wp.seqRegion (.inl rfl) (by kernel_rfl) fun K' gd hK hg => ?_
  clear hg
  go_simp
  refine hK _ _ ?_
  clear hK K' gd
  refine Wp.keep [1, 2, 4] fun r2 hkeep => ?_
  obtain ⟨e1_2, e2_2, e4_2, -⟩ := hkeep
  simp [go_sem, e0_1, e1_1] at e1_2 e2_2 e4_2
  clear e0_1 e1_1
  generalize (w.alloc (.cells #[.slice A1 n1 c1, .slice A2 n2 c2] 25)).alloc (.cells #[.slice none 0 0, .int .i64 0] 62) = V at *
  have hV1 := hV.ext hEV
  refine Wp.seqRegion (.inl rfl) (by kernel_rfl) fun K' gd hK hg => ?_
  clear hg
  go_simp
  refine Wcall (.inl rfl) (refCheck_c _ o _ hV1 hf) ?_
  rintro v w2 ⟨rfl, hE2⟩
  have fz := fz_ext hE2 (b := w.heap.size + 1) (cell_lt y0) fz
  have x0 := hE2.cell x0
  have x1 := hE2.cell x1
  have y0 := hE2.cell y0
  have y1 := hE2.cell y1
  have hV2 := hV1.ext hE2
  have hEw2 : Ext w w2 := (by repeat (first | assumption | exact Ext.refl _ | refine Ext.drew ?_ | refine Ext.alloc ?_ _ | refine Ext.trans ?_ (by assumption)))
  have hlt := cell_lt y0
  go_simp
  refine hK _ _ ?_
  clear hK K' gd
  refine Wp.keep [1, 2, 4, 5] fun r3 hkeep => ?_
  obtain ⟨e1_3, e2_3, e4_3, e5_3, -⟩ := hkeep
  simp [go_sem, e1_2, e2_2, e4_2] at e1_3 e2_3 e4_3 e5_3
  clear e1_2 e2_2 e4_2
  by_cases h0 : checkS o = 0
  · skip
    refine Wp.seq ?_
    refine Wp.seqRegion (.inl rfl) (by kernel_rfl) fun K' gd hK hg => ?_
    clear hg
    go_simp
    refine hK _ _ ?_
    clear hK K' gd
    refine Wp.keep [1, 2, 4, 5, 15] fun r4 hkeep => ?_
    obtain ⟨e1_4, e2_4, e4_4, e5_4, e15_4, -⟩ := hkeep
    simp [go_sem, e1_3, e2_3, e4_3, e5_3] at e1_4 e2_4 e4_4 e5_4 e15_4
    clear e1_3 e2_3 e4_3 e5_3
    refine Wp.condF (by go_simp) ?_
    by_cases hd : 0 ≤ d ∧ d ≤ 1048576
    · skip
      refine Wp.skip ?_
      refine thenK_normal ?_
      refine Wp.seqRegion (.inl rfl) (by kernel_rfl) fun K' gd hK hg => ?_
      clear hg
      go_simp
      refine Wcall (.inl rfl) (withinR_T hd _) ?_
      rintro v w3 ⟨rfl, hE3⟩
      have fz := fz_ext hE3 (b := w.heap.size + 1) (cell_lt y0) fz
      have x0 := hE3.cell x0
      have x1 := hE3.cell x1
      have y0 := hE3.cell y0
      have y1 := hE3.cell y1
      have hV3 := hV2.ext hE3
      go_simp
      refine hK _ _ ?_
      clear hK K' gd
      refine Wp.keep [1, 2, 4, 6] fun r5 hkeep => ?_
      obtain ⟨e1_5, e2_5, e4_5, e6_5, -⟩ := hkeep
      simp [go_sem, e1_4, e2_4, e4_4, e5_4, e15_4] at e1_5 e2_5 e4_5 e6_5
      clear e1_4 e2_4 e4_4 e5_4 e15_4
      refine Wp.seq ?_
      refine Wp.seqRegion (.inl rfl) (by kernel_rfl) fun K' gd hK hg => ?_
      clear hg
      go_simp
      refine hK _ _ ?_
      clear hK K' gd
      refine Wp.keep [1, 2, 4, 21] fun r6 hkeep => ?_
      obtain ⟨e1_6, e2_6, e4_6, e21_6, -⟩ := hkeep
      simp [go_sem, e1_5, e2_5, e4_5, e6_5] at e1_6 e2_6 e4_6 e21_6
      clear e1_5 e2_5 e4_5 e6_5
      refine Wp.condF (by go_simp) ?_
      have hg := checkS_zero.1 h0
      have ho := hg.ok
      have hask : ∃ _u : Unit, askS o (okDay d) = 0 := ⟨(), askS_good hg (by unfold okDay; exact decide_eq_true hd)⟩
      obtain ⟨p, hcv, hrv, hO⟩ := hV.ordF2 hg
      simp only [OA.cv, OA.rv] at hcv hrv
      injection hcv with p1 p2 p3
      injection hrv with p4 p5 p6
      subst p1 p2 p3 p4 p5 p6
      have hm := ho.hm2
      have hm1 := ho.hm1
      have hn := ho.hn2
      refine Wp.skip ?_
      refine thenK_normal ?_
      refine Wp.seqRegion (.inl rfl) (by kernel_rfl) fun K' gd hK hg => ?_
      clear hg
      go_simp
      refine Wcall (.inl rfl) (timesR_c p o _ (hO.ext (by repeat (first | assumption | exact Ext.refl _ | refine Ext.drew ?_ | refine Ext.alloc ?_ _ | refine Ext.trans ?_ (by assumption))))) ?_
      rintro v w4 ⟨hT, hE4⟩
      have fz := fz_ext hE4 (b := w.heap.size + 1) (cell_lt y0) fz
      have x0 := hE4.cell x0
      have x1 := hE4.cell x1
      have y0 := hE4.cell y0
      have y1 := hE4.cell y1
      have hT := hT.tabV
      go_simp
      refine hK _ _ ?_
      clear hK K' gd
      refine Wp.keep [1, 2, 4, 7] fun r7 hkeep => ?_
      obtain ⟨e1_7, e2_7, e4_7, e7_7, -⟩ := hkeep
      simp [go_sem, e1_6, e2_6, e4_6, e21_6] at e1_7 e2_7 e4_7 e7_7
      clear e1_6 e2_6 e4_6 e21_6
      refine Wp.seqRegion (.inl rfl) (by kernel_rfl) fun K' gd hK hg => ?_
      clear hg
      go_simp
      refine Wcall (.inl rfl) (stintsR_c _ _ o.n o.m _ _ _ (by omega) (by omega)) ?_
      rintro v9 w5 ⟨hL, hE5⟩
      have fz := fz_ext hE5 (b := w.heap.size + 1) (cell_lt y0) fz
      have x0 := hE5.cell x0
      have x1 := hE5.cell x1
      have y0 := hE5.cell y0
      have y1 := hE5.cell y1
      have hT := hT.ext hE5
      obtain ⟨AL, cL, rfl, hHc⟩ := HoldW.of hL.stintsV
      go_simp
      refine hK _ _ ?_
      clear hK K' gd
      refine Wp.keep [1, 2, 4, 7, 8] fun r8 hkeep => ?_
      obtain ⟨e1_8, e2_8, e4_8, e7_8, e8_8, -⟩ := hkeep
      simp [go_sem, e1_7, e2_7, e4_7, e7_7] at e1_8 e2_8 e4_8 e7_8 e8_8
      clear e1_7 e2_7 e4_7 e7_7
      have hEw5 : Ext w w5 := (by repeat (first | assumption | exact Ext.refl _ | refine Ext.drew ?_ | refine Ext.alloc ?_ _ | refine Ext.trans ?_ (by assumption)))
      have hO5 := hO.ext hEw5
      obtain ⟨L, hLe⟩ : ∃ L, stintsL o.n o.m = L := ⟨_, rfl⟩
      have hLm : ∀ x ∈ L, x.1 < o.n ∧ x.2 < o.m := fun x hx => stintsL_mem.1 (by rw [hLe]; exact hx)
      have hLl : L.length ≤ 300 := by (rw [← hLe, stintsL_len]; have := Nat.mul_le_mul hn hm; omega)
      rw [hLe] at hHc e8_8
      have hLe2 : ∃ _u : Unit, stintsL o.n o.m = L := ⟨(), hLe⟩
      clear hLe hE2 hE3 hE4 hE5 hV1 hV2 hV3 hL hlt
      have hlt : w.heap.size + 1 < w5.heap.size := cell_lt y0
      refine Wp.seqRegion (.inl rfl) (by kernel_rfl) fun K' gd hK hg => ?_
      clear hg
      go_simp
      refine hK _ _ ?_
      clear hK K' gd
      refine Wp.keep [1, 2, 4, 7, 8, 9] fun r9 hkeep => ?_
      obtain ⟨e1_9, e2_9, e4_9, e7_9, e8_9, e9_9, -⟩ := hkeep
      simp [go_sem, e1_8, e2_8, e4_8, e7_8, e8_8] at e1_9 e2_9 e4_9 e7_9 e8_9 e9_9
      clear e1_8 e2_8 e4_8 e7_8 e8_8
      refine Wp.seq ?_
      refine Wp.seqRegion (.inl rfl) (by kernel_rfl) fun K' gd hK hg => ?_
      clear hg
      go_simp
      refine hK _ _ ?_
      clear hK K' gd
      refine Wp.keep [1, 2, 4, 7, 8, 9, 10] fun r10 hkeep => ?_
      obtain ⟨e1_10, e2_10, e4_10, e7_10, e8_10, e9_10, e10_10, -⟩ := hkeep
      simp [go_sem, e1_9, e2_9, e4_9, e7_9, e8_9, e9_9] at e1_10 e2_10 e4_10 e7_10 e8_10 e9_10 e10_10
      clear e1_9 e2_9 e4_9 e7_9 e8_9 e9_9
      refine Wp.block ?_
      refine Wp.loop (fun i ρ ds wi => AllEq [1, 2, 4, 7, 8] ρ r10 ∧ ds = [] ∧ (∃ v9, ρ 9 = v9 ∧ ρ 10 = .int .i64 (i : Int) ∧ OwnS wi w5.heap.size v9 (((L.take i).filter (holds o d)).map zS) ∧ Ext w5 wi)) (L.length) ?_ ?_
      · refine ⟨AllEq.refl _ _, rfl, ?_⟩
        exact ⟨_, e9_10, by rw [e10_10]; rfl, World.ownsRow_nil _ _ _ _, (by repeat (first | assumption | exact Ext.refl _ | refine Ext.drew ?_ | refine Ext.alloc ?_ _ | refine Ext.trans ?_ (by assumption)))⟩
      · rintro i r11 _ wi hi ⟨hA, rfl, ⟨v9, e9, e10, i1, hEi⟩⟩
        obtain ⟨e1_11, e2_11, e4_11, e7_11, e8_11, -⟩ := hA
        rw [e1_10] at e1_11
        rw [e2_10] at e2_11
        rw [e4_10] at e4_11
        rw [e7_10] at e7_11
        rw [e8_10] at e8_11
        refine Wp.seq ?_
        refine Wp.seqRegion (.inl rfl) (by kernel_rfl) fun K' gd hK hg => ?_
        clear hg
        go_simp
        refine hK _ _ ?_
        clear hK K' gd
        refine Wp.keep [1, 2, 4, 7, 8, 9, 10, 30] fun r12 hkeep => ?_
        obtain ⟨e1_12, e2_12, e4_12, e7_12, e8_12, e9_12, e10_12, e30_12, -⟩ := hkeep
        simp [go_sem, e1_11, e2_11, e4_11, e7_11, e8_11, e9, e10] at e1_12 e2_12 e4_12 e7_12 e8_12 e9_12 e10_12 e30_12
        clear e1_11 e2_11 e4_11 e7_11 e8_11 e9 e10
        by_cases h : i < L.length
        · refine Wp.condT (by go_simp) ?_
          obtain ⟨x, hx⟩ : ∃ x, L[i]? = some x := ⟨_, List.getElem?_eq_getElem h⟩
          obtain ⟨b1, o1, rfl, d1, d2⟩ := hHc i x hx
          obtain ⟨hx1, hx2⟩ := hLm x (List.mem_of_getElem? hx)
          have d1 := hEi.cell d1
          have d2 := hEi.cell d2
          have b3 : (i : Int) < (L.length : Int) := by omega
          obtain ⟨bt, obt, ct, rbt, rot, rct, rfl, hG⟩ := tabG_of hT (by omega) (by omega)
          have g1 := (hG.ext hEi).row x.1 hx1
          have g2 := (hG.ext hEi).cell x.1 x.2 hx1 hx2
          have b4 : ((x.1 : Nat) : Int) < (o.n : Int) := by omega
          have b5 : ((x.2 : Nat) : Int) < (o.m : Int) := by omega
          have hb := begA_ok ho hx1 hx2
          have hTx := ho.vT x.1 x.2 hx1 hx2
          have z0 := hEi.cell x0
          have z1 := hEi.cell x1
          obtain ⟨bg, hbg⟩ : ∃ t, begA o x.1 x.2 = t := ⟨_, rfl⟩
          obtain ⟨tk, htk⟩ : ∃ t, o.T x.1 x.2 = t := ⟨_, rfl⟩
          have htk2 : ∃ _u : Unit, o.T x.1 x.2 = tk := ⟨(), htk⟩
          rw [hbg] at g2 hb
          rw [htk] at hTx
          have hws : IntKind.i64.wrap (bg + tk) = bg + tk := IntWalk.i64_in _ (by omega)
          have hh : holds o d x = decide (bg ≤ d ∧ d ≤ bg + tk - 1) := by unfold holds; rw [hbg, htk]
          have hft := filter_take (holds o d) L hx
          have hlen : ((((L.take i).filter (holds o d)).map zS).length) ≤ 1000 := by rw [List.length_map]; have e1 := List.length_filter_le (holds o d) (L.take i); rw [List.length_take] at e1; omega
          have hft2 : ∃ _u : Unit, (L.take (i + 1)).filter (holds o d) = (L.take i).filter (holds o d) ++ (if decide (bg ≤ d ∧ d ≤ bg + tk - 1) = true then [x] else []) := ⟨(), by rw [hft, hh]⟩
          clear hft hh hbg htk
          by_cases k1 : bg ≤ d
          · skip
            refine Wp.skip ?_
            refine thenK_normal ?_
            refine Wp.seq ?_
            refine Wp.block ?_
            refine Wp.seqDraw (.inl rfl) mixed [([0, 1, 2, 3, 4], none), ([5, 6, 7, 8, 9], none), ([10, 11, 12, 13, 14], none), ([15], none)] (by kernel_rfl) fun K' gd hK hg => ?_
            clear hg
            simp only [pick, nth, List.map_cons, List.map_nil, Option.map_none, Option.map_some]
            apply Mops.none
            · intro w' hE'
              have hC' := hE'.cellsS
              go_simp
              with_reducible rfl
            apply Mops.none
            · intro w' hE'
              have hC' := hE'.cellsS
              go_simp
              with_reducible rfl
            apply Mops.none
            · intro w' hE'
              have hC' := hE'.cellsS
              go_simp
              with_reducible rfl
            apply Mops.none
            · intro w' hE'
              have hC' := hE'.cellsS
              go_simp
              with_reducible rfl
            refine Mops.done ?_
            refine hK _ _ ?_
            clear hK K' gd
            refine Wp.keep [1, 2, 4, 7, 8, 9, 10, 11] fun r13 hkeep => ?_
            obtain ⟨e1_13, e2_13, e4_13, e7_13, e8_13, e9_13, e10_13, e11_13, -⟩ := hkeep
            simp [go_sem, e1_12, e2_12, e4_12, e7_12, e8_12, e9_12, e10_12, e30_12] at e1_13 e2_13 e4_13 e7_13 e8_13 e9_13 e10_13 e11_13
            clear e1_12 e2_12 e4_12 e7_12 e8_12 e9_12 e10_12 e30_12
            refine Wp.seqDraw (.inl rfl) mixed [([0, 1, 2, 3], none), ([4, 5, 6, 7, 8], none), ([9, 10], some (11, false)), ([12, 13, 14], none)] (by kernel_rfl) fun K' gd hK hg => ?_
            have g3 : gd 3 = some 51 := hg 3
            clear hg
            simp only [pick, nth, List.map_cons, List.map_nil, Option.map_none, Option.map_some]
            apply Mops.none
            · intro w' hE'
              have hC' := hE'.cellsS
              go_simp
              with_reducible rfl
            apply Mops.none
            · intro w' hE'
              have hC' := hE'.cellsS
              go_simp
              with_reducible rfl
            apply Mops.act
            · intro w' hE'
              have hC' := hE'.cellsS
              go_simp
              with_reducible rfl
            intro K1 hK1
            go_simp
            refine Wcall (.inl rfl) (takesR_c p o x.1 x.2 _ (hO5.ext (by repeat (first | assumption | exact Ext.refl _ | refine Ext.drew ?_ | refine Ext.alloc ?_ _ | refine Ext.trans ?_ (by assumption)))) hx1 hx2) ?_
            rintro v w6 ⟨rfl, hE6⟩
            obtain ⟨-, htk⟩ := htk2
            rw [htk]
            clear htk
            go_simp
            refine hK1 _ _ (by first | assumption | exact Ext.refl _) ?_
            clear hK1 K1
            apply Mops.none
            · intro w' hE'
              have hC' := hE'.cellsS
              go_simp
              with_reducible rfl
            refine Mops.done ?_
            refine hK _ _ ?_
            clear hK K' gd g3
            refine Wp.keep [1, 2, 4, 7, 8, 9, 10, 62] fun r14 hkeep => ?_
            obtain ⟨e1_14, e2_14, e4_14, e7_14, e8_14, e9_14, e10_14, e62_14, -⟩ := hkeep
            simp [go_sem, e1_13, e2_13, e4_13, e7_13, e8_13, e9_13, e10_13, e11_13] at e1_14 e2_14 e4_14 e7_14 e8_14 e9_14 e10_14 e62_14
            clear e1_13 e2_13 e4_13 e7_13 e8_13 e9_13 e10_13 e11_13
            by_cases k2 : d < bg + tk
            · skip
              refine Wp.condT (by go_simp) ?_
              have d1 := hE6.cell d1
              have d2 := hE6.cell d2
              have i6 := ownsRow_ext i1 ((by repeat (first | assumption | exact Ext.refl _ | refine Ext.drew ?_ | refine Ext.alloc ?_ _ | refine Ext.trans ?_ (by assumption))) : Ext wi w6)
              have hE56 : Ext w5 w6 := (by repeat (first | assumption | exact Ext.refl _ | refine Ext.drew ?_ | refine Ext.alloc ?_ _ | refine Ext.trans ?_ (by assumption)))
              refine Wp.loneRegion (.inl rfl) (by kernel_rfl) fun K' gd hK hg => ?_
              clear hg
              refine Wops.cut 6 fun K1 hK1 => ?_
              simp only [List.take_succ_cons, List.take_zero]
              go_simp
              refine hK1 _ _ ?_
              clear hK1 K1
              simp only [List.drop_succ_cons, List.drop_zero]
              obtain ⟨v', w', hrun, hown, hgr, -⟩ := app_run stints_T (ownsRow_ext i6 (by repeat (first | assumption | exact Ext.refl _ | refine Ext.drew ?_ | refine Ext.alloc ?_ _ | refine Ext.trans ?_ (by assumption)))) ⟨w6.heap.size, 0, none⟩ 1 1 [.int .i64 (x.1 : Int), .int .i64 (x.2 : Int)] 44 rfl (news_two (cell_nn _ _ _ 0 rfl rfl) (cell_nn _ _ _ 1 rfl rfl)) (oneCell_ints (by simp)) (by omega) (by have := Below.size hE56; simp; omega) (w := w6.alloc (.cells #[.int .i64 (x.1 : Int), .int .i64 (x.2 : Int)] 40))
              refine Wops.law rfl (exec_append2 rfl hrun (by go_simp) (by go_simp)) ?_
              go_simp
              refine hK _ _ ?_
              clear hK K' gd
              refine Ends.keep [1, 2, 4, 7, 8, 9, 10] fun r15 hkeep => ?_
              obtain ⟨e1_15, e2_15, e4_15, e7_15, e8_15, e9_15, e10_15, -⟩ := hkeep
              simp [go_sem, e1_14, e2_14, e4_14, e7_14, e8_14, e9_14, e10_14, e62_14] at e1_15 e2_15 e4_15 e7_15 e8_15 e9_15 e10_15
              clear e1_14 e2_14 e4_14 e7_14 e8_14 e9_14 e10_14 e62_14
              refine Ends.mk ?_
              refine blockK_normal ?_
              refine thenK_normal ?_
              refine Wp.loneRegion (.inl rfl) (by kernel_rfl) fun K' gd hK hg => ?_
              clear hg
              go_simp
              refine hK _ _ ?_
              clear hK K' gd
              refine Ends.keep [1, 2, 4, 7, 8, 9, 10] fun r16 hkeep => ?_
              obtain ⟨e1_16, e2_16, e4_16, e7_16, e8_16, e9_16, e10_16, -⟩ := hkeep
              simp [go_sem, e1_15, e2_15, e4_15, e7_15, e8_15, e9_15, e10_15] at e1_16 e2_16 e4_16 e7_16 e8_16 e9_16 e10_16
              clear e1_15 e2_15 e4_15 e7_15 e8_15 e9_15 e10_15
              refine Ends.mk ?_
              refine thenK_normal ⟨by omega, ⟨by rw [e1_16, e1_10], by rw [e2_16, e2_10], by rw [e4_16, e4_10], by rw [e7_16, e7_10], by rw [e8_16, e8_10], trivial⟩, rfl, ?_⟩
              refine ⟨v', e9_16, by rw [e10_16, IntWalk.i64_in _ (by omega)]; rfl, ?_, Below.grown (show Ext _ (w6.alloc (.cells #[.int .i64 (x.1 : Int), .int .i64 (x.2 : Int)] 40)) from hE56.alloc _) (ownsRow_ext i6 ((Ext.refl _).alloc _)) hgr (Nat.le_refl _) (Nat.le_refl _)⟩
              obtain ⟨-, hft⟩ := hft2
              rw [hft, if_pos (decide_eq_true ⟨k1, by omega⟩), List.map_append]
              show World.ownsRow _ _ _ _ _ _ _
              rw [show ([x] : List (Nat × Nat)).map zS = [((x.1 : Int), (x.2 : Int))] from rfl, encL_add, List.length_append]
              exact hown
            · skip
              refine Wp.condF (by go_simp) ?_
              refine Wp.skip ?_
              refine blockK_normal ?_
              refine thenK_normal ?_
              refine Wp.loneRegion (.inl rfl) (by kernel_rfl) fun K' gd hK hg => ?_
              clear hg
              go_simp
              refine hK _ _ ?_
              clear hK K' gd
              refine Ends.keep [1, 2, 4, 7, 8, 9, 10] fun r17 hkeep => ?_
              obtain ⟨e1_17, e2_17, e4_17, e7_17, e8_17, e9_17, e10_17, -⟩ := hkeep
              simp [go_sem, e1_14, e2_14, e4_14, e7_14, e8_14, e9_14, e10_14, e62_14] at e1_17 e2_17 e4_17 e7_17 e8_17 e9_17 e10_17
              clear e1_14 e2_14 e4_14 e7_14 e8_14 e9_14 e10_14 e62_14
              refine Ends.mk ?_
              refine thenK_normal ⟨by omega, ⟨by rw [e1_17, e1_10], by rw [e2_17, e2_10], by rw [e4_17, e4_10], by rw [e7_17, e7_10], by rw [e8_17, e8_10], trivial⟩, rfl, ?_⟩
              refine ⟨v9, e9_17, by rw [e10_17, IntWalk.i64_in _ (by omega)]; rfl, ?_, (by repeat (first | assumption | exact Ext.refl _ | refine Ext.drew ?_ | refine Ext.alloc ?_ _ | refine Ext.trans ?_ (by assumption)))⟩
              obtain ⟨-, hft⟩ := hft2
              rw [hft, if_neg (by rw [decide_eq_true_iff]; omega), List.append_nil]
              exact ownsRow_ext i1 (by repeat (first | assumption | exact Ext.refl _ | refine Ext.drew ?_ | refine Ext.alloc ?_ _ | refine Ext.trans ?_ (by assumption)))
          · skip
            refine Wp.skip ?_
            refine thenK_normal ?_
            refine Wp.seq ?_
            refine Wp.block ?_
            refine Wp.seqDraw (.inl rfl) mixed [([0, 1, 2, 3, 4], none), ([5, 6, 7, 8, 9], none), ([10, 11, 12, 13, 14], none), ([15], none)] (by kernel_rfl) fun K' gd hK hg => ?_
            clear hg
            simp only [pick, nth, List.map_cons, List.map_nil, Option.map_none, Option.map_some]
            apply Mops.none
            · intro w' hE'
              have hC' := hE'.cellsS
              go_simp
              with_reducible rfl
            apply Mops.none
            · intro w' hE'
              have hC' := hE'.cellsS
              go_simp
              with_reducible rfl
            apply Mops.none
            · intro w' hE'
              have hC' := hE'.cellsS
              go_simp
              with_reducible rfl
            apply Mops.none
            · intro w' hE'
              have hC' := hE'.cellsS
              go_simp
              with_reducible rfl
            refine Mops.done ?_
            refine hK _ _ ?_
            clear hK K' gd
            refine Wp.keep [1, 2, 4, 7, 8, 9, 10, 11] fun r18 hkeep => ?_
            obtain ⟨e1_18, e2_18, e4_18, e7_18, e8_18, e9_18, e10_18, e11_18, -⟩ := hkeep
            simp [go_sem, e1_12, e2_12, e4_12, e7_12, e8_12, e9_12, e10_12, e30_12] at e1_18 e2_18 e4_18 e7_18 e8_18 e9_18 e10_18 e11_18
            clear e1_12 e2_12 e4_12 e7_12 e8_12 e9_12 e10_12 e30_12
            refine Wp.seqDraw (.inl rfl) mixed [([0, 1, 2, 3], none), ([4, 5, 6, 7, 8], none), ([9, 10], some (11, false)), ([12, 13, 14], none)] (by kernel_rfl) fun K' gd hK hg => ?_
            have g3 : gd 3 = some 51 := hg 3
            clear hg
            simp only [pick, nth, List.map_cons, List.map_nil, Option.map_none, Option.map_some]
            apply Mops.none
            · intro w' hE'
              have hC' := hE'.cellsS
              go_simp
              with_reducible rfl
            apply Mops.none
            · intro w' hE'
              have hC' := hE'.cellsS
              go_simp
              with_reducible rfl
            apply Mops.act
            · intro w' hE'
              have hC' := hE'.cellsS
              go_simp
              with_reducible rfl
            intro K1 hK1
            go_simp
            refine hK1 _ _ (by first | assumption | exact Ext.refl _) ?_
            clear hK1 K1
            apply Mops.none
            · intro w' hE'
              have hC' := hE'.cellsS
              go_simp
              with_reducible rfl
            refine Mops.done ?_
            refine hK _ _ ?_
            clear hK K' gd g3
            refine Wp.keep [1, 2, 4, 7, 8, 9, 10, 62] fun r19 hkeep => ?_
            obtain ⟨e1_19, e2_19, e4_19, e7_19, e8_19, e9_19, e10_19, e62_19, -⟩ := hkeep
            simp [go_sem, e1_18, e2_18, e4_18, e7_18, e8_18, e9_18, e10_18, e11_18] at e1_19 e2_19 e4_19 e7_19 e8_19 e9_19 e10_19 e62_19
            clear e1_18 e2_18 e4_18 e7_18 e8_18 e9_18 e10_18 e11_18
            refine Wp.condF (by go_simp) ?_
            refine Wp.skip ?_
            refine blockK_normal ?_
            refine thenK_normal ?_
            refine Wp.loneRegion (.inl rfl) (by kernel_rfl) fun K' gd hK hg => ?_
            clear hg
            go_simp
            refine hK _ _ ?_
            clear hK K' gd
            refine Ends.keep [1, 2, 4, 7, 8, 9, 10] fun r20 hkeep => ?_
            obtain ⟨e1_20, e2_20, e4_20, e7_20, e8_20, e9_20, e10_20, -⟩ := hkeep
            simp [go_sem, e1_19, e2_19, e4_19, e7_19, e8_19, e9_19, e10_19, e62_19] at e1_20 e2_20 e4_20 e7_20 e8_20 e9_20 e10_20
            clear e1_19 e2_19 e4_19 e7_19 e8_19 e9_19 e10_19 e62_19
            refine Ends.mk ?_
            refine thenK_normal ⟨by omega, ⟨by rw [e1_20, e1_10], by rw [e2_20, e2_10], by rw [e4_20, e4_10], by rw [e7_20, e7_10], by rw [e8_20, e8_10], trivial⟩, rfl, ?_⟩
            refine ⟨v9, e9_20, by rw [e10_20, IntWalk.i64_in _ (by omega)]; rfl, ?_, (by repeat (first | assumption | exact Ext.refl _ | refine Ext.drew ?_ | refine Ext.alloc ?_ _ | refine Ext.trans ?_ (by assumption)))⟩
            obtain ⟨-, hft⟩ := hft2
            rw [hft, if_neg (by rw [decide_eq_true_iff]; omega), List.append_nil]
            exact ownsRow_ext i1 (by repeat (first | assumption | exact Ext.refl _ | refine Ext.drew ?_ | refine Ext.alloc ?_ _ | refine Ext.trans ?_ (by assumption)))
        · refine Wp.condF (by go_simp) ?_
          obtain rfl : i = L.length := by omega
          rw [List.take_length] at i1
          obtain ⟨A9, c9, rfl⟩ := OwnS.slice i1
          have z2 := hEi.cell y0
          have z3 := hEi.cell y1
          have fz2 := fz_ext hEi (b := w.heap.size + 1) (cell_lt y0) fz
          have f0 := fz2 0
          have f1 := fz2 1
          refine Wp.exit ?_
          refine thenK_exit ?_
          refine thenK_exit ?_
          refine blockK_here ?_
          refine thenK_normal ?_
          refine Wp.seqRegion (.inl rfl) (by kernel_rfl) fun K' gd hK hg => ?_
          clear hg
          go_simp
          refine hK _ _ ?_
          clear hK K' gd
          refine Wp.keep [4] fun r21 hkeep => ?_
          obtain ⟨e4_21, -⟩ := hkeep
          simp [go_sem, e1_12, e2_12, e4_12, e7_12, e8_12, e9_12, e10_12, e30_12] at e4_21
          clear e1_12 e2_12 e4_12 e7_12 e8_12 e9_12 e10_12 e30_12
          refine Wp.ret ?_
          refine endK_cell (v := .agg #[.slice A9 (L.filter (holds o d)).length c9, .int .i64 0]) Try.results29 (by decide) e4_21 (by go_simp) ?_
          obtain ⟨-, hask⟩ := hask
          obtain ⟨-, hLe⟩ := hLe2
          refine ⟨A9, _, c9, by rw [hask], ?_, (by repeat (first | assumption | exact Ext.refl _ | refine Ext.drew ?_ | refine Ext.alloc ?_ _ | refine Ext.setC ?_ (by omega) _ | refine Ext.trans ?_ (by assumption)))⟩
          rw [if_pos hask]; unfold holdL; rw [hLe]
          exact OwnS.stintsV (own_set (own_set i1 (by omega)) (by omega))
    · skip
      refine Wp.skip ?_
      refine thenK_normal ?_
      refine Wp.seqRegion (.inl rfl) (by kernel_rfl) fun K' gd hK hg => ?_
      clear hg
      go_simp
      refine Wcall (.inl rfl) (withinR_F hd _) ?_
      rintro v w3 ⟨rfl, hE3⟩
      have fz := fz_ext hE3 (b := w.heap.size + 1) (cell_lt y0) fz
      have x0 := hE3.cell x0
      have x1 := hE3.cell x1
      have y0 := hE3.cell y0
      have y1 := hE3.cell y1
      go_simp
      refine hK _ _ ?_
      clear hK K' gd
      refine Wp.keep [1, 2, 4, 6] fun r22 hkeep => ?_
      obtain ⟨e1_22, e2_22, e4_22, e6_22, -⟩ := hkeep
      simp [go_sem, e1_4, e2_4, e4_4, e5_4, e15_4] at e1_22 e2_22 e4_22 e6_22
      clear e1_4 e2_4 e4_4 e5_4 e15_4
      refine Wp.seq ?_
      refine Wp.seqRegion (.inl rfl) (by kernel_rfl) fun K' gd hK hg => ?_
      clear hg
      go_simp
      refine hK _ _ ?_
      clear hK K' gd
      refine Wp.keep [1, 2, 4, 21] fun r23 hkeep => ?_
      obtain ⟨e1_23, e2_23, e4_23, e21_23, -⟩ := hkeep
      simp [go_sem, e1_22, e2_22, e4_22, e6_22] at e1_23 e2_23 e4_23 e21_23
      clear e1_22 e2_22 e4_22 e6_22
      refine Wp.condT (by go_simp) ?_
      have f0 := fz 0
      have f1 := fz 1
      have hask : ∃ _u : Unit, askS o (okDay d) = 1 := ⟨(), by unfold askS okDay; rw [if_pos h0, if_neg (by rw [decide_eq_true_iff]; exact hd)]⟩
      refine Wp.seqRegion (.inl rfl) (by kernel_rfl) fun K' gd hK hg => ?_
      clear hg
      go_simp
      refine hK _ _ ?_
      clear hK K' gd
      refine Wp.keep [4] fun r24 hkeep => ?_
      obtain ⟨e4_24, -⟩ := hkeep
      simp [go_sem, e1_23, e2_23, e4_23, e21_23] at e4_24
      clear e1_23 e2_23 e4_23 e21_23
      refine Wp.ret ?_
      refine thenK_ret ?_
      refine endK_cell (v := .agg #[.slice none 0 0, .int .i64 1]) Try.results29 (by decide) e4_24 (by go_simp) ?_
      obtain ⟨-, hask⟩ := hask
      refine ⟨none, 0, 0, by rw [hask], ?_, (by repeat (first | assumption | exact Ext.refl _ | refine Ext.drew ?_ | refine Ext.alloc ?_ _ | refine Ext.setC ?_ (by omega) _ | refine Ext.trans ?_ (by assumption)))⟩
      rw [if_neg (by rw [hask]; decide)]
      exact ⟨none, 0, rfl, fun h => absurd rfl h, Nat.le_refl _⟩
  · skip
    refine Wp.seq ?_
    refine Wp.seqRegion (.inl rfl) (by kernel_rfl) fun K' gd hK hg => ?_
    clear hg
    go_simp
    refine hK _ _ ?_
    clear hK K' gd
    refine Wp.keep [1, 2, 4, 5, 15] fun r25 hkeep => ?_
    obtain ⟨e1_25, e2_25, e4_25, e5_25, e15_25, -⟩ := hkeep
    simp [go_sem, e1_3, e2_3, e4_3, e5_3] at e1_25 e2_25 e4_25 e5_25 e15_25
    clear e1_3 e2_3 e4_3 e5_3
    refine Wp.condT (by go_simp) ?_
    have f0 := fz 0
    have f1 := fz 1
    have hask : ∃ _u : Unit, askS o (okDay d) = checkS o := ⟨(), by unfold askS; rw [if_neg h0]⟩
    refine Wp.seqRegion (.inl rfl) (by kernel_rfl) fun K' gd hK hg => ?_
    clear hg
    go_simp
    refine hK _ _ ?_
    clear hK K' gd
    refine Wp.keep [4] fun r26 hkeep => ?_
    obtain ⟨e4_26, -⟩ := hkeep
    simp [go_sem, e1_25, e2_25, e4_25, e5_25, e15_25] at e4_26
    clear e1_25 e2_25 e4_25 e5_25 e15_25
    refine Wp.ret ?_
    refine thenK_ret ?_
    refine endK_cell (v := .agg #[.slice none 0 0, .int .i64 (checkS o)]) Try.results29 (by decide) e4_26 (by go_simp) ?_
    obtain ⟨-, hask⟩ := hask
    refine ⟨none, 0, 0, by rw [hask], ?_, (by repeat (first | assumption | exact Ext.refl _ | refine Ext.drew ?_ | refine Ext.alloc ?_ _ | refine Ext.setC ?_ (by omega) _ | refine Ext.trans ?_ (by assumption)))⟩
    rw [if_neg (by rw [hask]; exact h0)]
    exact ⟨none, 0, rfl, fun h => absurd rfl h, Nat.le_refl _⟩
end Go.Proofs.Ytnfagcccgmakdaa
namespace Go.Proofs.Ytnfagcccgmakdaa
open Go.RowKit Go.Wk Go.Proofs
attribute [local irreducible] Go.Wk.Wops Go.Wk.Wp Go.Wk.Mtree Go.Wk.Mops
set_option maxHeartbeats 4000000

theorem holdA_len (o : Ord) (d : Int) : (if askS o (okDay d) = 0 then holdL o d else []).length ≤ 1000 := by
  split
  · next h =>
      have hg := (askS_zero.1 h).1
      have hn := hg.ok.hn2
      have hm := hg.ok.hm2
      unfold holdL
      rw [List.length_map]
      refine Nat.le_trans (List.length_filter_le _ _) ?_
      rw [stintsL_len]
      have := Nat.mul_le_mul hn hm
      omega
  · exact Nat.zero_le _
theorem holds_c (v : Value) (o : Ord) (d : Int) (w : World) (hV : OrderV w w.heap.size v o) (hf : Fits o) :
    CallsV Try.prog 7 #[v, .int .i64 d] w fun v w' => v = .bool true ∧ Ext w w' := by
  obtain ⟨A1, n1, c1, A2, n2, c2, rfl, hV⟩ := hV.two
  refine Wp.fn Try.func7 rfl Try.ntmps7 (by simp) ?_
  refine Wp.keep [0, 1] fun r1 hkeep => ?_
  obtain ⟨e0_1, e1_1, -⟩ := hkeep
  simp [go_sem] at e0_1 e1_1
  by_cases hs : FewP o
  · skip
    refine Wp.seqRegion (.inl rfl) (by kernel_rfl) fun K' gd hK hg => ?_
    clear hg
    go_simp
    refine hK _ _ ?_
    clear hK K' gd
    refine Wp.keep [1, 2] fun r2 hkeep => ?_
    obtain ⟨e1_2, e2_2, -⟩ := hkeep
    simp [go_sem, e0_1, e1_1] at e1_2 e2_2
    clear e0_1 e1_1
    refine Wp.seq ?_
    refine Wp.seqRegion (.inl rfl) (by kernel_rfl) fun K' gd hK hg => ?_
    clear hg
    go_simp
    refine Wcall (.inl rfl) (few_T hs _ (hV.ext (by repeat (first | assumption | exact Ext.refl _ | refine Ext.drew ?_ | refine Ext.alloc ?_ _ | refine Ext.trans ?_ (by assumption)))) hf) ?_
    rintro v w2 ⟨rfl, hE⟩
    have hE2 : Ext w w2 := (by repeat (first | assumption | exact Ext.refl _ | refine Ext.drew ?_ | refine Ext.alloc ?_ _ | refine Ext.trans ?_ (by assumption)))
    have x0 : w2.cell? ⟨w.heap.size, 0, none⟩ = some (.slice A1 n1 c1) := hE.cell (by go_simp)
    have x1 : w2.cell? ⟨w.heap.size, 1, none⟩ = some (.slice A2 n2 c2) := hE.cell (by go_simp)
    go_simp
    refine hK _ _ ?_
    clear hK K' gd
    refine Wp.keep [1, 2, 10] fun r3 hkeep => ?_
    obtain ⟨e1_3, e2_3, e10_3, -⟩ := hkeep
    simp [go_sem, e1_2, e2_2] at e1_3 e2_3 e10_3
    clear e1_2 e2_2
    refine Wp.condF (by go_simp) ?_
    have hV2 := hV.ext hE2
    have hll := holdA_len o d
    refine Wp.skip ?_
    refine thenK_normal ?_
    refine Wp.seqRegion (.inl rfl) (by kernel_rfl) fun K' gd hK hg => ?_
    clear hg
    go_simp
    refine Wcall (.inl rfl) (Hold_c _ o d _ hV2 hf) ?_
    rintro v w3 ⟨t1, rfl, hT1, hE3⟩
    have x0 := hE3.cell x0
    have x1 := hE3.cell x1
    have hV3 := hV2.ext hE3
    have hT1 := hT1.stintsV
    go_simp
    refine hK _ _ ?_
    clear hK K' gd
    refine Wp.keep [1, 2, 5, 6] fun r4 hkeep => ?_
    obtain ⟨e1_4, e2_4, e5_4, e6_4, -⟩ := hkeep
    simp [go_sem, e1_3, e2_3, e10_3] at e1_4 e2_4 e5_4 e6_4
    clear e1_3 e2_3 e10_3
    obtain ⟨H, hH⟩ : ∃ H, (if askS o (okDay d) = 0 then holdL o d else []) = H := ⟨_, rfl⟩
    have hH2 : ∃ _u : Unit, (if askS o (okDay d) = 0 then holdL o d else []) = H := ⟨(), hH⟩
    rw [hH] at hT1 hll
    clear hH
    obtain ⟨E, hEe⟩ : ∃ E, askS o (okDay d) = E := ⟨_, rfl⟩
    have hEe2 : ∃ _u : Unit, askS o (okDay d) = E := ⟨(), hEe⟩
    rw [hEe] at e6_4
    clear hEe
    refine Wp.seqRegion (.inl rfl) (by kernel_rfl) fun K' gd hK hg => ?_
    clear hg
    go_simp
    refine Wcall (.inl rfl) (refHold_c _ o d _ hV3 hf) ?_
    rintro v w4 ⟨A, n, c, rfl, hT2, hE4⟩
    obtain ⟨-, hH⟩ := hH2
    rw [hH] at hT2
    obtain ⟨-, hEe⟩ := hEe2
    rw [hEe]
    clear hEe hH
    go_simp
    refine hK _ _ ?_
    clear hK K' gd
    refine Wp.keep [5, 6, 7] fun r5 hkeep => ?_
    obtain ⟨e5_5, e6_5, e7_5, -⟩ := hkeep
    simp [go_sem, e1_4, e2_4, e5_4, e6_4] at e5_5 e6_5 e7_5
    clear e1_4 e2_4 e5_4 e6_4
    have hsz : w3.heap.size ≤ w4.heap.size := hE4.size
    have s0 := cell_nn w4 #[.slice A n c, .int .i64 E] 62 0 rfl (v := .slice A n c) rfl
    have s1 := cell_nn w4 #[.slice A n c, .int .i64 E] 62 1 rfl (v := .int .i64 E) rfl
    have hE5 : Ext w4 (w4.alloc (.cells #[.slice A n c, .int .i64 E] 62)) := (by repeat (first | assumption | exact Ext.refl _ | refine Ext.drew ?_ | refine Ext.alloc ?_ _ | refine Ext.trans ?_ (by assumption)))
    have hT1 := hT1.ext (show Ext w3 (w4.alloc (.cells #[.slice A n c, .int .i64 E] 62)) from (by repeat (first | assumption | exact Ext.refl _ | refine Ext.drew ?_ | refine Ext.alloc ?_ _ | refine Ext.trans ?_ (by assumption))))
    have hT2 := hT2.ext hE5
    have hEw : Ext w (w4.alloc (.cells #[.slice A n c, .int .i64 E] 62)) := (by repeat (first | assumption | exact Ext.refl _ | refine Ext.drew ?_ | refine Ext.alloc ?_ _ | refine Ext.trans ?_ (by assumption)))
    obtain ⟨N, hN⟩ : ∃ N, w4.heap.size = N := ⟨_, rfl⟩
    rw [hN] at *
    generalize w4.alloc (.cells #[.slice A n c, .int .i64 E] 62) = w9 at *
    clear hE5 hN
    refine Wp.seqRegion (.inl rfl) (by kernel_rfl) fun K' gd hK hg => ?_
    have g1 : gd 1 = some 22 := hg 1
    have g7 : gd 7 = some 28 := hg 7
    clear hg
    go_simp
    refine Wcall (.inl rfl) (sanity_c _) ?_
    rintro v w5 ⟨rfl, hE5⟩
    have hT1 := hT1.ext hE5
    have hT2 := hT2.ext hE5
    have s0 := hE5.cell s0
    have s1 := hE5.cell s1
    go_simp
    refine Wcall (.inl rfl) (same_S _ _ H _ hT1 hT2 (by omega)) ?_
    rintro v w6 ⟨rfl, hE6⟩
    have s0 := hE6.cell s0
    have s1 := hE6.cell s1
    go_simp
    refine hK _ _ ?_
    clear hK K' gd g1 g7
    refine Wp.keep [4] fun r6 hkeep => ?_
    obtain ⟨e4_6, -⟩ := hkeep
    simp [go_sem, e5_5, e6_5, e7_5] at e4_6
    clear e5_5 e6_5 e7_5
    refine Wp.ret ?_
    refine endK_tmp Try.results7 (by decide) ?_
    rw [e4_6]
    exact ⟨by simp, (by repeat (first | assumption | exact Ext.refl _ | refine Ext.drew ?_ | refine Ext.alloc ?_ _ | refine Ext.trans ?_ (by assumption)))⟩
  · skip
    refine Wp.seqRegion (.inl rfl) (by kernel_rfl) fun K' gd hK hg => ?_
    clear hg
    go_simp
    refine hK _ _ ?_
    clear hK K' gd
    refine Wp.keep [1, 2] fun r7 hkeep => ?_
    obtain ⟨e1_7, e2_7, -⟩ := hkeep
    simp [go_sem, e0_1, e1_1] at e1_7 e2_7
    clear e0_1 e1_1
    refine Wp.seq ?_
    refine Wp.seqRegion (.inl rfl) (by kernel_rfl) fun K' gd hK hg => ?_
    clear hg
    go_simp
    refine Wcall (.inl rfl) (few_F hs _ (hV.ext (by repeat (first | assumption | exact Ext.refl _ | refine Ext.drew ?_ | refine Ext.alloc ?_ _ | refine Ext.trans ?_ (by assumption)))) hf) ?_
    rintro v w2 ⟨rfl, hE⟩
    go_simp
    refine hK _ _ ?_
    clear hK K' gd
    refine Wp.keep [1, 2, 10] fun r8 hkeep => ?_
    obtain ⟨e1_8, e2_8, e10_8, -⟩ := hkeep
    simp [go_sem, e1_7, e2_7] at e1_8 e2_8 e10_8
    clear e1_7 e2_7
    refine Wp.condT (by go_simp) ?_
    refine Wp.seqRegion (.inl rfl) (by kernel_rfl) fun K' gd hK hg => ?_
    clear hg
    go_simp
    refine Wcall (.inl rfl) (sanity_c _) ?_
    rintro v w3 ⟨rfl, hE3⟩
    go_simp
    refine hK _ _ ?_
    clear hK K' gd
    refine Wp.keep [4] fun r9 hkeep => ?_
    obtain ⟨e4_9, -⟩ := hkeep
    simp [go_sem, e1_8, e2_8, e10_8] at e4_9
    clear e1_8 e2_8 e10_8
    refine Wp.ret ?_
    refine thenK_ret ?_
    refine endK_tmp Try.results7 (by decide) ?_
    rw [e4_9]
    exact ⟨rfl, (by repeat (first | assumption | exact Ext.refl _ | refine Ext.drew ?_ | refine Ext.alloc ?_ _ | refine Ext.trans ?_ (by assumption)))⟩
end Go.Proofs.Ytnfagcccgmakdaa
namespace Go.Proofs.Ytnfagcccgmakdaa
open Go.ChangeShapes Go.WideShapes Go.RowKit Go.Wk Go.Proofs

theorem own : ownKnob Try.prog.godebug = none := by kernel_rfl
theorem laidOut : laidOutB Try.prog = true := by kernel_rfl
set_option maxRecDepth 100000 in
theorem orderHolds_lifted (os : Os) (started : os.Started) (H : Type) (enc : TypeId × Value → H) :
    ReturnsInHanded {} Try.checked os 7 .any (Rows.orderHoldsSpec.pre6 enc Try.prog Try.f7 Rows.orderHoldsRow.domain false) (Rows.orderHoldsSpec.post enc Try.prog Try.f7 false true false false) := by
  refine returnsInHanded_of_change_sized (C := Try.checked) own started (by kernel_rfl) Try.func7
    (ChangeSpec.witness6 (enc := enc) (C := Try.checked) false ⟨#[], #[.agg #[.slice none 0 0, .slice none 0 0], .int .i64 0], []⟩ 8 (by kernel_rfl) (by kernel_rfl) (by kernel_rfl) (by kernel_rfl)) ?_
  intro W base args ds gs before hval0 hW0 _ hsz0 _
  have hval : ∀ (j : Nat) t v, Try.f7.params[j]? = some t → args[j]? = some v → Value.okWide Try.prog W .any base t v := hval0
  have hW : DataW.Whole enc Try.prog Try.f7.params.toList [] false W args.toList ds gs before := hW0
  have hsz : (DataW.weightsEach Try.prog (Try.f7.params.toList ++ []) (ds ++ gs)).all (· ≤ reachBytes) = true := hsz0
  clear hval0 hsz0
  obtain ⟨p, q, hA, hV, -, -, -⟩ := hW
  obtain ⟨rfl, -⟩ := trodVars_none hV
  rw [List.append_nil, List.append_nil] at hsz
  rw [Try.params7] at hA hsz hval
  obtain ⟨hlen, hR⟩ := Rd.of_args hA hsz
  obtain ⟨v0, v1, d0, d1, p0, p1, rfl, rfl, -, -, -⟩ := trodAll_two hA
  have r0 := hR 0 _ v0 rfl rfl
  have r1 := hR 1 _ v1 rfl rfl
  obtain ⟨cs0, rfl, -⟩ := okWide_struct Try.underlying25 (hval 0 _ v0 rfl rfl)
  obtain ⟨m1, rfl⟩ := okWide_int Try.underlying3 (hval 1 _ v1 rfl rfl)
  obtain ⟨x0, h0, f0⟩ := openO ⟨cs0, rfl⟩ r0
  obtain ⟨x1, hm1, f1⟩ := r1.int Try.underlying3
  have e1 : x1 = m1 := by
    have e : [Value.int .i64 m1] = [Value.int .i64 x1] := hm1
    injection e with e _
    injection e with _ e
    exact e.symm
  subst e1
  refine (holds_c _ x0 x1 W h0 f0).calls.mono fun e W' ⟨v, he, hv, hE⟩ => ?_
  subst he; subst hv
  exact ⟨_, rfl, law_post hW0 laidOut rfl (by rw [Try.params7]; intro t ht; simp at ht; rcases ht with rfl | rfl <;> exact ⟨by kernel_rfl, of_decide_eq_true (by kernel_rfl)⟩) rfl Try.underlying4 rfl rfl rfl hE⟩
theorem orderHolds_holds : Rows.OrderHoldsSaid :=
  OpenClaim.holds_of_wide 7 Try.f7 rfl rfl rfl rfl rfl rfl rfl ⟨rfl, rfl, rfl, rfl, rfl⟩ rfl rfl rfl rfl rfl (by kernel_rfl) Try.func7 (by kernel_rfl)
    (of_decide_eq_true (by kernel_rfl)) (by unfold Func.isWrapper; first | (rw [if_pos (by decide +kernel)]; kernel_rfl) | (rw [if_neg (by decide +kernel)]; exact ⟨rfl, rfl⟩))
    (fun os started H enc _ => orderHolds_lifted os started H enc)
#print axioms orderHolds_holds
end Go.Proofs.Ytnfagcccgmakdaa
