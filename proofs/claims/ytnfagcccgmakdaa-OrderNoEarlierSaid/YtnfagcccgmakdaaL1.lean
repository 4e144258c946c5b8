/- OrderNoEarlier. For every order, days, and number, in whatever memory: OrderNoEarlier returns true, and its arguments read as before. No condition. -/
import Derived.Test.YtnfagcccgmakdaaP7
import Derived.Test.YtnfagcccgmakdaaRows
import Derived.ProofKit
import Derived.JoinedOf
import Derived.OpenShut
set_option linter.all false
namespace Go.Proofs.Ytnfagcccgmakdaa
open Go.RowKit Go.Wk Go.Proofs
attribute [local irreducible] Go.Wk.Wops Go.Wk.Wp Go.Wk.Mtree Go.Wk.Mops
set_option maxHeartbeats 4000000

def inR (D : Nat → Nat → Int) (i j : Nat) : Prop := 0 ≤ D i j ∧ D i j ≤ 1073741824
theorem noEarlier_c (v dv : Value) (o : Ord) (days : List (List Int)) (more : Int) (w : World) (hV : OrderV w w.heap.size v o) (hf : Fits o) (hD : TabV w w.heap.size dv days) (hl : days.length ≤ farI) (hm : 0 ≤ more ∧ more ≤ 255) :
    CallsV Try.prog 3 #[v, dv, .int .u8 more] w fun v w' => v = .bool true ∧ Ext w w' := by
  obtain ⟨A1, n1, c1, A2, n2, c2, rfl, hV⟩ := hV.two
  obtain ⟨A3, c3, tu, rfl, hz⟩ := id hD
  refine Wp.fn Try.func3 rfl Try.ntmps3 (by simp) ?_
  refine Wp.keep [0, 1, 2] fun r1 hkeep => ?_
  obtain ⟨e0_1, e1_1, e2_1, -⟩ := hkeep
  simp [go_sem] at e0_1 e1_1 e2_1
  by_cases hs : SmallP o
  · skip
    by_cases hl2 : (days.length : Int) ≤ 20
    · skip
      have hl3 : ¬ (days.length : Int) > 20 := by omega
      refine Wp.seqRegion (.inl rfl) (by kernel_rfl) fun K' gd hK hg => ?_
      clear hg
      go_simp
      refine hK _ _ ?_
      clear hK K' gd
      refine Wp.keep [1, 2, 3] fun r2 hkeep => ?_
      obtain ⟨e1_2, e2_2, e3_2, -⟩ := hkeep
      simp [go_sem, e0_1, e1_1, e2_1] at e1_2 e2_2 e3_2
      clear e0_1 e1_1 e2_1
      refine Wp.seq ?_
      refine Wp.seqRegion (.inl rfl) (by kernel_rfl) fun K' gd hK hg => ?_
      have g3 : gd 3 = some 25 := hg 3
      clear hg
      go_simp
      refine Wcall (.inl rfl) (small_T hs _ (hV.ext (by repeat (first | assumption | exact Ext.refl _ | refine Ext.drew ?_ | refine Ext.alloc ?_ _ | refine Ext.trans ?_ (by assumption)))) hf) ?_
      rintro v w2 ⟨rfl, hE⟩
      have hE2 : Ext w w2 := (by repeat (first | assumption | exact Ext.refl _ | refine Ext.drew ?_ | refine Ext.alloc ?_ _ | refine Ext.trans ?_ (by assumption)))
      have x0 : w2.cell? ⟨w.heap.size, 0, none⟩ = some (.slice A1 n1 c1) := hE.cell (by go_simp)
      have x1 : w2.cell? ⟨w.heap.size, 1, none⟩ = some (.slice A2 n2 c2) := hE.cell (by go_simp)
      go_simp
      refine hK _ _ ?_
      clear hK K' gd g3
      refine Wp.keep [1, 2, 3, 29] fun r3 hkeep => ?_
      obtain ⟨e1_3, e2_3, e3_3, e29_3, -⟩ := hkeep
      simp [go_sem, e1_2, e2_2, e3_2] at e1_3 e2_3 e3_3 e29_3
      clear e1_2 e2_2 e3_2
      refine Wp.condF (by go_simp) ?_
      have hg := hs.good
      have ho := hg.ok
      have hn := hs.n
      have hV2 := hV.ext hE2
      have hend := endS_ok ho
      have hm1 := ho.hm1
      have hm8 := hs.m
      obtain ⟨a, hcv, hrv, hO⟩ := hV.ordF2 hg
      simp only [OA.cv, OA.rv] at hcv hrv
      injection hcv with p1 p2 p3
      injection hrv with p4 p5 p6
      subst p1 p2 p3 p5 p6
      have hrA := hO.hr hn.1
      rw [hrA] at p4
      subst p4
      have hlen : days.length ≤ 20 := by omega
      refine Wp.skip ?_
      refine thenK_normal ?_
      refine Wp.seqRegion (.inl rfl) (by kernel_rfl) fun K' gd hK hg => ?_
      clear hg
      go_simp
      refine Wcall (.inl rfl) (Times_g _ o _ hV2 hg hn.1) ?_
      rintro v w3 ⟨t1, rfl, hT1, hE3⟩
      have x0 := hE3.cell x0
      have x1 := hE3.cell x1
      have hV3 := hV2.ext hE3
      go_simp
      refine hK _ _ ?_
      clear hK K' gd
      refine Wp.keep [1, 2, 3, 7, 8] fun r4 hkeep => ?_
      obtain ⟨e1_4, e2_4, e3_4, e7_4, e8_4, -⟩ := hkeep
      simp [go_sem, e1_3, e2_3, e3_3, e29_3] at e1_4 e2_4 e3_4 e7_4 e8_4
      clear e1_3 e2_3 e3_3 e29_3
      refine Wp.seqRegion (.inl rfl) (by kernel_rfl) fun K' gd hK hg => ?_
      clear hg
      go_simp
      refine Wcall (.inl rfl) (End_g _ o _ hV3 hg) ?_
      rintro v w4 ⟨rfl, hE4⟩
      have x0 := hE4.cell x0
      have x1 := hE4.cell x1
      have hV4 := hV3.ext hE4
      go_simp
      refine hK _ _ ?_
      clear hK K' gd
      refine Wp.keep [1, 2, 3, 7, 8, 9, 10] fun r5 hkeep => ?_
      obtain ⟨e1_5, e2_5, e3_5, e7_5, e8_5, e9_5, e10_5, -⟩ := hkeep
      simp [go_sem, e1_4, e2_4, e3_4, e7_4, e8_4] at e1_5 e2_5 e3_5 e7_5 e8_5 e9_5 e10_5
      clear e1_4 e2_4 e3_4 e7_4 e8_4
      have hmm : 0 ≤ more % 20 ∧ more % 20 < 20 := by omega
      have hw1 : IntKind.i64.wrap more = more := IntWalk.i64_in _ (by omega)
      obtain ⟨m2, hm2⟩ : ∃ m2, more % 20 = m2 := ⟨_, rfl⟩
      rw [hm2] at hmm
      have hw2 : more.tmod 20 = m2 := by rw [Int.tmod_eq_emod_of_nonneg hm.1]; exact hm2
      obtain ⟨d, hd⟩ : ∃ d, IntKind.i64.wrap (endS o + m2) = d := ⟨_, rfl⟩
      have hd2 : endS o ≤ d ∧ d ≤ 1048576 := by rw [← hd, IntWalk.i64_in _ (by omega)]; omega
      clear hm2
      refine Wp.seqRegion (.inl rfl) (by kernel_rfl) fun K' gd hK hg => ?_
      clear hg
      go_simp
      refine hK _ _ ?_
      clear hK K' gd
      refine Wp.keep [1, 3, 7, 8, 10, 11] fun r6 hkeep => ?_
      obtain ⟨e1_6, e3_6, e7_6, e8_6, e10_6, e11_6, -⟩ := hkeep
      simp [go_sem, e1_5, e2_5, e3_5, e7_5, e8_5, e9_5, e10_5] at e1_6 e3_6 e7_6 e8_6 e10_6 e11_6
      clear e1_5 e2_5 e3_5 e7_5 e8_5 e9_5 e10_5
      clear hd hw1 hw2
      refine Wp.seqRegion (.inl rfl) (by kernel_rfl) fun K' gd hK hg => ?_
      clear hg
      go_simp
      refine Wcall (.inl rfl) (Latest_g _ o d _ hV4 hg hn.1 hd2) ?_
      rintro v w5 ⟨t2, rfl, hT2, hE5⟩
      have x0 := hE5.cell x0
      have x1 := hE5.cell x1
      have hV5 := hV4.ext hE5
      go_simp
      refine hK _ _ ?_
      clear hK K' gd
      refine Wp.keep [1, 3, 7, 8, 10, 11, 12, 13] fun r7 hkeep => ?_
      obtain ⟨e1_7, e3_7, e7_7, e8_7, e10_7, e11_7, e12_7, e13_7, -⟩ := hkeep
      simp [go_sem, e1_6, e3_6, e7_6, e8_6, e10_6, e11_6] at e1_7 e3_7 e7_7 e8_7 e10_7 e11_7 e12_7 e13_7
      clear e1_6 e3_6 e7_6 e8_6 e10_6 e11_6
      refine Wp.seq ?_
      refine Wp.seqRegion (.inl rfl) (by kernel_rfl) fun K' gd hK hg => ?_
      have g2 : gd 2 = some 54 := hg 2
      have g6 : gd 6 = some 58 := hg 6
      have g10 : gd 10 = some 62 := hg 10
      have g16 : gd 16 = some 68 := hg 16
      have g22 : gd 22 = some 74 := hg 22
      have g28 : gd 28 = some 80 := hg 28
      clear hg
      go_simp
      refine Wcall (.inl rfl) (wide_g _ _ o _ _ hV5 (hT1.ext (by repeat (first | assumption | exact Ext.refl _ | refine Ext.drew ?_ | refine Ext.alloc ?_ _ | refine Ext.trans ?_ (by assumption)))) (by omega)) ?_
      rintro v w6 ⟨rfl, hE6⟩
      have x0 := hE6.cell x0
      have x1 := hE6.cell x1
      have hV6 := hV5.ext hE6
      go_simp
      refine Wcall (.inl rfl) (wide_g _ _ o _ _ hV6 (hT2.ext (by repeat (first | assumption | exact Ext.refl _ | refine Ext.drew ?_ | refine Ext.alloc ?_ _ | refine Ext.trans ?_ (by assumption)))) (by omega)) ?_
      rintro v w7 ⟨rfl, hE7⟩
      have x0 := hE7.cell x0
      have x1 := hE7.cell x1
      have hV7 := hV6.ext hE7
      go_simp
      refine Wcall (.inl rfl) (keeps_T (beg_keeps ho) _ hV7 hg (hT1.ext (by repeat (first | assumption | exact Ext.refl _ | refine Ext.drew ?_ | refine Ext.alloc ?_ _ | refine Ext.trans ?_ (by assumption)))) (fun i j hi hj => by have := begA_ok ho hi hj; omega)) ?_
      rintro v w8 ⟨rfl, hE8⟩
      have x0 := hE8.cell x0
      have x1 := hE8.cell x1
      have hV8 := hV7.ext hE8
      go_simp
      refine Wcall (.inl rfl) (keeps_T (lst_keeps ho hd2.1) _ hV8 hg (hT2.ext (by repeat (first | assumption | exact Ext.refl _ | refine Ext.drew ?_ | refine Ext.alloc ?_ _ | refine Ext.trans ?_ (by assumption)))) (fun i j hi hj => by have h1 := lst_ok (d := d) ho hi hj; rw [← lstA_eq hi hj] at h1; omega)) ?_
      rintro v w9 ⟨rfl, hE9⟩
      have x0 := hE9.cell x0
      have x1 := hE9.cell x1
      have hV9 := hV8.ext hE9
      go_simp
      refine hK _ _ ?_
      clear hK K' gd g2 g6 g10 g16 g22 g28
      refine Wp.keep [1, 3, 7, 11, 12, 85] fun r8 hkeep => ?_
      obtain ⟨e1_8, e3_8, e7_8, e11_8, e12_8, e85_8, -⟩ := hkeep
      simp [go_sem, e1_7, e3_7, e7_7, e8_7, e10_7, e11_7, e12_7, e13_7] at e1_8 e3_8 e7_8 e11_8 e12_8 e85_8
      clear e1_7 e3_7 e7_7 e8_7 e10_7 e11_7 e12_7 e13_7
      refine Wp.condF (by go_simp) ?_
      by_cases hW : WideP o days
      · skip
        refine Wp.skip ?_
        refine thenK_normal ?_
        refine Wp.seqRegion (.inl rfl) (by kernel_rfl) fun K' gd hK hg => ?_
        clear hg
        go_simp
        refine Wcall (.inl rfl) (wide_T hW _ hV9 (hD.ext (by repeat (first | assumption | exact Ext.refl _ | refine Ext.drew ?_ | refine Ext.alloc ?_ _ | refine Ext.trans ?_ (by assumption)))) (by omega)) ?_
        rintro v w10 ⟨rfl, hE10⟩
        have x0 := hE10.cell x0
        have x1 := hE10.cell x1
        have hV10 := hV9.ext hE10
        go_simp
        refine hK _ _ ?_
        clear hK K' gd
        refine Wp.keep [1, 3, 7, 11, 12, 14] fun r9 hkeep => ?_
        obtain ⟨e1_9, e3_9, e7_9, e11_9, e12_9, e14_9, -⟩ := hkeep
        simp [go_sem, e1_8, e3_8, e7_8, e11_8, e12_8, e85_8] at e1_9 e3_9 e7_9 e11_9 e12_9 e14_9
        clear e1_8 e3_8 e7_8 e11_8 e12_8 e85_8
        refine Wp.seq ?_
        refine Wp.seqRegion (.inl rfl) (by kernel_rfl) fun K' gd hK hg => ?_
        clear hg
        go_simp
        refine hK _ _ ?_
        clear hK K' gd
        refine Wp.keep [1, 3, 7, 11, 12, 14, 89] fun r10 hkeep => ?_
        obtain ⟨e1_10, e3_10, e7_10, e11_10, e12_10, e14_10, e89_10, -⟩ := hkeep
        simp [go_sem, e1_9, e3_9, e7_9, e11_9, e12_9, e14_9] at e1_10 e3_10 e7_10 e11_10 e12_10 e14_10 e89_10
        clear e1_9 e3_9 e7_9 e11_9 e12_9 e14_9
        refine Wp.condT (by go_simp) ?_
        have hDt := dF_tab hW
        obtain ⟨D, hDD⟩ : ∃ D, dF days = D := ⟨_, rfl⟩
        have hTD : TabV w w.heap.size (.slice A3 days.length c3) (tabL o D) := by rw [← hDD, ← hDt]; exact hD
        obtain ⟨bd, obd, cd, rbd, rod, rcd, hv, hGD⟩ := tabG_of hTD hn.1 (by omega)
        injection hv with q1 q2 q3
        subst q1 q3
        rw [q2] at hTD
        rw [q2] at e1_10
        clear hDt hDD hz q2 hl2 hl3
        have hT1 := hT1.ext (show Ext w3 w10 from (by repeat (first | assumption | exact Ext.refl _ | refine Ext.drew ?_ | refine Ext.alloc ?_ _ | refine Ext.trans ?_ (by assumption))))
        have hT2 := hT2.ext (show Ext w5 w10 from (by repeat (first | assumption | exact Ext.refl _ | refine Ext.drew ?_ | refine Ext.alloc ?_ _ | refine Ext.trans ?_ (by assumption))))
        have hEw : Ext w w10 := (by repeat (first | assumption | exact Ext.refl _ | refine Ext.drew ?_ | refine Ext.alloc ?_ _ | refine Ext.trans ?_ (by assumption)))
        clear hE hE2 hE3 hE4 hE5 hE6 hE7 hE8 hE9 hE10
        refine Wp.seqRegion (.inl rfl) (by kernel_rfl) fun K' gd hK hg => ?_
        clear hg
        go_simp
        refine hK _ _ ?_
        clear hK K' gd
        refine Wp.keep [1, 3, 7, 11, 12, 14, 15] fun r11 hkeep => ?_
        obtain ⟨e1_11, e3_11, e7_11, e11_11, e12_11, e14_11, e15_11, -⟩ := hkeep
        simp [go_sem, e1_10, e3_10, e7_10, e11_10, e12_10, e14_10, e89_10] at e1_11 e3_11 e7_11 e11_11 e12_11 e14_11 e15_11
        clear e1_10 e3_10 e7_10 e11_10 e12_10 e14_10 e89_10
        refine Wp.block ?_
        refine Wp.loop (fun i ρ ds wi => AllEq [1, 3, 7, 11, 12] ρ r11 ∧ ds = [] ∧ (∃ ot, ρ 14 = .bool ot ∧ ρ 15 = .int .i64 (i : Int) ∧ (ot = true ↔ ∀ i' j, i' < i → j < o.m → inR D i' j) ∧ Ext w10 wi)) (o.n) ?_ ?_
        · refine ⟨AllEq.refl _ _, rfl, ?_⟩
          exact ⟨true, e14_11, by rw [e15_11]; rfl, ⟨fun _ i' j h => absurd h (Nat.not_lt_zero _), fun _ => rfl⟩, (by repeat (first | assumption | exact Ext.refl _ | refine Ext.drew ?_ | refine Ext.alloc ?_ _ | refine Ext.trans ?_ (by assumption)))⟩
        · rintro i r12 _ wi hi ⟨hA, rfl, ⟨ot, e14, e15, hot, hEi⟩⟩
          obtain ⟨e1_12, e3_12, e7_12, e11_12, e12_12, -⟩ := hA
          rw [e1_11] at e1_12
          rw [e3_11] at e3_12
          rw [e7_11] at e7_12
          rw [e11_11] at e11_12
          rw [e12_11] at e12_12
          refine Wp.seq ?_
          refine Wp.seqRegion (.inl rfl) (by kernel_rfl) fun K' gd hK hg => ?_
          clear hg
          go_simp
          refine hK _ _ ?_
          clear hK K' gd
          refine Wp.keep [1, 3, 7, 11, 12, 14, 15, 93] fun r13 hkeep => ?_
          obtain ⟨e1_13, e3_13, e7_13, e11_13, e12_13, e14_13, e15_13, e93_13, -⟩ := hkeep
          simp [go_sem, e1_12, e3_12, e7_12, e11_12, e12_12, e14, e15] at e1_13 e3_13 e7_13 e11_13 e12_13 e14_13 e15_13 e93_13
          clear e1_12 e3_12 e7_12 e11_12 e12_12 e14 e15
          by_cases h : i < o.n
          · refine Wp.condT (by go_simp) ?_
            refine Wp.skip ?_
            refine thenK_normal ?_
            refine Wp.seq ?_
            refine Wp.block ?_
            refine Wp.seqRegion (.inl rfl) (by kernel_rfl) fun K' gd hK hg => ?_
            clear hg
            go_simp
            refine hK _ _ ?_
            clear hK K' gd
            refine Wp.keep [1, 3, 7, 11, 12, 14, 15, 16] fun r14 hkeep => ?_
            obtain ⟨e1_14, e3_14, e7_14, e11_14, e12_14, e14_14, e15_14, e16_14, -⟩ := hkeep
            simp [go_sem, e1_13, e3_13, e7_13, e11_13, e12_13, e14_13, e15_13, e93_13] at e1_14 e3_14 e7_14 e11_14 e12_14 e14_14 e15_14 e16_14
            clear e1_13 e3_13 e7_13 e11_13 e12_13 e14_13 e15_13 e93_13
            refine Wp.block ?_
            refine Wp.loop (fun j ρ ds wj => AllEq [1, 3, 7, 11, 12, 15] ρ r14 ∧ ds = [] ∧ (∃ ot, ρ 14 = .bool ot ∧ ρ 16 = .int .i64 (j : Int) ∧ (ot = true ↔ (∀ i' j', i' < i → j' < o.m → inR D i' j') ∧ ∀ j', j' < j → inR D i j') ∧ Ext w10 wj)) (o.m) ?_ ?_
            · refine ⟨AllEq.refl _ _, rfl, ?_⟩
              exact ⟨ot, e14_14, by rw [e16_14]; rfl, ⟨fun e => ⟨hot.1 e, fun j' h => absurd h (Nat.not_lt_zero _)⟩, fun e => hot.2 e.1⟩, (by repeat (first | assumption | exact Ext.refl _ | refine Ext.drew ?_ | refine Ext.alloc ?_ _ | refine Ext.trans ?_ (by assumption)))⟩
            · rintro j r15 _ wj hj ⟨hA, rfl, ⟨ot2, e14, e16, hot2, hEj⟩⟩
              obtain ⟨e1_15, e3_15, e7_15, e11_15, e12_15, e15_15, -⟩ := hA
              rw [e1_14] at e1_15
              rw [e3_14] at e3_15
              rw [e7_14] at e7_15
              rw [e11_14] at e11_15
              rw [e12_14] at e12_15
              rw [e15_14] at e15_15
              have hTj := hGD.ext ((by repeat (first | assumption | exact Ext.refl _ | refine Ext.drew ?_ | refine Ext.alloc ?_ _ | refine Ext.trans ?_ (by assumption))) : Ext w wj)
              have f1 := hTj.row i h
              have b3 : (i : Int) < (o.n : Int) := by omega
              refine Wp.seq ?_
              refine Wp.seqRegion (.inl rfl) (by kernel_rfl) fun K' gd hK hg => ?_
              clear hg
              go_simp
              refine hK _ _ ?_
              clear hK K' gd
              refine Wp.keep [1, 3, 7, 11, 12, 14, 15, 16, 102] fun r16 hkeep => ?_
              obtain ⟨e1_16, e3_16, e7_16, e11_16, e12_16, e14_16, e15_16, e16_16, e102_16, -⟩ := hkeep
              simp [go_sem, e1_15, e3_15, e7_15, e11_15, e12_15, e14, e15_15, e16] at e1_16 e3_16 e7_16 e11_16 e12_16 e14_16 e15_16 e16_16 e102_16
              clear e1_15 e3_15 e7_15 e11_15 e12_15 e14 e15_15 e16
              by_cases h2 : j < o.m
              · refine Wp.condT (by go_simp) ?_
                have f2 := hTj.cell i j h h2
                obtain ⟨x, hx⟩ : ∃ x, D i j = x := ⟨_, rfl⟩
                rw [hx] at f2
                have b4 : (j : Int) < (o.m : Int) := by omega
                have hx' : ∃ _u : Unit, D i j = x := ⟨(), hx⟩
                clear hx
                by_cases he : ot2 = true
                · skip
                  subst he
                  by_cases hx1 : 0 ≤ x
                  · skip
                    by_cases hx2 : x ≤ 1073741824
                    · skip
                      refine Wp.skip ?_
                      refine thenK_normal ?_
                      refine Wp.seq ?_
                      refine Wp.block ?_
                      refine Wp.loneRegion (.inl rfl) (by kernel_rfl) fun K' gd hK hg => ?_
                      have g1 : gd 1 = some 106 := hg 1
                      have g11 : gd 11 = some 116 := hg 11
                      clear hg
                      go_simp
                      refine hK _ _ ?_
                      clear hK K' gd g1 g11
                      refine Ends.keep [1, 3, 7, 11, 12, 14, 15, 16] fun r17 hkeep => ?_
                      obtain ⟨e1_17, e3_17, e7_17, e11_17, e12_17, e14_17, e15_17, e16_17, -⟩ := hkeep
                      simp [go_sem, e1_16, e3_16, e7_16, e11_16, e12_16, e14_16, e15_16, e16_16, e102_16] at e1_17 e3_17 e7_17 e11_17 e12_17 e14_17 e15_17 e16_17
                      clear e1_16 e3_16 e7_16 e11_16 e12_16 e14_16 e15_16 e16_16 e102_16
                      refine Ends.mk ?_
                      refine blockK_normal ?_
                      refine thenK_normal ?_
                      refine Wp.loneRegion (.inl rfl) (by kernel_rfl) fun K' gd hK hg => ?_
                      clear hg
                      go_simp
                      refine hK _ _ ?_
                      clear hK K' gd
                      refine Ends.keep [1, 3, 7, 11, 12, 14, 15, 16] fun r18 hkeep => ?_
                      obtain ⟨e1_18, e3_18, e7_18, e11_18, e12_18, e14_18, e15_18, e16_18, -⟩ := hkeep
                      simp [go_sem, e1_17, e3_17, e7_17, e11_17, e12_17, e14_17, e15_17, e16_17] at e1_18 e3_18 e7_18 e11_18 e12_18 e14_18 e15_18 e16_18
                      clear e1_17 e3_17 e7_17 e11_17 e12_17 e14_17 e15_17 e16_17
                      refine Ends.mk ?_
                      refine thenK_normal ⟨by omega, ⟨by rw [e1_18, e1_14], by rw [e3_18, e3_14], by rw [e7_18, e7_14], by rw [e11_18, e11_14], by rw [e12_18, e12_14], by rw [e15_18, e15_14], trivial⟩, rfl, ?_⟩
                      obtain ⟨-, hx⟩ := hx'
                      refine ⟨true, e14_18, by rw [e16_18, IntWalk.i64_in _ (by omega)]; rfl, ⟨fun e => ⟨(hot2.1 rfl).1, fun j' hj' => ?_⟩, fun _ => rfl⟩, (by repeat (first | assumption | exact Ext.refl _ | refine Ext.drew ?_ | refine Ext.alloc ?_ _ | refine Ext.trans ?_ (by assumption)))⟩
                      by_cases e2 : j' = j
                      · subst e2; exact ⟨by rw [hx]; exact hx1, by rw [hx]; exact hx2⟩
                      · exact (hot2.1 rfl).2 j' (by omega)
                    · skip
                      refine Wp.skip ?_
                      refine thenK_normal ?_
                      refine Wp.seq ?_
                      refine Wp.block ?_
                      refine Wp.loneRegion (.inl rfl) (by kernel_rfl) fun K' gd hK hg => ?_
                      have g1 : gd 1 = some 106 := hg 1
                      have g11 : gd 11 = some 116 := hg 11
                      clear hg
                      go_simp
                      refine hK _ _ ?_
                      clear hK K' gd g1 g11
                      refine Ends.keep [1, 3, 7, 11, 12, 14, 15, 16] fun r19 hkeep => ?_
                      obtain ⟨e1_19, e3_19, e7_19, e11_19, e12_19, e14_19, e15_19, e16_19, -⟩ := hkeep
                      simp [go_sem, e1_16, e3_16, e7_16, e11_16, e12_16, e14_16, e15_16, e16_16, e102_16] at e1_19 e3_19 e7_19 e11_19 e12_19 e14_19 e15_19 e16_19
                      clear e1_16 e3_16 e7_16 e11_16 e12_16 e14_16 e15_16 e16_16 e102_16
                      refine Ends.mk ?_
                      refine blockK_normal ?_
                      refine thenK_normal ?_
                      refine Wp.loneRegion (.inl rfl) (by kernel_rfl) fun K' gd hK hg => ?_
                      clear hg
                      go_simp
                      refine hK _ _ ?_
                      clear hK K' gd
                      refine Ends.keep [1, 3, 7, 11, 12, 14, 15, 16] fun r20 hkeep => ?_
                      obtain ⟨e1_20, e3_20, e7_20, e11_20, e12_20, e14_20, e15_20, e16_20, -⟩ := hkeep
                      simp [go_sem, e1_19, e3_19, e7_19, e11_19, e12_19, e14_19, e15_19, e16_19] at e1_20 e3_20 e7_20 e11_20 e12_20 e14_20 e15_20 e16_20
                      clear e1_19 e3_19 e7_19 e11_19 e12_19 e14_19 e15_19 e16_19
                      refine Ends.mk ?_
                      refine thenK_normal ⟨by omega, ⟨by rw [e1_20, e1_14], by rw [e3_20, e3_14], by rw [e7_20, e7_14], by rw [e11_20, e11_14], by rw [e12_20, e12_14], by rw [e15_20, e15_14], trivial⟩, rfl, ?_⟩
                      obtain ⟨-, hx⟩ := hx'
                      refine ⟨false, e14_20, by rw [e16_20, IntWalk.i64_in _ (by omega)]; rfl, ⟨(fun e => by cases e), fun e => ?_⟩, (by repeat (first | assumption | exact Ext.refl _ | refine Ext.drew ?_ | refine Ext.alloc ?_ _ | refine Ext.trans ?_ (by assumption)))⟩
                      have := (e.2 j (by omega)).2
                      omega
                  · skip
                    refine Wp.skip ?_
                    refine thenK_normal ?_
                    refine Wp.seq ?_
                    refine Wp.block ?_
                    refine Wp.loneRegion (.inl rfl) (by kernel_rfl) fun K' gd hK hg => ?_
                    have g1 : gd 1 = some 106 := hg 1
                    have g11 : gd 11 = some 116 := hg 11
                    clear hg
                    go_simp
                    refine hK _ _ ?_
                    clear hK K' gd g1 g11
                    refine Ends.keep [1, 3, 7, 11, 12, 14, 15, 16] fun r21 hkeep => ?_
                    obtain ⟨e1_21, e3_21, e7_21, e11_21, e12_21, e14_21, e15_21, e16_21, -⟩ := hkeep
                    simp [go_sem, e1_16, e3_16, e7_16, e11_16, e12_16, e14_16, e15_16, e16_16, e102_16] at e1_21 e3_21 e7_21 e11_21 e12_21 e14_21 e15_21 e16_21
                    clear e1_16 e3_16 e7_16 e11_16 e12_16 e14_16 e15_16 e16_16 e102_16
                    refine Ends.mk ?_
                    refine blockK_normal ?_
                    refine thenK_normal ?_
                    refine Wp.loneRegion (.inl rfl) (by kernel_rfl) fun K' gd hK hg => ?_
                    clear hg
                    go_simp
                    refine hK _ _ ?_
                    clear hK K' gd
                    refine Ends.keep [1, 3, 7, 11, 12, 14, 15, 16] fun r22 hkeep => ?_
                    obtain ⟨e1_22, e3_22, e7_22, e11_22, e12_22, e14_22, e15_22, e16_22, -⟩ := hkeep
                    simp [go_sem, e1_21, e3_21, e7_21, e11_21, e12_21, e14_21, e15_21, e16_21] at e1_22 e3_22 e7_22 e11_22 e12_22 e14_22 e15_22 e16_22
                    clear e1_21 e3_21 e7_21 e11_21 e12_21 e14_21 e15_21 e16_21
                    refine Ends.mk ?_
                    refine thenK_normal ⟨by omega, ⟨by rw [e1_22, e1_14], by rw [e3_22, e3_14], by rw [e7_22, e7_14], by rw [e11_22, e11_14], by rw [e12_22, e12_14], by rw [e15_22, e15_14], trivial⟩, rfl, ?_⟩
                    obtain ⟨-, hx⟩ := hx'
                    refine ⟨false, e14_22, by rw [e16_22, IntWalk.i64_in _ (by omega)]; rfl, ⟨(fun e => by cases e), fun e => ?_⟩, (by repeat (first | assumption | exact Ext.refl _ | refine Ext.drew ?_ | refine Ext.alloc ?_ _ | refine Ext.trans ?_ (by assumption)))⟩
                    have := (e.2 j (by omega)).1
                    omega
                · skip
                  have he2 : ot2 = false := by cases ot2 <;> simp_all
                  subst he2
                  have hot3 := hot2.2
                  clear hot2 he
                  refine Wp.skip ?_
                  refine thenK_normal ?_
                  refine Wp.seq ?_
                  refine Wp.block ?_
                  refine Wp.loneRegion (.inl rfl) (by kernel_rfl) fun K' gd hK hg => ?_
                  have g1 : gd 1 = some 106 := hg 1
                  have g11 : gd 11 = some 116 := hg 11
                  clear hg
                  go_simp
                  refine hK _ _ ?_
                  clear hK K' gd g1 g11
                  refine Ends.keep [1, 3, 7, 11, 12, 14, 15, 16] fun r23 hkeep => ?_
                  obtain ⟨e1_23, e3_23, e7_23, e11_23, e12_23, e14_23, e15_23, e16_23, -⟩ := hkeep
                  simp [go_sem, e1_16, e3_16, e7_16, e11_16, e12_16, e14_16, e15_16, e16_16, e102_16] at e1_23 e3_23 e7_23 e11_23 e12_23 e14_23 e15_23 e16_23
                  clear e1_16 e3_16 e7_16 e11_16 e12_16 e14_16 e15_16 e16_16 e102_16
                  refine Ends.mk ?_
                  refine blockK_normal ?_
                  refine thenK_normal ?_
                  refine Wp.loneRegion (.inl rfl) (by kernel_rfl) fun K' gd hK hg => ?_
                  clear hg
                  go_simp
                  refine hK _ _ ?_
                  clear hK K' gd
                  refine Ends.keep [1, 3, 7, 11, 12, 14, 15, 16] fun r24 hkeep => ?_
                  obtain ⟨e1_24, e3_24, e7_24, e11_24, e12_24, e14_24, e15_24, e16_24, -⟩ := hkeep
                  simp [go_sem, e1_23, e3_23, e7_23, e11_23, e12_23, e14_23, e15_23, e16_23] at e1_24 e3_24 e7_24 e11_24 e12_24 e14_24 e15_24 e16_24
                  clear e1_23 e3_23 e7_23 e11_23 e12_23 e14_23 e15_23 e16_23
                  refine Ends.mk ?_
                  refine thenK_normal ⟨by omega, ⟨by rw [e1_24, e1_14], by rw [e3_24, e3_14], by rw [e7_24, e7_14], by rw [e11_24, e11_14], by rw [e12_24, e12_14], by rw [e15_24, e15_14], trivial⟩, rfl, ?_⟩
                  refine ⟨false, e14_24, by rw [e16_24, IntWalk.i64_in _ (by omega)]; rfl, ⟨(fun e => by cases e), fun e => ?_⟩, (by repeat (first | assumption | exact Ext.refl _ | refine Ext.drew ?_ | refine Ext.alloc ?_ _ | refine Ext.trans ?_ (by assumption)))⟩
                  exact hot3 ⟨e.1, fun j' hj' => e.2 j' (by omega)⟩
              · refine Wp.condF (by go_simp) ?_
                refine Wp.exit ?_
                refine thenK_exit ?_
                refine thenK_exit ?_
                refine blockK_here ?_
                refine blockK_normal ?_
                refine thenK_normal ?_
                refine Wp.loneRegion (.inl rfl) (by kernel_rfl) fun K' gd hK hg => ?_
                clear hg
                go_simp
                refine hK _ _ ?_
                clear hK K' gd
                refine Ends.keep [1, 3, 7, 11, 12, 14, 15] fun r25 hkeep => ?_
                obtain ⟨e1_25, e3_25, e7_25, e11_25, e12_25, e14_25, e15_25, -⟩ := hkeep
                simp [go_sem, e1_16, e3_16, e7_16, e11_16, e12_16, e14_16, e15_16, e16_16, e102_16] at e1_25 e3_25 e7_25 e11_25 e12_25 e14_25 e15_25
                clear e1_16 e3_16 e7_16 e11_16 e12_16 e14_16 e15_16 e16_16 e102_16
                refine Ends.mk ?_
                refine thenK_normal ⟨by omega, ⟨by rw [e1_25, e1_11], by rw [e3_25, e3_11], by rw [e7_25, e7_11], by rw [e11_25, e11_11], by rw [e12_25, e12_11], trivial⟩, rfl, ?_⟩
                refine ⟨ot2, e14_25, by rw [e15_25, IntWalk.i64_in _ (by omega)]; rfl, ⟨fun e i' j' h1 h2 => ?_, fun e => hot2.2 ⟨fun i' j' h1 h2 => e i' j' (by omega) h2, fun j' h1 => e i j' (by omega) (by omega)⟩⟩, hEj⟩
                by_cases e2 : i' = i
                · subst e2; exact (hot2.1 e).2 j' (by omega)
                · exact (hot2.1 e).1 i' j' (by omega) h2
          · refine Wp.condF (by go_simp) ?_
            obtain rfl : i = o.n := by omega
            have hTi := (TabH.of hTD hn.1 (by omega)).ext (hEw.trans hEi)
            have hV11 := hV10.ext hEi
            have x0 := hEi.cell x0
            have x1 := hEi.cell x1
            by_cases hoe : ot = true
            · skip
              subst hoe
              have hin := hot.1 rfl
              clear hot
              by_cases hk : KeepsP o D
              · skip
                refine Wp.exit ?_
                refine thenK_exit ?_
                refine thenK_exit ?_
                refine blockK_here ?_
                refine thenK_normal ?_
                refine Wp.seq ?_
                refine Wp.seqRegion (.inl rfl) (by kernel_rfl) fun K' gd hK hg => ?_
                have g2 : gd 2 = some 128 := hg 2
                clear hg
                go_simp
                refine Wcall (.inl rfl) (keeps_T hk _ hV11 hg hTi (fun i j hi hj => by have := hin i j hi hj; unfold inR at this; omega)) ?_
                rintro v w11 ⟨rfl, hE11⟩
                have x0 := hE11.cell x0
                have x1 := hE11.cell x1
                go_simp
                refine hK _ _ ?_
                clear hK K' gd g2
                refine Wp.keep [1, 3, 7, 11, 12, 133] fun r26 hkeep => ?_
                obtain ⟨e1_26, e3_26, e7_26, e11_26, e12_26, e133_26, -⟩ := hkeep
                simp [go_sem, e1_13, e3_13, e7_13, e11_13, e12_13, e14_13, e15_13, e93_13] at e1_26 e3_26 e7_26 e11_26 e12_26 e133_26
                clear e1_13 e3_13 e7_13 e11_13 e12_13 e14_13 e15_13 e93_13
                refine Wp.condF (by go_simp) ?_
                have hT1' := hT1.ext (show Ext w10 w11 from (by repeat (first | assumption | exact Ext.refl _ | refine Ext.drew ?_ | refine Ext.alloc ?_ _ | refine Ext.trans ?_ (by assumption))))
                have hT2' := hT2.ext (show Ext w10 w11 from (by repeat (first | assumption | exact Ext.refl _ | refine Ext.drew ?_ | refine Ext.alloc ?_ _ | refine Ext.trans ?_ (by assumption))))
                have hEw2 : Ext w w11 := (by repeat (first | assumption | exact Ext.refl _ | refine Ext.drew ?_ | refine Ext.alloc ?_ _ | refine Ext.trans ?_ (by assumption)))
                have hO11 := hO.ext hEw2
                have hG11 := hGD.ext hEw2
                clear hTi hV11 hV10 hV9 hE11 hEi hEw
                refine Wp.skip ?_
                refine thenK_normal ?_
                refine Wp.seqRegion (.inl rfl) (by kernel_rfl) fun K' gd hK hg => ?_
                clear hg
                go_simp
                refine hK _ _ ?_
                clear hK K' gd
                refine Wp.keep [1, 3, 7, 11, 12, 17] fun r27 hkeep => ?_
                obtain ⟨e1_27, e3_27, e7_27, e11_27, e12_27, e17_27, -⟩ := hkeep
                simp [go_sem, e1_26, e3_26, e7_26, e11_26, e12_26, e133_26] at e1_27 e3_27 e7_27 e11_27 e12_27 e17_27
                clear e1_26 e3_26 e7_26 e11_26 e12_26 e133_26
                refine Wp.seq ?_
                refine Wp.seqRegion (.inl rfl) (by kernel_rfl) fun K' gd hK hg => ?_
                clear hg
                go_simp
                refine hK _ _ ?_
                clear hK K' gd
                refine Wp.keep [1, 3, 7, 11, 12, 17, 18] fun r28 hkeep => ?_
                obtain ⟨e1_28, e3_28, e7_28, e11_28, e12_28, e17_28, e18_28, -⟩ := hkeep
                simp [go_sem, e1_27, e3_27, e7_27, e11_27, e12_27, e17_27] at e1_28 e3_28 e7_28 e11_28 e12_28 e17_28 e18_28
                clear e1_27 e3_27 e7_27 e11_27 e12_27 e17_27
                refine Wp.block ?_
                refine Wp.loop (fun i ρ ds wi => AllEq [1, 3, 7, 11, 12] ρ r28 ∧ ds = [] ∧ (∃ en, ρ 17 = .bool en ∧ ρ 18 = .int .i64 (i : Int) ∧ (en = true ↔ ∀ i' j, i' < i → j < o.m → D i' j + o.T i' j ≤ d) ∧ Ext w11 wi)) (o.n) ?_ ?_
                · refine ⟨AllEq.refl _ _, rfl, ?_⟩
                  exact ⟨true, e17_28, by rw [e18_28]; rfl, ⟨fun _ i' j h => absurd h (Nat.not_lt_zero _), fun _ => rfl⟩, (by repeat (first | assumption | exact Ext.refl _ | refine Ext.drew ?_ | refine Ext.alloc ?_ _ | refine Ext.trans ?_ (by assumption)))⟩
                · rintro i r29 _ wi hi ⟨hA, rfl, ⟨en, e17, e18, hen, hEi⟩⟩
                  obtain ⟨e1_29, e3_29, e7_29, e11_29, e12_29, -⟩ := hA
                  rw [e1_28] at e1_29
                  rw [e3_28] at e3_29
                  rw [e7_28] at e7_29
                  rw [e11_28] at e11_29
                  rw [e12_28] at e12_29
                  refine Wp.seq ?_
                  refine Wp.seqRegion (.inl rfl) (by kernel_rfl) fun K' gd hK hg => ?_
                  clear hg
                  go_simp
                  refine hK _ _ ?_
                  clear hK K' gd
                  refine Wp.keep [1, 3, 7, 11, 12, 17, 18, 138] fun r30 hkeep => ?_
                  obtain ⟨e1_30, e3_30, e7_30, e11_30, e12_30, e17_30, e18_30, e138_30, -⟩ := hkeep
                  simp [go_sem, e1_29, e3_29, e7_29, e11_29, e12_29, e17, e18] at e1_30 e3_30 e7_30 e11_30 e12_30 e17_30 e18_30 e138_30
                  clear e1_29 e3_29 e7_29 e11_29 e12_29 e17 e18
                  by_cases h : i < o.n
                  · refine Wp.condT (by go_simp) ?_
                    refine Wp.skip ?_
                    refine thenK_normal ?_
                    refine Wp.seq ?_
                    refine Wp.block ?_
                    refine Wp.seqRegion (.inl rfl) (by kernel_rfl) fun K' gd hK hg => ?_
                    clear hg
                    go_simp
                    refine hK _ _ ?_
                    clear hK K' gd
                    refine Wp.keep [1, 3, 7, 11, 12, 17, 18, 19] fun r31 hkeep => ?_
                    obtain ⟨e1_31, e3_31, e7_31, e11_31, e12_31, e17_31, e18_31, e19_31, -⟩ := hkeep
                    simp [go_sem, e1_30, e3_30, e7_30, e11_30, e12_30, e17_30, e18_30, e138_30] at e1_31 e3_31 e7_31 e11_31 e12_31 e17_31 e18_31 e19_31
                    clear e1_30 e3_30 e7_30 e11_30 e12_30 e17_30 e18_30 e138_30
                    refine Wp.block ?_
                    refine Wp.loop (fun j ρ ds wj => AllEq [1, 3, 7, 11, 12, 18] ρ r31 ∧ ds = [] ∧ (∃ en, ρ 17 = .bool en ∧ ρ 19 = .int .i64 (j : Int) ∧ (en = true ↔ (∀ i' j', i' < i → j' < o.m → D i' j' + o.T i' j' ≤ d) ∧ ∀ j', j' < j → D i j' + o.T i j' ≤ d) ∧ Ext w11 wj)) (o.m) ?_ ?_
                    · refine ⟨AllEq.refl _ _, rfl, ?_⟩
                      exact ⟨en, e17_31, by rw [e19_31]; rfl, ⟨fun e => ⟨hen.1 e, fun j' h => absurd h (Nat.not_lt_zero _)⟩, fun e => hen.2 e.1⟩, (by repeat (first | assumption | exact Ext.refl _ | refine Ext.drew ?_ | refine Ext.alloc ?_ _ | refine Ext.trans ?_ (by assumption)))⟩
                    · rintro j r32 _ wj hj ⟨hA, rfl, ⟨en2, e17, e19, hen2, hEj⟩⟩
                      obtain ⟨e1_32, e3_32, e7_32, e11_32, e12_32, e18_32, -⟩ := hA
                      rw [e1_31] at e1_32
                      rw [e3_31] at e3_32
                      rw [e7_31] at e7_32
                      rw [e11_31] at e11_32
                      rw [e12_31] at e12_32
                      rw [e18_31] at e18_32
                      have hTj := hG11.ext hEj
                      have f1 := hTj.row i h
                      have b3 : (i : Int) < (o.n : Int) := by omega
                      refine Wp.seq ?_
                      refine Wp.seqRegion (.inl rfl) (by kernel_rfl) fun K' gd hK hg => ?_
                      clear hg
                      go_simp
                      refine hK _ _ ?_
                      clear hK K' gd
                      refine Wp.keep [1, 3, 7, 11, 12, 17, 18, 19, 147] fun r33 hkeep => ?_
                      obtain ⟨e1_33, e3_33, e7_33, e11_33, e12_33, e17_33, e18_33, e19_33, e147_33, -⟩ := hkeep
                      simp [go_sem, e1_32, e3_32, e7_32, e11_32, e12_32, e17, e18_32, e19] at e1_33 e3_33 e7_33 e11_33 e12_33 e17_33 e18_33 e19_33 e147_33
                      clear e1_32 e3_32 e7_32 e11_32 e12_32 e17 e18_32 e19
                      by_cases h2 : j < o.m
                      · refine Wp.condT (by go_simp) ?_
                        have f2 := hTj.cell i j h h2
                        have hij := hin i j h h2
                        unfold inR at hij
                        have hTb := ho.vT i j h h2
                        obtain ⟨x, hx⟩ : ∃ x, D i j = x := ⟨_, rfl⟩
                        rw [hx] at f2 hij
                        have b4 : (j : Int) < (o.m : Int) := by omega
                        have hOj := hO11.ext hEj
                        have z1 := hEj.cell x1
                        have g1 := hOj.hT i h
                        have g2 := hOj.hTT i j h h2
                        obtain ⟨y, hy⟩ : ∃ y, o.T i j = y := ⟨_, rfl⟩
                        rw [hy] at g2 hTb
                        have hws : IntKind.i64.wrap (x + y) = x + y := IntWalk.i64_in _ (by omega)
                        have hs' : ∃ _u : Unit, D i j + o.T i j = x + y := ⟨(), by rw [hx, hy]⟩
                        clear hx hy
                        by_cases he : en2 = true
                        · skip
                          subst he
                          by_cases hx1 : x + y ≤ d
                          · skip
                            refine Wp.skip ?_
                            refine thenK_normal ?_
                            refine Wp.seq ?_
                            refine Wp.block ?_
                            refine Wp.loneDraw (.inl rfl) mixed [([0, 1], none), ([2, 3, 4, 5, 6], none), ([7, 8, 9, 10, 11], none), ([12, 13, 14, 15, 16], none), ([17, 18, 19, 20, 21], none), ([22], none)] (by kernel_rfl) fun K' gd hK hg => ?_
                            have g1 : gd 1 = some 151 := hg 1
                            clear hg
                            simp only [pick, nth, List.map_cons, List.map_nil, Option.map_none, Option.map_some]
                            apply Mops.none
                            · intro w' hE'
                              have hC' := hE'.cellsS
                              go_simp
                              with_reducible rfl
                            apply Mops.none
                            · intro w' hE'
                              have hC' := hE'.cellsS
                              go_simp
                              with_reducible rfl
                            apply Mops.none
                            · intro w' hE'
                              have hC' := hE'.cellsS
                              go_simp
                              with_reducible rfl
                            apply Mops.none
                            · intro w' hE'
                              have hC' := hE'.cellsS
                              go_simp
                              with_reducible rfl
                            apply Mops.none
                            · intro w' hE'
                              have hC' := hE'.cellsS
                              go_simp
                              with_reducible rfl
                            apply Mops.none
                            · intro w' hE'
                              have hC' := hE'.cellsS
                              go_simp
                              with_reducible rfl
                            refine Mops.done ?_
                            refine hK _ _ ?_
                            clear hK K' gd g1
                            refine Ends.keep [1, 3, 7, 11, 12, 17, 18, 19] fun r34 hkeep => ?_
                            obtain ⟨e1_34, e3_34, e7_34, e11_34, e12_34, e17_34, e18_34, e19_34, -⟩ := hkeep
                            simp [go_sem, e1_33, e3_33, e7_33, e11_33, e12_33, e17_33, e18_33, e19_33, e147_33] at e1_34 e3_34 e7_34 e11_34 e12_34 e17_34 e18_34 e19_34
                            clear e1_33 e3_33 e7_33 e11_33 e12_33 e17_33 e18_33 e19_33 e147_33
                            refine Ends.mk ?_
                            refine blockK_normal ?_
                            refine thenK_normal ?_
                            refine Wp.loneRegion (.inl rfl) (by kernel_rfl) fun K' gd hK hg => ?_
                            clear hg
                            go_simp
                            refine hK _ _ ?_
                            clear hK K' gd
                            refine Ends.keep [1, 3, 7, 11, 12, 17, 18, 19] fun r35 hkeep => ?_
                            obtain ⟨e1_35, e3_35, e7_35, e11_35, e12_35, e17_35, e18_35, e19_35, -⟩ := hkeep
                            simp [go_sem, e1_34, e3_34, e7_34, e11_34, e12_34, e17_34, e18_34, e19_34] at e1_35 e3_35 e7_35 e11_35 e12_35 e17_35 e18_35 e19_35
                            clear e1_34 e3_34 e7_34 e11_34 e12_34 e17_34 e18_34 e19_34
                            refine Ends.mk ?_
                            refine thenK_normal ⟨by omega, ⟨by rw [e1_35, e1_31], by rw [e3_35, e3_31], by rw [e7_35, e7_31], by rw [e11_35, e11_31], by rw [e12_35, e12_31], by rw [e18_35, e18_31], trivial⟩, rfl, ?_⟩
                            obtain ⟨-, hs2⟩ := hs'
                            refine ⟨true, e17_35, by rw [e19_35, IntWalk.i64_in _ (by omega)]; rfl, ⟨fun e => ⟨(hen2.1 rfl).1, fun j' hj' => ?_⟩, fun _ => rfl⟩, (by repeat (first | assumption | exact Ext.refl _ | refine Ext.drew ?_ | refine Ext.alloc ?_ _ | refine Ext.trans ?_ (by assumption)))⟩
                            by_cases e2 : j' = j
                            · subst e2; rw [hs2]; exact hx1
                            · exact (hen2.1 rfl).2 j' (by omega)
                          · skip
                            refine Wp.skip ?_
                            refine thenK_normal ?_
                            refine Wp.seq ?_
                            refine Wp.block ?_
                            refine Wp.loneDraw (.inl rfl) mixed [([0, 1], none), ([2, 3, 4, 5, 6], none), ([7, 8, 9, 10, 11], none), ([12, 13, 14, 15, 16], none), ([17, 18, 19, 20, 21], none), ([22], none)] (by kernel_rfl) fun K' gd hK hg => ?_
                            have g1 : gd 1 = some 151 := hg 1
                            clear hg
                            simp only [pick, nth, List.map_cons, List.map_nil, Option.map_none, Option.map_some]
                            apply Mops.none
                            · intro w' hE'
                              have hC' := hE'.cellsS
                              go_simp
                              with_reducible rfl
                            apply Mops.none
                            · intro w' hE'
                              have hC' := hE'.cellsS
                              go_simp
                              with_reducible rfl
                            apply Mops.none
                            · intro w' hE'
                              have hC' := hE'.cellsS
                              go_simp
                              with_reducible rfl
                            apply Mops.none
                            · intro w' hE'
                              have hC' := hE'.cellsS
                              go_simp
                              with_reducible rfl
                            apply Mops.none
                            · intro w' hE'
                              have hC' := hE'.cellsS
                              go_simp
                              with_reducible rfl
                            apply Mops.none
                            · intro w' hE'
                              have hC' := hE'.cellsS
                              go_simp
                              with_reducible rfl
                            refine Mops.done ?_
                            refine hK _ _ ?_
                            clear hK K' gd g1
                            refine Ends.keep [1, 3, 7, 11, 12, 17, 18, 19] fun r36 hkeep => ?_
                            obtain ⟨e1_36, e3_36, e7_36, e11_36, e12_36, e17_36, e18_36, e19_36, -⟩ := hkeep
                            simp [go_sem, e1_33, e3_33, e7_33, e11_33, e12_33, e17_33, e18_33, e19_33, e147_33] at e1_36 e3_36 e7_36 e11_36 e12_36 e17_36 e18_36 e19_36
                            clear e1_33 e3_33 e7_33 e11_33 e12_33 e17_33 e18_33 e19_33 e147_33
                            refine Ends.mk ?_
                            refine blockK_normal ?_
                            refine thenK_normal ?_
                            refine Wp.loneRegion (.inl rfl) (by kernel_rfl) fun K' gd hK hg => ?_
                            clear hg
                            go_simp
                            refine hK _ _ ?_
                            clear hK K' gd
                            refine Ends.keep [1, 3, 7, 11, 12, 17, 18, 19] fun r37 hkeep => ?_
                            obtain ⟨e1_37, e3_37, e7_37, e11_37, e12_37, e17_37, e18_37, e19_37, -⟩ := hkeep
                            simp [go_sem, e1_36, e3_36, e7_36, e11_36, e12_36, e17_36, e18_36, e19_36] at e1_37 e3_37 e7_37 e11_37 e12_37 e17_37 e18_37 e19_37
                            clear e1_36 e3_36 e7_36 e11_36 e12_36 e17_36 e18_36 e19_36
                            refine Ends.mk ?_
                            refine thenK_normal ⟨by omega, ⟨by rw [e1_37, e1_31], by rw [e3_37, e3_31], by rw [e7_37, e7_31], by rw [e11_37, e11_31], by rw [e12_37, e12_31], by rw [e18_37, e18_31], trivial⟩, rfl, ?_⟩
                            obtain ⟨-, hs2⟩ := hs'
                            refine ⟨false, e17_37, by rw [e19_37, IntWalk.i64_in _ (by omega)]; rfl, ⟨(fun e => by cases e), fun e => ?_⟩, (by repeat (first | assumption | exact Ext.refl _ | refine Ext.drew ?_ | refine Ext.alloc ?_ _ | refine Ext.trans ?_ (by assumption)))⟩
                            have := e.2 j (by omega)
                            omega
                        · skip
                          have he2 : en2 = false := by cases en2 <;> simp_all
                          subst he2
                          have hen3 := hen2.2
                          clear hen2 he
                          refine Wp.skip ?_
                          refine thenK_normal ?_
                          refine Wp.seq ?_
                          refine Wp.block ?_
                          refine Wp.loneDraw (.inl rfl) mixed [([0, 1], none), ([2, 3, 4, 5, 6], none), ([7, 8, 9, 10, 11], none), ([12, 13, 14, 15, 16], none), ([17, 18, 19, 20, 21], none), ([22], none)] (by kernel_rfl) fun K' gd hK hg => ?_
                          have g1 : gd 1 = some 151 := hg 1
                          clear hg
                          simp only [pick, nth, List.map_cons, List.map_nil, Option.map_none, Option.map_some]
                          apply Mops.none
                          · intro w' hE'
                            have hC' := hE'.cellsS
                            go_simp
                            with_reducible rfl
                          apply Mops.none
                          · intro w' hE'
                            have hC' := hE'.cellsS
                            go_simp
                            with_reducible rfl
                          apply Mops.none
                          · intro w' hE'
                            have hC' := hE'.cellsS
                            go_simp
                            with_reducible rfl
                          apply Mops.none
                          · intro w' hE'
                            have hC' := hE'.cellsS
                            go_simp
                            with_reducible rfl
                          apply Mops.none
                          · intro w' hE'
                            have hC' := hE'.cellsS
                            go_simp
                            with_reducible rfl
                          apply Mops.none
                          · intro w' hE'
                            have hC' := hE'.cellsS
                            go_simp
                            with_reducible rfl
                          refine Mops.done ?_
                          refine hK _ _ ?_
                          clear hK K' gd g1
                          refine Ends.keep [1, 3, 7, 11, 12, 17, 18, 19] fun r38 hkeep => ?_
                          obtain ⟨e1_38, e3_38, e7_38, e11_38, e12_38, e17_38, e18_38, e19_38, -⟩ := hkeep
                          simp [go_sem, e1_33, e3_33, e7_33, e11_33, e12_33, e17_33, e18_33, e19_33, e147_33] at e1_38 e3_38 e7_38 e11_38 e12_38 e17_38 e18_38 e19_38
                          clear e1_33 e3_33 e7_33 e11_33 e12_33 e17_33 e18_33 e19_33 e147_33
                          refine Ends.mk ?_
                          refine blockK_normal ?_
                          refine thenK_normal ?_
                          refine Wp.loneRegion (.inl rfl) (by kernel_rfl) fun K' gd hK hg => ?_
                          clear hg
                          go_simp
                          refine hK _ _ ?_
                          clear hK K' gd
                          refine Ends.keep [1, 3, 7, 11, 12, 17, 18, 19] fun r39 hkeep => ?_
                          obtain ⟨e1_39, e3_39, e7_39, e11_39, e12_39, e17_39, e18_39, e19_39, -⟩ := hkeep
                          simp [go_sem, e1_38, e3_38, e7_38, e11_38, e12_38, e17_38, e18_38, e19_38] at e1_39 e3_39 e7_39 e11_39 e12_39 e17_39 e18_39 e19_39
                          clear e1_38 e3_38 e7_38 e11_38 e12_38 e17_38 e18_38 e19_38
                          refine Ends.mk ?_
                          refine thenK_normal ⟨by omega, ⟨by rw [e1_39, e1_31], by rw [e3_39, e3_31], by rw [e7_39, e7_31], by rw [e11_39, e11_31], by rw [e12_39, e12_31], by rw [e18_39, e18_31], trivial⟩, rfl, ?_⟩
                          refine ⟨false, e17_39, by rw [e19_39, IntWalk.i64_in _ (by omega)]; rfl, ⟨(fun e => by cases e), fun e => ?_⟩, (by repeat (first | assumption | exact Ext.refl _ | refine Ext.drew ?_ | refine Ext.alloc ?_ _ | refine Ext.trans ?_ (by assumption)))⟩
                          exact hen3 ⟨e.1, fun j' hj' => e.2 j' (by omega)⟩
                      · refine Wp.condF (by go_simp) ?_
                        refine Wp.exit ?_
                        refine thenK_exit ?_
                        refine thenK_exit ?_
                        refine blockK_here ?_
                        refine blockK_normal ?_
                        refine thenK_normal ?_
                        refine Wp.loneRegion (.inl rfl) (by kernel_rfl) fun K' gd hK hg => ?_
                        clear hg
                        go_simp
                        refine hK _ _ ?_
                        clear hK K' gd
                        refine Ends.keep [1, 3, 7, 11, 12, 17, 18] fun r40 hkeep => ?_
                        obtain ⟨e1_40, e3_40, e7_40, e11_40, e12_40, e17_40, e18_40, -⟩ := hkeep
                        simp [go_sem, e1_33, e3_33, e7_33, e11_33, e12_33, e17_33, e18_33, e19_33, e147_33] at e1_40 e3_40 e7_40 e11_40 e12_40 e17_40 e18_40
                        clear e1_33 e3_33 e7_33 e11_33 e12_33 e17_33 e18_33 e19_33 e147_33
                        refine Ends.mk ?_
                        refine thenK_normal ⟨by omega, ⟨by rw [e1_40, e1_28], by rw [e3_40, e3_28], by rw [e7_40, e7_28], by rw [e11_40, e11_28], by rw [e12_40, e12_28], trivial⟩, rfl, ?_⟩
                        refine ⟨en2, e17_40, by rw [e18_40, IntWalk.i64_in _ (by omega)]; rfl, ⟨fun e i' j' h1 h2 => ?_, fun e => hen2.2 ⟨fun i' j' h1 h2 => e i' j' (by omega) h2, fun j' h1 => e i j' (by omega) (by omega)⟩⟩, hEj⟩
                        by_cases e2 : i' = i
                        · subst e2; exact (hen2.1 e).2 j' (by omega)
                        · exact (hen2.1 e).1 i' j' (by omega) h2
                  · refine Wp.condF (by go_simp) ?_
                    obtain rfl : i = o.n := by omega
                    have hlo : ∀ i j, i < o.n → j < o.m → begA o i j ≤ D i j := fun i j hi hj => beg_least ho hk (fun i j hi hj => (hin i j hi hj).1) _ i j rfl hi hj
                    have hhi : en = true → ∀ i j, i < o.n → j < o.m → D i j ≤ lstA o d i j := fun e i j hi hj => lst_most ho d hk.piece hk.copy (hen.1 e) _ i j rfl hi hj
                    obtain ⟨-, b1, ob1, c1', rb1, ro1, rc1, rfl, hG1⟩ := hT1'
                    obtain ⟨-, b2, ob2, c2', rb2, ro2, rc2, rfl, hG2⟩ := hT2'
                    clear hen
                    refine Wp.exit ?_
                    refine thenK_exit ?_
                    refine thenK_exit ?_
                    refine blockK_here ?_
                    refine thenK_normal ?_
                    refine Wp.seq ?_
                    refine Wp.seqRegion (.inl rfl) (by kernel_rfl) fun K' gd hK hg => ?_
                    clear hg
                    go_simp
                    refine hK _ _ ?_
                    clear hK K' gd
                    refine Wp.keep [1, 7, 12, 17, 20] fun r41 hkeep => ?_
                    obtain ⟨e1_41, e7_41, e12_41, e17_41, e20_41, -⟩ := hkeep
                    simp [go_sem, e1_30, e3_30, e7_30, e11_30, e12_30, e17_30, e18_30, e138_30] at e1_41 e7_41 e12_41 e17_41 e20_41
                    clear e1_30 e3_30 e7_30 e11_30 e12_30 e17_30 e18_30 e138_30
                    refine Wp.block ?_
                    refine Wp.loop (fun i ρ ds wi => AllEq [1, 7, 12, 17] ρ r41 ∧ ds = [] ∧ (ρ 20 = .int .i64 (i : Int) ∧ Ext w11 wi)) (o.n) ?_ ?_
                    · refine ⟨AllEq.refl _ _, rfl, ?_⟩
                      exact ⟨by rw [e20_41]; rfl, (by repeat (first | assumption | exact Ext.refl _ | refine Ext.drew ?_ | refine Ext.alloc ?_ _ | refine Ext.trans ?_ (by assumption)))⟩
                    · rintro i r42 _ wi hi ⟨hA, rfl, ⟨e20, hEi2⟩⟩
                      obtain ⟨e1_42, e7_42, e12_42, e17_42, -⟩ := hA
                      rw [e1_41] at e1_42
                      rw [e7_41] at e7_42
                      rw [e12_41] at e12_42
                      rw [e17_41] at e17_42
                      refine Wp.seq ?_
                      refine Wp.seqRegion (.inl rfl) (by kernel_rfl) fun K' gd hK hg => ?_
                      clear hg
                      go_simp
                      refine hK _ _ ?_
                      clear hK K' gd
                      refine Wp.keep [1, 7, 12, 17, 20, 175] fun r43 hkeep => ?_
                      obtain ⟨e1_43, e7_43, e12_43, e17_43, e20_43, e175_43, -⟩ := hkeep
                      simp [go_sem, e1_42, e7_42, e12_42, e17_42, e20] at e1_43 e7_43 e12_43 e17_43 e20_43 e175_43
                      clear e1_42 e7_42 e12_42 e17_42 e20
                      by_cases h : i < o.n
                      · refine Wp.condT (by go_simp) ?_
                        refine Wp.skip ?_
                        refine thenK_normal ?_
                        refine Wp.seq ?_
                        refine Wp.block ?_
                        refine Wp.seqRegion (.inl rfl) (by kernel_rfl) fun K' gd hK hg => ?_
                        clear hg
                        go_simp
                        refine hK _ _ ?_
                        clear hK K' gd
                        refine Wp.keep [1, 7, 12, 17, 20, 21] fun r44 hkeep => ?_
                        obtain ⟨e1_44, e7_44, e12_44, e17_44, e20_44, e21_44, -⟩ := hkeep
                        simp [go_sem, e1_43, e7_43, e12_43, e17_43, e20_43, e175_43] at e1_44 e7_44 e12_44 e17_44 e20_44 e21_44
                        clear e1_43 e7_43 e12_43 e17_43 e20_43 e175_43
                        refine Wp.block ?_
                        refine Wp.loop (fun j ρ ds wj => AllEq [1, 7, 12, 17, 20] ρ r44 ∧ ds = [] ∧ (ρ 21 = .int .i64 (j : Int) ∧ Ext w11 wj)) (o.m) ?_ ?_
                        · refine ⟨AllEq.refl _ _, rfl, ?_⟩
                          exact ⟨by rw [e21_44]; rfl, (by repeat (first | assumption | exact Ext.refl _ | refine Ext.drew ?_ | refine Ext.alloc ?_ _ | refine Ext.trans ?_ (by assumption)))⟩
                        · rintro j r45 _ wj hj ⟨hA, rfl, ⟨e21, hEj⟩⟩
                          obtain ⟨e1_45, e7_45, e12_45, e17_45, e20_45, -⟩ := hA
                          rw [e1_44] at e1_45
                          rw [e7_44] at e7_45
                          rw [e12_44] at e12_45
                          rw [e17_44] at e17_45
                          rw [e20_44] at e20_45
                          have hTj := hG11.ext hEj
                          have f1 := hTj.row i h
                          have b3 : (i : Int) < (o.n : Int) := by omega
                          refine Wp.seq ?_
                          refine Wp.seqRegion (.inl rfl) (by kernel_rfl) fun K' gd hK hg => ?_
                          clear hg
                          go_simp
                          refine hK _ _ ?_
                          clear hK K' gd
                          refine Wp.keep [1, 7, 12, 17, 20, 21, 184] fun r46 hkeep => ?_
                          obtain ⟨e1_46, e7_46, e12_46, e17_46, e20_46, e21_46, e184_46, -⟩ := hkeep
                          simp [go_sem, e1_45, e7_45, e12_45, e17_45, e20_45, e21] at e1_46 e7_46 e12_46 e17_46 e20_46 e21_46 e184_46
                          clear e1_45 e7_45 e12_45 e17_45 e20_45 e21
                          by_cases h2 : j < o.m
                          · refine Wp.condT (by go_simp) ?_
                            have f2 := hTj.cell i j h h2
                            have g1 := (hG1.ext hEj).row i h
                            have g2 := (hG1.ext hEj).cell i j h h2
                            have g3 := (hG2.ext hEj).row i h
                            have g4 := (hG2.ext hEj).cell i j h h2
                            have b4 : (j : Int) < (o.m : Int) := by omega
                            have k1 := hlo i j h h2
                            obtain ⟨x, hx⟩ : ∃ x, D i j = x := ⟨_, rfl⟩
                            obtain ⟨y, hy⟩ : ∃ y, begA o i j = y := ⟨_, rfl⟩
                            obtain ⟨z, hz⟩ : ∃ z, lstA o d i j = z := ⟨_, rfl⟩
                            rw [hx] at f2 k1
                            rw [hy] at g2 k1
                            rw [hz] at g4
                            have k2 : ¬ x < y := by omega
                            by_cases he : en = true
                            · skip
                              have k3 := hhi he i j h h2
                              rw [hx, hz] at k3
                              have k4 : ¬ z < x := by omega
                              clear hx hy hz hhi hlo
                              refine Wp.skip ?_
                              refine thenK_normal ?_
                              refine Wp.seq ?_
                              refine Wp.block ?_
                              refine Wp.seqDraw (.inl rfl) mixed [([0, 1, 2, 3, 4], none), ([5, 6, 7, 8, 9], none), ([10, 11, 12, 13, 14], none), ([15], none), ([16, 17], none), ([18, 19, 20, 21, 22], none), ([23, 24, 25, 26, 27], none), ([28, 29, 30, 31, 32], none), ([33, 34], none)] (by kernel_rfl) fun K' gd hK hg => ?_
                              have g15 : gd 15 = some 202 := hg 15
                              have g17 : gd 17 = some 204 := hg 17
                              clear hg
                              simp only [pick, nth, List.map_cons, List.map_nil, Option.map_none, Option.map_some]
                              apply Mops.none
                              · intro w' hE'
                                have hC' := hE'.cellsS
                                go_simp
                                with_reducible rfl
                              apply Mops.none
                              · intro w' hE'
                                have hC' := hE'.cellsS
                                go_simp
                                with_reducible rfl
                              apply Mops.none
                              · intro w' hE'
                                have hC' := hE'.cellsS
                                go_simp
                                with_reducible rfl
                              apply Mops.none
                              · intro w' hE'
                                have hC' := hE'.cellsS
                                go_simp
                                with_reducible rfl
                              apply Mops.none
                              · intro w' hE'
                                have hC' := hE'.cellsS
                                go_simp
                                with_reducible rfl
                              apply Mops.none
                              · intro w' hE'
                                have hC' := hE'.cellsS
                                go_simp
                                with_reducible rfl
                              apply Mops.none
                              · intro w' hE'
                                have hC' := hE'.cellsS
                                go_simp
                                with_reducible rfl
                              apply Mops.none
                              · intro w' hE'
                                have hC' := hE'.cellsS
                                go_simp
                                with_reducible rfl
                              apply Mops.none
                              · intro w' hE'
                                have hC' := hE'.cellsS
                                go_simp
                                with_reducible rfl
                              refine Mops.done ?_
                              refine hK _ _ ?_
                              clear hK K' gd g15 g17
                              refine Wp.keep [1, 7, 12, 17, 20, 21, 221] fun r47 hkeep => ?_
                              obtain ⟨e1_47, e7_47, e12_47, e17_47, e20_47, e21_47, e221_47, -⟩ := hkeep
                              simp [go_sem, e1_46, e7_46, e12_46, e17_46, e20_46, e21_46, e184_46] at e1_47 e7_47 e12_47 e17_47 e20_47 e21_47 e221_47
                              clear e1_46 e7_46 e12_46 e17_46 e20_46 e21_46 e184_46
                              refine Wp.condF (by go_simp) ?_
                              refine Wp.skip ?_
                              refine blockK_normal ?_
                              refine thenK_normal ?_
                              refine Wp.loneRegion (.inl rfl) (by kernel_rfl) fun K' gd hK hg => ?_
                              clear hg
                              go_simp
                              refine hK _ _ ?_
                              clear hK K' gd
                              refine Ends.keep [1, 7, 12, 17, 20, 21] fun r48 hkeep => ?_
                              obtain ⟨e1_48, e7_48, e12_48, e17_48, e20_48, e21_48, -⟩ := hkeep
                              simp [go_sem, e1_47, e7_47, e12_47, e17_47, e20_47, e21_47, e221_47] at e1_48 e7_48 e12_48 e17_48 e20_48 e21_48
                              clear e1_47 e7_47 e12_47 e17_47 e20_47 e21_47 e221_47
                              refine Ends.mk ?_
                              refine thenK_normal ⟨by omega, ⟨by rw [e1_48, e1_44], by rw [e7_48, e7_44], by rw [e12_48, e12_44], by rw [e17_48, e17_44], by rw [e20_48, e20_44], trivial⟩, rfl, ?_⟩
                              exact ⟨by rw [e21_48, IntWalk.i64_in _ (by omega)]; rfl, (by repeat (first | assumption | exact Ext.refl _ | refine Ext.drew ?_ | refine Ext.alloc ?_ _ | refine Ext.trans ?_ (by assumption)))⟩
                            · skip
                              have he2 : en = false := by cases en <;> simp_all
                              subst he2
                              clear hx hy hz hhi hlo he
                              refine Wp.skip ?_
                              refine thenK_normal ?_
                              refine Wp.seq ?_
                              refine Wp.block ?_
                              refine Wp.seqDraw (.inl rfl) mixed [([0, 1, 2, 3, 4], none), ([5, 6, 7, 8, 9], none), ([10, 11, 12, 13, 14], none), ([15], none), ([16, 17], none), ([18, 19, 20, 21, 22], none), ([23, 24, 25, 26, 27], none), ([28, 29, 30, 31, 32], none), ([33, 34], none)] (by kernel_rfl) fun K' gd hK hg => ?_
                              have g15 : gd 15 = some 202 := hg 15
                              have g17 : gd 17 = some 204 := hg 17
                              clear hg
                              simp only [pick, nth, List.map_cons, List.map_nil, Option.map_none, Option.map_some]
                              apply Mops.none
                              · intro w' hE'
                                have hC' := hE'.cellsS
                                go_simp
                                with_reducible rfl
                              apply Mops.none
                              · intro w' hE'
                                have hC' := hE'.cellsS
                                go_simp
                                with_reducible rfl
                              apply Mops.none
                              · intro w' hE'
                                have hC' := hE'.cellsS
                                go_simp
                                with_reducible rfl
                              apply Mops.none
                              · intro w' hE'
                                have hC' := hE'.cellsS
                                go_simp
                                with_reducible rfl
                              apply Mops.none
                              · intro w' hE'
                                have hC' := hE'.cellsS
                                go_simp
                                with_reducible rfl
                              apply Mops.none
                              · intro w' hE'
                                have hC' := hE'.cellsS
                                go_simp
                                with_reducible rfl
                              apply Mops.none
                              · intro w' hE'
                                have hC' := hE'.cellsS
                                go_simp
                                with_reducible rfl
                              apply Mops.none
                              · intro w' hE'
                                have hC' := hE'.cellsS
                                go_simp
                                with_reducible rfl
                              apply Mops.none
                              · intro w' hE'
                                have hC' := hE'.cellsS
                                go_simp
                                with_reducible rfl
                              refine Mops.done ?_
                              refine hK _ _ ?_
                              clear hK K' gd g15 g17
                              refine Wp.keep [1, 7, 12, 17, 20, 21, 221] fun r49 hkeep => ?_
                              obtain ⟨e1_49, e7_49, e12_49, e17_49, e20_49, e21_49, e221_49, -⟩ := hkeep
                              simp [go_sem, e1_46, e7_46, e12_46, e17_46, e20_46, e21_46, e184_46] at e1_49 e7_49 e12_49 e17_49 e20_49 e21_49 e221_49
                              clear e1_46 e7_46 e12_46 e17_46 e20_46 e21_46 e184_46
                              refine Wp.condF (by go_simp) ?_
                              refine Wp.skip ?_
                              refine blockK_normal ?_
                              refine thenK_normal ?_
                              refine Wp.loneRegion (.inl rfl) (by kernel_rfl) fun K' gd hK hg => ?_
                              clear hg
                              go_simp
                              refine hK _ _ ?_
                              clear hK K' gd
                              refine Ends.keep [1, 7, 12, 17, 20, 21] fun r50 hkeep => ?_
                              obtain ⟨e1_50, e7_50, e12_50, e17_50, e20_50, e21_50, -⟩ := hkeep
                              simp [go_sem, e1_49, e7_49, e12_49, e17_49, e20_49, e21_49, e221_49] at e1_50 e7_50 e12_50 e17_50 e20_50 e21_50
                              clear e1_49 e7_49 e12_49 e17_49 e20_49 e21_49 e221_49
                              refine Ends.mk ?_
                              refine thenK_normal ⟨by omega, ⟨by rw [e1_50, e1_44], by rw [e7_50, e7_44], by rw [e12_50, e12_44], by rw [e17_50, e17_44], by rw [e20_50, e20_44], trivial⟩, rfl, ?_⟩
                              exact ⟨by rw [e21_50, IntWalk.i64_in _ (by omega)]; rfl, (by repeat (first | assumption | exact Ext.refl _ | refine Ext.drew ?_ | refine Ext.alloc ?_ _ | refine Ext.trans ?_ (by assumption)))⟩
                          · refine Wp.condF (by go_simp) ?_
                            refine Wp.exit ?_
                            refine thenK_exit ?_
                            refine thenK_exit ?_
                            refine blockK_here ?_
                            refine blockK_normal ?_
                            refine thenK_normal ?_
                            refine Wp.loneRegion (.inl rfl) (by kernel_rfl) fun K' gd hK hg => ?_
                            clear hg
                            go_simp
                            refine hK _ _ ?_
                            clear hK K' gd
                            refine Ends.keep [1, 7, 12, 17, 20] fun r51 hkeep => ?_
                            obtain ⟨e1_51, e7_51, e12_51, e17_51, e20_51, -⟩ := hkeep
                            simp [go_sem, e1_46, e7_46, e12_46, e17_46, e20_46, e21_46, e184_46] at e1_51 e7_51 e12_51 e17_51 e20_51
                            clear e1_46 e7_46 e12_46 e17_46 e20_46 e21_46 e184_46
                            refine Ends.mk ?_
                            refine thenK_normal ⟨by omega, ⟨by rw [e1_51, e1_41], by rw [e7_51, e7_41], by rw [e12_51, e12_41], by rw [e17_51, e17_41], trivial⟩, rfl, ?_⟩
                            exact ⟨by rw [e20_51, IntWalk.i64_in _ (by omega)]; rfl, (by repeat (first | assumption | exact Ext.refl _ | refine Ext.drew ?_ | refine Ext.alloc ?_ _ | refine Ext.trans ?_ (by assumption)))⟩
                      · refine Wp.condF (by go_simp) ?_
                        refine Wp.exit ?_
                        refine thenK_exit ?_
                        refine thenK_exit ?_
                        refine blockK_here ?_
                        refine thenK_normal ?_
                        refine Wp.seqRegion (.inl rfl) (by kernel_rfl) fun K' gd hK hg => ?_
                        clear hg
                        go_simp
                        refine Wcall (.inl rfl) (sanity_c _) ?_
                        rintro v w12 ⟨rfl, hE12⟩
                        go_simp
                        refine hK _ _ ?_
                        clear hK K' gd
                        refine Wp.keep [6] fun r52 hkeep => ?_
                        obtain ⟨e6_52, -⟩ := hkeep
                        simp [go_sem, e1_43, e7_43, e12_43, e17_43, e20_43, e175_43] at e6_52
                        clear e1_43 e7_43 e12_43 e17_43 e20_43 e175_43
                        refine Wp.ret ?_
                        refine endK_tmp Try.results3 (by decide) ?_
                        rw [e6_52]
                        exact ⟨rfl, (by repeat (first | assumption | exact Ext.refl _ | refine Ext.drew ?_ | refine Ext.alloc ?_ _ | refine Ext.trans ?_ (by assumption)))⟩
              · skip
                refine Wp.exit ?_
                refine thenK_exit ?_
                refine thenK_exit ?_
                refine blockK_here ?_
                refine thenK_normal ?_
                refine Wp.seq ?_
                refine Wp.seqRegion (.inl rfl) (by kernel_rfl) fun K' gd hK hg => ?_
                have g2 : gd 2 = some 128 := hg 2
                clear hg
                go_simp
                refine Wcall (.inl rfl) (keeps_F hk _ hV11 hg hTi (fun i j hi hj => by have := hin i j hi hj; unfold inR at this; omega)) ?_
                rintro v w11 ⟨rfl, hE11⟩
                go_simp
                refine hK _ _ ?_
                clear hK K' gd g2
                refine Wp.keep [1, 3, 7, 11, 12, 133] fun r53 hkeep => ?_
                obtain ⟨e1_53, e3_53, e7_53, e11_53, e12_53, e133_53, -⟩ := hkeep
                simp [go_sem, e1_13, e3_13, e7_13, e11_13, e12_13, e14_13, e15_13, e93_13] at e1_53 e3_53 e7_53 e11_53 e12_53 e133_53
                clear e1_13 e3_13 e7_13 e11_13 e12_13 e14_13 e15_13 e93_13
                refine Wp.condT (by go_simp) ?_
                refine Wp.seqRegion (.inl rfl) (by kernel_rfl) fun K' gd hK hg => ?_
                clear hg
                go_simp
                refine Wcall (.inl rfl) (sanity_c _) ?_
                rintro v w12 ⟨rfl, hE12⟩
                go_simp
                refine hK _ _ ?_
                clear hK K' gd
                refine Wp.keep [6] fun r54 hkeep => ?_
                obtain ⟨e6_54, -⟩ := hkeep
                simp [go_sem, e1_53, e3_53, e7_53, e11_53, e12_53, e133_53] at e6_54
                clear e1_53 e3_53 e7_53 e11_53 e12_53 e133_53
                refine Wp.ret ?_
                refine thenK_ret ?_
                refine endK_tmp Try.results3 (by decide) ?_
                rw [e6_54]
                exact ⟨rfl, (by repeat (first | assumption | exact Ext.refl _ | refine Ext.drew ?_ | refine Ext.alloc ?_ _ | refine Ext.trans ?_ (by assumption)))⟩
            · skip
              have he2 : ot = false := by cases ot <;> simp_all
              subst he2
              clear hot hoe
              refine Wp.exit ?_
              refine thenK_exit ?_
              refine thenK_exit ?_
              refine blockK_here ?_
              refine thenK_normal ?_
              refine Wp.seq ?_
              refine Wp.seqRegion (.inl rfl) (by kernel_rfl) fun K' gd hK hg => ?_
              have g2 : gd 2 = some 128 := hg 2
              clear hg
              go_simp
              refine hK _ _ ?_
              clear hK K' gd g2
              refine Wp.keep [1, 3, 7, 11, 12, 133] fun r55 hkeep => ?_
              obtain ⟨e1_55, e3_55, e7_55, e11_55, e12_55, e133_55, -⟩ := hkeep
              simp [go_sem, e1_13, e3_13, e7_13, e11_13, e12_13, e14_13, e15_13, e93_13] at e1_55 e3_55 e7_55 e11_55 e12_55 e133_55
              clear e1_13 e3_13 e7_13 e11_13 e12_13 e14_13 e15_13 e93_13
              refine Wp.condT (by go_simp) ?_
              refine Wp.seqRegion (.inl rfl) (by kernel_rfl) fun K' gd hK hg => ?_
              clear hg
              go_simp
              refine Wcall (.inl rfl) (sanity_c _) ?_
              rintro v w12 ⟨rfl, hE12⟩
              go_simp
              refine hK _ _ ?_
              clear hK K' gd
              refine Wp.keep [6] fun r56 hkeep => ?_
              obtain ⟨e6_56, -⟩ := hkeep
              simp [go_sem, e1_55, e3_55, e7_55, e11_55, e12_55, e133_55] at e6_56
              clear e1_55 e3_55 e7_55 e11_55 e12_55 e133_55
              refine Wp.ret ?_
              refine thenK_ret ?_
              refine endK_tmp Try.results3 (by decide) ?_
              rw [e6_56]
              exact ⟨rfl, (by repeat (first | assumption | exact Ext.refl _ | refine Ext.drew ?_ | refine Ext.alloc ?_ _ | refine Ext.trans ?_ (by assumption)))⟩
      · skip
        refine Wp.skip ?_
        refine thenK_normal ?_
        refine Wp.seqRegion (.inl rfl) (by kernel_rfl) fun K' gd hK hg => ?_
        clear hg
        go_simp
        refine Wcall (.inl rfl) (wide_F hW _ hV9 (hD.ext (by repeat (first | assumption | exact Ext.refl _ | refine Ext.drew ?_ | refine Ext.alloc ?_ _ | refine Ext.trans ?_ (by assumption)))) (by omega)) ?_
        rintro v w10 ⟨rfl, hE10⟩
        go_simp
        refine hK _ _ ?_
        clear hK K' gd
        refine Wp.keep [1, 3, 7, 11, 12, 14] fun r57 hkeep => ?_
        obtain ⟨e1_57, e3_57, e7_57, e11_57, e12_57, e14_57, -⟩ := hkeep
        simp [go_sem, e1_8, e3_8, e7_8, e11_8, e12_8, e85_8] at e1_57 e3_57 e7_57 e11_57 e12_57 e14_57
        clear e1_8 e3_8 e7_8 e11_8 e12_8 e85_8
        refine Wp.seq ?_
        refine Wp.seqRegion (.inl rfl) (by kernel_rfl) fun K' gd hK hg => ?_
        clear hg
        go_simp
        refine hK _ _ ?_
        clear hK K' gd
        refine Wp.keep [1, 3, 7, 11, 12, 14, 89] fun r58 hkeep => ?_
        obtain ⟨e1_58, e3_58, e7_58, e11_58, e12_58, e14_58, e89_58, -⟩ := hkeep
        simp [go_sem, e1_57, e3_57, e7_57, e11_57, e12_57, e14_57] at e1_58 e3_58 e7_58 e11_58 e12_58 e14_58 e89_58
        clear e1_57 e3_57 e7_57 e11_57 e12_57 e14_57
        refine Wp.condF (by go_simp) ?_
        refine Wp.skip ?_
        refine thenK_normal ?_
        refine Wp.seq ?_
        refine Wp.seqRegion (.inl rfl) (by kernel_rfl) fun K' gd hK hg => ?_
        have g2 : gd 2 = some 128 := hg 2
        clear hg
        go_simp
        refine hK _ _ ?_
        clear hK K' gd g2
        refine Wp.keep [1, 3, 7, 11, 12, 133] fun r59 hkeep => ?_
        obtain ⟨e1_59, e3_59, e7_59, e11_59, e12_59, e133_59, -⟩ := hkeep
        simp [go_sem, e1_58, e3_58, e7_58, e11_58, e12_58, e14_58, e89_58] at e1_59 e3_59 e7_59 e11_59 e12_59 e133_59
        clear e1_58 e3_58 e7_58 e11_58 e12_58 e14_58 e89_58
        refine Wp.condT (by go_simp) ?_
        refine Wp.seqRegion (.inl rfl) (by kernel_rfl) fun K' gd hK hg => ?_
        clear hg
        go_simp
        refine Wcall (.inl rfl) (sanity_c _) ?_
        rintro v w11 ⟨rfl, hE11⟩
        go_simp
        refine hK _ _ ?_
        clear hK K' gd
        refine Wp.keep [6] fun r60 hkeep => ?_
        obtain ⟨e6_60, -⟩ := hkeep
        simp [go_sem, e1_59, e3_59, e7_59, e11_59, e12_59, e133_59] at e6_60
        clear e1_59 e3_59 e7_59 e11_59 e12_59 e133_59
        refine Wp.ret ?_
        refine thenK_ret ?_
        refine endK_tmp Try.results3 (by decide) ?_
        rw [e6_60]
        exact ⟨rfl, (by repeat (first | assumption | exact Ext.refl _ | refine Ext.drew ?_ | refine Ext.alloc ?_ _ | refine Ext.trans ?_ (by assumption)))⟩
    · skip
      have hl3 : (days.length : Int) > 20 := by omega
      refine Wp.seqRegion (.inl rfl) (by kernel_rfl) fun K' gd hK hg => ?_
      clear hg
      go_simp
      refine hK _ _ ?_
      clear hK K' gd
      refine Wp.keep [1, 2, 3] fun r61 hkeep => ?_
      obtain ⟨e1_61, e2_61, e3_61, -⟩ := hkeep
      simp [go_sem, e0_1, e1_1, e2_1] at e1_61 e2_61 e3_61
      clear e0_1 e1_1 e2_1
      refine Wp.seq ?_
      refine Wp.seqRegion (.inl rfl) (by kernel_rfl) fun K' gd hK hg => ?_
      have g3 : gd 3 = some 25 := hg 3
      clear hg
      go_simp
      refine Wcall (.inl rfl) (small_T hs _ (hV.ext (by repeat (first | assumption | exact Ext.refl _ | refine Ext.drew ?_ | refine Ext.alloc ?_ _ | refine Ext.trans ?_ (by assumption)))) hf) ?_
      rintro v w2 ⟨rfl, hE⟩
      go_simp
      refine hK _ _ ?_
      clear hK K' gd g3
      refine Wp.keep [1, 2, 3, 29] fun r62 hkeep => ?_
      obtain ⟨e1_62, e2_62, e3_62, e29_62, -⟩ := hkeep
      simp [go_sem, e1_61, e2_61, e3_61] at e1_62 e2_62 e3_62 e29_62
      clear e1_61 e2_61 e3_61
      refine Wp.condT (by go_simp) ?_
      refine Wp.seqRegion (.inl rfl) (by kernel_rfl) fun K' gd hK hg => ?_
      clear hg
      go_simp
      refine Wcall (.inl rfl) (sanity_c _) ?_
      rintro v w3 ⟨rfl, hE3⟩
      go_simp
      refine hK _ _ ?_
      clear hK K' gd
      refine Wp.keep [6] fun r63 hkeep => ?_
      obtain ⟨e6_63, -⟩ := hkeep
      simp [go_sem, e1_62, e2_62, e3_62, e29_62] at e6_63
      clear e1_62 e2_62 e3_62 e29_62
      refine Wp.ret ?_
      refine thenK_ret ?_
      refine endK_tmp Try.results3 (by decide) ?_
      rw [e6_63]
      exact ⟨rfl, (by repeat (first | assumption | exact Ext.refl _ | refine Ext.drew ?_ | refine Ext.alloc ?_ _ | refine Ext.trans ?_ (by assumption)))⟩
  · skip
    refine Wp.seqRegion (.inl rfl) (by kernel_rfl) fun K' gd hK hg => ?_
    clear hg
    go_simp
    refine hK _ _ ?_
    clear hK K' gd
    refine Wp.keep [1, 2, 3] fun r64 hkeep => ?_
    obtain ⟨e1_64, e2_64, e3_64, -⟩ := hkeep
    simp [go_sem, e0_1, e1_1, e2_1] at e1_64 e2_64 e3_64
    clear e0_1 e1_1 e2_1
    refine Wp.seq ?_
    refine Wp.seqRegion (.inl rfl) (by kernel_rfl) fun K' gd hK hg => ?_
    have g3 : gd 3 = some 25 := hg 3
    clear hg
    go_simp
    refine Wcall (.inl rfl) (small_F hs _ (hV.ext (by repeat (first | assumption | exact Ext.refl _ | refine Ext.drew ?_ | refine Ext.alloc ?_ _ | refine Ext.trans ?_ (by assumption)))) hf) ?_
    rintro v w2 ⟨rfl, hE⟩
    go_simp
    refine hK _ _ ?_
    clear hK K' gd g3
    refine Wp.keep [1, 2, 3, 29] fun r65 hkeep => ?_
    obtain ⟨e1_65, e2_65, e3_65, e29_65, -⟩ := hkeep
    simp [go_sem, e1_64, e2_64, e3_64] at e1_65 e2_65 e3_65 e29_65
    clear e1_64 e2_64 e3_64
    refine Wp.condT (by go_simp) ?_
    refine Wp.seqRegion (.inl rfl) (by kernel_rfl) fun K' gd hK hg => ?_
    clear hg
    go_simp
    refine Wcall (.inl rfl) (sanity_c _) ?_
    rintro v w3 ⟨rfl, hE3⟩
    go_simp
    refine hK _ _ ?_
    clear hK K' gd
    refine Wp.keep [6] fun r66 hkeep => ?_
    obtain ⟨e6_66, -⟩ := hkeep
    simp [go_sem, e1_65, e2_65, e3_65, e29_65] at e6_66
    clear e1_65 e2_65 e3_65 e29_65
    refine Wp.ret ?_
    refine thenK_ret ?_
    refine endK_tmp Try.results3 (by decide) ?_
    rw [e6_66]
    exact ⟨rfl, (by repeat (first | assumption | exact Ext.refl _ | refine Ext.drew ?_ | refine Ext.alloc ?_ _ | refine Ext.trans ?_ (by assumption)))⟩
end Go.Proofs.Ytnfagcccgmakdaa
namespace Go.Proofs.Ytnfagcccgmakdaa
open Go.ChangeShapes Go.WideShapes Go.RowKit Go.Wk Go.Proofs

theorem own : ownKnob Try.prog.godebug = none := by kernel_rfl
theorem laidOut : laidOutB Try.prog = true := by kernel_rfl
set_option maxRecDepth 100000 in
theorem noEarlier_lifted (os : Os) (started : os.Started) (H : Type) (enc : TypeId × Value → H) :
    ReturnsInHanded {} Try.checked os 3 .any (Rows.orderNoEarlierSpec.pre6 enc Try.prog Try.f3 Rows.orderNoEarlierRow.domain false) (Rows.orderNoEarlierSpec.post enc Try.prog Try.f3 false true false false) := by
  refine returnsInHanded_of_change_sized (C := Try.checked) own started (by kernel_rfl) Try.func3
    (ChangeSpec.witness6 (enc := enc) (C := Try.checked) false ⟨#[], #[.agg #[.slice none 0 0, .slice none 0 0], .slice none 0 0, .int .u8 0], []⟩ 8 (by kernel_rfl) (by kernel_rfl) (by kernel_rfl) (by kernel_rfl)) ?_
  intro W base args ds gs before hval0 hW0 _ hsz0 _
  have hval : ∀ (j : Nat) t v, Try.f3.params[j]? = some t → args[j]? = some v → Value.okWide Try.prog W .any base t v := hval0
  have hW : DataW.Whole enc Try.prog Try.f3.params.toList [] false W args.toList ds gs before := hW0
  have hsz : (DataW.weightsEach Try.prog (Try.f3.params.toList ++ []) (ds ++ gs)).all (· ≤ reachBytes) = true := hsz0
  clear hval0 hsz0
  obtain ⟨p, q, hA, hV, -, -, -⟩ := hW
  obtain ⟨rfl, -⟩ := trodVars_none hV
  rw [List.append_nil, List.append_nil] at hsz
  rw [Try.params3] at hA hsz hval
  obtain ⟨hlen, hR⟩ := Rd.of_args hA hsz
  obtain ⟨v0, v1, v2, d0, d1, d2, p0, p1, p2, rfl, rfl, -, -, -, -⟩ := trodAll_three hA
  have r0 := hR 0 _ v0 rfl rfl
  have r1 := hR 1 _ v1 rfl rfl
  have r2 := hR 2 _ v2 rfl rfl
  obtain ⟨cs, rfl, -⟩ := okWide_struct Try.underlying25 (hval 0 _ v0 rfl rfl)
  obtain ⟨A1, n1, c1, rfl⟩ := okWide_slice Try.underlying26 (hval 1 _ v1 rfl rfl)
  obtain ⟨m, rfl⟩ := okWide_int Try.underlying5 (hval 2 _ v2 rfl rfl)
  obtain ⟨o, hO, hf⟩ := openO ⟨cs, rfl⟩ r0
  obtain ⟨t, hT, ht, -⟩ := openT (v := .slice A1 n1 c1) r1
  obtain ⟨m', hm, hwf⟩ := r2.int Try.underlying5
  have hm2 : m' = m := by
    have e : [Value.int .u8 m] = [Value.int .u8 m'] := hm
    injection e with e _
    injection e with _ e
    exact e.symm
  subst hm2
  refine (noEarlier_c _ _ o t m' W hO hf hT ht (Go.bounds_u8 hwf)).calls.mono fun e W' ⟨v, he, hv, hE⟩ => ?_
  subst he; subst hv
  exact ⟨_, rfl, law_post hW0 laidOut rfl (by rw [Try.params3]; intro t ht; simp at ht; rcases ht with rfl | rfl | rfl <;> exact ⟨by kernel_rfl, of_decide_eq_true (by kernel_rfl)⟩) rfl Try.underlying4 rfl rfl rfl hE⟩
theorem orderNoEarlier_holds : Rows.OrderNoEarlierSaid :=
  OpenClaim.holds_of_wide 3 Try.f3 rfl rfl rfl rfl rfl rfl rfl ⟨rfl, rfl, rfl, rfl, rfl⟩ rfl rfl rfl rfl rfl (by kernel_rfl) Try.func3 (by kernel_rfl)
    (of_decide_eq_true (by kernel_rfl)) (by unfold Func.isWrapper; first | (rw [if_pos (by decide +kernel)]; kernel_rfl) | (rw [if_neg (by decide +kernel)]; exact ⟨rfl, rfl⟩))
    (fun os started H enc _ => noEarlier_lifted os started H enc)
#print axioms orderNoEarlier_holds
end Go.Proofs.Ytnfagcccgmakdaa
