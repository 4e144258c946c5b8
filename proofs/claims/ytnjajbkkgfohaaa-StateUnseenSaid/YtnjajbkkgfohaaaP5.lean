/- Possible. Long. Sorted lists of IDs. ids; Seen. -/
import Derived.Test.YtnjajbkkgfohaaaP4
import Derived.Lib.Tables
set_option linter.all false
namespace Go.Proofs.Ytnjajbkkgfohaaa
open Go.RowKit Go.Wk Go.Proofs
attribute [local irreducible] Go.Wk.Wops Go.Wk.Wp Go.Wk.Mtree Go.Wk.Mops
set_option maxHeartbeats 4000000
set_option maxRecDepth 20000

def possF (f l : Int) (T : List (Int × Int)) : List (Int × Int) := T.filterMap fun x => if max x.1 f ≤ min x.2 l then some (max x.1 f, min x.2 l) else none
def possE (s : Sh) (c : Cp) (i : Int) : Int := if copyS s c = 0 then (if 0 ≤ i ∧ i < (s.n : Int) then begE s c else 1) else copyS s c
def possL (s : Sh) (c : Cp) (i : Nat) : List (Int × Int) := possF (gI (s.md c).first i) (gI (s.md c).last i) ((s.md c).T i)
theorem possF_snoc (f l : Int) (T : List (Int × Int)) (x : Int × Int) : possF f l (T ++ [x]) = possF f l T ++ (if max x.1 f ≤ min x.2 l then [(max x.1 f, min x.2 l)] else []) := by
  unfold possF
  rw [List.filterMap_append]
  congr 1
  by_cases h : max x.1 f ≤ min x.2 l
  · simp [h]
  · rw [if_neg h]; simp; omega
theorem possF_len (f l : Int) (T : List (Int × Int)) : (possF f l T).length ≤ T.length := List.length_filterMap_le _ _
theorem MadeB.tabV {w : World} {base : Nat} {a x y z tv wv : Value} {m : Md} (h : MadeB w base (.agg #[a, x, y, z, tv]) m wv) : TabV w w.heap.size tv m.tab := by
  obtain ⟨tv', h1, h2⟩ := h
  injection h1 with h1
  simp at h1
  rw [h1.2.2.2.2]
  exact h2.tabV
theorem IntsB.get {w : World} {base : Nat} {v : Value} {l : List Int} (h : IntsB w base v l) {k : Nat} (hk : k < l.length) : ∃ b o c, v = .slice (some ⟨b, o, none⟩) l.length c ∧ base ≤ b ∧ b < w.heap.size ∧ ∀ k, k < l.length → w.cell? ⟨b, o + k, none⟩ = some (.int .i64 (gI l k)) := by
  obtain ⟨A, c, rfl, hx, -⟩ := h
  obtain ⟨b, o, rfl, hb, hb2, hc⟩ := hx (by rintro rfl; exact absurd hk (Nat.not_lt_zero _))
  exact ⟨b, o, c, rfl, hb, hb2, fun k hk => by rw [gI_lt hk]; exact hc k hk⟩
theorem Possible_c (v u : Value) (s : Sh) (c : Cp) (i : Int) (w : World) (hV : SheetV w w.heap.size v s) (hU : CopyV w w.heap.size u c) (hf : FitS s) (hg : FitC c) :
    CallsV Try.prog 43 #[v, u, .int .i64 i] w fun v w' => ∃ t, v = .tuple #[t, .int .i64 (possE s c i)] ∧ OwnZ w' w.heap.size t (if possE s c i = 0 then possL s c i.toNat else []) ∧ Ext w w' := by
  obtain ⟨wv, av, rfl, ⟨A, c1, rfl, -, -⟩, ⟨A3, c3, rfl, -, -⟩⟩ := id hV
  obtain ⟨wu, rfl, hW⟩ := id hU
  obtain ⟨A2, c2, rfl, -, -⟩ := id hW
  have hw1 : IntKind.i64.wrap ((s.words.length : Int) - 1) = (s.words.length : Int) - 1 := IntWalk.i64_in _ (by have := hf.1; omega)
  refine Wp.fn Try.func43 rfl Try.ntmps43 (by simp) ?_
  have xw := Ext.refl w
  refine Wp.keep [0, 1, 2] fun r1 hkeep => ?_
  obtain ⟨e0_1, e1_1, e2_1, -⟩ := hkeep
  simp [go_sem] at e0_1 e1_1 e2_1
  refine Wp.seqRegion (.inl rfl) (by kernel_rfl) fun K' gd hK hg => ?_
  clear hg
  refine Wops.cut 1 fun K1 hK1 => ?_
  simp only [List.take_succ_cons, List.take_zero]
  go_simp
  refine hK1 _ _ ?_
  clear hK1 K1
  simp only [List.drop_succ_cons, List.drop_zero]
  refine Wops.absA fun V3_1 n3 hV3_1 => ?_
  obtain ⟨q3, hV3_1, s3, kV3_1, f3, r3⟩ := hV3_1
  try simp only [q3] at kV3_1 f3 r3 ⊢
  replace xw := Ext.trans xw hV3_1
  have c3_0 := kV3_1 0 _ rfl
  have c3_1 := kV3_1 1 _ rfl
  clear kV3_1 hV3_1
  clear r3
  refine Wops.cut 1 fun K1 hK1 => ?_
  simp only [List.take_succ_cons, List.take_zero]
  go_simp
  refine hK1 _ _ ?_
  clear hK1 K1
  simp only [List.drop_succ_cons, List.drop_zero]
  refine Wops.absA fun V4_2 n4 hV4_2 => ?_
  obtain ⟨q4, hV4_2, s4, kV4_2, f4, r4⟩ := hV4_2
  try simp only [q4] at kV4_2 f4 r4 ⊢
  replace f3 := Ext.fz hV4_2 c3_0 f3
  replace xw := Ext.trans xw hV4_2
  replace c3_0 := Ext.cell hV4_2 c3_0
  replace c3_1 := Ext.cell hV4_2 c3_1
  have c4_0 := kV4_2 0 _ rfl
  have c4_1 := kV4_2 1 _ rfl
  have c4_2 := kV4_2 2 _ rfl
  have c4_3 := kV4_2 3 _ rfl
  clear kV4_2 hV4_2
  clear r4
  go_simp
  refine hK _ _ ?_
  clear hK K' gd
  refine Wp.keep [2, 3, 4] fun r2 hkeep => ?_
  obtain ⟨e2_2, e3_2, e4_2, -⟩ := hkeep
  simp [go_sem, e0_1, e1_1, e2_1] at e2_2 e3_2 e4_2
  clear e0_1 e1_1 e2_1
  refine Wp.seq ?_
  refine Wp.seqRegion (.inl rfl) (by kernel_rfl) fun K' gd hK hg => ?_
  clear hg
  refine Wops.cut 3 fun K1 hK1 => ?_
  simp only [List.take_succ_cons, List.take_zero]
  go_simp
  refine Wcall (.inl rfl) (copy_c _ _ s c _ (hV.ext xw) (hU.ext xw) hf hg) ?_
  rintro v w2 ⟨rfl, hE⟩
  go_simp
  refine hK1 _ _ ?_
  clear hK1 K1
  simp only [List.drop_succ_cons, List.drop_zero]
  have z3 := Below.size hE
  replace f3 := Ext.fz hE c3_0 f3
  replace f4 := Ext.fz hE c4_0 f4
  replace xw := Ext.trans xw hE
  replace c3_0 := Ext.cell hE c3_0
  replace c3_1 := Ext.cell hE c3_1
  replace c4_0 := Ext.cell hE c4_0
  replace c4_1 := Ext.cell hE c4_1
  replace c4_2 := Ext.cell hE c4_2
  replace c4_3 := Ext.cell hE c4_3
  clear hE
  go_simp
  refine hK _ _ ?_
  clear hK K' gd
  refine Wp.keep [2, 3, 4, 8] fun r4 hkeep => ?_
  obtain ⟨e2_4, e3_4, e4_4, e8_4, -⟩ := hkeep
  simp [go_sem, e2_2, e3_2, e4_2] at e2_4 e3_4 e4_4 e8_4
  clear e2_2 e3_2 e4_2
  by_cases h0 : copyS s c = 0
  · skip
    refine Wp.seqRegion (.inl rfl) (by kernel_rfl) fun K' gd hK hg => ?_
    clear hg
    go_simp
    refine hK _ _ ?_
    clear hK K' gd
    refine Wp.keep [2, 3, 4, 8, 22] fun r5 hkeep => ?_
    obtain ⟨e2_5, e3_5, e4_5, e8_5, e22_5, -⟩ := hkeep
    simp [go_sem, e2_4, e3_4, e4_4, e8_4] at e2_5 e3_5 e4_5 e8_5 e22_5
    clear e2_4 e3_4 e4_4 e8_4
    refine Wp.condF (by go_simp) ?_
    obtain ⟨hg0, hv0⟩ := copyS_zero.1 h0
    have hgd := checkS_zero.1 hg0
    have hmk := hgd.mdOk hv0
    by_cases h1 : 0 ≤ i ∧ i ≤ (s.words.length : Int) - 1
    · skip
      refine Wp.skip ?_
      refine thenK_normal ?_
      refine Wp.seq ?_
      refine Wp.seqRegion (.inl rfl) (by kernel_rfl) fun K' gd hK hg => ?_
      clear hg
      refine Wops.cut 6 fun K1 hK1 => ?_
      simp only [List.take_succ_cons, List.take_zero]
      go_simp
      refine Wcall (.inl rfl) (within_T h1 _) ?_
      rintro v w3 ⟨rfl, hE⟩
      go_simp
      refine hK1 _ _ ?_
      clear hK1 K1
      simp only [List.drop_succ_cons, List.drop_zero]
      have z6 := Below.size hE
      replace f3 := Ext.fz hE c3_0 f3
      replace f4 := Ext.fz hE c4_0 f4
      replace xw := Ext.trans xw hE
      replace c3_0 := Ext.cell hE c3_0
      replace c3_1 := Ext.cell hE c3_1
      replace c4_0 := Ext.cell hE c4_0
      replace c4_1 := Ext.cell hE c4_1
      replace c4_2 := Ext.cell hE c4_2
      replace c4_3 := Ext.cell hE c4_3
      clear hE
      go_simp
      refine hK _ _ ?_
      clear hK K' gd
      refine Wp.keep [2, 3, 4, 30] fun r7 hkeep => ?_
      obtain ⟨e2_7, e3_7, e4_7, e30_7, -⟩ := hkeep
      simp [go_sem, e2_5, e3_5, e4_5, e8_5, e22_5] at e2_7 e3_7 e4_7 e30_7
      clear e2_5 e3_5 e4_5 e8_5 e22_5
      refine Wp.condF (by go_simp) ?_
      refine Wp.skip ?_
      refine thenK_normal ?_
      refine Wp.seqRegion (.inl rfl) (by kernel_rfl) fun K' gd hK hg => ?_
      clear hg
      refine Wops.cut 3 fun K1 hK1 => ?_
      simp only [List.take_succ_cons, List.take_zero]
      go_simp
      refine Wcall (.inl rfl) (begun_c _ _ s c _ (hV.ext xw) (hU.ext xw) hf hg) ?_
      rintro v w4 ⟨B1, b2, b3, b4, b5, b6, B2, b7, b8, dv, rfl, hM, hI, hE⟩
      have xc := Ext.refl w4
      go_simp
      refine hK1 _ _ ?_
      clear hK1 K1
      simp only [List.drop_succ_cons, List.drop_zero]
      have z8 := Below.size hE
      replace f3 := Ext.fz hE c3_0 f3
      replace f4 := Ext.fz hE c4_0 f4
      replace xw := Ext.trans xw hE
      replace c3_0 := Ext.cell hE c3_0
      replace c3_1 := Ext.cell hE c3_1
      replace c4_0 := Ext.cell hE c4_0
      replace c4_1 := Ext.cell hE c4_1
      replace c4_2 := Ext.cell hE c4_2
      replace c4_3 := Ext.cell hE c4_3
      clear hE
      refine Wops.cut 6 fun K1 hK1 => ?_
      simp only [List.take_succ_cons, List.take_zero]
      go_simp
      refine hK1 _ _ ?_
      clear hK1 K1
      simp only [List.drop_succ_cons, List.drop_zero]
      refine Wops.absA fun V9_4 n9 hV9_4 => ?_
      obtain ⟨q9, hV9_4, s9, kV9_4, f9, r9⟩ := hV9_4
      try simp only [q9] at kV9_4 f9 r9 ⊢
      replace f3 := Ext.fz hV9_4 c3_0 f3
      replace f4 := Ext.fz hV9_4 c4_0 f4
      replace hI := hI.ext hV9_4
      replace xw := Ext.trans xw hV9_4
      replace xc := Ext.trans xc hV9_4
      replace c3_0 := Ext.cell hV9_4 c3_0
      replace c3_1 := Ext.cell hV9_4 c3_1
      replace c4_0 := Ext.cell hV9_4 c4_0
      replace c4_1 := Ext.cell hV9_4 c4_1
      replace c4_2 := Ext.cell hV9_4 c4_2
      replace c4_3 := Ext.cell hV9_4 c4_3
      have c9_0 := kV9_4 0 _ rfl
      have c9_1 := kV9_4 1 _ rfl
      have c9_2 := kV9_4 2 _ rfl
      have c9_3 := kV9_4 3 _ rfl
      have c9_4 := kV9_4 4 _ rfl
      clear kV9_4 hV9_4
      clear r9
      go_simp
      refine hK _ _ ?_
      clear hK K' gd
      refine Wp.keep [2, 9, 10, 11] fun r9 hkeep => ?_
      obtain ⟨e2_9, e9_9, e10_9, e11_9, -⟩ := hkeep
      simp [go_sem, e2_7, e3_7, e4_7, e30_7] at e2_9 e9_9 e10_9 e11_9
      clear e2_7 e3_7 e4_7 e30_7
      by_cases h2 : begE s c = 0
      · skip
        obtain ⟨wu, hwu, hM⟩ := hM h2
        injection hwu with hwu
        simp at hwu
        subst hwu
        rw [if_pos h2] at hI
        have hok := (begE_zero.1 h2).2
        refine Wp.seq ?_
        refine Wp.seqRegion (.inl rfl) (by kernel_rfl) fun K' gd hK hg => ?_
        clear hg
        go_simp
        refine hK _ _ ?_
        clear hK K' gd
        refine Wp.keep [2, 9, 10, 11, 39] fun r10 hkeep => ?_
        obtain ⟨e2_10, e9_10, e10_10, e11_10, e39_10, -⟩ := hkeep
        simp [go_sem, e2_9, e9_9, e10_9, e11_9] at e2_10 e9_10 e10_10 e11_10 e39_10
        clear e2_9 e9_9 e10_9 e11_9
        refine Wp.condF (by go_simp) ?_
        refine Wp.skip ?_
        refine thenK_normal ?_
        refine Wp.seqRegion (.inl rfl) (by kernel_rfl) fun K' gd hK hg => ?_
        clear hg
        refine Wops.cut 2 fun K1 hK1 => ?_
        simp only [List.take_succ_cons, List.take_zero]
        go_simp
        refine Wcall (.inl rfl) (last_c _ (s.md c) _ ((hM.ext xc).made (hW.ext xw)) hmk) ?_
        rintro v w5 ⟨hJ, hE⟩
        go_simp
        refine hK1 _ _ ?_
        clear hK1 K1
        simp only [List.drop_succ_cons, List.drop_zero]
        have z11 := Below.size hE
        replace f3 := Ext.fz hE c3_0 f3
        replace f4 := Ext.fz hE c4_0 f4
        replace f9 := Ext.fz hE c9_0 f9
        replace hI := hI.ext hE
        replace xw := Ext.trans xw hE
        replace xc := Ext.trans xc hE
        replace c3_0 := Ext.cell hE c3_0
        replace c3_1 := Ext.cell hE c3_1
        replace c4_0 := Ext.cell hE c4_0
        replace c4_1 := Ext.cell hE c4_1
        replace c4_2 := Ext.cell hE c4_2
        replace c4_3 := Ext.cell hE c4_3
        replace c9_0 := Ext.cell hE c9_0
        replace c9_1 := Ext.cell hE c9_1
        replace c9_2 := Ext.cell hE c9_2
        replace c9_3 := Ext.cell hE c9_3
        replace c9_4 := Ext.cell hE c9_4
        clear hE
        go_simp
        refine hK _ _ ?_
        clear hK K' gd
        refine Wp.keep [2, 9, 10, 12] fun r12 hkeep => ?_
        obtain ⟨e2_12, e9_12, e10_12, e12_12, -⟩ := hkeep
        simp [go_sem, e2_10, e9_10, e10_10, e11_10, e39_10] at e2_12 e9_12 e10_12 e12_12
        clear e2_10 e9_10 e10_10 e11_10 e39_10
        obtain ⟨n, rfl⟩ : ∃ n : Nat, i = (n : Int) := ⟨i.toNat, by omega⟩
        have hcn : (s.md c).n = c.words.length := rfl
        have hcl : c.words.length = s.words.length := hv0.1
        have hfl : (s.md c).first.length = (s.md c).n := (hmk.of_ok hok).1
        have hll : (s.md c).last.length = (s.md c).n := (hmk.last_fit hok).1
        obtain ⟨bf, kf, cf, rfl, -, -, hcf⟩ := hI.get (k := n) (by omega)
        obtain ⟨bl, kl, cl, rfl, -, -, hcl2⟩ := hJ.get (k := n) (by omega)
        have df := hcf n (by omega)
        have dl := hcl2 n (by omega)
        clear hcf hcl2
        have hif : (n : Int) < ((s.md c).first.length : Int) := by omega
        have hil : (n : Int) < ((s.md c).last.length : Int) := by omega
        have htl : n < (s.md c).tab.length := by rw [hmk.len]; omega
        obtain ⟨b5, o5, u5, e5, hb5, hn5, y5, hS5⟩ := (hM.ext xc).tabV.row htl
        subst e5
        subst hn5
        have hit : (n : Int) < ((s.md c).tab.length : Int) := by omega
        rw [Md.T_get htl] at hS5
        have hmn := hmk.many n
        have hpl : ∃ _u : Unit, possL s c n = possF (gI (s.md c).first n) (gI (s.md c).last n) ((s.md c).T n) := ⟨(), rfl⟩
        obtain ⟨T, hT⟩ : ∃ T, ∃ _u : Unit, (s.md c).T n = T := ⟨_, (), rfl⟩
        obtain ⟨f, hf9⟩ : ∃ f, ∃ _u : Unit, gI (s.md c).first n = f := ⟨_, (), rfl⟩
        obtain ⟨l, hl9⟩ : ∃ l, ∃ _u : Unit, gI (s.md c).last n = l := ⟨_, (), rfl⟩
        rw [hT.choose_spec] at hS5 hmn hpl
        rw [hf9.choose_spec] at df hpl
        rw [hl9.choose_spec] at dl hpl
        obtain ⟨A7, c7, rfl, -, -⟩ := id hS5
        clear htl hcn hcl hfl hll
        refine Wp.seqRegion (.inl rfl) (by kernel_rfl) fun K' gd hK hg => ?_
        clear hg
        go_simp
        refine hK _ _ ?_
        clear hK K' gd
        refine Wp.keep [2, 9, 10, 12, 13] fun r13 hkeep => ?_
        obtain ⟨e2_13, e9_13, e10_13, e12_13, e13_13, -⟩ := hkeep
        simp [go_sem, e2_12, e9_12, e10_12, e12_12] at e2_13 e9_13 e10_13 e12_13 e13_13
        clear e2_12 e9_12 e10_12 e12_12
        refine Wp.seq ?_
        have f3_xa := f3
        have f4_xa := f4
        have f9_xa := f9
        have xw_xa := xw
        have xc_xa := xc
        have c3_0_xa := c3_0
        have c3_1_xa := c3_1
        have c4_0_xa := c4_0
        have c4_1_xa := c4_1
        have c4_2_xa := c4_2
        have c4_3_xa := c4_3
        have c9_0_xa := c9_0
        have c9_1_xa := c9_1
        have c9_2_xa := c9_2
        have c9_3_xa := c9_3
        have c9_4_xa := c9_4
        have df_xa := df
        have dl_xa := dl
        have y5_xa := y5
        have xa := Ext.refl w5
        obtain ⟨B0, hB0⟩ : ∃ B0 : Nat, B0 = w5.heap.size := ⟨_, rfl⟩
        refine Wp.seqRegion (.inl rfl) (by kernel_rfl) fun K' gd hK hg => ?_
        clear hg
        go_simp
        refine hK _ _ ?_
        clear hK K' gd
        refine Wp.keep [2, 10, 12, 13, 47, 48, 49] fun r14 hkeep => ?_
        obtain ⟨e2_14, e10_14, e12_14, e13_14, e47_14, e48_14, e49_14, -⟩ := hkeep
        simp [go_sem, e2_13, e9_13, e10_13, e12_13, e13_13] at e2_14 e10_14 e12_14 e13_14 e47_14 e48_14 e49_14
        clear e2_13 e9_13 e10_13 e12_13 e13_13
        refine Wp.block ?_
        refine Wp.loop (fun k ρ ds wk => AllEq [2, 10, 12, 47, 48] ρ r14 ∧ ds = [] ∧ (Ext w5 wk) ∧ (∃ v, ρ 49 = .int .i64 (k : Int) ∧ ρ 13 = v ∧ OwnZ wk B0 v (possF f l (T.take k)))) (T.length) ?_ ?_
        · refine ⟨AllEq.refl _ _, rfl, xa, ?_⟩
          exact ⟨_, by rw [e49_14]; rfl, e13_14, OwnZ.nil _ _⟩
        · rintro k r15 _ wk hk ⟨hA, rfl, xo, ⟨v13, e49, e13, hO⟩⟩
          obtain ⟨e2_15, e10_15, e12_15, e47_15, e48_15, -⟩ := hA
          rw [e2_14] at e2_15
          rw [e10_14] at e10_15
          rw [e12_14] at e12_15
          rw [e47_14] at e47_15
          rw [e48_14] at e48_15
          have zxo := Below.size xo
          have f3 := f3_xa
          have f4 := f4_xa
          have f9 := f9_xa
          have xw := xw_xa
          have xc := xc_xa
          have c3_0 := c3_0_xa
          have c3_1 := c3_1_xa
          have c4_0 := c4_0_xa
          have c4_1 := c4_1_xa
          have c4_2 := c4_2_xa
          have c4_3 := c4_3_xa
          have c9_0 := c9_0_xa
          have c9_1 := c9_1_xa
          have c9_2 := c9_2_xa
          have c9_3 := c9_3_xa
          have c9_4 := c9_4_xa
          have df := df_xa
          have dl := dl_xa
          have y5 := y5_xa
          replace f3 := Ext.fz xo c3_0 f3
          replace f4 := Ext.fz xo c4_0 f4
          replace f9 := Ext.fz xo c9_0 f9
          replace xw := Ext.trans xw xo
          replace xc := Ext.trans xc xo
          replace c3_0 := Ext.cell xo c3_0
          replace c3_1 := Ext.cell xo c3_1
          replace c4_0 := Ext.cell xo c4_0
          replace c4_1 := Ext.cell xo c4_1
          replace c4_2 := Ext.cell xo c4_2
          replace c4_3 := Ext.cell xo c4_3
          replace c9_0 := Ext.cell xo c9_0
          replace c9_1 := Ext.cell xo c9_1
          replace c9_2 := Ext.cell xo c9_2
          replace c9_3 := Ext.cell xo c9_3
          replace c9_4 := Ext.cell xo c9_4
          replace df := Ext.cell xo df
          replace dl := Ext.cell xo dl
          replace y5 := Ext.cell xo y5
          obtain ⟨A9, n9', c9, rfl⟩ := ownsZ_slice hO
          have hpk := possF_len f l (T.take k)
          rw [List.length_take] at hpk
          refine Wp.seqRegion (.inl rfl) (by kernel_rfl) fun K' gd hK hg => ?_
          clear hg
          go_simp
          refine hK _ _ ?_
          clear hK K' gd
          refine Wp.keep [2, 10, 12, 13, 47, 48, 49, 50] fun r16 hkeep => ?_
          obtain ⟨e2_16, e10_16, e12_16, e13_16, e47_16, e48_16, e49_16, e50_16, -⟩ := hkeep
          simp [go_sem, e2_15, e10_15, e12_15, e13, e47_15, e48_15, e49] at e2_16 e10_16 e12_16 e13_16 e47_16 e48_16 e49_16 e50_16
          clear e2_15 e10_15 e12_15 e13 e47_15 e48_15 e49
          refine Wp.seq ?_
          by_cases h : k < T.length
          · refine Wp.condT (by go_simp) ?_
            obtain ⟨b, o, rfl, hb, z0, z1⟩ := SpansV.two (hS5.ext xo) h
            have hst := possF_snoc f l (T.take k) T[k]
            rw [← take_snoc h] at hst
            obtain ⟨lo, hlo, hlo2⟩ : ∃ lo, (if T[k].1 < f then f else T[k].1) = lo ∧ max T[k].1 f = lo := ⟨_, rfl, by rw [Int.max_def]; split <;> split <;> omega⟩
            obtain ⟨hi, hhi, hhi2⟩ : ∃ hi, (if l < T[k].2 then l else T[k].2) = hi ∧ min T[k].2 l = hi := ⟨_, rfl, by rw [Int.min_def]; split <;> split <;> omega⟩
            rw [hlo2, hhi2] at hst
            refine Wp.skip ?_
            refine thenK_normal ?_
            refine Wp.seq ?_
            refine Wp.block ?_
            refine Wp.seqRegion (.inl rfl) (by kernel_rfl) fun K' gd hK hg => ?_
            clear hg
            refine Wops.cut 4 fun K1 hK1 => ?_
            simp only [List.take_succ_cons, List.take_zero]
            go_simp
            refine hK1 _ _ ?_
            clear hK1 K1
            simp only [List.drop_succ_cons, List.drop_zero]
            refine Wops.absA fun V15_7 n15 hV15_7 => ?_
            obtain ⟨q15, hV15_7, s15, kV15_7, f15, r15⟩ := hV15_7
            try simp only [q15] at kV15_7 f15 r15 ⊢
            replace f3 := Ext.fz hV15_7 c3_0 f3
            replace f4 := Ext.fz hV15_7 c4_0 f4
            replace f9 := Ext.fz hV15_7 c9_0 f9
            replace hO := hO.ext hV15_7
            replace xw := Ext.trans xw hV15_7
            replace xc := Ext.trans xc hV15_7
            replace xo := Ext.trans xo hV15_7
            replace c3_0 := Ext.cell hV15_7 c3_0
            replace c3_1 := Ext.cell hV15_7 c3_1
            replace c4_0 := Ext.cell hV15_7 c4_0
            replace c4_1 := Ext.cell hV15_7 c4_1
            replace c4_2 := Ext.cell hV15_7 c4_2
            replace c4_3 := Ext.cell hV15_7 c4_3
            replace c9_0 := Ext.cell hV15_7 c9_0
            replace c9_1 := Ext.cell hV15_7 c9_1
            replace c9_2 := Ext.cell hV15_7 c9_2
            replace c9_3 := Ext.cell hV15_7 c9_3
            replace c9_4 := Ext.cell hV15_7 c9_4
            replace df := Ext.cell hV15_7 df
            replace dl := Ext.cell hV15_7 dl
            replace y5 := Ext.cell hV15_7 y5
            replace z0 := Ext.cell hV15_7 z0
            replace z1 := Ext.cell hV15_7 z1
            have c15_0 := kV15_7 0 _ rfl
            have c15_1 := kV15_7 1 _ rfl
            clear kV15_7 hV15_7
            clear r15
            try simp only [Wops_nil, updO_some, updO_none]
            refine hK _ _ ?_
            clear hK K' gd
            refine Wp.keep [2, 10, 12, 13, 15, 47, 48, 49] fun r17 hkeep => ?_
            obtain ⟨e2_17, e10_17, e12_17, e13_17, e15_17, e47_17, e48_17, e49_17, -⟩ := hkeep
            simp [go_sem, e2_16, e10_16, e12_16, e13_16, e47_16, e48_16, e49_16, e50_16] at e2_17 e10_17 e12_17 e13_17 e15_17 e47_17 e48_17 e49_17
            clear e2_16 e10_16 e12_16 e13_16 e47_16 e48_16 e49_16 e50_16
            refine Wp.seqDraw (.inl rfl) mixed [([0, 1, 2, 3, 4], none), ([5, 6, 7, 8, 9], none), ([10, 11, 12, 13, 14], none), ([15], none)] (by kernel_rfl) fun K' gd hK hg => ?_
            clear hg
            simp only [pick, nth, List.map_cons, List.map_nil, Option.map_none, Option.map_some]
            refine Mops.absD fun D8 hD8 zD8 => ?_
            replace f3 := Ext.fz hD8 c3_0 f3
            replace f4 := Ext.fz hD8 c4_0 f4
            replace f9 := Ext.fz hD8 c9_0 f9
            replace f15 := Ext.fz hD8 c15_0 f15
            replace hO := hO.ext hD8
            replace xw := Ext.trans xw hD8
            replace xc := Ext.trans xc hD8
            replace xo := Ext.trans xo hD8
            replace c3_0 := Ext.cell hD8 c3_0
            replace c3_1 := Ext.cell hD8 c3_1
            replace c4_0 := Ext.cell hD8 c4_0
            replace c4_1 := Ext.cell hD8 c4_1
            replace c4_2 := Ext.cell hD8 c4_2
            replace c4_3 := Ext.cell hD8 c4_3
            replace c9_0 := Ext.cell hD8 c9_0
            replace c9_1 := Ext.cell hD8 c9_1
            replace c9_2 := Ext.cell hD8 c9_2
            replace c9_3 := Ext.cell hD8 c9_3
            replace c9_4 := Ext.cell hD8 c9_4
            replace df := Ext.cell hD8 df
            replace dl := Ext.cell hD8 dl
            replace y5 := Ext.cell hD8 y5
            replace z0 := Ext.cell hD8 z0
            replace z1 := Ext.cell hD8 z1
            replace c15_0 := Ext.cell hD8 c15_0
            replace c15_1 := Ext.cell hD8 c15_1
            clear hD8
            apply Mops.none
            · intro w' hE'
              have hC' := hE'.cellsS
              go_simp
              with_reducible rfl
            apply Mops.none
            · intro w' hE'
              have hC' := hE'.cellsS
              go_simp
              with_reducible rfl
            apply Mops.none
            · intro w' hE'
              have hC' := hE'.cellsS
              go_simp
              with_reducible rfl
            apply Mops.none
            · intro w' hE'
              have hC' := hE'.cellsS
              go_simp
              with_reducible rfl
            refine Mops.done ?_
            refine hK _ _ ?_
            clear hK K' gd
            refine Wp.keep [2, 10, 12, 13, 16, 17, 47, 48, 49] fun r18 hkeep => ?_
            obtain ⟨e2_18, e10_18, e12_18, e13_18, e16_18, e17_18, e47_18, e48_18, e49_18, -⟩ := hkeep
            simp [go_sem, e2_17, e10_17, e12_17, e13_17, e15_17, e47_17, e48_17, e49_17] at e2_18 e10_18 e12_18 e13_18 e16_18 e17_18 e47_18 e48_18 e49_18
            clear e2_17 e10_17 e12_17 e13_17 e15_17 e47_17 e48_17 e49_17
            refine Wp.seqRegion (.inl rfl) (by kernel_rfl) fun K' gd hK hg => ?_
            clear hg
            go_simp
            refine hK _ _ ?_
            clear hK K' gd
            refine Wp.keep [2, 10, 12, 13, 16, 17, 47, 48, 49, 69] fun r19 hkeep => ?_
            obtain ⟨e2_19, e10_19, e12_19, e13_19, e16_19, e17_19, e47_19, e48_19, e49_19, e69_19, -⟩ := hkeep
            simp [go_sem, e2_18, e10_18, e12_18, e13_18, e16_18, e17_18, e47_18, e48_18, e49_18] at e2_19 e10_19 e12_19 e13_19 e16_19 e17_19 e47_19 e48_19 e49_19 e69_19
            clear e2_18 e10_18 e12_18 e13_18 e16_18 e17_18 e47_18 e48_18 e49_18
            by_cases hlh : lo ≤ hi
            · refine Wp.condT (by go_simp) ?_
              refine Wp.loneRegion (.inl rfl) (by kernel_rfl) fun K' gd hK hg => ?_
              clear hg
              refine Wops.cut 5 fun K1 hK1 => ?_
              simp only [List.take_succ_cons, List.take_zero]
              go_simp
              refine hK1 _ _ ?_
              clear hK1 K1
              simp only [List.drop_succ_cons, List.drop_zero]
              refine Wops.absA fun V74_9 n74 hV74_9 => ?_
              obtain ⟨q74, hV74_9, s74, kV74_9, f74, r74⟩ := hV74_9
              try simp only [q74] at kV74_9 f74 r74 ⊢
              replace f3 := Ext.fz hV74_9 c3_0 f3
              replace f4 := Ext.fz hV74_9 c4_0 f4
              replace f9 := Ext.fz hV74_9 c9_0 f9
              replace f15 := Ext.fz hV74_9 c15_0 f15
              replace hO := hO.ext hV74_9
              replace xw := Ext.trans xw hV74_9
              replace xc := Ext.trans xc hV74_9
              replace xo := Ext.trans xo hV74_9
              replace c3_0 := Ext.cell hV74_9 c3_0
              replace c3_1 := Ext.cell hV74_9 c3_1
              replace c4_0 := Ext.cell hV74_9 c4_0
              replace c4_1 := Ext.cell hV74_9 c4_1
              replace c4_2 := Ext.cell hV74_9 c4_2
              replace c4_3 := Ext.cell hV74_9 c4_3
              replace c9_0 := Ext.cell hV74_9 c9_0
              replace c9_1 := Ext.cell hV74_9 c9_1
              replace c9_2 := Ext.cell hV74_9 c9_2
              replace c9_3 := Ext.cell hV74_9 c9_3
              replace c9_4 := Ext.cell hV74_9 c9_4
              replace df := Ext.cell hV74_9 df
              replace dl := Ext.cell hV74_9 dl
              replace y5 := Ext.cell hV74_9 y5
              replace z0 := Ext.cell hV74_9 z0
              replace z1 := Ext.cell hV74_9 z1
              replace c15_0 := Ext.cell hV74_9 c15_0
              replace c15_1 := Ext.cell hV74_9 c15_1
              clear hV74_9 f74
              have c74_0 := kV74_9 0 _ rfl
              have c74_1 := kV74_9 1 _ rfl
              clear kV74_9
              refine Wops.cut 1 fun K1 hK1 => ?_
              simp only [List.take_succ_cons, List.take_zero]
              obtain ⟨v', w7, hrun, hO2, hgr, -⟩ := app_run spans_T hO ⟨n74, 0, none⟩ 1 1 [.int .i64 lo, .int .i64 hi] 37 rfl (news_two c74_0 c74_1) (one_two rfl rfl) (by omega) (by omega)
              refine Wops.law rfl (exec_append2 rfl hrun (by go_simp) (by go_simp)) ?_
              simp only [updO_some, Wops_nil]
              refine hK1 _ _ ?_
              clear hK1 K1
              simp only [List.drop_succ_cons, List.drop_zero]
              have z20 := World.grownBy.size hgr
              replace f3 := Chg.fz (grown_chg hgr) c3_0 f3 (lt_off (World.ownsRow.lt hO) (by omega))
              replace f4 := Chg.fz (grown_chg hgr) c4_0 f4 (lt_off (World.ownsRow.lt hO) (by omega))
              replace f9 := Chg.fz (grown_chg hgr) c9_0 f9 (lt_off (World.ownsRow.lt hO) (by omega))
              replace xw := Chg.to xw (grown_chg hgr) (lt_ge (World.ownsRow.lt hO) (by omega))
              replace xc := Chg.to xc (grown_chg hgr) (lt_ge (World.ownsRow.lt hO) (by omega))
              replace xo := Chg.to xo (grown_chg hgr) (lt_ge (World.ownsRow.lt hO) (by omega))
              replace c3_0 := Chg.cell (grown_chg hgr) c3_0 (lt_off (World.ownsRow.lt hO) (by omega))
              replace c3_1 := Chg.cell (grown_chg hgr) c3_1 (lt_off (World.ownsRow.lt hO) (by omega))
              replace c4_0 := Chg.cell (grown_chg hgr) c4_0 (lt_off (World.ownsRow.lt hO) (by omega))
              replace c4_1 := Chg.cell (grown_chg hgr) c4_1 (lt_off (World.ownsRow.lt hO) (by omega))
              replace c4_2 := Chg.cell (grown_chg hgr) c4_2 (lt_off (World.ownsRow.lt hO) (by omega))
              replace c4_3 := Chg.cell (grown_chg hgr) c4_3 (lt_off (World.ownsRow.lt hO) (by omega))
              replace c9_0 := Chg.cell (grown_chg hgr) c9_0 (lt_off (World.ownsRow.lt hO) (by omega))
              replace c9_1 := Chg.cell (grown_chg hgr) c9_1 (lt_off (World.ownsRow.lt hO) (by omega))
              replace c9_2 := Chg.cell (grown_chg hgr) c9_2 (lt_off (World.ownsRow.lt hO) (by omega))
              replace c9_3 := Chg.cell (grown_chg hgr) c9_3 (lt_off (World.ownsRow.lt hO) (by omega))
              replace c9_4 := Chg.cell (grown_chg hgr) c9_4 (lt_off (World.ownsRow.lt hO) (by omega))
              go_simp
              refine hK _ _ ?_
              clear hK K' gd
              refine Ends.keep [2, 10, 12, 13, 47, 48, 49] fun r21 hkeep => ?_
              obtain ⟨e2_21, e10_21, e12_21, e13_21, e47_21, e48_21, e49_21, -⟩ := hkeep
              simp [go_sem, e2_19, e10_19, e12_19, e13_19, e16_19, e17_19, e47_19, e48_19, e49_19, e69_19] at e2_21 e10_21 e12_21 e13_21 e47_21 e48_21 e49_21
              clear e2_19 e10_19 e12_19 e13_19 e16_19 e17_19 e47_19 e48_19 e49_19 e69_19
              refine Ends.mk ?_
              refine blockK_normal ?_
              refine thenK_normal ?_
              refine Wp.loneRegion (.inl rfl) (by kernel_rfl) fun K' gd hK hg => ?_
              clear hg
              go_simp
              refine hK _ _ ?_
              clear hK K' gd
              refine Ends.keep [2, 10, 12, 13, 47, 48, 49] fun r22 hkeep => ?_
              obtain ⟨e2_22, e10_22, e12_22, e13_22, e47_22, e48_22, e49_22, -⟩ := hkeep
              simp [go_sem, e2_21, e10_21, e12_21, e13_21, e47_21, e48_21, e49_21] at e2_22 e10_22 e12_22 e13_22 e47_22 e48_22 e49_22
              clear e2_21 e10_21 e12_21 e13_21 e47_21 e48_21 e49_21
              refine Ends.mk ?_
              refine thenK_normal ⟨by omega, ⟨by rw [e2_22, e2_14], by rw [e10_22, e10_14], by rw [e12_22, e12_14], by rw [e47_22, e47_14], by rw [e48_22, e48_14], trivial⟩, rfl, xo, ?_⟩
              exact ⟨_, by rw [e49_22, IntWalk.i64_in _ (by omega)]; rfl, e13_22, by rw [hst, if_pos hlh]; unfold OwnZ; rw [encL_add, List.length_append]; exact hO2⟩
            · refine Wp.condF (by go_simp) ?_
              refine Wp.skip ?_
              refine blockK_normal ?_
              refine thenK_normal ?_
              refine Wp.loneRegion (.inl rfl) (by kernel_rfl) fun K' gd hK hg => ?_
              clear hg
              go_simp
              refine hK _ _ ?_
              clear hK K' gd
              refine Ends.keep [2, 10, 12, 13, 47, 48, 49] fun r23 hkeep => ?_
              obtain ⟨e2_23, e10_23, e12_23, e13_23, e47_23, e48_23, e49_23, -⟩ := hkeep
              simp [go_sem, e2_19, e10_19, e12_19, e13_19, e16_19, e17_19, e47_19, e48_19, e49_19, e69_19] at e2_23 e10_23 e12_23 e13_23 e47_23 e48_23 e49_23
              clear e2_19 e10_19 e12_19 e13_19 e16_19 e17_19 e47_19 e48_19 e49_19 e69_19
              refine Ends.mk ?_
              refine thenK_normal ⟨by omega, ⟨by rw [e2_23, e2_14], by rw [e10_23, e10_14], by rw [e12_23, e12_14], by rw [e47_23, e47_14], by rw [e48_23, e48_14], trivial⟩, rfl, xo, ?_⟩
              exact ⟨_, by rw [e49_23, IntWalk.i64_in _ (by omega)]; rfl, e13_23, by rw [hst, if_neg hlh, List.append_nil]; exact hO⟩
          · refine Wp.condF (by go_simp) ?_
            obtain rfl : k = T.length := by omega
            rw [List.take_length] at hO
            refine Wp.exit ?_
            refine thenK_exit ?_
            refine thenK_exit ?_
            refine blockK_here ?_
            refine thenK_normal ?_
            refine Wp.seqRegion (.inl rfl) (by kernel_rfl) fun K' gd hK hg => ?_
            clear hg
            go_simp
            refine hK _ _ ?_
            clear hK K' gd
            refine Wp.keep [6, 7] fun r24 hkeep => ?_
            obtain ⟨e6_24, e7_24, -⟩ := hkeep
            simp [go_sem, e2_16, e10_16, e12_16, e13_16, e47_16, e48_16, e49_16, e50_16] at e6_24 e7_24
            clear e2_16 e10_16 e12_16 e13_16 e47_16 e48_16 e49_16 e50_16
            refine Wp.ret ?_
            refine endK_tmp2 Try.results43 (by decide) (by decide) ?_
            rw [e6_24, e7_24]
            have e : possE s c n = 0 := by unfold possE; rw [if_pos h0, if_pos (by unfold Sh.n; omega), h2]
            exact ⟨_, by rw [e], by rw [if_pos e, show ((n : Int)).toNat = n from rfl, hpl.choose_spec]; exact hO.less (by omega), xw⟩
      · skip
        refine Wp.seq ?_
        refine Wp.seqRegion (.inl rfl) (by kernel_rfl) fun K' gd hK hg => ?_
        clear hg
        go_simp
        refine hK _ _ ?_
        clear hK K' gd
        refine Wp.keep [2, 9, 10, 11, 39] fun r25 hkeep => ?_
        obtain ⟨e2_25, e9_25, e10_25, e11_25, e39_25, -⟩ := hkeep
        simp [go_sem, e2_9, e9_9, e10_9, e11_9] at e2_25 e9_25 e10_25 e11_25 e39_25
        clear e2_9 e9_9 e10_9 e11_9
        refine Wp.condT (by go_simp) ?_
        refine Wp.seqRegion (.inl rfl) (by kernel_rfl) fun K' gd hK hg => ?_
        clear hg
        go_simp
        refine hK _ _ ?_
        clear hK K' gd
        refine Wp.keep [6, 7] fun r26 hkeep => ?_
        obtain ⟨e6_26, e7_26, -⟩ := hkeep
        simp [go_sem, e2_25, e9_25, e10_25, e11_25, e39_25] at e6_26 e7_26
        clear e2_25 e9_25 e10_25 e11_25 e39_25
        refine Wp.ret ?_
        refine thenK_ret ?_
        refine endK_tmp2 Try.results43 (by decide) (by decide) ?_
        rw [e6_26, e7_26]
        have e : possE s c i = begE s c := by unfold possE; rw [if_pos h0, if_pos (by unfold Sh.n; omega)]
        exact ⟨_, by rw [e], by rw [e, if_neg h2]; exact OwnZ.nil _ _, xw⟩
    · skip
      refine Wp.skip ?_
      refine thenK_normal ?_
      refine Wp.seq ?_
      refine Wp.seqRegion (.inl rfl) (by kernel_rfl) fun K' gd hK hg => ?_
      clear hg
      refine Wops.cut 6 fun K1 hK1 => ?_
      simp only [List.take_succ_cons, List.take_zero]
      go_simp
      refine Wcall (.inl rfl) (within_F h1 _) ?_
      rintro v w3 ⟨rfl, hE⟩
      go_simp
      refine hK1 _ _ ?_
      clear hK1 K1
      simp only [List.drop_succ_cons, List.drop_zero]
      have z27 := Below.size hE
      replace f3 := Ext.fz hE c3_0 f3
      replace f4 := Ext.fz hE c4_0 f4
      replace xw := Ext.trans xw hE
      replace c3_0 := Ext.cell hE c3_0
      replace c3_1 := Ext.cell hE c3_1
      replace c4_0 := Ext.cell hE c4_0
      replace c4_1 := Ext.cell hE c4_1
      replace c4_2 := Ext.cell hE c4_2
      replace c4_3 := Ext.cell hE c4_3
      clear hE
      go_simp
      refine hK _ _ ?_
      clear hK K' gd
      refine Wp.keep [2, 3, 4, 30] fun r28 hkeep => ?_
      obtain ⟨e2_28, e3_28, e4_28, e30_28, -⟩ := hkeep
      simp [go_sem, e2_5, e3_5, e4_5, e8_5, e22_5] at e2_28 e3_28 e4_28 e30_28
      clear e2_5 e3_5 e4_5 e8_5 e22_5
      refine Wp.condT (by go_simp) ?_
      refine Wp.seqRegion (.inl rfl) (by kernel_rfl) fun K' gd hK hg => ?_
      clear hg
      go_simp
      refine hK _ _ ?_
      clear hK K' gd
      refine Wp.keep [6, 7] fun r29 hkeep => ?_
      obtain ⟨e6_29, e7_29, -⟩ := hkeep
      simp [go_sem, e2_28, e3_28, e4_28, e30_28] at e6_29 e7_29
      clear e2_28 e3_28 e4_28 e30_28
      refine Wp.ret ?_
      refine thenK_ret ?_
      refine endK_tmp2 Try.results43 (by decide) (by decide) ?_
      rw [e6_29, e7_29]
      have e : possE s c i = 1 := by unfold possE; rw [if_pos h0, if_neg (by unfold Sh.n; omega)]
      exact ⟨_, by rw [e], by rw [e, if_neg (by decide)]; exact OwnZ.nil _ _, xw⟩
  · skip
    refine Wp.seqRegion (.inl rfl) (by kernel_rfl) fun K' gd hK hg => ?_
    clear hg
    go_simp
    refine hK _ _ ?_
    clear hK K' gd
    refine Wp.keep [2, 3, 4, 8, 22] fun r30 hkeep => ?_
    obtain ⟨e2_30, e3_30, e4_30, e8_30, e22_30, -⟩ := hkeep
    simp [go_sem, e2_4, e3_4, e4_4, e8_4] at e2_30 e3_30 e4_30 e8_30 e22_30
    clear e2_4 e3_4 e4_4 e8_4
    refine Wp.condT (by go_simp) ?_
    refine Wp.seqRegion (.inl rfl) (by kernel_rfl) fun K' gd hK hg => ?_
    clear hg
    go_simp
    refine hK _ _ ?_
    clear hK K' gd
    refine Wp.keep [6, 7] fun r31 hkeep => ?_
    obtain ⟨e6_31, e7_31, -⟩ := hkeep
    simp [go_sem, e2_30, e3_30, e4_30, e8_30, e22_30] at e6_31 e7_31
    clear e2_30 e3_30 e4_30 e8_30 e22_30
    refine Wp.ret ?_
    refine thenK_ret ?_
    refine endK_tmp2 Try.results43 (by decide) (by decide) ?_
    rw [e6_31, e7_31]
    have e : possE s c i = copyS s c := by unfold possE; rw [if_neg h0]
    exact ⟨_, by rw [e], by rw [e, if_neg h0]; exact OwnZ.nil _ _, xw⟩
end Go.Proofs.Ytnjajbkkgfohaaa
namespace Go.Proofs.Ytnjajbkkgfohaaa
open Go.RowKit Go.Wk Go.Proofs
attribute [local irreducible] Go.Wk.Wops Go.Wk.Wp Go.Wk.Mtree Go.Wk.Mops
set_option maxHeartbeats 4000000
set_option maxRecDepth 20000

def Md.at (m : Md) (d : Int) : Md := ⟨{ m.c with b := d }, m.tab⟩
theorem MdOk.at {m : Md} (h : MdOk m) {d : Int} (h0 : 0 ≤ d) (h1 : d ≤ m.c.e) : MdOk (m.at d) := ⟨h.n1, h.n2, h.len, h.sp, h.lo, h.many, h0, h1, h.e7, h.p1, h.p2⟩
def longF (m : Md) (l : List Int) (lo : Int) : Int := l.foldl (fun lo d => if m.can 0 d ∧ (m.at d).ok = true then min lo (gI (m.at d).first (m.n - 1) - gI (m.at d).first 0) else lo) lo
def longHi (m : Md) : Int := gI m.last (m.n - 1) - gI m.first 0
def longS (m : Md) : Int × Int := if m.n = 1 then (0, 0) else (longF m (daysL (gI m.first 0) (gI m.last 0)) (longHi m), longHi m)
theorem longF_snoc (m : Md) (l : List Int) (d lo : Int) : longF m (l ++ [d]) lo = if m.can 0 d ∧ (m.at d).ok = true then min (longF m l lo) (gI (m.at d).first (m.n - 1) - gI (m.at d).first 0) else longF m l lo := by
  unfold longF; rw [List.foldl_append]; rfl
theorem daysL_len (lo hi : Int) : (daysL lo hi).length = (hi + 1 - lo).toNat := by simp [daysL]
theorem daysL_take {lo hi : Int} {k : Nat} (h : k < (hi + 1 - lo).toNat) : (daysL lo hi).take (k + 1) = (daysL lo hi).take k ++ [lo + (k : Int)] := by
  refine take_one ?_
  simp [daysL, h]
theorem MadeB.at {w : World} {base : Nat} {a x y z tv wv : Value} {m : Md} (h : MadeB w base (.agg #[a, x, y, z, tv]) m wv) (d : Int) : MadeB w base (.agg #[a, .int .i64 d, y, z, tv]) (m.at d) wv := by
  obtain ⟨tv', h1, h2⟩ := h
  injection h1 with h1
  simp at h1
  obtain ⟨rfl, rfl, rfl, rfl, rfl⟩ := h1
  exact ⟨tv, rfl, h2⟩
theorem longF_bd {m : Md} (hm : MdOk m) : ∀ (l : List Int) (lo : Int), (∀ d ∈ l, 0 ≤ d ∧ d ≤ m.c.e) → -1000 ≤ lo ∧ lo ≤ 1000 → -1000 ≤ longF m l lo ∧ longF m l lo ≤ 1000
  | [], lo, _, h => h
  | d :: l, lo, hd, h => by
    have e : longF m (d :: l) lo = longF m l (if m.can 0 d ∧ (m.at d).ok = true then min lo (gI (m.at d).first (m.n - 1) - gI (m.at d).first 0) else lo) := rfl
    rw [e]
    refine longF_bd hm l _ (fun x hx => hd x (List.mem_cons_of_mem _ hx)) ?_
    split
    · rename_i hc
      have hd0 := hd d List.mem_cons_self
      have hma := hm.at hd0.1 hd0.2
      obtain ⟨h1, h2, h3, h4⟩ := hma.of_ok hc.2
      have hn1 := hm.n1
      have hn : (m.at d).n = m.n := rfl
      have q1 := h3 (m.n - 1) (by omega)
      have q2 := h3 0 (by omega)
      have hb := hma.b0
      have he := hma.e7
      omega
    · exact h
theorem Long_c (v u : Value) (s : Sh) (c : Cp) (w : World) (hV : SheetV w w.heap.size v s) (hU : CopyV w w.heap.size u c) (hf : FitS s) (hg : FitC c) :
    CallsV Try.prog 44 #[v, u] w fun v w' => v = .tuple #[.agg #[.int .i64 (if begE s c = 0 then longS (s.md c) else (0, 0)).1, .int .i64 (if begE s c = 0 then longS (s.md c) else (0, 0)).2], .int .i64 (begE s c)] ∧ Ext w w' := by
  obtain ⟨wv, av, rfl, ⟨A, c1, rfl, -, -⟩, ⟨A3, c3, rfl, -, -⟩⟩ := id hV
  obtain ⟨wu, rfl, hW⟩ := id hU
  obtain ⟨A2, c2, rfl, -, -⟩ := id hW
  refine Wp.fn Try.func44 rfl Try.ntmps44 (by simp) ?_
  have xw := Ext.refl w
  refine Wp.keep [0, 1] fun r1 hkeep => ?_
  obtain ⟨e0_1, e1_1, -⟩ := hkeep
  simp [go_sem] at e0_1 e1_1
  refine Wp.seqRegion (.inl rfl) (by kernel_rfl) fun K' gd hK hg => ?_
  clear hg
  refine Wops.cut 1 fun K1 hK1 => ?_
  simp only [List.take_succ_cons, List.take_zero]
  go_simp
  refine hK1 _ _ ?_
  clear hK1 K1
  simp only [List.drop_succ_cons, List.drop_zero]
  refine Wops.absA fun V2_1 n2 hV2_1 => ?_
  obtain ⟨q2, hV2_1, s2, kV2_1, f2, r2⟩ := hV2_1
  try simp only [q2] at kV2_1 f2 r2 ⊢
  replace xw := Ext.trans xw hV2_1
  have c2_0 := kV2_1 0 _ rfl
  have c2_1 := kV2_1 1 _ rfl
  clear kV2_1 hV2_1
  clear r2
  refine Wops.cut 1 fun K1 hK1 => ?_
  simp only [List.take_succ_cons, List.take_zero]
  go_simp
  refine hK1 _ _ ?_
  clear hK1 K1
  simp only [List.drop_succ_cons, List.drop_zero]
  refine Wops.absA fun V3_2 n3 hV3_2 => ?_
  obtain ⟨q3, hV3_2, s3, kV3_2, f3, r3⟩ := hV3_2
  try simp only [q3] at kV3_2 f3 r3 ⊢
  replace f2 := Ext.fz hV3_2 c2_0 f2
  replace xw := Ext.trans xw hV3_2
  replace c2_0 := Ext.cell hV3_2 c2_0
  replace c2_1 := Ext.cell hV3_2 c2_1
  have c3_0 := kV3_2 0 _ rfl
  have c3_1 := kV3_2 1 _ rfl
  have c3_2 := kV3_2 2 _ rfl
  have c3_3 := kV3_2 3 _ rfl
  clear kV3_2 hV3_2
  clear r3
  refine Wops.cut 1 fun K1 hK1 => ?_
  simp only [List.take_succ_cons, List.take_zero]
  go_simp
  refine hK1 _ _ ?_
  clear hK1 K1
  simp only [List.drop_succ_cons, List.drop_zero]
  refine Wops.absA fun V4_3 n4 hV4_3 => ?_
  obtain ⟨q4, hV4_3, s4, kV4_3, f4, r4⟩ := hV4_3
  try simp only [q4] at kV4_3 f4 r4 ⊢
  replace f2 := Ext.fz hV4_3 c2_0 f2
  replace f3 := Ext.fz hV4_3 c3_0 f3
  replace xw := Ext.trans xw hV4_3
  replace c2_0 := Ext.cell hV4_3 c2_0
  replace c2_1 := Ext.cell hV4_3 c2_1
  replace c3_0 := Ext.cell hV4_3 c3_0
  replace c3_1 := Ext.cell hV4_3 c3_1
  replace c3_2 := Ext.cell hV4_3 c3_2
  replace c3_3 := Ext.cell hV4_3 c3_3
  have c4_0 := kV4_3 0 _ rfl
  have c4_1 := kV4_3 1 _ rfl
  clear kV4_3 hV4_3
  clear r4
  go_simp
  refine hK _ _ ?_
  clear hK K' gd
  refine Wp.keep [2, 3, 4] fun r2 hkeep => ?_
  obtain ⟨e2_2, e3_2, e4_2, -⟩ := hkeep
  simp [go_sem, e0_1, e1_1] at e2_2 e3_2 e4_2
  clear e0_1 e1_1
  refine Wp.seqRegion (.inl rfl) (by kernel_rfl) fun K' gd hK hg => ?_
  clear hg
  refine Wops.cut 3 fun K1 hK1 => ?_
  simp only [List.take_succ_cons, List.take_zero]
  go_simp
  refine Wcall (.inl rfl) (begun_c _ _ s c _ (hV.ext xw) (hU.ext xw) hf hg) ?_
  rintro v w2 ⟨B1, b2, b3, b4, b5, b6, B2, b7, b8, dv, rfl, hM, hI, hE⟩
  have xc := Ext.refl w2
  go_simp
  refine hK1 _ _ ?_
  clear hK1 K1
  simp only [List.drop_succ_cons, List.drop_zero]
  have z3 := Below.size hE
  replace f2 := Ext.fz hE c2_0 f2
  replace f3 := Ext.fz hE c3_0 f3
  replace f4 := Ext.fz hE c4_0 f4
  replace xw := Ext.trans xw hE
  replace c2_0 := Ext.cell hE c2_0
  replace c2_1 := Ext.cell hE c2_1
  replace c3_0 := Ext.cell hE c3_0
  replace c3_1 := Ext.cell hE c3_1
  replace c3_2 := Ext.cell hE c3_2
  replace c3_3 := Ext.cell hE c3_3
  replace c4_0 := Ext.cell hE c4_0
  replace c4_1 := Ext.cell hE c4_1
  clear hE
  refine Wops.cut 6 fun K1 hK1 => ?_
  simp only [List.take_succ_cons, List.take_zero]
  go_simp
  refine hK1 _ _ ?_
  clear hK1 K1
  simp only [List.drop_succ_cons, List.drop_zero]
  refine Wops.absA fun V6_5 n6 hV6_5 => ?_
  obtain ⟨q6, hV6_5, s6, kV6_5, f6, r6⟩ := hV6_5
  try simp only [q6] at kV6_5 f6 r6 ⊢
  replace f2 := Ext.fz hV6_5 c2_0 f2
  replace f3 := Ext.fz hV6_5 c3_0 f3
  replace f4 := Ext.fz hV6_5 c4_0 f4
  replace hI := hI.ext hV6_5
  replace xw := Ext.trans xw hV6_5
  replace xc := Ext.trans xc hV6_5
  replace c2_0 := Ext.cell hV6_5 c2_0
  replace c2_1 := Ext.cell hV6_5 c2_1
  replace c3_0 := Ext.cell hV6_5 c3_0
  replace c3_1 := Ext.cell hV6_5 c3_1
  replace c3_2 := Ext.cell hV6_5 c3_2
  replace c3_3 := Ext.cell hV6_5 c3_3
  replace c4_0 := Ext.cell hV6_5 c4_0
  replace c4_1 := Ext.cell hV6_5 c4_1
  have c6_0 := kV6_5 0 _ rfl
  have c6_1 := kV6_5 1 _ rfl
  have c6_2 := kV6_5 2 _ rfl
  have c6_3 := kV6_5 3 _ rfl
  have c6_4 := kV6_5 4 _ rfl
  clear kV6_5 hV6_5
  clear r6
  go_simp
  refine hK _ _ ?_
  clear hK K' gd
  refine Wp.keep [4, 6, 7, 8] fun r4 hkeep => ?_
  obtain ⟨e4_4, e6_4, e7_4, e8_4, -⟩ := hkeep
  simp [go_sem, e2_2, e3_2, e4_2] at e4_4 e6_4 e7_4 e8_4
  clear e2_2 e3_2 e4_2
  by_cases h2 : begE s c = 0
  · skip
    obtain ⟨wu, hwu, hM⟩ := hM h2
    injection hwu with hwu
    simp at hwu
    subst hwu
    rw [if_pos h2] at hI
    obtain ⟨h0, hok⟩ := begE_zero.1 h2
    obtain ⟨hg0, hv0⟩ := copyS_zero.1 h0
    have hgd := checkS_zero.1 hg0
    have hmk := hgd.mdOk hv0
    refine Wp.seq ?_
    refine Wp.seqRegion (.inl rfl) (by kernel_rfl) fun K' gd hK hg => ?_
    clear hg
    go_simp
    refine hK _ _ ?_
    clear hK K' gd
    refine Wp.keep [4, 6, 7, 8, 24] fun r5 hkeep => ?_
    obtain ⟨e4_5, e6_5, e7_5, e8_5, e24_5, -⟩ := hkeep
    simp [go_sem, e4_4, e6_4, e7_4, e8_4] at e4_5 e6_5 e7_5 e8_5 e24_5
    clear e4_4 e6_4 e7_4 e8_4
    refine Wp.condF (by go_simp) ?_
    refine Wp.skip ?_
    refine thenK_normal ?_
    refine Wp.seqRegion (.inl rfl) (by kernel_rfl) fun K' gd hK hg => ?_
    clear hg
    refine Wops.cut 2 fun K1 hK1 => ?_
    simp only [List.take_succ_cons, List.take_zero]
    go_simp
    refine Wcall (.inl rfl) (last_c _ (s.md c) _ ((hM.ext xc).made (hW.ext xw)) hmk) ?_
    rintro v w5 ⟨hJ, hE⟩
    go_simp
    refine hK1 _ _ ?_
    clear hK1 K1
    simp only [List.drop_succ_cons, List.drop_zero]
    have z6 := Below.size hE
    replace f2 := Ext.fz hE c2_0 f2
    replace f3 := Ext.fz hE c3_0 f3
    replace f4 := Ext.fz hE c4_0 f4
    replace f6 := Ext.fz hE c6_0 f6
    replace hI := hI.ext hE
    replace xw := Ext.trans xw hE
    replace xc := Ext.trans xc hE
    replace c2_0 := Ext.cell hE c2_0
    replace c2_1 := Ext.cell hE c2_1
    replace c3_0 := Ext.cell hE c3_0
    replace c3_1 := Ext.cell hE c3_1
    replace c3_2 := Ext.cell hE c3_2
    replace c3_3 := Ext.cell hE c3_3
    replace c4_0 := Ext.cell hE c4_0
    replace c4_1 := Ext.cell hE c4_1
    replace c6_0 := Ext.cell hE c6_0
    replace c6_1 := Ext.cell hE c6_1
    replace c6_2 := Ext.cell hE c6_2
    replace c6_3 := Ext.cell hE c6_3
    replace c6_4 := Ext.cell hE c6_4
    clear hE
    go_simp
    refine hK _ _ ?_
    clear hK K' gd
    refine Wp.keep [4, 6, 7, 9] fun r7 hkeep => ?_
    obtain ⟨e4_7, e6_7, e7_7, e9_7, -⟩ := hkeep
    simp [go_sem, e4_5, e6_5, e7_5, e8_5, e24_5] at e4_7 e6_7 e7_7 e9_7
    clear e4_5 e6_5 e7_5 e8_5 e24_5
    obtain ⟨m, hm⟩ : ∃ m, ∃ _u : Unit, s.md c = m := ⟨_, (), rfl⟩
    have hmc : ∃ _u : Unit, m.c = c := ⟨(), by rw [← hm.choose_spec]; rfl⟩
    rw [show (if begE s c = 0 then longS (s.md c) else (0, 0)) = longS m by rw [if_pos h2, hm.choose_spec]]
    unfold okS at hok
    rw [hm.choose_spec] at hM hI hJ hmk hok
    obtain ⟨hfl, -, hff, hfm⟩ := hmk.of_ok hok
    obtain ⟨hll, hlf, hlm⟩ := hmk.last_fit hok
    have hn1 := hmk.n1
    have hn2 := hmk.n2
    obtain ⟨q, hq⟩ : ∃ q : Nat, ∃ _u : Unit, q + 1 = m.n := ⟨m.n - 1, (), by omega⟩
    have hqq := hq.choose_spec
    obtain ⟨bf, kf, cf, rfl, hbf, hbf2, hcf⟩ := hI.get (k := 0) (by omega)
    obtain ⟨bl, kl, cl, rfl, hbl, hbl2, hcl2⟩ := hJ.get (k := 0) (by omega)
    have df := hcf 0 (by omega)
    have dl := hcl2 0 (by omega)
    have dq := hcl2 q (by omega)
    simp only [Nat.add_zero] at df dl
    have a1 := hff 0 (by omega)
    have a2 := hlf 0 (by omega)
    have a3 := hlf q (by omega)
    have a4 := hmk.b0
    have a5 := hmk.e7
    have a6 := hlm _ hff 0 (by omega)
    clear hcf hcl2 hff hfm hlf hlm
    have hlen : ∃ _u : Unit, m.first.length = q + 1 ∧ m.last.length = q + 1 := ⟨(), by omega, by omega⟩
    have hi0 : 0 < m.first.length := by omega
    have hi1 : 0 < m.last.length := by omega
    have hi2 : (q : Int) < (m.last.length : Int) := by omega
    have hwq : IntKind.i64.wrap ((m.first.length : Int) - 1) = (q : Int) := by rw [IntWalk.i64_in _ (by omega)]; omega
    obtain ⟨f0, hf0⟩ : ∃ f0, ∃ _u : Unit, gI m.first 0 = f0 := ⟨_, (), rfl⟩
    obtain ⟨l0, hl0⟩ : ∃ l0, ∃ _u : Unit, gI m.last 0 = l0 := ⟨_, (), rfl⟩
    obtain ⟨lq, hlq⟩ : ∃ lq, ∃ _u : Unit, gI m.last q = lq := ⟨_, (), rfl⟩
    rw [hf0.choose_spec] at df a1 a6
    rw [hl0.choose_spec] at dl a2 a6
    rw [hlq.choose_spec] at dq a3
    have hhi : ∃ _u : Unit, longHi m = lq - f0 := ⟨(), by unfold longHi; rw [show m.n - 1 = q by omega, hlq.choose_spec, hf0.choose_spec]⟩
    have b1 : 0 ≤ f0 ∧ f0 ≤ l0 ∧ f0 ≤ 730 ∧ 0 ≤ l0 ∧ l0 ≤ 730 ∧ 0 ≤ lq ∧ lq ≤ 730 ∧ l0 ≤ m.c.e := by omega
    clear a1 a2 a3 a4 a5 a6 hqq hfl hll
    have hwh : IntKind.i64.wrap (lq - f0) = lq - f0 := IntWalk.i64_in _ (by omega)
    have hWm : IntsV w w.heap.size (.slice A2 c.words.length c2) m.c.words := by rw [hmc.choose_spec]; exact hW
    by_cases hq0 : q = 0
    · skip
      refine Wp.seqRegion (.inl rfl) (by kernel_rfl) fun K' gd hK hg => ?_
      clear hg
      go_simp
      refine hK _ _ ?_
      clear hK K' gd
      refine Wp.keep [4, 6, 7, 9, 10] fun r8 hkeep => ?_
      obtain ⟨e4_8, e6_8, e7_8, e9_8, e10_8, -⟩ := hkeep
      simp [go_sem, e4_7, e6_7, e7_7, e9_7] at e4_8 e6_8 e7_8 e9_8 e10_8
      clear e4_7 e6_7 e7_7 e9_7
      refine Wp.seq ?_
      refine Wp.seqRegion (.inl rfl) (by kernel_rfl) fun K' gd hK hg => ?_
      clear hg
      go_simp
      refine hK _ _ ?_
      clear hK K' gd
      refine Wp.keep [4, 6, 7, 9, 10, 33] fun r9 hkeep => ?_
      obtain ⟨e4_9, e6_9, e7_9, e9_9, e10_9, e33_9, -⟩ := hkeep
      simp [go_sem, e4_8, e6_8, e7_8, e9_8, e10_8] at e4_9 e6_9 e7_9 e9_9 e10_9 e33_9
      clear e4_8 e6_8 e7_8 e9_8 e10_8
      refine Wp.condT (by go_simp) ?_
      refine Wp.seqRegion (.inl rfl) (by kernel_rfl) fun K' gd hK hg => ?_
      clear hg
      refine Wops.cut 2 fun K1 hK1 => ?_
      simp only [List.take_succ_cons, List.take_zero]
      go_simp
      refine hK1 _ _ ?_
      clear hK1 K1
      simp only [List.drop_succ_cons, List.drop_zero]
      refine Wops.absS (b := n4) (i := 0) [_, _] (somes [cellVal c4_0, cellVal c4_1] (by simp) (by intro j v hj; match j, hj with | 0, hj => (simp at hj; subst hj; exact c4_0) | 1, hj => (simp at hj; subst hj; exact c4_1))) fun P6 hP6 => ?_
      have zP6 := hP6.same
      replace f2 := Put.frz hP6 f2
      replace f3 := Put.frz hP6 f3
      replace f4 := Put.frz hP6 f4
      replace f6 := Put.frz hP6 f6
      replace xw := Put.to xw hP6 (by omega)
      clear xc
      replace c2_0 := Put.cell hP6 c2_0 (by omega)
      replace c2_1 := Put.cell hP6 c2_1 (by omega)
      replace c3_0 := Put.cell hP6 c3_0 (by omega)
      replace c3_1 := Put.cell hP6 c3_1 (by omega)
      replace c3_2 := Put.cell hP6 c3_2 (by omega)
      replace c3_3 := Put.cell hP6 c3_3 (by omega)
      clear c4_0
      clear c4_1
      replace c6_0 := Put.cell hP6 c6_0 (by omega)
      replace c6_1 := Put.cell hP6 c6_1 (by omega)
      replace c6_2 := Put.cell hP6 c6_2 (by omega)
      replace c6_3 := Put.cell hP6 c6_3 (by omega)
      replace c6_4 := Put.cell hP6 c6_4 (by omega)
      replace df := Put.cell hP6 df (by omega)
      replace dl := Put.cell hP6 dl (by omega)
      replace dq := Put.cell hP6 dq (by omega)
      have c4_0 := hP6.new 0 _ rfl
      try simp only [Nat.reduceAdd, Nat.zero_add, Nat.add_zero] at c4_0
      have c4_1 := hP6.new 1 _ rfl
      try simp only [Nat.reduceAdd, Nat.zero_add, Nat.add_zero] at c4_1
      clear hP6
      go_simp
      refine hK _ _ ?_
      clear hK K' gd
      refine Wp.keep [4, 5] fun r10 hkeep => ?_
      obtain ⟨e4_10, e5_10, -⟩ := hkeep
      simp [go_sem, e4_9, e6_9, e7_9, e9_9, e10_9, e33_9] at e4_10 e5_10
      clear e4_9 e6_9 e7_9 e9_9 e10_9 e33_9
      refine Wp.ret ?_
      refine thenK_ret ?_
      refine endK_cell_tmp (v := .agg #[cellVal c4_0, cellVal c4_1]) Try.results44 (by decide) (by decide) e4_10 (by dsimp only [cellVal]; go_simp) ?_
      rw [e5_10]
      dsimp only [cellVal]
      exact ⟨by rw [h2, show longS m = (0, 0) by unfold longS; rw [if_pos (by have := hq.choose_spec; omega)]], xw⟩
    · skip
      refine Wp.seqRegion (.inl rfl) (by kernel_rfl) fun K' gd hK hg => ?_
      clear hg
      go_simp
      refine hK _ _ ?_
      clear hK K' gd
      refine Wp.keep [4, 6, 7, 9, 10] fun r11 hkeep => ?_
      obtain ⟨e4_11, e6_11, e7_11, e9_11, e10_11, -⟩ := hkeep
      simp [go_sem, e4_7, e6_7, e7_7, e9_7] at e4_11 e6_11 e7_11 e9_11 e10_11
      clear e4_7 e6_7 e7_7 e9_7
      refine Wp.seq ?_
      refine Wp.seqRegion (.inl rfl) (by kernel_rfl) fun K' gd hK hg => ?_
      clear hg
      go_simp
      refine hK _ _ ?_
      clear hK K' gd
      refine Wp.keep [4, 6, 7, 9, 10, 33] fun r12 hkeep => ?_
      obtain ⟨e4_12, e6_12, e7_12, e9_12, e10_12, e33_12, -⟩ := hkeep
      simp [go_sem, e4_11, e6_11, e7_11, e9_11, e10_11] at e4_12 e6_12 e7_12 e9_12 e10_12 e33_12
      clear e4_11 e6_11 e7_11 e9_11 e10_11
      refine Wp.condF (by go_simp) ?_
      refine Wp.skip ?_
      refine thenK_normal ?_
      refine Wp.seqDraw (.inl rfl) mixed [([0, 1, 2, 3, 4], none), ([5, 6, 7, 8, 9], none), ([10, 11, 12, 13, 14], none), ([15, 16], some (17, false)), ([], some (18, true))] (by kernel_rfl) fun K' gd hK hg => ?_
      clear hg
      simp only [pick, nth, List.map_cons, List.map_nil, Option.map_none, Option.map_some]
      refine Mops.absD fun D7 hD7 zD7 => ?_
      replace f2 := Ext.fz hD7 c2_0 f2
      replace f3 := Ext.fz hD7 c3_0 f3
      replace f4 := Ext.fz hD7 c4_0 f4
      replace f6 := Ext.fz hD7 c6_0 f6
      replace xw := Ext.trans xw hD7
      replace xc := Ext.trans xc hD7
      replace c2_0 := Ext.cell hD7 c2_0
      replace c2_1 := Ext.cell hD7 c2_1
      replace c3_0 := Ext.cell hD7 c3_0
      replace c3_1 := Ext.cell hD7 c3_1
      replace c3_2 := Ext.cell hD7 c3_2
      replace c3_3 := Ext.cell hD7 c3_3
      replace c4_0 := Ext.cell hD7 c4_0
      replace c4_1 := Ext.cell hD7 c4_1
      replace c6_0 := Ext.cell hD7 c6_0
      replace c6_1 := Ext.cell hD7 c6_1
      replace c6_2 := Ext.cell hD7 c6_2
      replace c6_3 := Ext.cell hD7 c6_3
      replace c6_4 := Ext.cell hD7 c6_4
      replace df := Ext.cell hD7 df
      replace dl := Ext.cell hD7 dl
      replace dq := Ext.cell hD7 dq
      clear hD7
      apply Mops.none
      · intro w' hE'
        have hC' := hE'.cellsS
        go_simp
        with_reducible rfl
      apply Mops.none
      · intro w' hE'
        have hC' := hE'.cellsS
        go_simp
        with_reducible rfl
      apply Mops.none
      · intro w' hE'
        have hC' := hE'.cellsS
        go_simp
        with_reducible rfl
      apply Mops.act
      · intro w' hE'
        have hC' := hE'.cellsS
        go_simp
        with_reducible rfl
      intro K1 hK1
      go_simp
      refine hK1 _ _ (XA) ?_
      clear hK1 K1
      refine Mops.absA fun V11_8 n11 hV11_8 => ?_
      obtain ⟨q11, hV11_8, s11, kV11_8, f11, r11⟩ := hV11_8
      try simp only [q11] at kV11_8 f11 r11 ⊢
      replace f2 := Ext.fz hV11_8 c2_0 f2
      replace f3 := Ext.fz hV11_8 c3_0 f3
      replace f4 := Ext.fz hV11_8 c4_0 f4
      replace f6 := Ext.fz hV11_8 c6_0 f6
      replace xw := Ext.trans xw hV11_8
      replace xc := Ext.trans xc hV11_8
      replace c2_0 := Ext.cell hV11_8 c2_0
      replace c2_1 := Ext.cell hV11_8 c2_1
      replace c3_0 := Ext.cell hV11_8 c3_0
      replace c3_1 := Ext.cell hV11_8 c3_1
      replace c3_2 := Ext.cell hV11_8 c3_2
      replace c3_3 := Ext.cell hV11_8 c3_3
      replace c4_0 := Ext.cell hV11_8 c4_0
      replace c4_1 := Ext.cell hV11_8 c4_1
      replace c6_0 := Ext.cell hV11_8 c6_0
      replace c6_1 := Ext.cell hV11_8 c6_1
      replace c6_2 := Ext.cell hV11_8 c6_2
      replace c6_3 := Ext.cell hV11_8 c6_3
      replace c6_4 := Ext.cell hV11_8 c6_4
      replace df := Ext.cell hV11_8 df
      replace dl := Ext.cell hV11_8 dl
      replace dq := Ext.cell hV11_8 dq
      have c11_0 := kV11_8 0 _ rfl
      have c11_1 := kV11_8 1 _ rfl
      clear kV11_8 hV11_8
      clear r11
      apply Mops.last
      · exact fun _ _ => Rops_done
      intro K1 hK1
      go_simp
      refine hK1 _ _ ?_
      clear hK1 K1
      refine Mops.absS (b := n11) (i := 0) [_, _] (somes [cellVal c11_0, cellVal c11_1] (by simp) (by intro j v hj; match j, hj with | 0, hj => (simp at hj; subst hj; exact c11_0) | 1, hj => (simp at hj; subst hj; exact c11_1))) fun P9 hP9 => ?_
      have zP9 := hP9.same
      replace f2 := Put.frz hP9 f2
      replace f3 := Put.frz hP9 f3
      replace f4 := Put.frz hP9 f4
      replace f6 := Put.frz hP9 f6
      replace f11 := Put.frz hP9 f11
      replace xw := Put.to xw hP9 (by omega)
      replace xc := Put.to xc hP9 (by omega)
      replace c2_0 := Put.cell hP9 c2_0 (by omega)
      replace c2_1 := Put.cell hP9 c2_1 (by omega)
      replace c3_0 := Put.cell hP9 c3_0 (by omega)
      replace c3_1 := Put.cell hP9 c3_1 (by omega)
      replace c3_2 := Put.cell hP9 c3_2 (by omega)
      replace c3_3 := Put.cell hP9 c3_3 (by omega)
      replace c4_0 := Put.cell hP9 c4_0 (by omega)
      replace c4_1 := Put.cell hP9 c4_1 (by omega)
      replace c6_0 := Put.cell hP9 c6_0 (by omega)
      replace c6_1 := Put.cell hP9 c6_1 (by omega)
      replace c6_2 := Put.cell hP9 c6_2 (by omega)
      replace c6_3 := Put.cell hP9 c6_3 (by omega)
      replace c6_4 := Put.cell hP9 c6_4 (by omega)
      replace df := Put.cell hP9 df (by omega)
      replace dl := Put.cell hP9 dl (by omega)
      replace dq := Put.cell hP9 dq (by omega)
      clear c11_0
      clear c11_1
      have c11_0 := hP9.new 0 _ rfl
      try simp only [Nat.reduceAdd, Nat.zero_add, Nat.add_zero] at c11_0
      have c11_1 := hP9.new 1 _ rfl
      try simp only [Nat.reduceAdd, Nat.zero_add, Nat.add_zero] at c11_1
      clear hP9
      refine Mops.done ?_
      refine hK _ _ ?_
      clear hK K' gd
      refine Wp.keep [4, 6, 7, 9, 10, 11] fun r13 hkeep => ?_
      obtain ⟨e4_13, e6_13, e7_13, e9_13, e10_13, e11_13, -⟩ := hkeep
      simp [go_sem, e4_12, e6_12, e7_12, e9_12, e10_12, e33_12] at e4_13 e6_13 e7_13 e9_13 e10_13 e11_13
      clear e4_12 e6_12 e7_12 e9_12 e10_12 e33_12
      refine Wp.seq ?_
      refine Wp.seqRegion (.inl rfl) (by kernel_rfl) fun K' gd hK hg => ?_
      clear hg
      go_simp
      refine hK _ _ ?_
      clear hK K' gd
      refine Wp.keep [4, 6, 9, 10, 11, 12] fun r14 hkeep => ?_
      obtain ⟨e4_14, e6_14, e9_14, e10_14, e11_14, e12_14, -⟩ := hkeep
      simp [go_sem, e4_13, e6_13, e7_13, e9_13, e10_13, e11_13] at e4_14 e6_14 e9_14 e10_14 e11_14 e12_14
      clear e4_13 e6_13 e7_13 e9_13 e10_13 e11_13
      refine Wp.block ?_
      refine Wp.loop (fun k ρ ds wk => AllEq [4, 6, 9, 10, 11] ρ r14 ∧ ds = [] ∧ (Chg [n11] P9 wk ∧ (∀ i, wk.frozen? ⟨n11, i, none⟩ = false)) ∧ (ρ 12 = .int .i64 (f0 + (k : Int)) ∧ wk.cell? ⟨n11, 0, none⟩ = some (.int .i64 (longF m ((daysL f0 l0).take k) (lq - f0))) ∧ wk.cell? ⟨n11, 1, none⟩ = some (.int .i64 (lq - f0)))) ((l0 + 1 - f0).toNat) ?_ ?_
      · refine ⟨AllEq.refl _ _, rfl, ⟨Chg.refl _ _, f11⟩, ?_⟩
        exact ⟨by rw [e12_14]; simp, c11_0, c11_1⟩
      · rintro k r15 _ wk hk ⟨hA, rfl, ⟨xl10, gf11⟩, ⟨e12, gc11_0, gc11_1⟩⟩
        obtain ⟨e4_15, e6_15, e9_15, e10_15, e11_15, -⟩ := hA
        rw [e4_14] at e4_15
        rw [e6_14] at e6_15
        rw [e9_14] at e9_15
        rw [e10_14] at e10_15
        rw [e11_14] at e11_15
        have zxl10 := Chg.size xl10
        replace f2 := Chg.fz xl10 c2_0 f2 XN
        replace f3 := Chg.fz xl10 c3_0 f3 XN
        replace f4 := Chg.fz xl10 c4_0 f4 XN
        replace f6 := Chg.fz xl10 c6_0 f6 XN
        clear f11
        replace xw := Chg.to xw xl10 XL
        replace xc := Chg.to xc xl10 XL
        replace c2_0 := Chg.cell xl10 c2_0 XN
        replace c2_1 := Chg.cell xl10 c2_1 XN
        replace c3_0 := Chg.cell xl10 c3_0 XN
        replace c3_1 := Chg.cell xl10 c3_1 XN
        replace c3_2 := Chg.cell xl10 c3_2 XN
        replace c3_3 := Chg.cell xl10 c3_3 XN
        replace c4_0 := Chg.cell xl10 c4_0 XN
        replace c4_1 := Chg.cell xl10 c4_1 XN
        replace c6_0 := Chg.cell xl10 c6_0 XN
        replace c6_1 := Chg.cell xl10 c6_1 XN
        replace c6_2 := Chg.cell xl10 c6_2 XN
        replace c6_3 := Chg.cell xl10 c6_3 XN
        replace c6_4 := Chg.cell xl10 c6_4 XN
        replace df := Chg.cell xl10 df XN
        replace dl := Chg.cell xl10 dl XN
        replace dq := Chg.cell xl10 dq XN
        clear c11_0
        clear c11_1
        have f11 := gf11
        clear gf11
        have c11_0 := gc11_0
        clear gc11_0
        have c11_1 := gc11_1
        clear gc11_1
        refine Wp.seq ?_
        refine Wp.seqRegion (.inl rfl) (by kernel_rfl) fun K' gd hK hg => ?_
        clear hg
        go_simp
        refine hK _ _ ?_
        clear hK K' gd
        refine Wp.keep [4, 6, 9, 10, 11, 12, 59] fun r16 hkeep => ?_
        obtain ⟨e4_16, e6_16, e9_16, e10_16, e11_16, e12_16, e59_16, -⟩ := hkeep
        simp [go_sem, e4_15, e6_15, e9_15, e10_15, e11_15, e12] at e4_16 e6_16 e9_16 e10_16 e11_16 e12_16 e59_16
        clear e4_15 e6_15 e9_15 e10_15 e11_15 e12
        by_cases hk2 : f0 + (k : Int) ≤ l0
        · refine Wp.condT (by go_simp) ?_
          have hst : ∃ _u : Unit, longF m ((daysL f0 l0).take (k + 1)) (lq - f0) = if m.can 0 (f0 + (k : Int)) ∧ (m.at (f0 + (k : Int))).ok = true then min (longF m ((daysL f0 l0).take k) (lq - f0)) (gI (m.at (f0 + (k : Int))).first (m.n - 1) - gI (m.at (f0 + (k : Int))).first 0) else longF m ((daysL f0 l0).take k) (lq - f0) := ⟨(), by rw [daysL_take (by omega)]; exact longF_snoc m _ (f0 + (k : Int)) _⟩
          obtain ⟨d, hd⟩ : ∃ d, f0 + (k : Int) = d := ⟨_, rfl⟩
          rw [hd] at hst
          have hwd : IntKind.i64.wrap (d + 1) = d + 1 := IntWalk.i64_in _ (by omega)
          have hkt : k + 1 ≤ (l0 + 1 - f0).toNat := by omega
          obtain ⟨F, hF9⟩ : ∃ F, ∃ _u : Unit, longF m ((daysL f0 l0).take k) (lq - f0) = F := ⟨_, (), rfl⟩
          rw [hF9.choose_spec] at c11_0 hst
          have hma := hmk.at (d := d) (by omega) (by omega)
          by_cases hon : m.can 0 d
          · skip
            refine Wp.skip ?_
            refine thenK_normal ?_
            refine Wp.seq ?_
            refine Wp.block ?_
            refine Wp.seq ?_
            refine Wp.seqRegion (.inl rfl) (by kernel_rfl) fun K' gd hK hg => ?_
            clear hg
            refine Wops.cut 3 fun K1 hK1 => ?_
            simp only [List.take_succ_cons, List.take_zero]
            go_simp
            refine Wcall (.inl rfl) (on_T (i := 0) hon _ ((hM.ext xc).made (hWm.ext xw)) hmk (by omega)) ?_
            rintro v w6 ⟨rfl, hE⟩
            go_simp
            refine hK1 _ _ ?_
            clear hK1 K1
            simp only [List.drop_succ_cons, List.drop_zero]
            have z17 := Below.size hE
            replace f2 := Ext.fz hE c2_0 f2
            replace f3 := Ext.fz hE c3_0 f3
            replace f4 := Ext.fz hE c4_0 f4
            replace f6 := Ext.fz hE c6_0 f6
            replace f11 := Ext.fz hE c11_0 f11
            replace xw := Ext.trans xw hE
            replace xc := Ext.trans xc hE
            replace xl10 := Chg.ext xl10 hE
            replace c2_0 := Ext.cell hE c2_0
            replace c2_1 := Ext.cell hE c2_1
            replace c3_0 := Ext.cell hE c3_0
            replace c3_1 := Ext.cell hE c3_1
            replace c3_2 := Ext.cell hE c3_2
            replace c3_3 := Ext.cell hE c3_3
            replace c4_0 := Ext.cell hE c4_0
            replace c4_1 := Ext.cell hE c4_1
            replace c6_0 := Ext.cell hE c6_0
            replace c6_1 := Ext.cell hE c6_1
            replace c6_2 := Ext.cell hE c6_2
            replace c6_3 := Ext.cell hE c6_3
            replace c6_4 := Ext.cell hE c6_4
            replace df := Ext.cell hE df
            replace dl := Ext.cell hE dl
            replace dq := Ext.cell hE dq
            replace c11_0 := Ext.cell hE c11_0
            replace c11_1 := Ext.cell hE c11_1
            clear hE
            go_simp
            refine hK _ _ ?_
            clear hK K' gd
            refine Wp.keep [4, 6, 9, 10, 11, 12, 65] fun r18 hkeep => ?_
            obtain ⟨e4_18, e6_18, e9_18, e10_18, e11_18, e12_18, e65_18, -⟩ := hkeep
            simp [go_sem, e4_16, e6_16, e9_16, e10_16, e11_16, e12_16, e59_16] at e4_18 e6_18 e9_18 e10_18 e11_18 e12_18 e65_18
            clear e4_16 e6_16 e9_16 e10_16 e11_16 e12_16 e59_16
            refine Wp.condF (by go_simp) ?_
            refine Wp.skip ?_
            refine thenK_normal ?_
            refine Wp.seqRegion (.inl rfl) (by kernel_rfl) fun K' gd hK hg => ?_
            clear hg
            refine Wops.cut 3 fun K1 hK1 => ?_
            simp only [List.take_succ_cons, List.take_zero]
            go_simp
            refine hK1 _ _ ?_
            clear hK1 K1
            simp only [List.drop_succ_cons, List.drop_zero]
            refine Wops.absA fun V13_11 n13 hV13_11 => ?_
            obtain ⟨q13, hV13_11, s13, kV13_11, f13, r13⟩ := hV13_11
            try simp only [q13] at kV13_11 f13 r13 ⊢
            replace f2 := Ext.fz hV13_11 c2_0 f2
            replace f3 := Ext.fz hV13_11 c3_0 f3
            replace f4 := Ext.fz hV13_11 c4_0 f4
            replace f6 := Ext.fz hV13_11 c6_0 f6
            replace f11 := Ext.fz hV13_11 c11_0 f11
            replace xw := Ext.trans xw hV13_11
            replace xc := Ext.trans xc hV13_11
            replace xl10 := Chg.ext xl10 hV13_11
            replace c2_0 := Ext.cell hV13_11 c2_0
            replace c2_1 := Ext.cell hV13_11 c2_1
            replace c3_0 := Ext.cell hV13_11 c3_0
            replace c3_1 := Ext.cell hV13_11 c3_1
            replace c3_2 := Ext.cell hV13_11 c3_2
            replace c3_3 := Ext.cell hV13_11 c3_3
            replace c4_0 := Ext.cell hV13_11 c4_0
            replace c4_1 := Ext.cell hV13_11 c4_1
            replace c6_0 := Ext.cell hV13_11 c6_0
            replace c6_1 := Ext.cell hV13_11 c6_1
            replace c6_2 := Ext.cell hV13_11 c6_2
            replace c6_3 := Ext.cell hV13_11 c6_3
            replace c6_4 := Ext.cell hV13_11 c6_4
            replace df := Ext.cell hV13_11 df
            replace dl := Ext.cell hV13_11 dl
            replace dq := Ext.cell hV13_11 dq
            replace c11_0 := Ext.cell hV13_11 c11_0
            replace c11_1 := Ext.cell hV13_11 c11_1
            have c13_0 := kV13_11 0 _ rfl
            have c13_1 := kV13_11 1 _ rfl
            have c13_2 := kV13_11 2 _ rfl
            have c13_3 := kV13_11 3 _ rfl
            have c13_4 := kV13_11 4 _ rfl
            clear kV13_11 hV13_11
            clear r13
            try simp only [Wops_nil, updO_some, updO_none]
            refine hK _ _ ?_
            clear hK K' gd
            refine Wp.keep [4, 6, 9, 10, 11, 12, 13] fun r19 hkeep => ?_
            obtain ⟨e4_19, e6_19, e9_19, e10_19, e11_19, e12_19, e13_19, -⟩ := hkeep
            simp [go_sem, e4_18, e6_18, e9_18, e10_18, e11_18, e12_18, e65_18] at e4_19 e6_19 e9_19 e10_19 e11_19 e12_19 e13_19
            clear e4_18 e6_18 e9_18 e10_18 e11_18 e12_18 e65_18
            refine Wp.seqRegion (.inl rfl) (by kernel_rfl) fun K' gd hK hg => ?_
            clear hg
            refine Wops.cut 4 fun K1 hK1 => ?_
            simp only [List.take_succ_cons, List.take_zero]
            go_simp
            refine hK1 _ _ ?_
            clear hK1 K1
            simp only [List.drop_succ_cons, List.drop_zero]
            refine Wops.absS (b := n13) (i := 1) [_] (somes [cellVal c13_1] (by simp) (by intro j v hj; match j, hj with | 0, hj => (simp at hj; subst hj; exact c13_1))) fun P12 hP12 => ?_
            have zP12 := hP12.same
            replace f2 := Put.frz hP12 f2
            replace f3 := Put.frz hP12 f3
            replace f4 := Put.frz hP12 f4
            replace f6 := Put.frz hP12 f6
            replace f11 := Put.frz hP12 f11
            replace f13 := Put.frz hP12 f13
            replace xw := Put.to xw hP12 (by omega)
            replace xc := Put.to xc hP12 (by omega)
            replace xl10 := Put.more xl10 hP12 (.inl (by omega))
            replace c2_0 := Put.cell hP12 c2_0 (by omega)
            replace c2_1 := Put.cell hP12 c2_1 (by omega)
            replace c3_0 := Put.cell hP12 c3_0 (by omega)
            replace c3_1 := Put.cell hP12 c3_1 (by omega)
            replace c3_2 := Put.cell hP12 c3_2 (by omega)
            replace c3_3 := Put.cell hP12 c3_3 (by omega)
            replace c4_0 := Put.cell hP12 c4_0 (by omega)
            replace c4_1 := Put.cell hP12 c4_1 (by omega)
            replace c6_0 := Put.cell hP12 c6_0 (by omega)
            replace c6_1 := Put.cell hP12 c6_1 (by omega)
            replace c6_2 := Put.cell hP12 c6_2 (by omega)
            replace c6_3 := Put.cell hP12 c6_3 (by omega)
            replace c6_4 := Put.cell hP12 c6_4 (by omega)
            replace df := Put.cell hP12 df (by omega)
            replace dl := Put.cell hP12 dl (by omega)
            replace dq := Put.cell hP12 dq (by omega)
            replace c11_0 := Put.cell hP12 c11_0 (by omega)
            replace c11_1 := Put.cell hP12 c11_1 (by omega)
            replace c13_0 := Put.cellOff hP12 c13_0 (by simp)
            clear c13_1
            replace c13_2 := Put.cellOff hP12 c13_2 (by simp)
            replace c13_3 := Put.cellOff hP12 c13_3 (by simp)
            replace c13_4 := Put.cellOff hP12 c13_4 (by simp)
            have c13_1 := hP12.new 0 _ rfl
            try simp only [Nat.reduceAdd, Nat.zero_add, Nat.add_zero] at c13_1
            clear hP12
            try simp only [Wops_nil, updO_some, updO_none]
            refine hK _ _ ?_
            clear hK K' gd
            refine Wp.keep [4, 6, 9, 10, 11, 12, 13] fun r20 hkeep => ?_
            obtain ⟨e4_20, e6_20, e9_20, e10_20, e11_20, e12_20, e13_20, -⟩ := hkeep
            simp [go_sem, e4_19, e6_19, e9_19, e10_19, e11_19, e12_19, e13_19] at e4_20 e6_20 e9_20 e10_20 e11_20 e12_20 e13_20
            clear e4_19 e6_19 e9_19 e10_19 e11_19 e12_19 e13_19
            refine Wp.seqRegion (.inl rfl) (by kernel_rfl) fun K' gd hK hg => ?_
            clear hg
            refine Wops.cut 2 fun K1 hK1 => ?_
            simp only [List.take_succ_cons, List.take_zero]
            go_simp
            refine Wcall (.inl rfl) (first_c _ (m.at d) _ (((hM.at d).ext xc).made (hWm.ext xw)) hma) ?_
            rintro v w7 ⟨t, rfl, hI2, hE⟩
            go_simp
            refine hK1 _ _ ?_
            clear hK1 K1
            simp only [List.drop_succ_cons, List.drop_zero]
            have z21 := Below.size hE
            replace f2 := Ext.fz hE c2_0 f2
            replace f3 := Ext.fz hE c3_0 f3
            replace f4 := Ext.fz hE c4_0 f4
            replace f6 := Ext.fz hE c6_0 f6
            replace f11 := Ext.fz hE c11_0 f11
            replace f13 := Ext.fz hE c13_0 f13
            replace xw := Ext.trans xw hE
            replace xc := Ext.trans xc hE
            replace xl10 := Chg.ext xl10 hE
            replace c2_0 := Ext.cell hE c2_0
            replace c2_1 := Ext.cell hE c2_1
            replace c3_0 := Ext.cell hE c3_0
            replace c3_1 := Ext.cell hE c3_1
            replace c3_2 := Ext.cell hE c3_2
            replace c3_3 := Ext.cell hE c3_3
            replace c4_0 := Ext.cell hE c4_0
            replace c4_1 := Ext.cell hE c4_1
            replace c6_0 := Ext.cell hE c6_0
            replace c6_1 := Ext.cell hE c6_1
            replace c6_2 := Ext.cell hE c6_2
            replace c6_3 := Ext.cell hE c6_3
            replace c6_4 := Ext.cell hE c6_4
            replace df := Ext.cell hE df
            replace dl := Ext.cell hE dl
            replace dq := Ext.cell hE dq
            replace c11_0 := Ext.cell hE c11_0
            replace c11_1 := Ext.cell hE c11_1
            replace c13_0 := Ext.cell hE c13_0
            replace c13_2 := Ext.cell hE c13_2
            replace c13_3 := Ext.cell hE c13_3
            replace c13_4 := Ext.cell hE c13_4
            replace c13_1 := Ext.cell hE c13_1
            clear hE
            go_simp
            refine hK _ _ ?_
            clear hK K' gd
            refine Wp.keep [4, 6, 9, 10, 11, 12, 14, 15] fun r22 hkeep => ?_
            obtain ⟨e4_22, e6_22, e9_22, e10_22, e11_22, e12_22, e14_22, e15_22, -⟩ := hkeep
            simp [go_sem, e4_20, e6_20, e9_20, e10_20, e11_20, e12_20, e13_20] at e4_22 e6_22 e9_22 e10_22 e11_22 e12_22 e14_22 e15_22
            clear e4_20 e6_20 e9_20 e10_20 e11_20 e12_20 e13_20
            refine Wp.seqRegion (.inl rfl) (by kernel_rfl) fun K' gd hK hg => ?_
            clear hg
            go_simp
            refine hK _ _ ?_
            clear hK K' gd
            refine Wp.keep [4, 6, 9, 10, 11, 12, 14, 75] fun r23 hkeep => ?_
            obtain ⟨e4_23, e6_23, e9_23, e10_23, e11_23, e12_23, e14_23, e75_23, -⟩ := hkeep
            simp [go_sem, e4_22, e6_22, e9_22, e10_22, e11_22, e12_22, e14_22, e15_22] at e4_23 e6_23 e9_23 e10_23 e11_23 e12_23 e14_23 e75_23
            clear e4_22 e6_22 e9_22 e10_22 e11_22 e12_22 e14_22 e15_22
            by_cases hok2 : (m.at d).ok = true
            · refine Wp.condT (by go_simp) ?_
              obtain ⟨hfl, -, hff, -⟩ := hma.of_ok hok2
              have hn : (m.at d).n = m.n := rfl
              have hqq := hq.choose_spec
              have g1 := hff q (by omega)
              have g2 := hff 0 (by omega)
              have g3 := hma.b0
              have g4 := hma.e7
              obtain ⟨b9, k9, c9, rfl, hb9, -, hc9⟩ := hI2.get (k := 0) (by omega)
              have z0 := hc9 0 (by omega)
              have zq := hc9 q (by omega)
              simp only [Nat.add_zero] at z0
              obtain ⟨x0, hx0⟩ : ∃ x0, ∃ _u : Unit, gI (m.at d).first 0 = x0 := ⟨_, (), rfl⟩
              obtain ⟨xq, hxq⟩ : ∃ xq, ∃ _u : Unit, gI (m.at d).first q = xq := ⟨_, (), rfl⟩
              rw [hx0.choose_spec] at z0 g2
              rw [hxq.choose_spec] at zq g1
              have hw5 : IntKind.i64.wrap (xq - x0) = xq - x0 := IntWalk.i64_in _ (by omega)
              have hl1 : 0 < (m.at d).first.length := by omega
              have hl2 : (q : Int) < ((m.at d).first.length : Int) := by omega
              rw [if_pos ⟨hon, hok2⟩, show m.n - 1 = q by omega, hx0.choose_spec, hxq.choose_spec] at hst
              clear hfl hff hn hqq hc9
              refine Wp.loneDraw (.inl rfl) mixed [([0, 1, 2, 3, 4], none), ([5, 6, 7, 8, 9], none), ([10, 11], some (12, true))] (by kernel_rfl) fun K' gd hK hg => ?_
              clear hg
              simp only [pick, nth, List.map_cons, List.map_nil, Option.map_none, Option.map_some]
              refine Mops.absD fun D13 hD13 zD13 => ?_
              replace f2 := Ext.fz hD13 c2_0 f2
              replace f3 := Ext.fz hD13 c3_0 f3
              replace f4 := Ext.fz hD13 c4_0 f4
              replace f6 := Ext.fz hD13 c6_0 f6
              replace f11 := Ext.fz hD13 c11_0 f11
              replace f13 := Ext.fz hD13 c13_0 f13
              replace hI2 := hI2.ext hD13
              replace xw := Ext.trans xw hD13
              replace xc := Ext.trans xc hD13
              replace xl10 := Chg.ext xl10 hD13
              replace c2_0 := Ext.cell hD13 c2_0
              replace c2_1 := Ext.cell hD13 c2_1
              replace c3_0 := Ext.cell hD13 c3_0
              replace c3_1 := Ext.cell hD13 c3_1
              replace c3_2 := Ext.cell hD13 c3_2
              replace c3_3 := Ext.cell hD13 c3_3
              replace c4_0 := Ext.cell hD13 c4_0
              replace c4_1 := Ext.cell hD13 c4_1
              replace c6_0 := Ext.cell hD13 c6_0
              replace c6_1 := Ext.cell hD13 c6_1
              replace c6_2 := Ext.cell hD13 c6_2
              replace c6_3 := Ext.cell hD13 c6_3
              replace c6_4 := Ext.cell hD13 c6_4
              replace df := Ext.cell hD13 df
              replace dl := Ext.cell hD13 dl
              replace dq := Ext.cell hD13 dq
              replace c11_0 := Ext.cell hD13 c11_0
              replace c11_1 := Ext.cell hD13 c11_1
              replace c13_0 := Ext.cell hD13 c13_0
              replace c13_2 := Ext.cell hD13 c13_2
              replace c13_3 := Ext.cell hD13 c13_3
              replace c13_4 := Ext.cell hD13 c13_4
              replace c13_1 := Ext.cell hD13 c13_1
              replace z0 := Ext.cell hD13 z0
              replace zq := Ext.cell hD13 zq
              clear hD13
              apply Mops.none
              · intro w' hE'
                have hC' := hE'.cellsS
                go_simp
                with_reducible rfl
              apply Mops.none
              · intro w' hE'
                have hC' := hE'.cellsS
                go_simp
                with_reducible rfl
              apply Mops.last
              · intro w' hE'
                have hC' := hE'.cellsS
                go_simp
                with_reducible rfl
              intro K1 hK1
              go_simp
              refine hK1 _ _ ?_
              clear hK1 K1
              refine Mops.absS (b := n11) (i := 0) [_] (somes [cellVal c11_0] (by simp) (by intro j v hj; match j, hj with | 0, hj => (simp at hj; subst hj; exact c11_0))) fun P14 hP14 => ?_
              have zP14 := hP14.same
              replace f2 := Put.frz hP14 f2
              replace f3 := Put.frz hP14 f3
              replace f4 := Put.frz hP14 f4
              replace f6 := Put.frz hP14 f6
              replace f11 := Put.frz hP14 f11
              replace f13 := Put.frz hP14 f13
              replace hI2 := hI2.put hP14 (by omega)
              replace xw := Put.to xw hP14 (by omega)
              replace xc := Put.to xc hP14 (by omega)
              replace xl10 := Put.more xl10 hP14 (.inr (by simp))
              replace c2_0 := Put.cell hP14 c2_0 (by omega)
              replace c2_1 := Put.cell hP14 c2_1 (by omega)
              replace c3_0 := Put.cell hP14 c3_0 (by omega)
              replace c3_1 := Put.cell hP14 c3_1 (by omega)
              replace c3_2 := Put.cell hP14 c3_2 (by omega)
              replace c3_3 := Put.cell hP14 c3_3 (by omega)
              replace c4_0 := Put.cell hP14 c4_0 (by omega)
              replace c4_1 := Put.cell hP14 c4_1 (by omega)
              replace c6_0 := Put.cell hP14 c6_0 (by omega)
              replace c6_1 := Put.cell hP14 c6_1 (by omega)
              replace c6_2 := Put.cell hP14 c6_2 (by omega)
              replace c6_3 := Put.cell hP14 c6_3 (by omega)
              replace c6_4 := Put.cell hP14 c6_4 (by omega)
              replace df := Put.cell hP14 df (by omega)
              replace dl := Put.cell hP14 dl (by omega)
              replace dq := Put.cell hP14 dq (by omega)
              clear c11_0
              replace c11_1 := Put.cellOff hP14 c11_1 (by simp)
              replace c13_0 := Put.cell hP14 c13_0 (by omega)
              replace c13_2 := Put.cell hP14 c13_2 (by omega)
              replace c13_3 := Put.cell hP14 c13_3 (by omega)
              replace c13_4 := Put.cell hP14 c13_4 (by omega)
              replace c13_1 := Put.cell hP14 c13_1 (by omega)
              replace z0 := Put.cell hP14 z0 (by omega)
              replace zq := Put.cell hP14 zq (by omega)
              have c11_0 := hP14.new 0 _ rfl
              try simp only [Nat.reduceAdd, Nat.zero_add, Nat.add_zero] at c11_0
              clear hP14
              refine Mops.done ?_
              refine hK _ _ ?_
              clear hK K' gd
              refine Ends.keep [4, 6, 9, 10, 11, 12] fun r24 hkeep => ?_
              obtain ⟨e4_24, e6_24, e9_24, e10_24, e11_24, e12_24, -⟩ := hkeep
              simp [go_sem, e4_23, e6_23, e9_23, e10_23, e11_23, e12_23, e14_23, e75_23] at e4_24 e6_24 e9_24 e10_24 e11_24 e12_24
              clear e4_23 e6_23 e9_23 e10_23 e11_23 e12_23 e14_23 e75_23
              refine Ends.mk ?_
              refine blockK_normal ?_
              refine thenK_normal ?_
              refine Wp.loneRegion (.inl rfl) (by kernel_rfl) fun K' gd hK hg => ?_
              clear hg
              go_simp
              refine hK _ _ ?_
              clear hK K' gd
              refine Ends.keep [4, 6, 9, 10, 11, 12] fun r25 hkeep => ?_
              obtain ⟨e4_25, e6_25, e9_25, e10_25, e11_25, e12_25, -⟩ := hkeep
              simp [go_sem, e4_24, e6_24, e9_24, e10_24, e11_24, e12_24] at e4_25 e6_25 e9_25 e10_25 e11_25 e12_25
              clear e4_24 e6_24 e9_24 e10_24 e11_24 e12_24
              refine Ends.mk ?_
              refine thenK_normal ⟨by omega, ⟨by rw [e4_25, e4_14], by rw [e6_25, e6_14], by rw [e9_25, e9_14], by rw [e10_25, e10_14], by rw [e11_25, e11_14], trivial⟩, rfl, ⟨xl10, f11⟩, ?_⟩
              refine ⟨by rw [e12_25]; congr 1; push_cast; omega, ?_, c11_1⟩
              rw [hst.choose_spec, show min F (xq - x0) = (if xq - x0 < F then xq - x0 else F) by rw [Int.min_def]; split <;> split <;> omega]; exact c11_0
            · refine Wp.condF (by go_simp) ?_
              rw [if_neg (fun h => hok2 h.2)] at hst
              refine Wp.skip ?_
              refine blockK_normal ?_
              refine thenK_normal ?_
              refine Wp.loneRegion (.inl rfl) (by kernel_rfl) fun K' gd hK hg => ?_
              clear hg
              go_simp
              refine hK _ _ ?_
              clear hK K' gd
              refine Ends.keep [4, 6, 9, 10, 11, 12] fun r26 hkeep => ?_
              obtain ⟨e4_26, e6_26, e9_26, e10_26, e11_26, e12_26, -⟩ := hkeep
              simp [go_sem, e4_23, e6_23, e9_23, e10_23, e11_23, e12_23, e14_23, e75_23] at e4_26 e6_26 e9_26 e10_26 e11_26 e12_26
              clear e4_23 e6_23 e9_23 e10_23 e11_23 e12_23 e14_23 e75_23
              refine Ends.mk ?_
              refine thenK_normal ⟨by omega, ⟨by rw [e4_26, e4_14], by rw [e6_26, e6_14], by rw [e9_26, e9_14], by rw [e10_26, e10_14], by rw [e11_26, e11_14], trivial⟩, rfl, ⟨xl10, f11⟩, ?_⟩
              exact ⟨by rw [e12_26]; congr 1; push_cast; omega, by rw [hst.choose_spec]; exact c11_0, c11_1⟩
          · skip
            refine Wp.skip ?_
            refine thenK_normal ?_
            refine Wp.seq ?_
            refine Wp.block ?_
            refine Wp.seq ?_
            refine Wp.seqRegion (.inl rfl) (by kernel_rfl) fun K' gd hK hg => ?_
            clear hg
            refine Wops.cut 3 fun K1 hK1 => ?_
            simp only [List.take_succ_cons, List.take_zero]
            go_simp
            refine Wcall (.inl rfl) (on_F (i := 0) hon _ ((hM.ext xc).made (hWm.ext xw)) hmk (by omega)) ?_
            rintro v w6 ⟨rfl, hE⟩
            go_simp
            refine hK1 _ _ ?_
            clear hK1 K1
            simp only [List.drop_succ_cons, List.drop_zero]
            have z27 := Below.size hE
            replace f2 := Ext.fz hE c2_0 f2
            replace f3 := Ext.fz hE c3_0 f3
            replace f4 := Ext.fz hE c4_0 f4
            replace f6 := Ext.fz hE c6_0 f6
            replace f11 := Ext.fz hE c11_0 f11
            replace xw := Ext.trans xw hE
            replace xc := Ext.trans xc hE
            replace xl10 := Chg.ext xl10 hE
            replace c2_0 := Ext.cell hE c2_0
            replace c2_1 := Ext.cell hE c2_1
            replace c3_0 := Ext.cell hE c3_0
            replace c3_1 := Ext.cell hE c3_1
            replace c3_2 := Ext.cell hE c3_2
            replace c3_3 := Ext.cell hE c3_3
            replace c4_0 := Ext.cell hE c4_0
            replace c4_1 := Ext.cell hE c4_1
            replace c6_0 := Ext.cell hE c6_0
            replace c6_1 := Ext.cell hE c6_1
            replace c6_2 := Ext.cell hE c6_2
            replace c6_3 := Ext.cell hE c6_3
            replace c6_4 := Ext.cell hE c6_4
            replace df := Ext.cell hE df
            replace dl := Ext.cell hE dl
            replace dq := Ext.cell hE dq
            replace c11_0 := Ext.cell hE c11_0
            replace c11_1 := Ext.cell hE c11_1
            clear hE
            go_simp
            refine hK _ _ ?_
            clear hK K' gd
            refine Wp.keep [4, 6, 9, 10, 11, 12, 65] fun r28 hkeep => ?_
            obtain ⟨e4_28, e6_28, e9_28, e10_28, e11_28, e12_28, e65_28, -⟩ := hkeep
            simp [go_sem, e4_16, e6_16, e9_16, e10_16, e11_16, e12_16, e59_16] at e4_28 e6_28 e9_28 e10_28 e11_28 e12_28 e65_28
            clear e4_16 e6_16 e9_16 e10_16 e11_16 e12_16 e59_16
            refine Wp.condT (by go_simp) ?_
            rw [if_neg (fun h => hon h.1)] at hst
            refine Wp.exit ?_
            refine thenK_exit ?_
            refine blockK_here ?_
            refine thenK_normal ?_
            refine Wp.loneRegion (.inl rfl) (by kernel_rfl) fun K' gd hK hg => ?_
            clear hg
            go_simp
            refine hK _ _ ?_
            clear hK K' gd
            refine Ends.keep [4, 6, 9, 10, 11, 12] fun r29 hkeep => ?_
            obtain ⟨e4_29, e6_29, e9_29, e10_29, e11_29, e12_29, -⟩ := hkeep
            simp [go_sem, e4_28, e6_28, e9_28, e10_28, e11_28, e12_28, e65_28] at e4_29 e6_29 e9_29 e10_29 e11_29 e12_29
            clear e4_28 e6_28 e9_28 e10_28 e11_28 e12_28 e65_28
            refine Ends.mk ?_
            refine thenK_normal ⟨by omega, ⟨by rw [e4_29, e4_14], by rw [e6_29, e6_14], by rw [e9_29, e9_14], by rw [e10_29, e10_14], by rw [e11_29, e11_14], trivial⟩, rfl, ⟨xl10, f11⟩, ?_⟩
            exact ⟨by rw [e12_29]; congr 1; push_cast; omega, by rw [hst.choose_spec]; exact c11_0, c11_1⟩
        · refine Wp.condF (by go_simp) ?_
          refine Wp.exit ?_
          refine thenK_exit ?_
          refine thenK_exit ?_
          refine blockK_here ?_
          refine thenK_normal ?_
          refine Wp.seqRegion (.inl rfl) (by kernel_rfl) fun K' gd hK hg => ?_
          clear hg
          refine Wops.cut 2 fun K1 hK1 => ?_
          simp only [List.take_succ_cons, List.take_zero]
          go_simp
          refine hK1 _ _ ?_
          clear hK1 K1
          simp only [List.drop_succ_cons, List.drop_zero]
          refine Wops.absS (b := n4) (i := 0) [_, _] (somes [cellVal c4_0, cellVal c4_1] (by simp) (by intro j v hj; match j, hj with | 0, hj => (simp at hj; subst hj; exact c4_0) | 1, hj => (simp at hj; subst hj; exact c4_1))) fun P15 hP15 => ?_
          have zP15 := hP15.same
          replace f2 := Put.frz hP15 f2
          replace f3 := Put.frz hP15 f3
          replace f4 := Put.frz hP15 f4
          replace f6 := Put.frz hP15 f6
          replace f11 := Put.frz hP15 f11
          replace xw := Put.to xw hP15 (by omega)
          clear xc
          clear xl10
          replace c2_0 := Put.cell hP15 c2_0 (by omega)
          replace c2_1 := Put.cell hP15 c2_1 (by omega)
          replace c3_0 := Put.cell hP15 c3_0 (by omega)
          replace c3_1 := Put.cell hP15 c3_1 (by omega)
          replace c3_2 := Put.cell hP15 c3_2 (by omega)
          replace c3_3 := Put.cell hP15 c3_3 (by omega)
          clear c4_0
          clear c4_1
          replace c6_0 := Put.cell hP15 c6_0 (by omega)
          replace c6_1 := Put.cell hP15 c6_1 (by omega)
          replace c6_2 := Put.cell hP15 c6_2 (by omega)
          replace c6_3 := Put.cell hP15 c6_3 (by omega)
          replace c6_4 := Put.cell hP15 c6_4 (by omega)
          replace df := Put.cell hP15 df (by omega)
          replace dl := Put.cell hP15 dl (by omega)
          replace dq := Put.cell hP15 dq (by omega)
          replace c11_0 := Put.cell hP15 c11_0 (by omega)
          replace c11_1 := Put.cell hP15 c11_1 (by omega)
          have c4_0 := hP15.new 0 _ rfl
          try simp only [Nat.reduceAdd, Nat.zero_add, Nat.add_zero] at c4_0
          have c4_1 := hP15.new 1 _ rfl
          try simp only [Nat.reduceAdd, Nat.zero_add, Nat.add_zero] at c4_1
          clear hP15
          go_simp
          refine hK _ _ ?_
          clear hK K' gd
          refine Wp.keep [4, 5] fun r30 hkeep => ?_
          obtain ⟨e4_30, e5_30, -⟩ := hkeep
          simp [go_sem, e4_16, e6_16, e9_16, e10_16, e11_16, e12_16, e59_16] at e4_30 e5_30
          clear e4_16 e6_16 e9_16 e10_16 e11_16 e12_16 e59_16
          refine Wp.ret ?_
          refine endK_cell_tmp (v := .agg #[cellVal c4_0, cellVal c4_1]) Try.results44 (by decide) (by decide) e4_30 (by dsimp only [cellVal]; go_simp) ?_
          rw [e5_30]
          dsimp only [cellVal]
          have hkM : k = (l0 + 1 - f0).toNat := by omega
          exact ⟨by rw [h2, show longS m = (longF m ((daysL f0 l0).take k) (lq - f0), lq - f0) by unfold longS; rw [if_neg (by have := hq.choose_spec; omega), hf0.choose_spec, hl0.choose_spec, hhi.choose_spec, hkM, List.take_of_length_le (by rw [daysL_len]; exact Nat.le_refl _)]], xw⟩
  · skip
    refine Wp.seq ?_
    refine Wp.seqRegion (.inl rfl) (by kernel_rfl) fun K' gd hK hg => ?_
    clear hg
    go_simp
    refine hK _ _ ?_
    clear hK K' gd
    refine Wp.keep [4, 6, 7, 8, 24] fun r31 hkeep => ?_
    obtain ⟨e4_31, e6_31, e7_31, e8_31, e24_31, -⟩ := hkeep
    simp [go_sem, e4_4, e6_4, e7_4, e8_4] at e4_31 e6_31 e7_31 e8_31 e24_31
    clear e4_4 e6_4 e7_4 e8_4
    refine Wp.condT (by go_simp) ?_
    refine Wp.seqRegion (.inl rfl) (by kernel_rfl) fun K' gd hK hg => ?_
    clear hg
    refine Wops.cut 3 fun K1 hK1 => ?_
    simp only [List.take_succ_cons, List.take_zero]
    go_simp
    refine hK1 _ _ ?_
    clear hK1 K1
    simp only [List.drop_succ_cons, List.drop_zero]
    refine Wops.absS (b := n4) (i := 0) [_, _] (somes [cellVal c4_0, cellVal c4_1] (by simp) (by intro j v hj; match j, hj with | 0, hj => (simp at hj; subst hj; exact c4_0) | 1, hj => (simp at hj; subst hj; exact c4_1))) fun P16 hP16 => ?_
    have zP16 := hP16.same
    replace f2 := Put.frz hP16 f2
    replace f3 := Put.frz hP16 f3
    replace f4 := Put.frz hP16 f4
    replace f6 := Put.frz hP16 f6
    replace hI := hI.put hP16 (by omega)
    replace xw := Put.to xw hP16 (by omega)
    clear xc
    replace c2_0 := Put.cell hP16 c2_0 (by omega)
    replace c2_1 := Put.cell hP16 c2_1 (by omega)
    replace c3_0 := Put.cell hP16 c3_0 (by omega)
    replace c3_1 := Put.cell hP16 c3_1 (by omega)
    replace c3_2 := Put.cell hP16 c3_2 (by omega)
    replace c3_3 := Put.cell hP16 c3_3 (by omega)
    clear c4_0
    clear c4_1
    replace c6_0 := Put.cell hP16 c6_0 (by omega)
    replace c6_1 := Put.cell hP16 c6_1 (by omega)
    replace c6_2 := Put.cell hP16 c6_2 (by omega)
    replace c6_3 := Put.cell hP16 c6_3 (by omega)
    replace c6_4 := Put.cell hP16 c6_4 (by omega)
    have c4_0 := hP16.new 0 _ rfl
    try simp only [Nat.reduceAdd, Nat.zero_add, Nat.add_zero] at c4_0
    have c4_1 := hP16.new 1 _ rfl
    try simp only [Nat.reduceAdd, Nat.zero_add, Nat.add_zero] at c4_1
    clear hP16
    go_simp
    refine hK _ _ ?_
    clear hK K' gd
    refine Wp.keep [4, 5] fun r32 hkeep => ?_
    obtain ⟨e4_32, e5_32, -⟩ := hkeep
    simp [go_sem, e4_31, e6_31, e7_31, e8_31, e24_31] at e4_32 e5_32
    clear e4_31 e6_31 e7_31 e8_31 e24_31
    refine Wp.ret ?_
    refine thenK_ret ?_
    refine endK_cell_tmp (v := .agg #[cellVal c4_0, cellVal c4_1]) Try.results44 (by decide) (by decide) e4_32 (by dsimp only [cellVal]; go_simp) ?_
    rw [e5_32]
    dsimp only [cellVal]
    exact ⟨by rw [if_neg h2], xw⟩
end Go.Proofs.Ytnjajbkkgfohaaa
namespace Go.Proofs.Ytnjajbkkgfohaaa
open Go.RowKit Go.Wk Go.Proofs
attribute [local irreducible] Go.Wk.Wops Go.Wk.Wp Go.Wk.Mtree Go.Wk.Mops
set_option maxHeartbeats 4000000
set_option maxRecDepth 20000

theorem isNaN_c (x : Int) (w : World) : CallsV Try.prog 177 #[.int .i64 x] w fun v w' => v = .bool false ∧ Ext w w' := by
  refine Wp.fn Try.func177 rfl Try.ntmps177 (by simp) ?_
  have xw := Ext.refl w
  refine Wp.keep [0] fun r1 hkeep => ?_
  obtain ⟨e0_1, -⟩ := hkeep
  simp [go_sem] at e0_1
  refine Wp.seqRegion (.inl rfl) (by kernel_rfl) fun K' gd hK hg => ?_
  clear hg
  go_simp
  refine hK _ _ ?_
  clear hK K' gd
  refine Wp.keep [0] fun r2 hkeep => ?_
  obtain ⟨e0_2, -⟩ := hkeep
  simp [go_sem, e0_1] at e0_2
  clear e0_1
  refine Wp.seqRegion (.inl rfl) (by kernel_rfl) fun K' gd hK hg => ?_
  clear hg
  go_simp
  refine hK _ _ ?_
  clear hK K' gd
  refine Wp.keep [2] fun r3 hkeep => ?_
  obtain ⟨e2_3, -⟩ := hkeep
  simp [go_sem, e0_2] at e2_3
  clear e0_2
  refine Wp.ret ?_
  refine endK_tmp Try.results177 (by decide) ?_
  rw [e2_3]
  exact ⟨rfl, xw⟩
theorem less_c (x y : Int) (w : World) : CallsV Try.prog 164 #[.int .i64 x, .int .i64 y] w fun v w' => v = .bool (decide (x < y)) ∧ Ext w w' := by
  refine Wp.fn Try.func164 rfl Try.ntmps164 (by simp) ?_
  have xw := Ext.refl w
  refine Wp.keep [0, 1] fun r1 hkeep => ?_
  obtain ⟨e0_1, e1_1, -⟩ := hkeep
  simp [go_sem] at e0_1 e1_1
  refine Wp.seqRegion (.inl rfl) (by kernel_rfl) fun K' gd hK hg => ?_
  clear hg
  go_simp
  refine hK _ _ ?_
  clear hK K' gd
  refine Wp.keep [0, 1] fun r2 hkeep => ?_
  obtain ⟨e0_2, e1_2, -⟩ := hkeep
  simp [go_sem, e0_1, e1_1] at e0_2 e1_2
  clear e0_1 e1_1
  refine Wp.seqRegion (.inl rfl) (by kernel_rfl) fun K' gd hK hg => ?_
  have g2 : gd 2 = some 7 := hg 2
  have g7 : gd 7 = some 12 := hg 7
  clear hg
  refine Wops.cut 2 fun K1 hK1 => ?_
  simp only [List.take_succ_cons, List.take_zero]
  go_simp
  refine Wcall (.inl rfl) (isNaN_c x _) ?_
  rintro v w2 ⟨rfl, hE⟩
  go_simp
  refine hK1 _ _ ?_
  clear hK1 K1
  simp only [List.drop_succ_cons, List.drop_zero]
  have z3 := Below.size hE
  replace xw := Ext.trans xw hE
  clear hE
  refine Wops.cut 3 fun K1 hK1 => ?_
  simp only [List.take_succ_cons, List.take_zero]
  go_simp
  refine hK1 _ _ ?_
  clear hK1 K1
  simp only [List.drop_succ_cons, List.drop_zero]
  go_simp
  refine hK _ _ ?_
  clear hK K' gd g2 g7
  refine Wp.keep [4] fun r4 hkeep => ?_
  obtain ⟨e4_4, -⟩ := hkeep
  simp [go_sem, e0_2, e1_2] at e4_4
  clear e0_2 e1_2
  refine Wp.ret ?_
  refine endK_tmp Try.results164 (by decide) ?_
  rw [e4_4]
  exact ⟨by first | rfl | go_simp, xw⟩
theorem len64_c (n : Nat) (h : n ≤ 12) (w : World) : CallsV Try.prog 168 #[.int .u64 (n : Int)] w fun v w' => (∃ r, v = .int .i64 r) ∧ Ext w w' := by
  have h1 : ¬ (4294967296 : Int) ≤ (n : Int) := by omega
  have h2 : ¬ (65536 : Int) ≤ (n : Int) := by omega
  have h3 : ¬ (256 : Int) ≤ (n : Int) := by omega
  have hw8 : IntKind.u8.wrap (n : Int) = (n : Int) := by unfold IntKind.wrap; simp [IntKind.signed, IntKind.bits]; omega
  have hsz : (n : Int) < (Lib.len8tab.size : Int) := by rw [Lib.len8tab_size]; omega
  have hsn : n < Lib.len8tab.size := by rw [Lib.len8tab_size]; omega
  refine Wp.fn Try.func168 rfl Try.ntmps168 (by simp) ?_
  have xw := Ext.refl w
  refine Wp.keep [0] fun r1 hkeep => ?_
  obtain ⟨e0_1, -⟩ := hkeep
  simp [go_sem] at e0_1
  refine Wp.seqRegion (.inl rfl) (by kernel_rfl) fun K' gd hK hg => ?_
  clear hg
  go_simp
  refine hK _ _ ?_
  clear hK K' gd
  refine Wp.keep [0, 2] fun r2 hkeep => ?_
  obtain ⟨e0_2, e2_2, -⟩ := hkeep
  simp [go_sem, e0_1] at e0_2 e2_2
  clear e0_1
  refine Wp.seq ?_
  refine Wp.seqRegion (.inl rfl) (by kernel_rfl) fun K' gd hK hg => ?_
  clear hg
  go_simp
  refine hK _ _ ?_
  clear hK K' gd
  refine Wp.keep [0, 2, 4] fun r3 hkeep => ?_
  obtain ⟨e0_3, e2_3, e4_3, -⟩ := hkeep
  simp [go_sem, e0_2, e2_2] at e0_3 e2_3 e4_3
  clear e0_2 e2_2
  refine Wp.condF (by go_simp) ?_
  refine Wp.skip ?_
  refine thenK_normal ?_
  refine Wp.seq ?_
  refine Wp.seqRegion (.inl rfl) (by kernel_rfl) fun K' gd hK hg => ?_
  clear hg
  go_simp
  refine hK _ _ ?_
  clear hK K' gd
  refine Wp.keep [0, 2, 8] fun r4 hkeep => ?_
  obtain ⟨e0_4, e2_4, e8_4, -⟩ := hkeep
  simp [go_sem, e0_3, e2_3, e4_3] at e0_4 e2_4 e8_4
  clear e0_3 e2_3 e4_3
  refine Wp.condF (by go_simp) ?_
  refine Wp.skip ?_
  refine thenK_normal ?_
  refine Wp.seq ?_
  refine Wp.seqRegion (.inl rfl) (by kernel_rfl) fun K' gd hK hg => ?_
  clear hg
  go_simp
  refine hK _ _ ?_
  clear hK K' gd
  refine Wp.keep [0, 2, 14] fun r5 hkeep => ?_
  obtain ⟨e0_5, e2_5, e14_5, -⟩ := hkeep
  simp [go_sem, e0_4, e2_4, e8_4] at e0_5 e2_5 e14_5
  clear e0_4 e2_4 e8_4
  refine Wp.condF (by go_simp) ?_
  refine Wp.skip ?_
  refine thenK_normal ?_
  refine Wp.seqRegion (.inl rfl) (by kernel_rfl) fun K' gd hK hg => ?_
  clear hg
  go_simp
  refine hK _ _ ?_
  clear hK K' gd
  refine Wp.keep [2] fun r6 hkeep => ?_
  obtain ⟨e2_6, -⟩ := hkeep
  simp [go_sem, e0_5, e2_5, e14_5] at e2_6
  clear e0_5 e2_5 e14_5
  refine Wp.ret ?_
  refine endK_tmp Try.results168 (by decide) ?_
  rw [e2_6]
  exact ⟨⟨_, rfl⟩, xw⟩
theorem len_c (n : Nat) (h : n ≤ 12) (w : World) : CallsV Try.prog 153 #[.int .u64 (n : Int)] w fun v w' => (∃ r, v = .int .i64 r) ∧ Ext w w' := by
  refine Wp.fn Try.func153 rfl Try.ntmps153 (by simp) ?_
  have xw := Ext.refl w
  refine Wp.keep [0] fun r1 hkeep => ?_
  obtain ⟨e0_1, -⟩ := hkeep
  simp [go_sem] at e0_1
  refine Wp.seqRegion (.inl rfl) (by kernel_rfl) fun K' gd hK hg => ?_
  clear hg
  go_simp
  refine hK _ _ ?_
  clear hK K' gd
  refine Wp.keep [0] fun r2 hkeep => ?_
  obtain ⟨e0_2, -⟩ := hkeep
  simp [go_sem, e0_1] at e0_2
  clear e0_1
  refine Wp.seq ?_
  refine Wp.condF (by go_simp) ?_
  refine Wp.skip ?_
  refine thenK_normal ?_
  refine Wp.seqRegion (.inl rfl) (by kernel_rfl) fun K' gd hK hg => ?_
  clear hg
  refine Wops.cut 2 fun K1 hK1 => ?_
  simp only [List.take_succ_cons, List.take_zero]
  go_simp
  refine Wcall (.inl rfl) (len64_c n h _) ?_
  rintro v w2 ⟨⟨r, rfl⟩, hE⟩
  go_simp
  refine hK1 _ _ ?_
  clear hK1 K1
  simp only [List.drop_succ_cons, List.drop_zero]
  have z3 := Below.size hE
  replace xw := Ext.trans xw hE
  clear hE
  go_simp
  refine hK _ _ ?_
  clear hK K' gd
  refine Wp.keep [2] fun r4 hkeep => ?_
  obtain ⟨e2_4, -⟩ := hkeep
  simp [go_sem, e0_2] at e2_4
  clear e0_2
  refine Wp.ret ?_
  refine endK_tmp Try.results153 (by decide) ?_
  rw [e2_4]
  exact ⟨⟨_, rfl⟩, xw⟩
def insPos (l : List Int) (x : Int) : Nat → Nat
  | 0 => 0
  | k + 1 => if x < gI l k then insPos l x k else k + 1
def insI (l : List Int) (x : Int) : List Int := l.take (insPos l x l.length) ++ x :: l.drop (insPos l x l.length)
def sortI (l : List Int) : List Int := l.foldl insI []
theorem insPos_le (l : List Int) (x : Int) : ∀ k, insPos l x k ≤ k
  | 0 => Nat.le_refl _
  | k + 1 => by unfold insPos; split; exact Nat.le_succ_of_le (insPos_le l x k); exact Nat.le_refl _
theorem insI_len (l : List Int) (x : Int) : (insI l x).length = l.length + 1 := by
  have := insPos_le l x l.length
  unfold insI; simp; omega
theorem insI_mem (l : List Int) (x y : Int) : y ∈ insI l x ↔ y = x ∨ y ∈ l := by
  unfold insI
  rw [List.mem_append, List.mem_cons]
  constructor
  · rintro (h | rfl | h)
    · exact .inr (List.mem_of_mem_take h)
    · exact .inl rfl
    · exact .inr (List.mem_of_mem_drop h)
  · rintro (rfl | h)
    · exact .inr (.inl rfl)
    · rw [← List.take_append_drop (insPos l x l.length) l, List.mem_append] at h
      rcases h with h | h
      · exact .inl h
      · exact .inr (.inr h)
theorem sortI_snoc (l : List Int) (x : Int) : sortI (l ++ [x]) = insI (sortI l) x := by unfold sortI; rw [List.foldl_append]; rfl
theorem sortI_mem2 (y : Int) : ∀ (l a : List Int), y ∈ l.foldl insI a ↔ y ∈ a ∨ y ∈ l
  | [], a => by simp
  | x :: l, a => by
    rw [List.foldl_cons, sortI_mem2 y l, insI_mem, List.mem_cons]
    constructor
    · intro h
      rcases h with (h | h) | h
      · exact .inr (.inl h)
      · exact .inl h
      · exact .inr (.inr h)
    · intro h
      rcases h with h | h | h
      · exact .inl (.inr h)
      · exact .inl (.inl h)
      · exact .inr h
theorem sortI_mem (y : Int) (l : List Int) : y ∈ sortI l ↔ y ∈ l := by unfold sortI; rw [sortI_mem2]; simp
theorem sortI_len (l : List Int) : (sortI l).length = l.length := by
  have key : ∀ (l a : List Int), (l.foldl insI a).length = a.length + l.length := by
    intro l
    induction l with
    | nil => intro a; rfl
    | cons x l ih => intro a; rw [List.foldl_cons, ih, insI_len, List.length_cons]; omega
  unfold sortI; rw [key]; simp
theorem gI_mid (P S : List Int) (y : Int) : gI (P ++ y :: S) P.length = y := by unfold gI; simp
theorem insPos_step {P S : List Int} {x y : Int} (h : x < y) : insPos (P ++ y :: S) x (P.length + 1) = insPos (P ++ y :: S) x P.length := by
  rw [insPos, gI_mid, if_pos h]
theorem insPos_stop {P S : List Int} {x y : Int} (h : ¬ x < y) : insPos (P ++ y :: S) x (P.length + 1) = P.length + 1 := by
  rw [insPos, gI_mid, if_neg h]
theorem insI_at {P S : List Int} {x : Int} (h : insPos (P ++ S) x (P ++ S).length = P.length) : insI (P ++ S) x = P ++ x :: S := by
  unfold insI; rw [h, List.take_left, List.drop_left]
/-- block b begins with the numbers xs -/
structure RowJ (W : World) (b : Nat) (xs : List Int) : Prop where
  c : ∀ i, i < xs.length → W.cell? ⟨b, i, none⟩ = some (.int .i64 (gI xs i))
  fz : ∀ j, W.frozen? ⟨b, j, none⟩ = false
  ne : xs ≠ []
section
variable {W V : World} {b : Nat} {xs : List Int}
theorem RowJ.ext (h : RowJ W b xs) (hE : Ext W V) : RowJ V b xs := ⟨fun i hi => hE.cell (h.c i hi), Ext.fz hE (h.c 0 (List.length_pos_iff.2 h.ne)) h.fz, h.ne⟩
theorem gI_set {l : List Int} {i j : Nat} {x : Int} (hi : i < l.length) : gI (l.set i x) j = if j = i then x else gI l j := by
  unfold gI
  rw [List.getElem?_set]
  by_cases e : i = j
  · subst e; simp [hi]
  · rw [if_neg e, if_neg (by omega)]
theorem RowJ.store {i : Nat} {x : Int} (h : RowJ W b xs) (p : Put W V b i [.int .i64 x]) (hi : i < xs.length) : RowJ V b (xs.set i x) := by
  refine ⟨fun j hj => ?_, fun j => (p.fz _).trans (h.fz j), fun e => by have := congrArg List.length e; simp at this; exact h.ne this⟩
  rw [List.length_set] at hj
  rw [gI_set hi]
  by_cases e : j = i
  · subst e; rw [if_pos rfl]; have := p.new 0 _ rfl; rwa [Nat.add_zero] at this
  · rw [if_neg e, p.old j (by simp; omega)]; exact h.c j hj
theorem RowJ.intsB {base c : Nat} (h : RowJ W b xs) (hb : base ≤ b) (hc : xs.length ≤ c) : IntsB W base (.slice (some ⟨b, 0, none⟩) xs.length c) xs :=
  ⟨_, c, rfl, fun _ => ⟨b, 0, rfl, hb, cell_lt (h.c 0 (List.length_pos_iff.2 h.ne)), fun k hk => by rw [Nat.zero_add, ← gI_lt hk]; exact h.c k hk⟩, hc⟩
end
theorem swapJ {W : World} {b j q : Nat} {P T : List Int} {x y : Int} (h : RowJ W b (P ++ y :: x :: T)) (hq : q = P.length) (hj : j = q + 1) :
    RowJ ((W.drew.setCell ⟨b, j, none⟩ (.int .i64 y)).setCell ⟨b, q, none⟩ (.int .i64 x)) b (P ++ x :: y :: T) ∧
    Chg [b] W ((W.drew.setCell ⟨b, j, none⟩ (.int .i64 y)).setCell ⟨b, q, none⟩ (.int .i64 x)) := by
  subst hj
  subst hq
  have h0 := h.ext (Ext.refl W).drew
  have p1 := setL_put (w := W.drew) (b := b) (i := P.length + 1) (vs := [.int .i64 y]) (some1 (h0.c (P.length + 1) (by simp)))
  have h1 := h0.store p1 (by simp)
  have p2 := setL_put (b := b) (i := P.length) (vs := [.int .i64 x]) (some1 (h1.c P.length (by simp)))
  have h2 := h1.store p2 (by simp)
  have e : ((P ++ y :: x :: T).set (P.length + 1) y).set P.length x = P ++ x :: y :: T := by
    rw [List.set_append_right _ _ (by omega)]; simp
  rw [e] at h2
  exact ⟨h2, ((Chg.refl [b] W).drew.setC (by simp)).setC (by simp)⟩
theorem ins_done {L P S R : List Int} {x : Int} {j : Nat} (hPj : P.length = j) (hLS : L = P ++ S) (hps : insPos L x L.length = insPos L x j) (h : insPos L x j = j) : insI L x ++ R = P ++ x :: (S ++ R) := by
  subst hLS
  rw [insI_at (by rw [hps, h, hPj])]; simp
theorem sort_one {xs : List Int} (h : xs ≠ []) : sortI (xs.take 1) ++ xs.drop 1 = xs := by
  cases xs with
  | nil => exact absurd rfl h
  | cons a t => rfl
theorem insertion_c (b n c : Nat) (xs : List Int) (w : World) (h : RowJ w b xs) (hn : xs.length = n) (hn2 : n ≤ 12) :
    CallsV Try.prog 158 #[.slice (some ⟨b, 0, none⟩) n c, .int .i64 0, .int .i64 (n : Int)] w fun _ w' => RowJ w' b (sortI xs) ∧ Chg [b] w w' := by
  have hn1 : 1 ≤ n := by have := List.length_pos_iff.2 h.ne; omega
  refine Wp.fn Try.func158 rfl Try.ntmps158 (by simp) ?_
  have xw := Ext.refl w
  refine Wp.keep [0, 1, 2] fun r1 hkeep => ?_
  obtain ⟨e0_1, e1_1, e2_1, -⟩ := hkeep
  simp [go_sem] at e0_1 e1_1 e2_1
  have xq := Chg.refl [b] w
  refine Wp.seqRegion (.inl rfl) (by kernel_rfl) fun K' gd hK hg => ?_
  clear hg
  go_simp
  refine hK _ _ ?_
  clear hK K' gd
  refine Wp.keep [0, 1, 2, 6] fun r2 hkeep => ?_
  obtain ⟨e0_2, e1_2, e2_2, e6_2, -⟩ := hkeep
  simp [go_sem, e0_1, e1_1, e2_1] at e0_2 e1_2 e2_2 e6_2
  clear e0_1 e1_1 e2_1
  refine Wp.block ?_
  refine Wp.loop (fun u ρ ds wu => AllEq [0, 1, 2] ρ r2 ∧ ds = [] ∧ (Chg [b] w wu) ∧ (ρ 6 = .int .i64 ((u : Int) + 1) ∧ RowJ wu b (sortI (xs.take (u + 1)) ++ xs.drop (u + 1)))) (n - 1) ?_ ?_
  · refine ⟨AllEq.refl _ _, rfl, Chg.refl _ _, ?_⟩
    exact ⟨by rw [e6_2]; rfl, by rw [sort_one h.ne]; exact h⟩
  · rintro u r3 _ wu hu ⟨hA, rfl, xo, ⟨e6, hR⟩⟩
    obtain ⟨e0_3, e1_3, e2_3, -⟩ := hA
    rw [e0_2] at e0_3
    rw [e1_2] at e1_3
    rw [e2_2] at e2_3
    have zxo := Chg.size xo
    clear xw
    replace xq := Chg.more xq xo (by intro b hm; simp only [List.mem_cons, List.not_mem_nil, or_false] at hm; first | (left; omega) | (right; simp [hm]))
    refine Wp.seq ?_
    refine Wp.seqRegion (.inl rfl) (by kernel_rfl) fun K' gd hK hg => ?_
    clear hg
    go_simp
    refine hK _ _ ?_
    clear hK K' gd
    refine Wp.keep [0, 1, 2, 6, 12] fun r4 hkeep => ?_
    obtain ⟨e0_4, e1_4, e2_4, e6_4, e12_4, -⟩ := hkeep
    simp [go_sem, e0_3, e1_3, e2_3, e6] at e0_4 e1_4 e2_4 e6_4 e12_4
    clear e0_3 e1_3 e2_3 e6
    by_cases hu2 : (u : Int) + 1 < (n : Int)
    · refine Wp.condT (by go_simp) ?_
      obtain ⟨L, hL⟩ : ∃ L, ∃ _u : Unit, sortI (xs.take (u + 1)) = L := ⟨_, (), rfl⟩
      have hLl : ∃ _u : Unit, L.length = u + 1 := ⟨(), by rw [← hL.choose_spec, sortI_len, List.length_take]; omega⟩
      obtain ⟨x, R, hx, hR9⟩ : ∃ x R, xs.drop (u + 1) = x :: R ∧ ∃ _u : Unit, sortI (xs.take (u + 2)) ++ xs.drop (u + 2) = insI L x ++ R := ⟨xs[u + 1], xs.drop (u + 2), drop_cons (by omega), (), by rw [take_snoc (show u + 1 < xs.length by omega), sortI_snoc, hL.choose_spec]⟩
      rw [hL.choose_spec, hx] at hR
      clear hx
      have hRl : R.length + L.length + 1 = n := by have h1 := congrArg List.length hR9.choose_spec; have h2 := insI_len L x; simp only [List.length_append, sortI_len, List.length_take, List.length_drop] at h1; omega
      refine Wp.skip ?_
      refine thenK_normal ?_
      refine Wp.seq ?_
      refine Wp.block ?_
      refine Wp.seqRegion (.inl rfl) (by kernel_rfl) fun K' gd hK hg => ?_
      clear hg
      go_simp
      refine hK _ _ ?_
      clear hK K' gd
      refine Wp.keep [0, 1, 2, 6, 7] fun r5 hkeep => ?_
      obtain ⟨e0_5, e1_5, e2_5, e6_5, e7_5, -⟩ := hkeep
      simp [go_sem, e0_4, e1_4, e2_4, e6_4, e12_4] at e0_5 e1_5 e2_5 e6_5 e7_5
      clear e0_4 e1_4 e2_4 e6_4 e12_4
      refine Wp.block ?_
      refine Wp.loop (fun k ρ ds wk => AllEq [0, 1, 2, 6] ρ r5 ∧ ds = [] ∧ (Chg [b] wu wk) ∧ (∃ (j : Nat) (P S : List Int), ρ 7 = .int .i64 (j : Int) ∧ (∃ _u : Unit, j + k = u + 1 ∧ P.length = j ∧ L = P ++ S ∧ insPos L x L.length = insPos L x j) ∧ RowJ wk b (P ++ x :: (S ++ R)))) (u + 1) ?_ ?_
      · refine ⟨AllEq.refl _ _, rfl, Chg.refl _ _, ?_⟩
        exact ⟨u + 1, L, [], by rw [e7_5]; rfl, ⟨(), by omega, hLl.choose_spec, by simp, by rw [hLl.choose_spec]⟩, hR⟩
      · rintro k r6 _ wk hk ⟨hA, rfl, xi, ⟨j, P, S, e7, hI, hR⟩⟩
        obtain ⟨e0_6, e1_6, e2_6, e6_6, -⟩ := hA
        rw [e0_5] at e0_6
        rw [e1_5] at e1_6
        rw [e2_5] at e2_6
        rw [e6_5] at e6_6
        have zxi := Chg.size xi
        replace xq := Chg.more xq xi (by intro b hm; simp only [List.mem_cons, List.not_mem_nil, or_false] at hm; first | (left; omega) | (right; simp [hm]))
        replace xo := Chg.more xo xi (by intro b hm; simp only [List.mem_cons, List.not_mem_nil, or_false] at hm; first | (left; omega) | (right; simp [hm]))
        by_cases hj0 : j = 0
        · skip
          have hfin : ∃ _u : Unit, insI L x ++ R = P ++ x :: (S ++ R) := ⟨(), by obtain ⟨-, h2, h3, h4⟩ := hI.choose_spec; exact ins_done h2 h3 h4 (by rw [hj0]; rfl)⟩
          refine Wp.seq ?_
          refine Wp.seqDraw (.inl rfl) mixed [([0, 1, 2, 3], none), ([4, 5, 6, 7, 8], none), ([9, 10, 11, 12], some (13, false)), ([14], none)] (by kernel_rfl) fun K' gd hK hg => ?_
          have g3 : gd 3 = some 19 := hg 3
          clear hg
          simp only [pick, nth, List.map_cons, List.map_nil, Option.map_none, Option.map_some]
          refine Mops.absD fun D4 hD4 zD4 => ?_
          replace hR := hR.ext hD4
          replace xq := Chg.ext xq hD4
          replace xo := Chg.ext xo hD4
          replace xi := Chg.ext xi hD4
          clear hD4
          apply Mops.none
          · intro w' hE'
            have hC' := hE'.cellsS
            go_simp
            with_reducible rfl
          apply Mops.none
          · intro w' hE'
            have hC' := hE'.cellsS
            go_simp
            with_reducible rfl
          apply Mops.act
          · intro w' hE'
            have hC' := hE'.cellsS
            go_simp
            with_reducible rfl
          intro K1 hK1
          go_simp
          refine hK1 _ _ (Ext.refl _) ?_
          clear hK1 K1
          apply Mops.none
          · intro w' hE'
            have hC' := hE'.cellsS
            go_simp
            with_reducible rfl
          refine Mops.done ?_
          refine hK _ _ ?_
          clear hK K' gd g3
          refine Wp.keep [0, 1, 2, 6, 7, 30] fun r7 hkeep => ?_
          obtain ⟨e0_7, e1_7, e2_7, e6_7, e7_7, e30_7, -⟩ := hkeep
          simp [go_sem, e0_6, e1_6, e2_6, e6_6, e7] at e0_7 e1_7 e2_7 e6_7 e7_7 e30_7
          clear e0_6 e1_6 e2_6 e6_6 e7
          refine Wp.condF (by go_simp) ?_
          refine Wp.exit ?_
          refine thenK_exit ?_
          refine thenK_exit ?_
          refine blockK_here ?_
          refine blockK_normal ?_
          refine thenK_normal ?_
          refine Wp.loneRegion (.inl rfl) (by kernel_rfl) fun K' gd hK hg => ?_
          clear hg
          go_simp
          refine hK _ _ ?_
          clear hK K' gd
          refine Ends.keep [0, 1, 2, 6] fun r8 hkeep => ?_
          obtain ⟨e0_8, e1_8, e2_8, e6_8, -⟩ := hkeep
          simp [go_sem, e0_7, e1_7, e2_7, e6_7, e7_7, e30_7] at e0_8 e1_8 e2_8 e6_8
          clear e0_7 e1_7 e2_7 e6_7 e7_7 e30_7
          refine Ends.mk ?_
          refine thenK_normal ⟨by omega, ⟨by rw [e0_8, e0_2], by rw [e1_8, e1_2], by rw [e2_8, e2_2], trivial⟩, rfl, xo, ?_⟩
          exact ⟨by rw [e6_8, IntWalk.i64_in _ (by omega)]; rfl, by rw [hR9.choose_spec, hfin.choose_spec]; exact hR⟩
        · skip
          obtain ⟨q, P2, y, hq, hP2⟩ : ∃ q P2 y, (∃ _u : Unit, j = q + 1 ∧ P2.length = q) ∧ P = P2 ++ [y] := by obtain ⟨h1, h2, h3, h4⟩ := hI.choose_spec; rcases List.eq_nil_or_concat P with e | ⟨P2, y, e⟩; (rw [e] at h2; exact absurd h2.symm hj0); (exact ⟨P2.length, P2, y, ⟨(), by rw [← h2, e]; simp, rfl⟩, by rw [e, List.concat_eq_append]⟩)
          subst hP2
          rw [List.append_assoc, List.singleton_append] at hR
          obtain ⟨hq1, hq2⟩ := hq.choose_spec
          obtain ⟨hjk, hPj, hLS, hps⟩ := hI.choose_spec
          have hlen := congrArg List.length hLS
          have hLl2 := hLl.choose_spec
          simp only [List.length_append, List.length_cons, List.length_nil] at hlen
          have d1 := hR.c q (by simp; omega)
          have d0 := hR.c j (by simp; omega)
          rw [show gI (P2 ++ y :: x :: (S ++ R)) q = y by rw [← hq2]; exact gI_mid _ _ _] at d1
          rw [show gI (P2 ++ y :: x :: (S ++ R)) j = x by rw [hq1, ← hq2]; unfold gI; simp] at d0
          have fb := hR.fz
          have hw1 : IntKind.i64.wrap ((j : Int) - 1) = (q : Int) := by rw [IntWalk.i64_in _ (by omega)]; omega
          have hjp : 0 < j := by omega
          have hjn : j < n := by omega
          have hqn : q < n := by omega
          have hstep : ∃ _u : Unit, x < y → insPos L x j = insPos L x q := ⟨(), fun h => by rw [hq1, hLS, List.append_assoc, List.singleton_append, ← hq2]; exact insPos_step h⟩
          have hstop : ∃ _u : Unit, ¬ x < y → insPos L x j = j := ⟨(), fun h => by rw [hq1, hLS, List.append_assoc, List.singleton_append, ← hq2]; exact insPos_stop h⟩
          have hL2 : ∃ _u : Unit, L = P2 ++ y :: S := ⟨(), by rw [hLS]; simp⟩
          clear hjk hPj hLS hps hlen hLl2 hq1 hq2
          refine Wp.seq ?_
          refine Wp.seqDraw (.inl rfl) mixed [([0, 1, 2, 3], none), ([4, 5, 6, 7, 8], none), ([9, 10, 11, 12], some (13, false)), ([14], none)] (by kernel_rfl) fun K' gd hK hg => ?_
          have g3 : gd 3 = some 19 := hg 3
          clear hg
          simp only [pick, nth, List.map_cons, List.map_nil, Option.map_none, Option.map_some]
          refine Mops.absD fun D5 hD5 zD5 => ?_
          replace fb := Ext.fz hD5 d0 fb
          replace hR := hR.ext hD5
          replace xq := Chg.ext xq hD5
          replace xo := Chg.ext xo hD5
          replace xi := Chg.ext xi hD5
          replace d1 := Ext.cell hD5 d1
          replace d0 := Ext.cell hD5 d0
          clear hD5
          apply Mops.none
          · intro w' hE'
            have hC' := hE'.cellsS
            go_simp
            with_reducible rfl
          apply Mops.none
          · intro w' hE'
            have hC' := hE'.cellsS
            go_simp
            with_reducible rfl
          apply Mops.act
          · intro w' hE'
            have hC' := hE'.cellsS
            go_simp
            with_reducible rfl
          intro K1 hK1
          go_simp
          refine Wcall (.inl rfl) (less_c x y _) ?_
          rintro v w2 ⟨rfl, hE⟩
          go_simp
          refine hK1 _ _ (by assumption) ?_
          clear hK1 K1
          have z9 := Below.size hE
          replace fb := Ext.fz hE d0 fb
          replace hR := hR.ext hE
          replace xq := Chg.ext xq hE
          replace xo := Chg.ext xo hE
          replace xi := Chg.ext xi hE
          replace d1 := Ext.cell hE d1
          replace d0 := Ext.cell hE d0
          clear hE
          apply Mops.none
          · intro w' hE'
            have hC' := hE'.cellsS
            go_simp
            with_reducible rfl
          refine Mops.done ?_
          refine hK _ _ ?_
          clear hK K' gd g3
          refine Wp.keep [0, 1, 2, 6, 7, 30] fun r10 hkeep => ?_
          obtain ⟨e0_10, e1_10, e2_10, e6_10, e7_10, e30_10, -⟩ := hkeep
          simp [go_sem, e0_6, e1_6, e2_6, e6_6, e7] at e0_10 e1_10 e2_10 e6_10 e7_10 e30_10
          clear e0_6 e1_6 e2_6 e6_6 e7
          by_cases hlt : x < y
          · skip
            obtain ⟨hS1, hS2⟩ := swapJ hR hq.choose_spec.2.symm hq.choose_spec.1
            refine Wp.condT (by go_simp) ?_
            refine Wp.skip ?_
            refine thenK_normal ?_
            refine Wp.seq ?_
            refine Wp.block ?_
            refine Wp.loneDrawT (.inl rfl) mixed (.rd [0, 1, 5, 6, 7, 8, 9, 10, 11, 12, 13, 14] (.both (.act 2 false (.both (.act 3 false (.both (.act 4 false (.act 15 true (.act 16 true (.act 17 true .done)))) (.act 15 true (.act 4 false (.act 16 true (.act 17 true .done)))))) (.act 15 true (.act 3 false (.act 4 false (.act 16 true (.act 17 true .done))))))) (.both (.act 3 false (.both (.act 2 false (.both (.act 4 false (.act 15 true (.act 16 true (.act 17 true .done)))) (.act 15 true (.act 4 false (.act 16 true (.act 17 true .done)))))) (.both (.act 4 false (.both (.act 2 false (.act 15 true (.act 16 true (.act 17 true .done)))) (.act 15 true (.act 2 false (.act 16 true (.act 17 true .done)))))) (.act 15 true (.both (.act 2 false (.act 4 false (.act 16 true (.act 17 true .done)))) (.act 4 false (.act 2 false (.act 16 true (.act 17 true .done))))))))) (.act 15 true (.both (.act 2 false (.act 3 false (.act 4 false (.act 16 true (.act 17 true .done))))) (.act 3 false (.both (.act 2 false (.act 4 false (.act 16 true (.act 17 true .done)))) (.act 4 false (.act 2 false (.act 16 true (.act 17 true .done))))))))))) (by kernel_rfl) (fun ρ W => AllEq [0, 1, 2, 6, 7] ρ r10 ∧ (RowJ W b (P2 ++ x :: y :: (S ++ R)) ∧ Chg [b] wu W ∧ Chg [b] w W ∧ Chg [b] w W)) (fun K' gd hK hg => ?_) ?_
            · skip
              clear hg
              simp only [pickT, nth, List.map_cons, List.map_nil]
              apply Mtree.reads
              · intro w' hE'
                have hC' := hE'.cellsS
                go_simp
                with_reducible rfl
              repeat' first
                | refine Mtree.two ?_ ?_
                | (refine Mtree.fin ?_; refine hK _ _ ⟨by simp [AllEq, go_sem], ?_⟩; exact ⟨hS1, xi.more hS2 (by simp), xo.more hS2 (by simp), xq.more hS2 (by simp)⟩)
                | (refine Mtree.stepT fun K1 hK1 => ?_; go_simp; refine hK1 _ _ ?_; clear hK1 K1)
                | (refine Mtree.step fun K1 hK1 => ?_; go_simp; refine hK1 _ _ XA ?_; clear hK1 K1)
            · rintro r11 W ⟨hA, hR2, xi, xo, xq⟩
              obtain ⟨e0_11, e1_11, e2_11, e6_11, e7_11, -⟩ := hA
              rw [e0_10] at e0_11
              rw [e1_10] at e1_11
              rw [e2_10] at e2_11
              rw [e6_10] at e6_11
              rw [e7_10] at e7_11
              clear e0_10 e1_10 e2_10 e6_10 e7_10 e30_10
              refine Ends.mk ?_
              refine blockK_normal ?_
              refine thenK_normal ?_
              refine Wp.loneRegion (.inl rfl) (by kernel_rfl) fun K' gd hK hg => ?_
              clear hg
              go_simp
              refine hK _ _ ?_
              clear hK K' gd
              refine Ends.keep [0, 1, 2, 6, 7] fun r12 hkeep => ?_
              obtain ⟨e0_12, e1_12, e2_12, e6_12, e7_12, -⟩ := hkeep
              simp [go_sem, e0_11, e1_11, e2_11, e6_11, e7_11] at e0_12 e1_12 e2_12 e6_12 e7_12
              clear e0_11 e1_11 e2_11 e6_11 e7_11
              refine Ends.mk ?_
              refine thenK_normal ⟨by omega, ⟨by rw [e0_12, e0_5], by rw [e1_12, e1_5], by rw [e2_12, e2_5], by rw [e6_12, e6_5], trivial⟩, rfl, xi, ?_⟩
              exact ⟨q, P2, y :: S, by rw [e7_12], ⟨(), by have := hq.choose_spec; have := hI.choose_spec; omega, hq.choose_spec.2, hL2.choose_spec, by rw [hI.choose_spec.2.2.2, hstep.choose_spec hlt]⟩, by simpa using hR2⟩
          · skip
            have hfin : ∃ _u : Unit, insI L x ++ R = (P2 ++ [y]) ++ x :: (S ++ R) := ⟨(), by obtain ⟨-, h2, h3, h4⟩ := hI.choose_spec; exact ins_done h2 h3 h4 (hstop.choose_spec hlt)⟩
            refine Wp.condF (by go_simp) ?_
            refine Wp.exit ?_
            refine thenK_exit ?_
            refine thenK_exit ?_
            refine blockK_here ?_
            refine blockK_normal ?_
            refine thenK_normal ?_
            refine Wp.loneRegion (.inl rfl) (by kernel_rfl) fun K' gd hK hg => ?_
            clear hg
            go_simp
            refine hK _ _ ?_
            clear hK K' gd
            refine Ends.keep [0, 1, 2, 6] fun r13 hkeep => ?_
            obtain ⟨e0_13, e1_13, e2_13, e6_13, -⟩ := hkeep
            simp [go_sem, e0_10, e1_10, e2_10, e6_10, e7_10, e30_10] at e0_13 e1_13 e2_13 e6_13
            clear e0_10 e1_10 e2_10 e6_10 e7_10 e30_10
            refine Ends.mk ?_
            refine thenK_normal ⟨by omega, ⟨by rw [e0_13, e0_2], by rw [e1_13, e1_2], by rw [e2_13, e2_2], trivial⟩, rfl, xo, ?_⟩
            exact ⟨by rw [e6_13, IntWalk.i64_in _ (by omega)]; rfl, by rw [hR9.choose_spec, hfin.choose_spec]; simpa using hR⟩
    · refine Wp.condF (by go_simp) ?_
      have hun : u + 1 = n := by omega
      refine Wp.exit ?_
      refine thenK_exit ?_
      refine thenK_exit ?_
      refine blockK_here ?_
      refine endN_none Try.results158 ?_
      exact ⟨by rw [hun, List.take_of_length_le (by omega), List.drop_of_length_le (by omega), List.append_nil] at hR; exact hR, xq⟩
theorem insertion0_c (A : Option Addr) (c : Nat) (w : World) : CallsV Try.prog 158 #[.slice A 0 c, .int .i64 0, .int .i64 ((0 : Nat) : Int)] w fun _ w' => True ∧ Ext w w' := by
  refine Wp.fn Try.func158 rfl Try.ntmps158 (by simp) ?_
  have xw := Ext.refl w
  refine Wp.keep [0, 1, 2] fun r1 hkeep => ?_
  obtain ⟨e0_1, e1_1, e2_1, -⟩ := hkeep
  simp [go_sem] at e0_1 e1_1 e2_1
  refine Wp.seqRegion (.inl rfl) (by kernel_rfl) fun K' gd hK hg => ?_
  clear hg
  go_simp
  refine hK _ _ ?_
  clear hK K' gd
  refine Wp.keep [0, 1, 2, 6] fun r2 hkeep => ?_
  obtain ⟨e0_2, e1_2, e2_2, e6_2, -⟩ := hkeep
  simp [go_sem, e0_1, e1_1, e2_1] at e0_2 e1_2 e2_2 e6_2
  clear e0_1 e1_1 e2_1
  refine Wp.block ?_
  refine Wp.loop (fun k ρ ds wk => AllEq [0, 1, 2] ρ r2 ∧ ds = [] ∧ (Ext w wk) ∧ (ρ 6 = .int .i64 1)) (0) ?_ ?_
  · refine ⟨AllEq.refl _ _, rfl, Ext.refl _, ?_⟩
    rw [e6_2]; rfl
  · rintro k r3 _ wk hk ⟨hA, rfl, xl1, e6⟩
    obtain ⟨e0_3, e1_3, e2_3, -⟩ := hA
    rw [e0_2] at e0_3
    rw [e1_2] at e1_3
    rw [e2_2] at e2_3
    have zxl1 := Below.size xl1
    replace xw := Ext.trans xw xl1
    refine Wp.seq ?_
    refine Wp.seqRegion (.inl rfl) (by kernel_rfl) fun K' gd hK hg => ?_
    clear hg
    go_simp
    refine hK _ _ ?_
    clear hK K' gd
    refine Wp.keep [0, 1, 2, 6, 12] fun r4 hkeep => ?_
    obtain ⟨e0_4, e1_4, e2_4, e6_4, e12_4, -⟩ := hkeep
    simp [go_sem, e0_3, e1_3, e2_3, e6] at e0_4 e1_4 e2_4 e6_4 e12_4
    clear e0_3 e1_3 e2_3 e6
    refine Wp.condF (by go_simp) ?_
    refine Wp.exit ?_
    refine thenK_exit ?_
    refine thenK_exit ?_
    refine blockK_here ?_
    refine endN_none Try.results158 ?_
    exact ⟨trivial, xw⟩
theorem pdq_c (b n c : Nat) (r : Int) (xs : List Int) (w : World) (h : RowJ w b xs) (hn : xs.length = n) (hn2 : n ≤ 12) :
    CallsV Try.prog 152 #[.slice (some ⟨b, 0, none⟩) n c, .int .i64 0, .int .i64 (n : Int), .int .i64 r] w fun _ w' => RowJ w' b (sortI xs) ∧ Chg [b] w w' := by
  have hw1 : IntKind.i64.wrap (n : Int) = (n : Int) := IntWalk.i64_in _ (by omega)
  have hn12 : (n : Int) ≤ 12 := by omega
  refine Wp.fn Try.func152 rfl Try.ntmps152 (by simp) ?_
  have xw := Ext.refl w
  refine Wp.keep [0, 1, 2, 3] fun r1 hkeep => ?_
  obtain ⟨e0_1, e1_1, e2_1, e3_1, -⟩ := hkeep
  simp [go_sem] at e0_1 e1_1 e2_1 e3_1
  have xq := Chg.refl [b] w
  refine Wp.seqRegion (.inl rfl) (by kernel_rfl) fun K' gd hK hg => ?_
  clear hg
  go_simp
  refine hK _ _ ?_
  clear hK K' gd
  refine Wp.keep [0, 1, 2, 3, 8] fun r2 hkeep => ?_
  obtain ⟨e0_2, e1_2, e2_2, e3_2, e8_2, -⟩ := hkeep
  simp [go_sem, e0_1, e1_1, e2_1, e3_1] at e0_2 e1_2 e2_2 e3_2 e8_2
  clear e0_1 e1_1 e2_1 e3_1
  refine Wp.seqRegion (.inl rfl) (by kernel_rfl) fun K' gd hK hg => ?_
  clear hg
  go_simp
  refine hK _ _ ?_
  clear hK K' gd
  refine Wp.keep [0, 1, 2, 3, 8, 9] fun r3 hkeep => ?_
  obtain ⟨e0_3, e1_3, e2_3, e3_3, e8_3, e9_3, -⟩ := hkeep
  simp [go_sem, e0_2, e1_2, e2_2, e3_2, e8_2] at e0_3 e1_3 e2_3 e3_3 e8_3 e9_3
  clear e0_2 e1_2 e2_2 e3_2 e8_2
  refine Wp.block ?_
  refine Wp.loop (fun k ρ ds wk => AllEq [0] ρ r3 ∧ ds = [] ∧ (Ext w wk) ∧ (∃ z3 z8 z9, k = 0 ∧ ρ 1 = .int .i64 0 ∧ ρ 2 = .int .i64 (n : Int) ∧ ρ 3 = z3 ∧ ρ 8 = z8 ∧ ρ 9 = z9 ∧ RowJ wk b xs)) (1) ?_ ?_
  · refine ⟨AllEq.refl _ _, rfl, Ext.refl _, ?_⟩
    exact ⟨_, _, _, rfl, e1_3, e2_3, rfl, rfl, rfl, h⟩
  · rintro k r4 _ wk hk ⟨hA, rfl, xl2, ⟨z3, z8, z9, hk0, e1, e2, e3, e8, e9, hR⟩⟩
    obtain ⟨e0_4, -⟩ := hA
    rw [e0_3] at e0_4
    have zxl2 := Below.size xl2
    replace xw := Ext.trans xw xl2
    replace xq := Chg.ext xq xl2
    refine Wp.block ?_
    refine Wp.seqRegion (.inl rfl) (by kernel_rfl) fun K' gd hK hg => ?_
    clear hg
    go_simp
    refine hK _ _ ?_
    clear hK K' gd
    refine Wp.keep [0, 1, 2, 3, 8, 9, 10] fun r5 hkeep => ?_
    obtain ⟨e0_5, e1_5, e2_5, e3_5, e8_5, e9_5, e10_5, -⟩ := hkeep
    simp [go_sem, e0_4, e1, e2, e3, e8, e9] at e0_5 e1_5 e2_5 e3_5 e8_5 e9_5 e10_5
    clear e0_4 e1 e2 e3 e8 e9
    refine Wp.seq ?_
    refine Wp.seqRegion (.inl rfl) (by kernel_rfl) fun K' gd hK hg => ?_
    clear hg
    go_simp
    refine hK _ _ ?_
    clear hK K' gd
    refine Wp.keep [0, 1, 2, 3, 8, 9, 10, 23] fun r6 hkeep => ?_
    obtain ⟨e0_6, e1_6, e2_6, e3_6, e8_6, e9_6, e10_6, e23_6, -⟩ := hkeep
    simp [go_sem, e0_5, e1_5, e2_5, e3_5, e8_5, e9_5, e10_5] at e0_6 e1_6 e2_6 e3_6 e8_6 e9_6 e10_6 e23_6
    clear e0_5 e1_5 e2_5 e3_5 e8_5 e9_5 e10_5
    refine Wp.condT (by go_simp) ?_
    refine Wp.seqRegion (.inl rfl) (by kernel_rfl) fun K' gd hK hg => ?_
    clear hg
    refine Wops.cut 4 fun K1 hK1 => ?_
    simp only [List.take_succ_cons, List.take_zero]
    go_simp
    refine Wcall (.inl rfl) (insertion_c b n c xs _ hR hn hn2) ?_
    rintro v w2 ⟨hS, hE⟩
    go_simp
    refine hK1 _ _ ?_
    clear hK1 K1
    simp only [List.drop_succ_cons, List.drop_zero]
    have z7 := Chg.size hE
    clear xw
    replace xq := Chg.more xq hE (by intro b hm; simp only [List.mem_cons, List.not_mem_nil, or_false] at hm; first | (left; omega) | (right; simp [hm]))
    clear xl2
    try simp only [Wops_nil, updO_some, updO_none]
    refine hK _ _ ?_
    clear hK K' gd
    refine Wp.keep [] fun r8 hkeep => ?_
    clear hkeep
    clear e0_6 e1_6 e2_6 e3_6 e8_6 e9_6 e10_6 e23_6
    refine Wp.ret ?_
    refine thenK_ret ?_
    refine blockK_ret ?_
    refine thenK_ret ?_
    refine blockK_ret ?_
    refine endK_none Try.results152 ?_
    exact ⟨hS, xq⟩
theorem pdq0_c (A : Option Addr) (c : Nat) (r : Int) (w : World) :
    CallsV Try.prog 152 #[.slice A 0 c, .int .i64 0, .int .i64 ((0 : Nat) : Int), .int .i64 r] w fun _ w' => True ∧ Ext w w' := by
  have hw0 : IntKind.i64.wrap 0 = 0 := rfl
  refine Wp.fn Try.func152 rfl Try.ntmps152 (by simp) ?_
  have xw := Ext.refl w
  refine Wp.keep [0, 1, 2, 3] fun r1 hkeep => ?_
  obtain ⟨e0_1, e1_1, e2_1, e3_1, -⟩ := hkeep
  simp [go_sem] at e0_1 e1_1 e2_1 e3_1
  refine Wp.seqRegion (.inl rfl) (by kernel_rfl) fun K' gd hK hg => ?_
  clear hg
  go_simp
  refine hK _ _ ?_
  clear hK K' gd
  refine Wp.keep [0, 1, 2, 3, 8] fun r2 hkeep => ?_
  obtain ⟨e0_2, e1_2, e2_2, e3_2, e8_2, -⟩ := hkeep
  simp [go_sem, e0_1, e1_1, e2_1, e3_1] at e0_2 e1_2 e2_2 e3_2 e8_2
  clear e0_1 e1_1 e2_1 e3_1
  refine Wp.seqRegion (.inl rfl) (by kernel_rfl) fun K' gd hK hg => ?_
  clear hg
  go_simp
  refine hK _ _ ?_
  clear hK K' gd
  refine Wp.keep [0, 1, 2, 3, 8, 9] fun r3 hkeep => ?_
  obtain ⟨e0_3, e1_3, e2_3, e3_3, e8_3, e9_3, -⟩ := hkeep
  simp [go_sem, e0_2, e1_2, e2_2, e3_2, e8_2] at e0_3 e1_3 e2_3 e3_3 e8_3 e9_3
  clear e0_2 e1_2 e2_2 e3_2 e8_2
  refine Wp.block ?_
  refine Wp.loop (fun k ρ ds wk => AllEq [0] ρ r3 ∧ ds = [] ∧ (Ext w wk) ∧ (∃ z3 z8 z9, k = 0 ∧ ρ 1 = .int .i64 0 ∧ ρ 2 = .int .i64 0 ∧ ρ 3 = z3 ∧ ρ 8 = z8 ∧ ρ 9 = z9)) (1) ?_ ?_
  · refine ⟨AllEq.refl _ _, rfl, Ext.refl _, ?_⟩
    exact ⟨_, _, _, rfl, e1_3, e2_3, rfl, rfl, rfl⟩
  · rintro k r4 _ wk hk ⟨hA, rfl, xl1, ⟨z3, z8, z9, hk0, e1, e2, e3, e8, e9⟩⟩
    obtain ⟨e0_4, -⟩ := hA
    rw [e0_3] at e0_4
    have zxl1 := Below.size xl1
    replace xw := Ext.trans xw xl1
    refine Wp.block ?_
    refine Wp.seqRegion (.inl rfl) (by kernel_rfl) fun K' gd hK hg => ?_
    clear hg
    go_simp
    refine hK _ _ ?_
    clear hK K' gd
    refine Wp.keep [0, 1, 2, 3, 8, 9, 10] fun r5 hkeep => ?_
    obtain ⟨e0_5, e1_5, e2_5, e3_5, e8_5, e9_5, e10_5, -⟩ := hkeep
    simp [go_sem, e0_4, e1, e2, e3, e8, e9] at e0_5 e1_5 e2_5 e3_5 e8_5 e9_5 e10_5
    clear e0_4 e1 e2 e3 e8 e9
    refine Wp.seq ?_
    refine Wp.seqRegion (.inl rfl) (by kernel_rfl) fun K' gd hK hg => ?_
    clear hg
    go_simp
    refine hK _ _ ?_
    clear hK K' gd
    refine Wp.keep [0, 1, 2, 3, 8, 9, 10, 23] fun r6 hkeep => ?_
    obtain ⟨e0_6, e1_6, e2_6, e3_6, e8_6, e9_6, e10_6, e23_6, -⟩ := hkeep
    simp [go_sem, e0_5, e1_5, e2_5, e3_5, e8_5, e9_5, e10_5] at e0_6 e1_6 e2_6 e3_6 e8_6 e9_6 e10_6 e23_6
    clear e0_5 e1_5 e2_5 e3_5 e8_5 e9_5 e10_5
    refine Wp.condT (by go_simp) ?_
    refine Wp.seqRegion (.inl rfl) (by kernel_rfl) fun K' gd hK hg => ?_
    clear hg
    refine Wops.cut 4 fun K1 hK1 => ?_
    simp only [List.take_succ_cons, List.take_zero]
    go_simp
    refine Wcall (.inl rfl) (insertion0_c A c _) ?_
    rintro v w2 ⟨-, hE⟩
    go_simp
    refine hK1 _ _ ?_
    clear hK1 K1
    simp only [List.drop_succ_cons, List.drop_zero]
    have z7 := Below.size hE
    replace xw := Ext.trans xw hE
    replace xl1 := Ext.trans xl1 hE
    clear hE
    try simp only [Wops_nil, updO_some, updO_none]
    refine hK _ _ ?_
    clear hK K' gd
    refine Wp.keep [] fun r8 hkeep => ?_
    clear hkeep
    clear e0_6 e1_6 e2_6 e3_6 e8_6 e9_6 e10_6 e23_6
    refine Wp.ret ?_
    refine thenK_ret ?_
    refine blockK_ret ?_
    refine thenK_ret ?_
    refine blockK_ret ?_
    refine endK_none Try.results152 ?_
    exact ⟨trivial, xw⟩
theorem sort_c (b n c : Nat) (xs : List Int) (w : World) (h : RowJ w b xs) (hn : xs.length = n) (hn2 : n ≤ 12) :
    CallsV Try.prog 135 #[.slice (some ⟨b, 0, none⟩) n c] w fun _ w' => RowJ w' b (sortI xs) ∧ Chg [b] w w' := by
  have hw1 : IntKind.u64.wrap (n : Int) = (n : Int) := by unfold IntKind.wrap; simp [IntKind.signed, IntKind.bits]; omega
  refine Wp.fn Try.func135 rfl Try.ntmps135 (by simp) ?_
  have xw := Ext.refl w
  refine Wp.keep [0] fun r1 hkeep => ?_
  obtain ⟨e0_1, -⟩ := hkeep
  simp [go_sem] at e0_1
  have xq := Chg.refl [b] w
  refine Wp.seqRegion (.inl rfl) (by kernel_rfl) fun K' gd hK hg => ?_
  clear hg
  go_simp
  refine hK _ _ ?_
  clear hK K' gd
  refine Wp.keep [0, 2] fun r2 hkeep => ?_
  obtain ⟨e0_2, e2_2, -⟩ := hkeep
  simp [go_sem, e0_1] at e0_2 e2_2
  clear e0_1
  refine Wp.loneRegion (.inl rfl) (by kernel_rfl) fun K' gd hK hg => ?_
  clear hg
  refine Wops.cut 5 fun K1 hK1 => ?_
  simp only [List.take_succ_cons, List.take_zero]
  go_simp
  refine Wcall (.inl rfl) (len_c n hn2 _) ?_
  rintro v w2 ⟨⟨r, rfl⟩, hE⟩
  go_simp
  refine hK1 _ _ ?_
  clear hK1 K1
  simp only [List.drop_succ_cons, List.drop_zero]
  have z3 := Below.size hE
  replace xw := Ext.trans xw hE
  replace xq := Chg.ext xq hE
  clear hE
  refine Wops.cut 1 fun K1 hK1 => ?_
  simp only [List.take_succ_cons, List.take_zero]
  go_simp
  refine Wcall (.inl rfl) (pdq_c b n c r xs _ (h.ext xw) hn hn2) ?_
  rintro v w3 ⟨hS, hE⟩
  go_simp
  refine hK1 _ _ ?_
  clear hK1 K1
  simp only [List.drop_succ_cons, List.drop_zero]
  have z4 := Chg.size hE
  clear xw
  replace xq := Chg.more xq hE (by intro b hm; simp only [List.mem_cons, List.not_mem_nil, or_false] at hm; first | (left; omega) | (right; simp [hm]))
  try simp only [Wops_nil, updO_some, updO_none]
  refine hK _ _ ?_
  clear hK K' gd
  refine Ends.keep [] fun r5 hkeep => ?_
  clear hkeep
  clear e0_2 e2_2
  refine Ends.mk ?_
  refine endN_none Try.results135 ?_
  exact ⟨hS, xq⟩
theorem sort0_c (A : Option Addr) (c : Nat) (w : World) : CallsV Try.prog 135 #[.slice A 0 c] w fun _ w' => True ∧ Ext w w' := by
  refine Wp.fn Try.func135 rfl Try.ntmps135 (by simp) ?_
  have xw := Ext.refl w
  refine Wp.keep [0] fun r1 hkeep => ?_
  obtain ⟨e0_1, -⟩ := hkeep
  simp [go_sem] at e0_1
  refine Wp.seqRegion (.inl rfl) (by kernel_rfl) fun K' gd hK hg => ?_
  clear hg
  go_simp
  refine hK _ _ ?_
  clear hK K' gd
  refine Wp.keep [0, 2] fun r2 hkeep => ?_
  obtain ⟨e0_2, e2_2, -⟩ := hkeep
  simp [go_sem, e0_1] at e0_2 e2_2
  clear e0_1
  refine Wp.loneRegion (.inl rfl) (by kernel_rfl) fun K' gd hK hg => ?_
  clear hg
  refine Wops.cut 5 fun K1 hK1 => ?_
  simp only [List.take_succ_cons, List.take_zero]
  go_simp
  refine Wcall (.inl rfl) (len_c 0 (by omega) _) ?_
  rintro v w2 ⟨⟨r, rfl⟩, hE⟩
  go_simp
  refine hK1 _ _ ?_
  clear hK1 K1
  simp only [List.drop_succ_cons, List.drop_zero]
  have z3 := Below.size hE
  replace xw := Ext.trans xw hE
  clear hE
  refine Wops.cut 1 fun K1 hK1 => ?_
  simp only [List.take_succ_cons, List.take_zero]
  go_simp
  refine Wcall (.inl rfl) (pdq0_c A c r _) ?_
  rintro v w3 ⟨-, hE⟩
  go_simp
  refine hK1 _ _ ?_
  clear hK1 K1
  simp only [List.drop_succ_cons, List.drop_zero]
  have z4 := Below.size hE
  replace xw := Ext.trans xw hE
  clear hE
  try simp only [Wops_nil, updO_some, updO_none]
  refine hK _ _ ?_
  clear hK K' gd
  refine Ends.keep [] fun r5 hkeep => ?_
  clear hkeep
  clear e0_2 e2_2
  refine Ends.mk ?_
  refine endN_none Try.results135 ?_
  exact ⟨trivial, xw⟩
end Go.Proofs.Ytnjajbkkgfohaaa
namespace Go.Proofs.Ytnjajbkkgfohaaa
open Go.RowKit Go.Wk Go.Proofs
attribute [local irreducible] Go.Wk.Wops Go.Wk.Wp Go.Wk.Mtree Go.Wk.Mops
set_option maxHeartbeats 4000000
set_option maxRecDepth 20000

def idsS (s : Sh) (p : Alt → Bool) : List Int := sortI ((s.alts.filter p).map Alt.id)
def altV (a : Alt) : Value := .agg #[.int .i64 a.id, .int .i64 a.kind, .int .i64 a.day, .int .i64 a.frm, .int .i64 a.tu, .int .i64 a.word]
theorem OwnI.rowJ {w : World} {base : Nat} {v : Value} {xs : List Int} (h : OwnI w base v xs) (hne : xs ≠ []) : ∃ b c, v = .slice (some ⟨b, 0, none⟩) xs.length c ∧ base ≤ b ∧ xs.length ≤ c ∧ RowJ w b xs := by
  rcases h.2 with ⟨rfl, hn⟩ | ⟨g, cap, cur, rfl, hb, hg, hnc, hcm, hcs, htake⟩
  · exact absurd (List.eq_nil_of_length_eq_zero hn) hne
  · refine ⟨g, cap, rfl, hb, hnc, fun i hi => ?_, own_fz h, hne⟩
    have := World.ownsRow.cells h (g := g) rfl i (.int .i64 (gI xs i)) (by rw [gI_lt hi]; simp [hi])
    rw [Addr.add_lit, Nat.zero_add] at this
    exact this
theorem idF_take {s : Sh} {p : Alt → Bool} {k : Nat} (h : k < s.alts.length) : ((s.alts.take (k + 1)).filter p).map Alt.id = ((s.alts.take k).filter p).map Alt.id ++ (if p s.alts[k] = true then [s.alts[k].id] else []) := by
  rw [take_snoc h, List.filter_append, List.map_append]
  congr 1
  by_cases hp : p s.alts[k] = true
  · rw [if_pos hp, List.filter_cons_of_pos hp]; rfl
  · rw [if_neg hp, List.filter_cons_of_neg hp]; rfl
theorem ids_c (v : Value) (s : Sh) (p : Alt → Bool) (gf : Nat) (lb : Array Value) (w : World) (hV : SheetV w w.heap.size v s) (hl : s.alts.length ≤ 12)
    (heg : ∀ args w, (callFunc gf args).run Try.prog w = .ok (.enter gf args) w)
    (hp : ∀ a ∈ s.alts, ∀ W, Ext w W → CallsV Try.prog gf (#[altV a] ++ lb) W fun v W' => v = .bool (p a) ∧ Ext W W') :
    CallsV Try.prog 100 #[v, .func (.func gf) #[] lb] w fun v w' => IntsB w' w.heap.size v (idsS s p) ∧ Ext w w' := by
  obtain ⟨wv, av, rfl, ⟨A, c1, rfl, -, -⟩, hA⟩ := id hV
  obtain ⟨A3, c3, rfl, -, -⟩ := id hA
  refine Wp.fn Try.func100 rfl Try.ntmps100 (by simp) ?_
  have xw := Ext.refl w
  refine Wp.keep [0, 1] fun r1 hkeep => ?_
  obtain ⟨e0_1, e1_1, -⟩ := hkeep
  simp [go_sem] at e0_1 e1_1
  refine Wp.seqRegion (.inl rfl) (by kernel_rfl) fun K' gd hK hg => ?_
  clear hg
  refine Wops.cut 1 fun K1 hK1 => ?_
  simp only [List.take_succ_cons, List.take_zero]
  go_simp
  refine hK1 _ _ ?_
  clear hK1 K1
  simp only [List.drop_succ_cons, List.drop_zero]
  refine Wops.absA fun V2_1 n2 hV2_1 => ?_
  obtain ⟨q2, hV2_1, s2, kV2_1, f2, r2⟩ := hV2_1
  try simp only [q2] at kV2_1 f2 r2 ⊢
  replace xw := Ext.trans xw hV2_1
  have c2_0 := kV2_1 0 _ rfl
  have c2_1 := kV2_1 1 _ rfl
  clear kV2_1 hV2_1
  clear r2
  go_simp
  refine hK _ _ ?_
  clear hK K' gd
  refine Wp.keep [1, 2] fun r2 hkeep => ?_
  obtain ⟨e1_2, e2_2, -⟩ := hkeep
  simp [go_sem, e0_1, e1_1] at e1_2 e2_2
  clear e0_1 e1_1
  refine Wp.seqRegion (.inl rfl) (by kernel_rfl) fun K' gd hK hg => ?_
  clear hg
  go_simp
  refine hK _ _ ?_
  clear hK K' gd
  refine Wp.keep [1, 2, 5] fun r3 hkeep => ?_
  obtain ⟨e1_3, e2_3, e5_3, -⟩ := hkeep
  simp [go_sem, e1_2, e2_2] at e1_3 e2_3 e5_3
  clear e1_2 e2_2
  refine Wp.seq ?_
  have xw_xa := xw
  have c2_0_xa := c2_0
  have c2_1_xa := c2_1
  have f2_xa := f2
  have xa := Ext.refl V2_1
  obtain ⟨B0, hB0⟩ : ∃ B0 : Nat, B0 = V2_1.heap.size := ⟨_, rfl⟩
  refine Wp.seqRegion (.inl rfl) (by kernel_rfl) fun K' gd hK hg => ?_
  clear hg
  go_simp
  refine hK _ _ ?_
  clear hK K' gd
  refine Wp.keep [1, 5, 9, 10, 11] fun r4 hkeep => ?_
  obtain ⟨e1_4, e5_4, e9_4, e10_4, e11_4, -⟩ := hkeep
  simp [go_sem, e1_3, e2_3, e5_3] at e1_4 e5_4 e9_4 e10_4 e11_4
  clear e1_3 e2_3 e5_3
  refine Wp.block ?_
  refine Wp.loop (fun k ρ ds wk => AllEq [1, 9, 10] ρ r4 ∧ ds = [] ∧ (Ext V2_1 wk) ∧ (∃ v, ρ 11 = .int .i64 (k : Int) ∧ ρ 5 = v ∧ OwnI wk B0 v (((s.alts.take k).filter p).map Alt.id))) (s.alts.length) ?_ ?_
  · refine ⟨AllEq.refl _ _, rfl, xa, ?_⟩
    exact ⟨_, by rw [e11_4]; rfl, e5_4, World.ownsRow_nil _ _ _ _⟩
  · rintro k r5 _ wk hk ⟨hA, rfl, xo, ⟨v5, e11, e5, hO⟩⟩
    obtain ⟨e1_5, e9_5, e10_5, -⟩ := hA
    rw [e1_4] at e1_5
    rw [e9_4] at e9_5
    rw [e10_4] at e10_5
    have zxo := Below.size xo
    have xw := xw_xa
    have c2_0 := c2_0_xa
    have c2_1 := c2_1_xa
    have f2 := f2_xa
    replace f2 := Ext.fz xo c2_0 f2
    replace xw := Ext.trans xw xo
    replace c2_0 := Ext.cell xo c2_0
    replace c2_1 := Ext.cell xo c2_1
    obtain ⟨A9, n9, c9, rfl⟩ : ∃ A n c, v5 = .slice A n c := by obtain ⟨A, c, e⟩ := hO.slice; exact ⟨A, _, c, e⟩
    refine Wp.seqRegion (.inl rfl) (by kernel_rfl) fun K' gd hK hg => ?_
    clear hg
    go_simp
    refine hK _ _ ?_
    clear hK K' gd
    refine Wp.keep [1, 5, 9, 10, 11, 12] fun r6 hkeep => ?_
    obtain ⟨e1_6, e5_6, e9_6, e10_6, e11_6, e12_6, -⟩ := hkeep
    simp [go_sem, e1_5, e5, e9_5, e10_5, e11] at e1_6 e5_6 e9_6 e10_6 e11_6 e12_6
    clear e1_5 e5 e9_5 e10_5 e11
    refine Wp.seq ?_
    by_cases h : k < s.alts.length
    · refine Wp.condT (by go_simp) ?_
      obtain ⟨b, o, rfl, hb, y0, y1, y2, y3, y4, y5⟩ := AltsV.six hA h
      replace y0 := xw.cell y0
      replace y1 := xw.cell y1
      replace y2 := xw.cell y2
      replace y3 := xw.cell y3
      replace y4 := xw.cell y4
      replace y5 := xw.cell y5
      have hst := idF_take (p := p) h
      have hfl : (((s.alts.take k).filter p).map Alt.id).length ≤ 12 := by rw [List.length_map]; have q1 := List.length_filter_le p (s.alts.take k); rw [List.length_take] at q1; omega
      by_cases hq : p s.alts[k] = true
      · skip
        refine Wp.skip ?_
        refine thenK_normal ?_
        refine Wp.seq ?_
        refine Wp.block ?_
        refine Wp.seqRegion (.inl rfl) (by kernel_rfl) fun K' gd hK hg => ?_
        clear hg
        refine Wops.cut 4 fun K1 hK1 => ?_
        simp only [List.take_succ_cons, List.take_zero]
        go_simp
        refine hK1 _ _ ?_
        clear hK1 K1
        simp only [List.drop_succ_cons, List.drop_zero]
        refine Wops.absA fun V7_4 n7 hV7_4 => ?_
        obtain ⟨q7, hV7_4, s7, kV7_4, f7, r7⟩ := hV7_4
        try simp only [q7] at kV7_4 f7 r7 ⊢
        replace f2 := Ext.fz hV7_4 c2_0 f2
        replace hO := hO.ext hV7_4
        replace xw := Ext.trans xw hV7_4
        replace xo := Ext.trans xo hV7_4
        replace c2_0 := Ext.cell hV7_4 c2_0
        replace c2_1 := Ext.cell hV7_4 c2_1
        replace y0 := Ext.cell hV7_4 y0
        replace y1 := Ext.cell hV7_4 y1
        replace y2 := Ext.cell hV7_4 y2
        replace y3 := Ext.cell hV7_4 y3
        replace y4 := Ext.cell hV7_4 y4
        replace y5 := Ext.cell hV7_4 y5
        have c7_0 := kV7_4 0 _ rfl
        have c7_1 := kV7_4 1 _ rfl
        have c7_2 := kV7_4 2 _ rfl
        have c7_3 := kV7_4 3 _ rfl
        have c7_4 := kV7_4 4 _ rfl
        have c7_5 := kV7_4 5 _ rfl
        clear kV7_4 hV7_4
        clear r7
        try simp only [Wops_nil, updO_some, updO_none]
        refine hK _ _ ?_
        clear hK K' gd
        refine Wp.keep [1, 5, 7, 9, 10, 11] fun r7 hkeep => ?_
        obtain ⟨e1_7, e5_7, e7_7, e9_7, e10_7, e11_7, -⟩ := hkeep
        simp [go_sem, e1_6, e5_6, e9_6, e10_6, e11_6, e12_6] at e1_7 e5_7 e7_7 e9_7 e10_7 e11_7
        clear e1_6 e5_6 e9_6 e10_6 e11_6 e12_6
        refine Wp.seqRegion (.inl rfl) (by kernel_rfl) fun K' gd hK hg => ?_
        clear hg
        refine Wops.cut 3 fun K1 hK1 => ?_
        simp only [List.take_succ_cons, List.take_zero]
        go_simp
        refine Wcall (.inl rfl) (hp s.alts[k] (List.getElem_mem h) _ xw) ?_
        rintro v w2 ⟨rfl, hE⟩
        go_simp
        refine hK1 _ _ ?_
        clear hK1 K1
        simp only [List.drop_succ_cons, List.drop_zero]
        have z8 := Below.size hE
        replace f2 := Ext.fz hE c2_0 f2
        replace f7 := Ext.fz hE c7_0 f7
        replace hO := hO.ext hE
        replace xw := Ext.trans xw hE
        replace xo := Ext.trans xo hE
        replace c2_0 := Ext.cell hE c2_0
        replace c2_1 := Ext.cell hE c2_1
        replace y0 := Ext.cell hE y0
        replace y1 := Ext.cell hE y1
        replace y2 := Ext.cell hE y2
        replace y3 := Ext.cell hE y3
        replace y4 := Ext.cell hE y4
        replace y5 := Ext.cell hE y5
        replace c7_0 := Ext.cell hE c7_0
        replace c7_1 := Ext.cell hE c7_1
        replace c7_2 := Ext.cell hE c7_2
        replace c7_3 := Ext.cell hE c7_3
        replace c7_4 := Ext.cell hE c7_4
        replace c7_5 := Ext.cell hE c7_5
        clear hE
        try simp only [Wops_nil, updO_some, updO_none]
        refine hK _ _ ?_
        clear hK K' gd
        refine Wp.keep [1, 5, 7, 9, 10, 11, 17] fun r9 hkeep => ?_
        obtain ⟨e1_9, e5_9, e7_9, e9_9, e10_9, e11_9, e17_9, -⟩ := hkeep
        simp [go_sem, e1_7, e5_7, e7_7, e9_7, e10_7, e11_7] at e1_9 e5_9 e7_9 e9_9 e10_9 e11_9 e17_9
        clear e1_7 e5_7 e7_7 e9_7 e10_7 e11_7
        refine Wp.condT (by go_simp) ?_
        refine Wp.loneRegion (.inl rfl) (by kernel_rfl) fun K' gd hK hg => ?_
        clear hg
        refine Wops.cut 4 fun K1 hK1 => ?_
        simp only [List.take_succ_cons, List.take_zero]
        go_simp
        refine hK1 _ _ ?_
        clear hK1 K1
        simp only [List.drop_succ_cons, List.drop_zero]
        refine Wops.absA fun V21_5 n21 hV21_5 => ?_
        obtain ⟨q21, hV21_5, s21, kV21_5, f21, r21⟩ := hV21_5
        try simp only [q21] at kV21_5 f21 r21 ⊢
        replace f2 := Ext.fz hV21_5 c2_0 f2
        replace f7 := Ext.fz hV21_5 c7_0 f7
        replace hO := hO.ext hV21_5
        replace xw := Ext.trans xw hV21_5
        replace xo := Ext.trans xo hV21_5
        replace c2_0 := Ext.cell hV21_5 c2_0
        replace c2_1 := Ext.cell hV21_5 c2_1
        replace y0 := Ext.cell hV21_5 y0
        replace y1 := Ext.cell hV21_5 y1
        replace y2 := Ext.cell hV21_5 y2
        replace y3 := Ext.cell hV21_5 y3
        replace y4 := Ext.cell hV21_5 y4
        replace y5 := Ext.cell hV21_5 y5
        replace c7_0 := Ext.cell hV21_5 c7_0
        replace c7_1 := Ext.cell hV21_5 c7_1
        replace c7_2 := Ext.cell hV21_5 c7_2
        replace c7_3 := Ext.cell hV21_5 c7_3
        replace c7_4 := Ext.cell hV21_5 c7_4
        replace c7_5 := Ext.cell hV21_5 c7_5
        clear hV21_5 f21
        have c21_0 := kV21_5 0 _ rfl
        clear kV21_5
        refine Wops.cut 1 fun K1 hK1 => ?_
        simp only [List.take_succ_cons, List.take_zero]
        obtain ⟨v', w7, hrun, hO2, hgr, -⟩ := app_run ints_T hO ⟨n21, 0, none⟩ 1 1 [.int .i64 s.alts[k].id] 22 rfl (news_one c21_0) (one_one rfl) (by omega) (by omega)
        refine Wops.law rfl (exec_append2 rfl hrun (by go_simp) (by go_simp)) ?_
        simp only [updO_some, Wops_nil]
        refine hK1 _ _ ?_
        clear hK1 K1
        simp only [List.drop_succ_cons, List.drop_zero]
        have z10 := World.grownBy.size hgr
        replace f2 := Chg.fz (grown_chg hgr) c2_0 f2 (lt_off (World.ownsRow.lt hO) (by omega))
        replace xw := Chg.to xw (grown_chg hgr) (lt_ge (World.ownsRow.lt hO) (by omega))
        replace xo := Chg.to xo (grown_chg hgr) (lt_ge (World.ownsRow.lt hO) (by omega))
        replace c2_0 := Chg.cell (grown_chg hgr) c2_0 (lt_off (World.ownsRow.lt hO) (by omega))
        replace c2_1 := Chg.cell (grown_chg hgr) c2_1 (lt_off (World.ownsRow.lt hO) (by omega))
        go_simp
        refine hK _ _ ?_
        clear hK K' gd
        refine Ends.keep [1, 5, 9, 10, 11] fun r11 hkeep => ?_
        obtain ⟨e1_11, e5_11, e9_11, e10_11, e11_11, -⟩ := hkeep
        simp [go_sem, e1_9, e5_9, e7_9, e9_9, e10_9, e11_9, e17_9] at e1_11 e5_11 e9_11 e10_11 e11_11
        clear e1_9 e5_9 e7_9 e9_9 e10_9 e11_9 e17_9
        refine Ends.mk ?_
        refine blockK_normal ?_
        refine thenK_normal ?_
        refine Wp.loneRegion (.inl rfl) (by kernel_rfl) fun K' gd hK hg => ?_
        clear hg
        go_simp
        refine hK _ _ ?_
        clear hK K' gd
        refine Ends.keep [1, 5, 9, 10, 11] fun r12 hkeep => ?_
        obtain ⟨e1_12, e5_12, e9_12, e10_12, e11_12, -⟩ := hkeep
        simp [go_sem, e1_11, e5_11, e9_11, e10_11, e11_11] at e1_12 e5_12 e9_12 e10_12 e11_12
        clear e1_11 e5_11 e9_11 e10_11 e11_11
        refine Ends.mk ?_
        refine thenK_normal ⟨by omega, ⟨by rw [e1_12, e1_4], by rw [e9_12, e9_4], by rw [e10_12, e10_4], trivial⟩, rfl, xo, ?_⟩
        exact ⟨_, by rw [e11_12, IntWalk.i64_in _ (by omega)]; rfl, e5_12, by rw [hst, if_pos hq]; unfold OwnI; rw [encI_add, List.length_append]; exact hO2⟩
      · skip
        refine Wp.skip ?_
        refine thenK_normal ?_
        refine Wp.seq ?_
        refine Wp.block ?_
        refine Wp.seqRegion (.inl rfl) (by kernel_rfl) fun K' gd hK hg => ?_
        clear hg
        refine Wops.cut 4 fun K1 hK1 => ?_
        simp only [List.take_succ_cons, List.take_zero]
        go_simp
        refine hK1 _ _ ?_
        clear hK1 K1
        simp only [List.drop_succ_cons, List.drop_zero]
        refine Wops.absA fun V7_6 n7 hV7_6 => ?_
        obtain ⟨q7, hV7_6, s7, kV7_6, f7, r7⟩ := hV7_6
        try simp only [q7] at kV7_6 f7 r7 ⊢
        replace f2 := Ext.fz hV7_6 c2_0 f2
        replace hO := hO.ext hV7_6
        replace xw := Ext.trans xw hV7_6
        replace xo := Ext.trans xo hV7_6
        replace c2_0 := Ext.cell hV7_6 c2_0
        replace c2_1 := Ext.cell hV7_6 c2_1
        replace y0 := Ext.cell hV7_6 y0
        replace y1 := Ext.cell hV7_6 y1
        replace y2 := Ext.cell hV7_6 y2
        replace y3 := Ext.cell hV7_6 y3
        replace y4 := Ext.cell hV7_6 y4
        replace y5 := Ext.cell hV7_6 y5
        have c7_0 := kV7_6 0 _ rfl
        have c7_1 := kV7_6 1 _ rfl
        have c7_2 := kV7_6 2 _ rfl
        have c7_3 := kV7_6 3 _ rfl
        have c7_4 := kV7_6 4 _ rfl
        have c7_5 := kV7_6 5 _ rfl
        clear kV7_6 hV7_6
        clear r7
        try simp only [Wops_nil, updO_some, updO_none]
        refine hK _ _ ?_
        clear hK K' gd
        refine Wp.keep [1, 5, 7, 9, 10, 11] fun r13 hkeep => ?_
        obtain ⟨e1_13, e5_13, e7_13, e9_13, e10_13, e11_13, -⟩ := hkeep
        simp [go_sem, e1_6, e5_6, e9_6, e10_6, e11_6, e12_6] at e1_13 e5_13 e7_13 e9_13 e10_13 e11_13
        clear e1_6 e5_6 e9_6 e10_6 e11_6 e12_6
        refine Wp.seqRegion (.inl rfl) (by kernel_rfl) fun K' gd hK hg => ?_
        clear hg
        refine Wops.cut 3 fun K1 hK1 => ?_
        simp only [List.take_succ_cons, List.take_zero]
        go_simp
        refine Wcall (.inl rfl) (hp s.alts[k] (List.getElem_mem h) _ xw) ?_
        rintro v w2 ⟨rfl, hE⟩
        go_simp
        refine hK1 _ _ ?_
        clear hK1 K1
        simp only [List.drop_succ_cons, List.drop_zero]
        have z14 := Below.size hE
        replace f2 := Ext.fz hE c2_0 f2
        replace f7 := Ext.fz hE c7_0 f7
        replace hO := hO.ext hE
        replace xw := Ext.trans xw hE
        replace xo := Ext.trans xo hE
        replace c2_0 := Ext.cell hE c2_0
        replace c2_1 := Ext.cell hE c2_1
        replace y0 := Ext.cell hE y0
        replace y1 := Ext.cell hE y1
        replace y2 := Ext.cell hE y2
        replace y3 := Ext.cell hE y3
        replace y4 := Ext.cell hE y4
        replace y5 := Ext.cell hE y5
        replace c7_0 := Ext.cell hE c7_0
        replace c7_1 := Ext.cell hE c7_1
        replace c7_2 := Ext.cell hE c7_2
        replace c7_3 := Ext.cell hE c7_3
        replace c7_4 := Ext.cell hE c7_4
        replace c7_5 := Ext.cell hE c7_5
        clear hE
        try simp only [Wops_nil, updO_some, updO_none]
        refine hK _ _ ?_
        clear hK K' gd
        refine Wp.keep [1, 5, 7, 9, 10, 11, 17] fun r15 hkeep => ?_
        obtain ⟨e1_15, e5_15, e7_15, e9_15, e10_15, e11_15, e17_15, -⟩ := hkeep
        simp [go_sem, e1_13, e5_13, e7_13, e9_13, e10_13, e11_13] at e1_15 e5_15 e7_15 e9_15 e10_15 e11_15 e17_15
        clear e1_13 e5_13 e7_13 e9_13 e10_13 e11_13
        refine Wp.condF (by go_simp) ?_
        refine Wp.skip ?_
        refine blockK_normal ?_
        refine thenK_normal ?_
        refine Wp.loneRegion (.inl rfl) (by kernel_rfl) fun K' gd hK hg => ?_
        clear hg
        go_simp
        refine hK _ _ ?_
        clear hK K' gd
        refine Ends.keep [1, 5, 9, 10, 11] fun r16 hkeep => ?_
        obtain ⟨e1_16, e5_16, e9_16, e10_16, e11_16, -⟩ := hkeep
        simp [go_sem, e1_15, e5_15, e7_15, e9_15, e10_15, e11_15, e17_15] at e1_16 e5_16 e9_16 e10_16 e11_16
        clear e1_15 e5_15 e7_15 e9_15 e10_15 e11_15 e17_15
        refine Ends.mk ?_
        refine thenK_normal ⟨by omega, ⟨by rw [e1_16, e1_4], by rw [e9_16, e9_4], by rw [e10_16, e10_4], trivial⟩, rfl, xo, ?_⟩
        exact ⟨_, by rw [e11_16, IntWalk.i64_in _ (by omega)]; rfl, e5_16, by rw [hst, if_neg hq, List.append_nil]; exact hO⟩
    · refine Wp.condF (by go_simp) ?_
      obtain rfl : k = s.alts.length := by omega
      rw [List.take_length] at hO
      have hids : ∃ _u : Unit, idsS s p = sortI ((s.alts.filter p).map Alt.id) := ⟨(), rfl⟩
      have hfl : ((s.alts.filter p).map Alt.id).length ≤ 12 := by rw [List.length_map]; have q1 := List.length_filter_le p s.alts; omega
      obtain ⟨L, hL⟩ : ∃ L, ∃ _u : Unit, (s.alts.filter p).map Alt.id = L := ⟨_, (), rfl⟩
      rw [hL.choose_spec] at hO hids hfl
      by_cases hne : L = []
      · skip
        subst hne
        obtain ⟨A8, c8, e8⟩ := OwnI.slice hO
        injection e8 with q1 q2 q3
        subst q2
        refine Wp.exit ?_
        refine thenK_exit ?_
        refine thenK_exit ?_
        refine blockK_here ?_
        refine thenK_normal ?_
        refine Wp.seqRegion (.inl rfl) (by kernel_rfl) fun K' gd hK hg => ?_
        clear hg
        refine Wops.cut 2 fun K1 hK1 => ?_
        simp only [List.take_succ_cons, List.take_zero]
        go_simp
        refine Wcall (.inl rfl) (sort0_c _ _ _) ?_
        rintro v w3 ⟨-, hE⟩
        go_simp
        refine hK1 _ _ ?_
        clear hK1 K1
        simp only [List.drop_succ_cons, List.drop_zero]
        have z17 := Below.size hE
        replace f2 := Ext.fz hE c2_0 f2
        replace hO := hO.ext hE
        replace xw := Ext.trans xw hE
        replace xo := Ext.trans xo hE
        replace c2_0 := Ext.cell hE c2_0
        replace c2_1 := Ext.cell hE c2_1
        clear hE
        try simp only [Wops_nil, updO_some, updO_none]
        refine hK _ _ ?_
        clear hK K' gd
        refine Wp.keep [5] fun r18 hkeep => ?_
        obtain ⟨e5_18, -⟩ := hkeep
        simp [go_sem, e1_6, e5_6, e9_6, e10_6, e11_6, e12_6] at e5_18
        clear e1_6 e5_6 e9_6 e10_6 e11_6 e12_6
        refine Wp.seqRegion (.inl rfl) (by kernel_rfl) fun K' gd hK hg => ?_
        clear hg
        go_simp
        refine hK _ _ ?_
        clear hK K' gd
        refine Wp.keep [4] fun r19 hkeep => ?_
        obtain ⟨e4_19, -⟩ := hkeep
        simp [go_sem, e5_18] at e4_19
        clear e5_18
        refine Wp.ret ?_
        refine endK_tmp Try.results100 (by decide) ?_
        rw [e4_19]
        exact ⟨by rw [hids.choose_spec]; exact ⟨_, _, rfl, fun h => absurd rfl h, Nat.zero_le _⟩, xw⟩
      · skip
        obtain ⟨b9, c8, e9, hb9, hc8, hJ⟩ := hO.rowJ hne
        injection e9 with q1 q2 q3
        subst q1
        subst q2
        subst q3
        refine Wp.exit ?_
        refine thenK_exit ?_
        refine thenK_exit ?_
        refine blockK_here ?_
        refine thenK_normal ?_
        refine Wp.seqRegion (.inl rfl) (by kernel_rfl) fun K' gd hK hg => ?_
        clear hg
        refine Wops.cut 2 fun K1 hK1 => ?_
        simp only [List.take_succ_cons, List.take_zero]
        go_simp
        refine Wcall (.inl rfl) (sort_c b9 L.length _ L _ hJ rfl hfl) ?_
        rintro v w3 ⟨hS, hE⟩
        go_simp
        refine hK1 _ _ ?_
        clear hK1 K1
        simp only [List.drop_succ_cons, List.drop_zero]
        have z20 := Chg.size hE
        replace f2 := Chg.fz hE c2_0 f2 XN
        replace xw := Chg.to xw hE XL
        replace xo := Chg.to xo hE XL
        replace c2_0 := Chg.cell hE c2_0 XN
        replace c2_1 := Chg.cell hE c2_1 XN
        try simp only [Wops_nil, updO_some, updO_none]
        refine hK _ _ ?_
        clear hK K' gd
        refine Wp.keep [5] fun r21 hkeep => ?_
        obtain ⟨e5_21, -⟩ := hkeep
        simp [go_sem, e1_6, e5_6, e9_6, e10_6, e11_6, e12_6] at e5_21
        clear e1_6 e5_6 e9_6 e10_6 e11_6 e12_6
        refine Wp.seqRegion (.inl rfl) (by kernel_rfl) fun K' gd hK hg => ?_
        clear hg
        go_simp
        refine hK _ _ ?_
        clear hK K' gd
        refine Wp.keep [4] fun r22 hkeep => ?_
        obtain ⟨e4_22, -⟩ := hkeep
        simp [go_sem, e5_21] at e4_22
        clear e5_21
        refine Wp.ret ?_
        refine endK_tmp Try.results100 (by decide) ?_
        rw [e4_22]
        exact ⟨by rw [hids.choose_spec]; have := hS.intsB (base := w.heap.size) (by omega) (by rw [sortI_len]; exact hc8); rwa [sortI_len] at this, xw⟩
def seenP (l : List Int) (a : Alt) : Bool := decide (a.day ≤ gI l a.tu.toNat)
theorem seen1_c (a : Alt) (q : Nat) (fv : Value) (l : List Int) (w : World) (hq : w.cell? ⟨q, 0, none⟩ = some fv) (hl : IntsV w w.heap.size fv l) (ha : 0 ≤ a.tu ∧ a.tu < (l.length : Int)) :
    CallsV Try.prog 101 (#[altV a] ++ #[.pointer (some ⟨q, 0, none⟩)]) w fun v w' => v = .bool (seenP l a) ∧ Ext w w' := by
  show CallsV _ _ #[.agg #[.int .i64 a.id, .int .i64 a.kind, .int .i64 a.day, .int .i64 a.frm, .int .i64 a.tu, .int .i64 a.word], .pointer (some ⟨q, 0, none⟩)] _ _
  obtain ⟨n, hn⟩ : ∃ n : Nat, a.tu = (n : Int) := ⟨a.tu.toNat, by omega⟩
  have hs : ∃ _u : Unit, seenP l a = decide (a.day ≤ gI l n) := ⟨(), by unfold seenP; rw [hn]; rfl⟩
  rw [hn]
  have hnl : n < l.length := by omega
  obtain ⟨b, o, c, rfl, hb, hc⟩ := hl.get hnl
  have y0 := hc n hnl
  clear hc hn
  refine Wp.fn Try.func101 rfl Try.ntmps101 (by simp) ?_
  have xw := Ext.refl w
  refine Wp.keep [0, 1] fun r1 hkeep => ?_
  obtain ⟨e0_1, e1_1, -⟩ := hkeep
  simp [go_sem] at e0_1 e1_1
  refine Wp.seqRegion (.inl rfl) (by kernel_rfl) fun K' gd hK hg => ?_
  clear hg
  refine Wops.cut 1 fun K1 hK1 => ?_
  simp only [List.take_succ_cons, List.take_zero]
  go_simp
  refine hK1 _ _ ?_
  clear hK1 K1
  simp only [List.drop_succ_cons, List.drop_zero]
  refine Wops.absA fun V2_1 n2 hV2_1 => ?_
  obtain ⟨q2, hV2_1, s2, kV2_1, f2, r2⟩ := hV2_1
  try simp only [q2] at kV2_1 f2 r2 ⊢
  replace xw := Ext.trans xw hV2_1
  replace hq := Ext.cell hV2_1 hq
  replace y0 := Ext.cell hV2_1 y0
  have c2_0 := kV2_1 0 _ rfl
  have c2_1 := kV2_1 1 _ rfl
  have c2_2 := kV2_1 2 _ rfl
  have c2_3 := kV2_1 3 _ rfl
  have c2_4 := kV2_1 4 _ rfl
  have c2_5 := kV2_1 5 _ rfl
  clear kV2_1 hV2_1
  clear r2
  go_simp
  refine hK _ _ ?_
  clear hK K' gd
  refine Wp.keep [1, 2] fun r2 hkeep => ?_
  obtain ⟨e1_2, e2_2, -⟩ := hkeep
  simp [go_sem, e0_1, e1_1] at e1_2 e2_2
  clear e0_1 e1_1
  refine Wp.seqDraw (.inl rfl) mixed [([0, 1, 2, 3, 4], none), ([5, 6, 7, 8], none)] (by kernel_rfl) fun K' gd hK hg => ?_
  clear hg
  simp only [pick, nth, List.map_cons, List.map_nil, Option.map_none, Option.map_some]
  refine Mops.absD fun D2 hD2 zD2 => ?_
  replace f2 := Ext.fz hD2 c2_0 f2
  replace xw := Ext.trans xw hD2
  replace hq := Ext.cell hD2 hq
  replace y0 := Ext.cell hD2 y0
  replace c2_0 := Ext.cell hD2 c2_0
  replace c2_1 := Ext.cell hD2 c2_1
  replace c2_2 := Ext.cell hD2 c2_2
  replace c2_3 := Ext.cell hD2 c2_3
  replace c2_4 := Ext.cell hD2 c2_4
  replace c2_5 := Ext.cell hD2 c2_5
  clear hD2
  apply Mops.none
  · intro w' hE'
    have hC' := hE'.cellsS
    go_simp
    with_reducible rfl
  apply Mops.none
  · intro w' hE'
    have hC' := hE'.cellsS
    go_simp
    with_reducible rfl
  refine Mops.done ?_
  refine hK _ _ ?_
  clear hK K' gd
  refine Wp.keep [3] fun r3 hkeep => ?_
  obtain ⟨e3_3, -⟩ := hkeep
  simp [go_sem, e1_2, e2_2] at e3_3
  clear e1_2 e2_2
  refine Wp.ret ?_
  refine endK_tmp Try.results101 (by decide) ?_
  rw [e3_3]
  exact ⟨by rw [hs.choose_spec], xw⟩
theorem seen2_c (a : Alt) (q : Nat) (fv : Value) (l : List Int) (w : World) (hq : w.cell? ⟨q, 0, none⟩ = some fv) (hl : IntsV w w.heap.size fv l) (ha : 0 ≤ a.tu ∧ a.tu < (l.length : Int)) :
    CallsV Try.prog 102 (#[altV a] ++ #[.pointer (some ⟨q, 0, none⟩)]) w fun v w' => v = .bool (seenP l a) ∧ Ext w w' := by
  show CallsV _ _ #[.agg #[.int .i64 a.id, .int .i64 a.kind, .int .i64 a.day, .int .i64 a.frm, .int .i64 a.tu, .int .i64 a.word], .pointer (some ⟨q, 0, none⟩)] _ _
  obtain ⟨n, hn⟩ : ∃ n : Nat, a.tu = (n : Int) := ⟨a.tu.toNat, by omega⟩
  have hs : ∃ _u : Unit, seenP l a = decide (a.day ≤ gI l n) := ⟨(), by unfold seenP; rw [hn]; rfl⟩
  rw [hn]
  have hnl : n < l.length := by omega
  obtain ⟨b, o, c, rfl, hb, hc⟩ := hl.get hnl
  have y0 := hc n hnl
  clear hc hn
  refine Wp.fn Try.func102 rfl Try.ntmps102 (by simp) ?_
  have xw := Ext.refl w
  refine Wp.keep [0, 1] fun r1 hkeep => ?_
  obtain ⟨e0_1, e1_1, -⟩ := hkeep
  simp [go_sem] at e0_1 e1_1
  refine Wp.seqRegion (.inl rfl) (by kernel_rfl) fun K' gd hK hg => ?_
  clear hg
  refine Wops.cut 1 fun K1 hK1 => ?_
  simp only [List.take_succ_cons, List.take_zero]
  go_simp
  refine hK1 _ _ ?_
  clear hK1 K1
  simp only [List.drop_succ_cons, List.drop_zero]
  refine Wops.absA fun V2_1 n2 hV2_1 => ?_
  obtain ⟨q2, hV2_1, s2, kV2_1, f2, r2⟩ := hV2_1
  try simp only [q2] at kV2_1 f2 r2 ⊢
  replace xw := Ext.trans xw hV2_1
  replace hq := Ext.cell hV2_1 hq
  replace y0 := Ext.cell hV2_1 y0
  have c2_0 := kV2_1 0 _ rfl
  have c2_1 := kV2_1 1 _ rfl
  have c2_2 := kV2_1 2 _ rfl
  have c2_3 := kV2_1 3 _ rfl
  have c2_4 := kV2_1 4 _ rfl
  have c2_5 := kV2_1 5 _ rfl
  clear kV2_1 hV2_1
  clear r2
  go_simp
  refine hK _ _ ?_
  clear hK K' gd
  refine Wp.keep [1, 2] fun r2 hkeep => ?_
  obtain ⟨e1_2, e2_2, -⟩ := hkeep
  simp [go_sem, e0_1, e1_1] at e1_2 e2_2
  clear e0_1 e1_1
  refine Wp.seqDraw (.inl rfl) mixed [([0, 1, 2, 3, 4], none), ([5, 6, 7, 8], none)] (by kernel_rfl) fun K' gd hK hg => ?_
  clear hg
  simp only [pick, nth, List.map_cons, List.map_nil, Option.map_none, Option.map_some]
  refine Mops.absD fun D2 hD2 zD2 => ?_
  replace f2 := Ext.fz hD2 c2_0 f2
  replace xw := Ext.trans xw hD2
  replace hq := Ext.cell hD2 hq
  replace y0 := Ext.cell hD2 y0
  replace c2_0 := Ext.cell hD2 c2_0
  replace c2_1 := Ext.cell hD2 c2_1
  replace c2_2 := Ext.cell hD2 c2_2
  replace c2_3 := Ext.cell hD2 c2_3
  replace c2_4 := Ext.cell hD2 c2_4
  replace c2_5 := Ext.cell hD2 c2_5
  clear hD2
  apply Mops.none
  · intro w' hE'
    have hC' := hE'.cellsS
    go_simp
    with_reducible rfl
  apply Mops.none
  · intro w' hE'
    have hC' := hE'.cellsS
    go_simp
    with_reducible rfl
  refine Mops.done ?_
  refine hK _ _ ?_
  clear hK K' gd
  refine Wp.keep [3] fun r3 hkeep => ?_
  obtain ⟨e3_3, -⟩ := hkeep
  simp [go_sem, e1_2, e2_2] at e3_3
  clear e1_2 e2_2
  refine Wp.ret ?_
  refine endK_tmp Try.results102 (by decide) ?_
  rw [e3_3]
  exact ⟨by rw [hs.choose_spec], xw⟩
theorem Seen_c (v u : Value) (s : Sh) (c : Cp) (w : World) (hV : SheetV w w.heap.size v s) (hU : CopyV w w.heap.size u c) (hf : FitS s) (hg : FitC c) (hal : begE s c = 0 → s.alts.length ≤ 12) :
    CallsV Try.prog 46 #[v, u] w fun v w' => ∃ x y, v = .tuple #[x, y, .int .i64 (begE s c)] ∧ IntsB w' w.heap.size x (if begE s c = 0 then idsS s (seenP (s.md c).first) else []) ∧
      IntsB w' w.heap.size y (if begE s c = 0 then idsS s (seenP (s.md c).last) else []) ∧ Ext w w' := by
  obtain ⟨wv, av, rfl, ⟨A, c1, rfl, -, -⟩, ⟨A3, c3, rfl, -, -⟩⟩ := id hV
  obtain ⟨wu, rfl, hW⟩ := id hU
  obtain ⟨A2, c2, rfl, -, -⟩ := id hW
  refine Wp.fn Try.func46 rfl Try.ntmps46 (by simp) ?_
  have xw := Ext.refl w
  refine Wp.keep [0, 1] fun r1 hkeep => ?_
  obtain ⟨e0_1, e1_1, -⟩ := hkeep
  simp [go_sem] at e0_1 e1_1
  refine Wp.seqRegion (.inl rfl) (by kernel_rfl) fun K' gd hK hg => ?_
  clear hg
  refine Wops.cut 1 fun K1 hK1 => ?_
  simp only [List.take_succ_cons, List.take_zero]
  go_simp
  refine hK1 _ _ ?_
  clear hK1 K1
  simp only [List.drop_succ_cons, List.drop_zero]
  refine Wops.absA fun V2_1 n2 hV2_1 => ?_
  obtain ⟨q2, hV2_1, s2, kV2_1, f2, r2⟩ := hV2_1
  try simp only [q2] at kV2_1 f2 r2 ⊢
  replace xw := Ext.trans xw hV2_1
  have c2_0 := kV2_1 0 _ rfl
  have c2_1 := kV2_1 1 _ rfl
  clear kV2_1 hV2_1
  clear r2
  refine Wops.cut 1 fun K1 hK1 => ?_
  simp only [List.take_succ_cons, List.take_zero]
  go_simp
  refine hK1 _ _ ?_
  clear hK1 K1
  simp only [List.drop_succ_cons, List.drop_zero]
  refine Wops.absA fun V3_2 n3 hV3_2 => ?_
  obtain ⟨q3, hV3_2, s3, kV3_2, f3, r3⟩ := hV3_2
  try simp only [q3] at kV3_2 f3 r3 ⊢
  replace f2 := Ext.fz hV3_2 c2_0 f2
  replace xw := Ext.trans xw hV3_2
  replace c2_0 := Ext.cell hV3_2 c2_0
  replace c2_1 := Ext.cell hV3_2 c2_1
  have c3_0 := kV3_2 0 _ rfl
  have c3_1 := kV3_2 1 _ rfl
  have c3_2 := kV3_2 2 _ rfl
  have c3_3 := kV3_2 3 _ rfl
  clear kV3_2 hV3_2
  clear r3
  go_simp
  refine hK _ _ ?_
  clear hK K' gd
  refine Wp.keep [2, 3] fun r2 hkeep => ?_
  obtain ⟨e2_2, e3_2, -⟩ := hkeep
  simp [go_sem, e0_1, e1_1] at e2_2 e3_2
  clear e0_1 e1_1
  refine Wp.seqRegion (.inl rfl) (by kernel_rfl) fun K' gd hK hg => ?_
  clear hg
  refine Wops.cut 3 fun K1 hK1 => ?_
  simp only [List.take_succ_cons, List.take_zero]
  go_simp
  refine Wcall (.inl rfl) (begun_c _ _ s c _ (hV.ext xw) (hU.ext xw) hf hg) ?_
  rintro v w2 ⟨B1, b2, b3, b4, b5, b6, B2, b7, b8, dv, rfl, hM, hI, hE⟩
  have xc := Ext.refl w2
  obtain ⟨A6, n6, c6, rfl⟩ : ∃ A n c, dv = .slice A n c := by obtain ⟨A, c, e⟩ := hI.slice; exact ⟨A, _, c, e⟩
  go_simp
  refine hK1 _ _ ?_
  clear hK1 K1
  simp only [List.drop_succ_cons, List.drop_zero]
  have z3 := Below.size hE
  replace f2 := Ext.fz hE c2_0 f2
  replace f3 := Ext.fz hE c3_0 f3
  replace xw := Ext.trans xw hE
  replace c2_0 := Ext.cell hE c2_0
  replace c2_1 := Ext.cell hE c2_1
  replace c3_0 := Ext.cell hE c3_0
  replace c3_1 := Ext.cell hE c3_1
  replace c3_2 := Ext.cell hE c3_2
  replace c3_3 := Ext.cell hE c3_3
  clear hE
  refine Wops.cut 5 fun K1 hK1 => ?_
  simp only [List.take_succ_cons, List.take_zero]
  go_simp
  refine hK1 _ _ ?_
  clear hK1 K1
  simp only [List.drop_succ_cons, List.drop_zero]
  refine Wops.absA fun V7_4 n7 hV7_4 => ?_
  obtain ⟨q7, hV7_4, s7, kV7_4, f7, r7⟩ := hV7_4
  try simp only [q7] at kV7_4 f7 r7 ⊢
  replace f2 := Ext.fz hV7_4 c2_0 f2
  replace f3 := Ext.fz hV7_4 c3_0 f3
  replace xw := Ext.trans xw hV7_4
  replace xc := Ext.trans xc hV7_4
  replace c2_0 := Ext.cell hV7_4 c2_0
  replace c2_1 := Ext.cell hV7_4 c2_1
  replace c3_0 := Ext.cell hV7_4 c3_0
  replace c3_1 := Ext.cell hV7_4 c3_1
  replace c3_2 := Ext.cell hV7_4 c3_2
  replace c3_3 := Ext.cell hV7_4 c3_3
  have c7_0 := kV7_4 0 _ rfl
  have c7_1 := kV7_4 1 _ rfl
  have c7_2 := kV7_4 2 _ rfl
  have c7_3 := kV7_4 3 _ rfl
  have c7_4 := kV7_4 4 _ rfl
  clear kV7_4 hV7_4
  clear r7
  refine Wops.cut 1 fun K1 hK1 => ?_
  simp only [List.take_succ_cons, List.take_zero]
  go_simp
  refine hK1 _ _ ?_
  clear hK1 K1
  simp only [List.drop_succ_cons, List.drop_zero]
  refine Wops.absA fun V8_5 n8 hV8_5 => ?_
  obtain ⟨q8, hV8_5, s8, kV8_5, f8, r8⟩ := hV8_5
  try simp only [q8] at kV8_5 f8 r8 ⊢
  replace f2 := Ext.fz hV8_5 c2_0 f2
  replace f3 := Ext.fz hV8_5 c3_0 f3
  replace f7 := Ext.fz hV8_5 c7_0 f7
  replace xw := Ext.trans xw hV8_5
  replace xc := Ext.trans xc hV8_5
  replace c2_0 := Ext.cell hV8_5 c2_0
  replace c2_1 := Ext.cell hV8_5 c2_1
  replace c3_0 := Ext.cell hV8_5 c3_0
  replace c3_1 := Ext.cell hV8_5 c3_1
  replace c3_2 := Ext.cell hV8_5 c3_2
  replace c3_3 := Ext.cell hV8_5 c3_3
  replace c7_0 := Ext.cell hV8_5 c7_0
  replace c7_1 := Ext.cell hV8_5 c7_1
  replace c7_2 := Ext.cell hV8_5 c7_2
  replace c7_3 := Ext.cell hV8_5 c7_3
  replace c7_4 := Ext.cell hV8_5 c7_4
  have c8_0 := kV8_5 0 _ rfl
  clear kV8_5 hV8_5
  clear r8
  refine Wops.cut 1 fun K1 hK1 => ?_
  simp only [List.take_succ_cons, List.take_zero]
  go_simp
  refine hK1 _ _ ?_
  clear hK1 K1
  simp only [List.drop_succ_cons, List.drop_zero]
  refine Wops.absS (b := n7) (i := 0) [_, _, _, _, _] (somes [cellVal c7_0, cellVal c7_1, cellVal c7_2, cellVal c7_3, cellVal c7_4] (by simp) (by intro j v hj; match j, hj with | 0, hj => (simp at hj; subst hj; exact c7_0) | 1, hj => (simp at hj; subst hj; exact c7_1) | 2, hj => (simp at hj; subst hj; exact c7_2) | 3, hj => (simp at hj; subst hj; exact c7_3) | 4, hj => (simp at hj; subst hj; exact c7_4))) fun P6 hP6 => ?_
  have zP6 := hP6.same
  replace f2 := Put.frz hP6 f2
  replace f3 := Put.frz hP6 f3
  replace f7 := Put.frz hP6 f7
  replace f8 := Put.frz hP6 f8
  replace xw := Put.to xw hP6 (by omega)
  replace xc := Put.to xc hP6 (by omega)
  replace c2_0 := Put.cell hP6 c2_0 (by omega)
  replace c2_1 := Put.cell hP6 c2_1 (by omega)
  replace c3_0 := Put.cell hP6 c3_0 (by omega)
  replace c3_1 := Put.cell hP6 c3_1 (by omega)
  replace c3_2 := Put.cell hP6 c3_2 (by omega)
  replace c3_3 := Put.cell hP6 c3_3 (by omega)
  clear c7_0
  clear c7_1
  clear c7_2
  clear c7_3
  clear c7_4
  replace c8_0 := Put.cell hP6 c8_0 (by omega)
  have c7_0 := hP6.new 0 _ rfl
  try simp only [Nat.reduceAdd, Nat.zero_add, Nat.add_zero] at c7_0
  have c7_1 := hP6.new 1 _ rfl
  try simp only [Nat.reduceAdd, Nat.zero_add, Nat.add_zero] at c7_1
  have c7_2 := hP6.new 2 _ rfl
  try simp only [Nat.reduceAdd, Nat.zero_add, Nat.add_zero] at c7_2
  have c7_3 := hP6.new 3 _ rfl
  try simp only [Nat.reduceAdd, Nat.zero_add, Nat.add_zero] at c7_3
  have c7_4 := hP6.new 4 _ rfl
  try simp only [Nat.reduceAdd, Nat.zero_add, Nat.add_zero] at c7_4
  clear hP6
  refine Wops.cut 1 fun K1 hK1 => ?_
  simp only [List.take_succ_cons, List.take_zero]
  go_simp
  refine hK1 _ _ ?_
  clear hK1 K1
  simp only [List.drop_succ_cons, List.drop_zero]
  refine Wops.absS (b := n8) (i := 0) [_] (somes [cellVal c8_0] (by simp) (by intro j v hj; match j, hj with | 0, hj => (simp at hj; subst hj; exact c8_0))) fun P7 hP7 => ?_
  have zP7 := hP7.same
  replace f2 := Put.frz hP7 f2
  replace f3 := Put.frz hP7 f3
  replace f7 := Put.frz hP7 f7
  replace f8 := Put.frz hP7 f8
  replace xw := Put.to xw hP7 (by omega)
  replace xc := Put.to xc hP7 (by omega)
  replace c2_0 := Put.cell hP7 c2_0 (by omega)
  replace c2_1 := Put.cell hP7 c2_1 (by omega)
  replace c3_0 := Put.cell hP7 c3_0 (by omega)
  replace c3_1 := Put.cell hP7 c3_1 (by omega)
  replace c3_2 := Put.cell hP7 c3_2 (by omega)
  replace c3_3 := Put.cell hP7 c3_3 (by omega)
  clear c8_0
  replace c7_0 := Put.cell hP7 c7_0 (by omega)
  replace c7_1 := Put.cell hP7 c7_1 (by omega)
  replace c7_2 := Put.cell hP7 c7_2 (by omega)
  replace c7_3 := Put.cell hP7 c7_3 (by omega)
  replace c7_4 := Put.cell hP7 c7_4 (by omega)
  have c8_0 := hP7.new 0 _ rfl
  try simp only [Nat.reduceAdd, Nat.zero_add, Nat.add_zero] at c8_0
  clear hP7
  go_simp
  refine hK _ _ ?_
  clear hK K' gd
  refine Wp.keep [2, 7, 8, 9] fun r4 hkeep => ?_
  obtain ⟨e2_4, e7_4, e8_4, e9_4, -⟩ := hkeep
  simp [go_sem, e2_2, e3_2] at e2_4 e7_4 e8_4 e9_4
  clear e2_2 e3_2
  by_cases h0 : begE s c = 0
  · skip
    obtain ⟨wu, hwu, hM⟩ := hM h0
    injection hwu with hwu
    simp at hwu
    subst hwu
    rw [if_pos h0] at hI
    obtain ⟨h1, hok⟩ := begE_zero.1 h0
    obtain ⟨hg0, hv0⟩ := copyS_zero.1 h1
    have hgd := checkS_zero.1 hg0
    have hmk := hgd.mdOk hv0
    have hfl : (s.md c).first.length = s.words.length := ((hmk.of_ok hok).1).trans hv0.1
    have hll : (s.md c).last.length = s.words.length := ((hmk.last_fit hok).1).trans hv0.1
    have htu : ∀ a ∈ s.alts, 0 ≤ a.tu ∧ a.tu < (s.words.length : Int) := fun a ha => by obtain ⟨q1, q2, q3, q4, -⟩ := hgd.rt a ha; unfold Sh.n at q3 q4; omega
    replace hfl : ∃ _u : Unit, (s.md c).first.length = s.words.length := ⟨(), hfl⟩
    replace hll : ∃ _u : Unit, (s.md c).last.length = s.words.length := ⟨(), hll⟩
    refine Wp.seq ?_
    refine Wp.seqRegion (.inl rfl) (by kernel_rfl) fun K' gd hK hg => ?_
    clear hg
    go_simp
    refine hK _ _ ?_
    clear hK K' gd
    refine Wp.keep [2, 7, 8, 9, 21] fun r5 hkeep => ?_
    obtain ⟨e2_5, e7_5, e8_5, e9_5, e21_5, -⟩ := hkeep
    simp [go_sem, e2_4, e7_4, e8_4, e9_4] at e2_5 e7_5 e8_5 e9_5 e21_5
    clear e2_4 e7_4 e8_4 e9_4
    refine Wp.condF (by go_simp) ?_
    refine Wp.skip ?_
    refine thenK_normal ?_
    refine Wp.seqRegion (.inl rfl) (by kernel_rfl) fun K' gd hK hg => ?_
    clear hg
    refine Wops.cut 2 fun K1 hK1 => ?_
    simp only [List.take_succ_cons, List.take_zero]
    go_simp
    refine Wcall (.inl rfl) (last_c _ (s.md c) _ ((hM.ext xc).made (hW.ext xw)) hmk) ?_
    rintro v w4 ⟨hJ, hE⟩
    have xd := Ext.refl w4
    obtain ⟨A7, n7, c7, rfl⟩ : ∃ A n c, v = .slice A n c := by obtain ⟨A, c, e⟩ := hJ.slice; exact ⟨A, _, c, e⟩
    go_simp
    refine hK1 _ _ ?_
    clear hK1 K1
    simp only [List.drop_succ_cons, List.drop_zero]
    have z6 := Below.size hE
    replace f2 := Ext.fz hE c2_0 f2
    replace f3 := Ext.fz hE c3_0 f3
    replace f7 := Ext.fz hE c7_0 f7
    replace f8 := Ext.fz hE c8_0 f8
    replace xw := Ext.trans xw hE
    replace xc := Ext.trans xc hE
    replace c2_0 := Ext.cell hE c2_0
    replace c2_1 := Ext.cell hE c2_1
    replace c3_0 := Ext.cell hE c3_0
    replace c3_1 := Ext.cell hE c3_1
    replace c3_2 := Ext.cell hE c3_2
    replace c3_3 := Ext.cell hE c3_3
    replace c7_0 := Ext.cell hE c7_0
    replace c7_1 := Ext.cell hE c7_1
    replace c7_2 := Ext.cell hE c7_2
    replace c7_3 := Ext.cell hE c7_3
    replace c7_4 := Ext.cell hE c7_4
    replace c8_0 := Ext.cell hE c8_0
    clear hE
    refine Wops.cut 2 fun K1 hK1 => ?_
    simp only [List.take_succ_cons, List.take_zero]
    go_simp
    refine hK1 _ _ ?_
    clear hK1 K1
    simp only [List.drop_succ_cons, List.drop_zero]
    refine Wops.absA fun V10_9 n10 hV10_9 => ?_
    obtain ⟨q10, hV10_9, s10, kV10_9, f10, r10⟩ := hV10_9
    try simp only [q10] at kV10_9 f10 r10 ⊢
    replace f2 := Ext.fz hV10_9 c2_0 f2
    replace f3 := Ext.fz hV10_9 c3_0 f3
    replace f7 := Ext.fz hV10_9 c7_0 f7
    replace f8 := Ext.fz hV10_9 c8_0 f8
    replace xw := Ext.trans xw hV10_9
    replace xc := Ext.trans xc hV10_9
    replace xd := Ext.trans xd hV10_9
    replace c2_0 := Ext.cell hV10_9 c2_0
    replace c2_1 := Ext.cell hV10_9 c2_1
    replace c3_0 := Ext.cell hV10_9 c3_0
    replace c3_1 := Ext.cell hV10_9 c3_1
    replace c3_2 := Ext.cell hV10_9 c3_2
    replace c3_3 := Ext.cell hV10_9 c3_3
    replace c7_0 := Ext.cell hV10_9 c7_0
    replace c7_1 := Ext.cell hV10_9 c7_1
    replace c7_2 := Ext.cell hV10_9 c7_2
    replace c7_3 := Ext.cell hV10_9 c7_3
    replace c7_4 := Ext.cell hV10_9 c7_4
    replace c8_0 := Ext.cell hV10_9 c8_0
    have c10_0 := kV10_9 0 _ rfl
    clear kV10_9 hV10_9
    clear r10
    try simp only [Wops_nil, updO_some, updO_none]
    refine hK _ _ ?_
    clear hK K' gd
    refine Wp.keep [2, 8, 10] fun r7 hkeep => ?_
    obtain ⟨e2_7, e8_7, e10_7, -⟩ := hkeep
    simp [go_sem, e2_5, e7_5, e8_5, e9_5, e21_5] at e2_7 e8_7 e10_7
    clear e2_5 e7_5 e8_5 e9_5 e21_5
    refine Wp.seqRegion (.inl rfl) (by kernel_rfl) fun K' gd hK hg => ?_
    clear hg
    refine Wops.cut 3 fun K1 hK1 => ?_
    simp only [List.take_succ_cons, List.take_zero]
    go_simp
    refine Wcall (.inl rfl) (ids_c _ s (seenP (s.md c).first) 101 #[.pointer (some ⟨n8, 0, none⟩)] _ (hV.ext xw) (hal h0) (enters_of Try.func101 (by kernel_rfl) rfl) (fun a ha W hW => seen1_c a n8 _ _ W (hW.cell c8_0) (hI.ext (xc.trans hW)).ints (by rw [hfl.choose_spec]; exact htu a ha))) ?_
    rintro v w5 ⟨hX, hE⟩
    go_simp
    refine hK1 _ _ ?_
    clear hK1 K1
    simp only [List.drop_succ_cons, List.drop_zero]
    have z8 := Below.size hE
    replace f2 := Ext.fz hE c2_0 f2
    replace f3 := Ext.fz hE c3_0 f3
    replace f7 := Ext.fz hE c7_0 f7
    replace f8 := Ext.fz hE c8_0 f8
    replace f10 := Ext.fz hE c10_0 f10
    replace xw := Ext.trans xw hE
    replace xc := Ext.trans xc hE
    replace xd := Ext.trans xd hE
    replace c2_0 := Ext.cell hE c2_0
    replace c2_1 := Ext.cell hE c2_1
    replace c3_0 := Ext.cell hE c3_0
    replace c3_1 := Ext.cell hE c3_1
    replace c3_2 := Ext.cell hE c3_2
    replace c3_3 := Ext.cell hE c3_3
    replace c7_0 := Ext.cell hE c7_0
    replace c7_1 := Ext.cell hE c7_1
    replace c7_2 := Ext.cell hE c7_2
    replace c7_3 := Ext.cell hE c7_3
    replace c7_4 := Ext.cell hE c7_4
    replace c8_0 := Ext.cell hE c8_0
    replace c10_0 := Ext.cell hE c10_0
    clear hE
    go_simp
    refine hK _ _ ?_
    clear hK K' gd
    refine Wp.keep [2, 10, 11] fun r9 hkeep => ?_
    obtain ⟨e2_9, e10_9, e11_9, -⟩ := hkeep
    simp [go_sem, e2_7, e8_7, e10_7] at e2_9 e10_9 e11_9
    clear e2_7 e8_7 e10_7
    refine Wp.seqRegion (.inl rfl) (by kernel_rfl) fun K' gd hK hg => ?_
    clear hg
    refine Wops.cut 3 fun K1 hK1 => ?_
    simp only [List.take_succ_cons, List.take_zero]
    go_simp
    refine Wcall (.inl rfl) (ids_c _ s (seenP (s.md c).last) 102 #[.pointer (some ⟨n10, 0, none⟩)] _ (hV.ext xw) (hal h0) (enters_of Try.func102 (by kernel_rfl) rfl) (fun a ha W hW => seen2_c a n10 _ _ W (hW.cell c10_0) (hJ.ext (xd.trans hW)).ints (by rw [hll.choose_spec]; exact htu a ha))) ?_
    rintro v w6 ⟨hY, hE⟩
    go_simp
    refine hK1 _ _ ?_
    clear hK1 K1
    simp only [List.drop_succ_cons, List.drop_zero]
    have z10 := Below.size hE
    replace f2 := Ext.fz hE c2_0 f2
    replace f3 := Ext.fz hE c3_0 f3
    replace f7 := Ext.fz hE c7_0 f7
    replace f8 := Ext.fz hE c8_0 f8
    replace f10 := Ext.fz hE c10_0 f10
    replace hX := hX.ext hE
    replace xw := Ext.trans xw hE
    replace xc := Ext.trans xc hE
    replace xd := Ext.trans xd hE
    replace c2_0 := Ext.cell hE c2_0
    replace c2_1 := Ext.cell hE c2_1
    replace c3_0 := Ext.cell hE c3_0
    replace c3_1 := Ext.cell hE c3_1
    replace c3_2 := Ext.cell hE c3_2
    replace c3_3 := Ext.cell hE c3_3
    replace c7_0 := Ext.cell hE c7_0
    replace c7_1 := Ext.cell hE c7_1
    replace c7_2 := Ext.cell hE c7_2
    replace c7_3 := Ext.cell hE c7_3
    replace c7_4 := Ext.cell hE c7_4
    replace c8_0 := Ext.cell hE c8_0
    replace c10_0 := Ext.cell hE c10_0
    clear hE
    go_simp
    refine hK _ _ ?_
    clear hK K' gd
    refine Wp.keep [11, 12] fun r11 hkeep => ?_
    obtain ⟨e11_11, e12_11, -⟩ := hkeep
    simp [go_sem, e2_9, e10_9, e11_9] at e11_11 e12_11
    clear e2_9 e10_9 e11_9
    refine Wp.seqRegion (.inl rfl) (by kernel_rfl) fun K' gd hK hg => ?_
    clear hg
    go_simp
    refine hK _ _ ?_
    clear hK K' gd
    refine Wp.keep [4, 5, 6] fun r12 hkeep => ?_
    obtain ⟨e4_12, e5_12, e6_12, -⟩ := hkeep
    simp [go_sem, e11_11, e12_11] at e4_12 e5_12 e6_12
    clear e11_11 e12_11
    refine Wp.ret ?_
    refine endK_tmp3 Try.results46 (by decide) (by decide) (by decide) ?_
    rw [e4_12, e5_12, e6_12]
    exact ⟨_, _, by rw [h0], by rw [if_pos h0]; exact hX.less (by omega), by rw [if_pos h0]; exact hY.less (by omega), xw⟩
  · skip
    refine Wp.seq ?_
    refine Wp.seqRegion (.inl rfl) (by kernel_rfl) fun K' gd hK hg => ?_
    clear hg
    go_simp
    refine hK _ _ ?_
    clear hK K' gd
    refine Wp.keep [2, 7, 8, 9, 21] fun r13 hkeep => ?_
    obtain ⟨e2_13, e7_13, e8_13, e9_13, e21_13, -⟩ := hkeep
    simp [go_sem, e2_4, e7_4, e8_4, e9_4] at e2_13 e7_13 e8_13 e9_13 e21_13
    clear e2_4 e7_4 e8_4 e9_4
    refine Wp.condT (by go_simp) ?_
    refine Wp.seqRegion (.inl rfl) (by kernel_rfl) fun K' gd hK hg => ?_
    clear hg
    go_simp
    refine hK _ _ ?_
    clear hK K' gd
    refine Wp.keep [4, 5, 6] fun r14 hkeep => ?_
    obtain ⟨e4_14, e5_14, e6_14, -⟩ := hkeep
    simp [go_sem, e2_13, e7_13, e8_13, e9_13, e21_13] at e4_14 e5_14 e6_14
    clear e2_13 e7_13 e8_13 e9_13 e21_13
    refine Wp.ret ?_
    refine thenK_ret ?_
    refine endK_tmp3 Try.results46 (by decide) (by decide) (by decide) ?_
    rw [e4_14, e5_14, e6_14]
    exact ⟨_, _, rfl, by rw [if_neg h0]; exact IntsB.nil _ _, by rw [if_neg h0]; exact IntsB.nil _ _, xw⟩
end Go.Proofs.Ytnjajbkkgfohaaa
