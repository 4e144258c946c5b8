/- What a line reads, and what can be copied (plain law). StateWords. For every input, in whatever memory: StateWords returns true, and its arguments read as before. No condition. -/
import Derived.Test.YtnjajbkkgfohaaaP3
import Derived.Test.YtnjajbkkgfohaaaP6
import Derived.Test.YtnjajbkkgfohaaaRows
import Derived.ProofKit
import Derived.JoinedOf
import Derived.OpenShut
set_option linter.all false
namespace Go.Proofs.Ytnjajbkkgfohaaa

theorem readsL_len (f : Face) : (readsL f).length ≤ 2 := by unfold readsL; split <;> split <;> simp
theorem readsL_has (f : Face) (w : Int) : (w ∈ readsL f ∨ w = 0 ∧ (readsL f).length = 0) ↔ rds f w = true := by
  obtain ⟨x, y, z⟩ := f
  unfold readsL rds
  by_cases hw : w = 0
  · subst hw
    by_cases hx : x = 0
    · by_cases hy : y = 0
      · simp [hx, hy]
      · simp [hx, hy]; omega
    · by_cases hy : y = 0
      · simp [hx, hy]; omega
      · by_cases hxy : y = x
        · simp [hx, hxy]; omega
        · simp [hx, hy, hxy]; omega
  · by_cases hx : x = 0
    · by_cases hy : y = 0
      · simp [hw, hx, hy]; omega
      · simp [hw, hx, hy]; constructor <;> intro h <;> omega
    · by_cases hy : y = 0
      · simp [hw, hx, hy]; constructor <;> intro h <;> omega
      · by_cases hxy : y = x
        · simp [hw, hx, hxy]; constructor <;> intro h <;> omega
        · simp [hw, hx, hy, hxy]; constructor <;> intro h <;> omega
theorem onF_prev {i d : Int} : ∀ {l : List Alt} {f : Face}, (∀ a ∈ l, a.day ≠ d) → onF i (d - 1) l f = onF i d l f
  | [], _, _ => rfl
  | a :: l, f, h => by
    have ha := h a List.mem_cons_self
    have e : ∀ e f, onF i e (a :: l) f = onF i e l (if a.day ≤ e then nxt i f a else f) := fun e f => rfl
    rw [e, e]
    by_cases h1 : a.day ≤ d
    · rw [if_pos h1, if_pos (by omega)]; exact onF_prev fun x hx => h x (List.mem_cons_of_mem _ hx)
    · rw [if_neg h1, if_neg (by omega)]; exact onF_prev fun x hx => h x (List.mem_cons_of_mem _ hx)
theorem onF_none {i d : Int} : ∀ {l : List Alt} {f : Face}, (∀ a ∈ l, d < a.day) → onF i d l f = f
  | [], _, _ => rfl
  | a :: l, f, h => by
    have ha := h a List.mem_cons_self
    have e : onF i d (a :: l) f = onF i d l (if a.day ≤ d then nxt i f a else f) := rfl
    rw [e, if_neg (by omega)]; exact onF_none fun x hx => h x (List.mem_cons_of_mem _ hx)
theorem Good.on_zero {s : Sh} (g : Good s) (i : Nat) (h : ∀ a ∈ s.alts, a.day ≠ 0) : s.on i 0 = (s.W i, 0, false) :=
  onF_none fun a ha => by have := (g.rt a ha).2.1.1; have := h a ha; omega
theorem Good.W_pos {s : Sh} (g : Good s) {i : Nat} (h : i < s.words.length) : 1 ≤ s.W i ∧ s.W i ≤ 9999 := by
  unfold Sh.W; rw [List.getElem?_eq_getElem h]; exact g.ws _ (List.getElem_mem h)
theorem Good.reads_zero {s : Sh} (g : Good s) {i : Nat} (hi : i < s.words.length) (h : ∀ a ∈ s.alts, a.day ≠ 0) : readsL (s.on i 0) = [s.W i] := by
  have := g.W_pos hi
  rw [g.on_zero i h]; unfold readsL
  rw [if_pos (by dsimp only; omega)]; simp
theorem Sh.on_prev {s : Sh} {i : Nat} {d : Int} (h : ∀ a ∈ s.alts, a.day ≠ d) : s.on i (d - 1) = s.on i d := onF_prev h
end Go.Proofs.Ytnjajbkkgfohaaa
namespace Go.Proofs.Ytnjajbkkgfohaaa
open Go.RowKit Go.Wk Go.Proofs
attribute [local irreducible] Go.Wk.Wops Go.Wk.Wp Go.Wk.Mtree Go.Wk.Mops
set_option maxHeartbeats 4000000
set_option maxRecDepth 20000

theorem readE_zero {s : Sh} {i d : Int} : readE s i d = 0 ↔ lineS s i = 0 ∧ 0 ≤ d ∧ d ≤ 730 := by
  unfold readE
  by_cases h : lineS s i = 0
  · by_cases h2 : 0 ≤ d ∧ d ≤ 730
    · simp [h, h2]
    · rw [if_pos h, if_neg h2]; simp [h, h2]
  · simp [h]
theorem whenE_zero {s : Sh} {i d : Int} : whenE s i d = 0 ↔ lineS s i = 0 ∧ 0 ≤ d ∧ d ≤ 9999 := by
  unfold whenE
  by_cases h : lineS s i = 0
  · by_cases h2 : 0 ≤ d ∧ d ≤ 9999
    · simp [h, h2]
    · rw [if_pos h, if_neg h2]; simp [h, h2]
  · simp [h]
theorem readE_of {s : Sh} {i d : Int} (h : lineS s i = 0) (h0 : 0 ≤ d) (h7 : d ≤ 730) : readE s i d = 0 := readE_zero.2 ⟨h, h0, h7⟩
theorem words_c (v : Value) (s : Sh) (i d word : Int) (w : World) (hV : SheetV w w.heap.size v s) (hf : FitS s) :
    CallsV Try.prog 4 #[v, .int .i64 i, .int .i64 d, .int .i64 word] w fun v w' => v = .bool true ∧ Ext w w' := by
  obtain ⟨wv, av, rfl, ⟨A, c1, rfl, hx, -⟩, hAl⟩ := id hV
  obtain ⟨A3, c3, rfl, -, -⟩ := id hAl
  refine Wp.fn Try.func4 rfl Try.ntmps4 (by simp) ?_
  have xw := Ext.refl w
  refine Wp.keep [0, 1, 2, 3] fun r1 hkeep => ?_
  obtain ⟨e0_1, e1_1, e2_1, e3_1, -⟩ := hkeep
  simp [go_sem] at e0_1 e1_1 e2_1 e3_1
  refine Wp.seqRegion (.inl rfl) (by kernel_rfl) fun K' gd hK hg => ?_
  clear hg
  refine Wops.cut 1 fun K1 hK1 => ?_
  simp only [List.take_succ_cons, List.take_zero]
  go_simp
  refine hK1 _ _ ?_
  clear hK1 K1
  simp only [List.drop_succ_cons, List.drop_zero]
  refine Wops.absA fun V4_1 n4 hV4_1 => ?_
  obtain ⟨q4, hV4_1, s4, kV4_1, f4, r4⟩ := hV4_1
  try simp only [q4] at kV4_1 f4 r4 ⊢
  replace xw := Ext.trans xw hV4_1
  have c4_0 := kV4_1 0 _ rfl
  have c4_1 := kV4_1 1 _ rfl
  clear kV4_1 hV4_1
  clear r4
  go_simp
  refine hK _ _ ?_
  clear hK K' gd
  refine Wp.keep [1, 2, 3, 4] fun r2 hkeep => ?_
  obtain ⟨e1_2, e2_2, e3_2, e4_2, -⟩ := hkeep
  simp [go_sem, e0_1, e1_1, e2_1, e3_1] at e1_2 e2_2 e3_2 e4_2
  clear e0_1 e1_1 e2_1 e3_1
  refine Wp.seqRegion (.inl rfl) (by kernel_rfl) fun K' gd hK hg => ?_
  clear hg
  refine Wops.cut 1 fun K1 hK1 => ?_
  simp only [List.take_succ_cons, List.take_zero]
  go_simp
  refine Wcall (.inl rfl) (head_c _) ?_
  rintro v w2 ⟨rfl, hE⟩
  go_simp
  refine hK1 _ _ ?_
  clear hK1 K1
  simp only [List.drop_succ_cons, List.drop_zero]
  have z3 := Below.size hE
  replace f4 := Ext.fz hE c4_0 f4
  replace xw := Ext.trans xw hE
  replace c4_0 := Ext.cell hE c4_0
  replace c4_1 := Ext.cell hE c4_1
  clear hE
  go_simp
  refine hK _ _ ?_
  clear hK K' gd
  refine Wp.keep [1, 2, 3, 4, 9] fun r4 hkeep => ?_
  obtain ⟨e1_4, e2_4, e3_4, e4_4, e9_4, -⟩ := hkeep
  simp [go_sem, e1_2, e2_2, e3_2, e4_2] at e1_4 e2_4 e3_4 e4_4 e9_4
  clear e1_2 e2_2 e3_2 e4_2
  by_cases hfw : fewS s
  · skip
    refine Wp.seq ?_
    refine Wp.seqRegion (.inl rfl) (by kernel_rfl) fun K' gd hK hg => ?_
    clear hg
    refine Wops.cut 2 fun K1 hK1 => ?_
    simp only [List.take_succ_cons, List.take_zero]
    go_simp
    refine Wcall (.inl rfl) (few_c _ s _ (hV.ext xw)) ?_
    rintro v w3 ⟨rfl, hE⟩
    go_simp
    refine hK1 _ _ ?_
    clear hK1 K1
    simp only [List.drop_succ_cons, List.drop_zero]
    have z5 := Below.size hE
    replace f4 := Ext.fz hE c4_0 f4
    replace xw := Ext.trans xw hE
    replace c4_0 := Ext.cell hE c4_0
    replace c4_1 := Ext.cell hE c4_1
    clear hE
    go_simp
    refine hK _ _ ?_
    clear hK K' gd
    refine Wp.keep [1, 2, 3, 4, 9, 22] fun r6 hkeep => ?_
    obtain ⟨e1_6, e2_6, e3_6, e4_6, e9_6, e22_6, -⟩ := hkeep
    simp [go_sem, e1_4, e2_4, e3_4, e4_4, e9_4] at e1_6 e2_6 e3_6 e4_6 e9_6 e22_6
    clear e1_4 e2_4 e3_4 e4_4 e9_4
    refine Wp.condF (by go_simp) ?_
    refine Wp.skip ?_
    refine thenK_normal ?_
    refine Wp.seqRegion (.inl rfl) (by kernel_rfl) fun K' gd hK hg => ?_
    clear hg
    refine Wops.cut 4 fun K1 hK1 => ?_
    simp only [List.take_succ_cons, List.take_zero]
    go_simp
    refine Wcall (.inl rfl) (Reads_c _ s i d _ (hV.ext xw) hf) ?_
    rintro v w4 ⟨t10, rfl, hR, hE⟩
    have xr := Ext.refl w4
    go_simp
    refine hK1 _ _ ?_
    clear hK1 K1
    simp only [List.drop_succ_cons, List.drop_zero]
    have z7 := Below.size hE
    replace f4 := Ext.fz hE c4_0 f4
    replace xw := Ext.trans xw hE
    replace c4_0 := Ext.cell hE c4_0
    replace c4_1 := Ext.cell hE c4_1
    clear hE
    go_simp
    refine hK _ _ ?_
    clear hK K' gd
    refine Wp.keep [1, 2, 3, 4, 9, 10, 11] fun r8 hkeep => ?_
    obtain ⟨e1_8, e2_8, e3_8, e4_8, e9_8, e10_8, e11_8, -⟩ := hkeep
    simp [go_sem, e1_6, e2_6, e3_6, e4_6, e9_6, e22_6] at e1_8 e2_8 e3_8 e4_8 e9_8 e10_8 e11_8
    clear e1_6 e2_6 e3_6 e4_6 e9_6 e22_6
    refine Wp.seqRegion (.inl rfl) (by kernel_rfl) fun K' gd hK hg => ?_
    clear hg
    refine Wops.cut 4 fun K1 hK1 => ?_
    simp only [List.take_succ_cons, List.take_zero]
    go_simp
    refine Wcall (.inl rfl) (When_c _ s i word _ (hV.ext xw) hf) ?_
    rintro v w5 ⟨t12, rfl, hZ, hE⟩
    have xz := Ext.refl w5
    go_simp
    refine hK1 _ _ ?_
    clear hK1 K1
    simp only [List.drop_succ_cons, List.drop_zero]
    have z9 := Below.size hE
    replace f4 := Ext.fz hE c4_0 f4
    replace xw := Ext.trans xw hE
    replace xr := Ext.trans xr hE
    replace c4_0 := Ext.cell hE c4_0
    replace c4_1 := Ext.cell hE c4_1
    clear hE
    go_simp
    refine hK _ _ ?_
    clear hK K' gd
    refine Wp.keep [1, 2, 3, 4, 9, 10, 11, 12, 13] fun r10 hkeep => ?_
    obtain ⟨e1_10, e2_10, e3_10, e4_10, e9_10, e10_10, e11_10, e12_10, e13_10, -⟩ := hkeep
    simp [go_sem, e1_8, e2_8, e3_8, e4_8, e9_8, e10_8, e11_8] at e1_10 e2_10 e3_10 e4_10 e9_10 e10_10 e11_10 e12_10 e13_10
    clear e1_8 e2_8 e3_8 e4_8 e9_8 e10_8 e11_8
    by_cases h0 : readE s i d = 0
    · skip
      refine Wp.seq ?_
      refine Wp.seqRegion (.inl rfl) (by kernel_rfl) fun K' gd hK hg => ?_
      clear hg
      go_simp
      refine hK _ _ ?_
      clear hK K' gd
      refine Wp.keep [1, 2, 3, 4, 9, 10, 12, 13, 39] fun r11 hkeep => ?_
      obtain ⟨e1_11, e2_11, e3_11, e4_11, e9_11, e10_11, e12_11, e13_11, e39_11, -⟩ := hkeep
      simp [go_sem, e1_10, e2_10, e3_10, e4_10, e9_10, e10_10, e11_10, e12_10, e13_10] at e1_11 e2_11 e3_11 e4_11 e9_11 e10_11 e12_11 e13_11 e39_11
      clear e1_10 e2_10 e3_10 e4_10 e9_10 e10_10 e11_10 e12_10 e13_10
      refine Wp.condF (by go_simp) ?_
      obtain ⟨hl, hd0, hd7⟩ := readE_zero.1 h0
      obtain ⟨hc, hi0, hin⟩ := lineS_zero.1 hl
      have hgd := checkS_zero.1 hc
      rw [if_pos h0] at hR
      obtain ⟨n, rfl⟩ : ∃ n : Nat, i = (n : Int) := ⟨i.toNat, by omega⟩
      have hnl : n < s.words.length := by unfold Sh.n at hin; omega
      have hll := readsL_len (s.on n d)
      have hhas := readsL_has (s.on n d) word
      replace hR : OwnI w4 w3.heap.size t10 (readsL (s.on n d)) := hR
      have hzero : ∃ _u : Unit, (∀ a ∈ s.alts, a.day ≠ d) → d = 0 → readsL (s.on n d) = [s.W n] := ⟨(), fun h e => by subst e; exact hgd.reads_zero hnl h⟩
      have hprev : ∃ _u : Unit, (∀ a ∈ s.alts, a.day ≠ d) → readsL (s.on n (d - 1)) = readsL (s.on n d) := ⟨(), fun h => by rw [Sh.on_prev h]⟩
      obtain ⟨f, hf9⟩ : ∃ f, ∃ _u : Unit, s.on n d = f := ⟨_, (), rfl⟩
      have hcan : ∃ _u : Unit, inside (s.whenL n word) d ↔ rds f word = true := ⟨(), by rw [(Sh.when_spans hgd.sorted n word).2 d, ← hf9.choose_spec]; exact ⟨fun h => h.2.2, fun h => ⟨hd0, hd7, h⟩⟩⟩
      rw [hf9.choose_spec] at hll hhas hR hzero hprev
      obtain ⟨L, hL⟩ : ∃ L, ∃ _u : Unit, readsL f = L := ⟨_, (), rfl⟩
      rw [hL.choose_spec] at hll hhas hR hzero hprev
      obtain ⟨A9, c9, rfl⟩ := OwnI.slice hR
      have hll2 : ¬ (2 : Int) < (L.length : Int) := by omega
      refine Wp.skip ?_
      refine thenK_normal ?_
      refine Wp.seq ?_
      refine Wp.seqRegion (.inl rfl) (by kernel_rfl) fun K' gd hK hg => ?_
      clear hg
      go_simp
      refine hK _ _ ?_
      clear hK K' gd
      refine Wp.keep [1, 2, 3, 4, 9, 10, 12, 13, 43] fun r12 hkeep => ?_
      obtain ⟨e1_12, e2_12, e3_12, e4_12, e9_12, e10_12, e12_12, e13_12, e43_12, -⟩ := hkeep
      simp [go_sem, e1_11, e2_11, e3_11, e4_11, e9_11, e10_11, e12_11, e13_11, e39_11] at e1_12 e2_12 e3_12 e4_12 e9_12 e10_12 e12_12 e13_12 e43_12
      clear e1_11 e2_11 e3_11 e4_11 e9_11 e10_11 e12_11 e13_11 e39_11
      refine Wp.condF (by go_simp) ?_
      refine Wp.skip ?_
      refine thenK_normal ?_
      refine Wp.seq ?_
      refine Wp.cut (fun ρ ds W => AllEq [1, 2, 4, 9, 10] ρ r12 ∧ ds = [] ∧ (Ext w5 W) ∧ (True)) ?_ ?_
      · have xq4 := Ext.refl w5
        by_cases h1 : whenE s n word = 0
        · skip
          rw [if_pos h1] at hZ
          replace hZ : OwnZ w5 w4.heap.size t12 (s.whenL n word) := hZ
          refine Wp.seqRegion (.inl rfl) (by kernel_rfl) fun K' gd hK hg => ?_
          clear hg
          go_simp
          refine hK _ _ ?_
          clear hK K' gd
          refine Wp.keep [1, 2, 3, 4, 9, 10, 12, 45] fun r13 hkeep => ?_
          obtain ⟨e1_13, e2_13, e3_13, e4_13, e9_13, e10_13, e12_13, e45_13, -⟩ := hkeep
          simp [go_sem, e1_12, e2_12, e3_12, e4_12, e9_12, e10_12, e12_12, e13_12, e43_12] at e1_13 e2_13 e3_13 e4_13 e9_13 e10_13 e12_13 e45_13
          clear e3_12 e12_12 e13_12 e43_12
          refine Wp.condT (by go_simp) ?_
          by_cases hm : word ∈ L
          · skip
            have hin2 : inside (s.whenL n word) d := hcan.choose_spec.2 (hhas.1 (.inl hm))
            refine Wp.seqRegion (.inl rfl) (by kernel_rfl) fun K' gd hK hg => ?_
            have g3 : gd 3 = some 49 := hg 3
            have g6 : gd 6 = some 52 := hg 6
            clear hg
            refine Wops.cut 3 fun K1 hK1 => ?_
            simp only [List.take_succ_cons, List.take_zero]
            go_simp
            refine Wcall (.inl rfl) (has_c _ L word _ (hR.ext xr).intsV (by omega)) ?_
            rintro v w6 ⟨rfl, hE⟩
            go_simp
            refine hK1 _ _ ?_
            clear hK1 K1
            simp only [List.drop_succ_cons, List.drop_zero]
            have z14 := Below.size hE
            replace f4 := Ext.fz hE c4_0 f4
            replace xw := Ext.trans xw hE
            replace xr := Ext.trans xr hE
            replace xz := Ext.trans xz hE
            replace xq4 := Ext.trans xq4 hE
            replace c4_0 := Ext.cell hE c4_0
            replace c4_1 := Ext.cell hE c4_1
            clear hE
            go_simp
            refine hK _ _ ?_
            clear hK K' gd g3 g6
            refine Wp.keep [1, 2, 4, 9, 10, 12, 14] fun r15 hkeep => ?_
            obtain ⟨e1_15, e2_15, e4_15, e9_15, e10_15, e12_15, e14_15, -⟩ := hkeep
            simp [go_sem, e1_13, e2_13, e3_13, e4_13, e9_13, e10_13, e12_13, e45_13] at e1_15 e2_15 e4_15 e9_15 e10_15 e12_15 e14_15
            clear e1_13 e2_13 e3_13 e4_13 e9_13 e10_13 e12_13 e45_13
            refine Wp.seqRegion (.inl rfl) (by kernel_rfl) fun K' gd hK hg => ?_
            clear hg
            refine Wops.cut 4 fun K1 hK1 => ?_
            simp only [List.take_succ_cons, List.take_zero]
            go_simp
            refine Wcall (.inl rfl) (inside_c _ _ d _ (hZ.ext xz).spans (by have := Sh.when_len s n word; have := hgd.m2; omega)) ?_
            rintro v w7 ⟨rfl, hE⟩
            go_simp
            refine hK1 _ _ ?_
            clear hK1 K1
            simp only [List.drop_succ_cons, List.drop_zero]
            have z16 := Below.size hE
            replace f4 := Ext.fz hE c4_0 f4
            replace xw := Ext.trans xw hE
            replace xr := Ext.trans xr hE
            replace xz := Ext.trans xz hE
            replace xq4 := Ext.trans xq4 hE
            replace c4_0 := Ext.cell hE c4_0
            replace c4_1 := Ext.cell hE c4_1
            clear hE
            go_simp
            refine hK _ _ ?_
            clear hK K' gd
            refine Wp.keep [1, 2, 4, 9, 10, 62] fun r17 hkeep => ?_
            obtain ⟨e1_17, e2_17, e4_17, e9_17, e10_17, e62_17, -⟩ := hkeep
            simp [go_sem, e1_15, e2_15, e4_15, e9_15, e10_15, e12_15, e14_15] at e1_17 e2_17 e4_17 e9_17 e10_17 e62_17
            clear e1_15 e2_15 e4_15 e9_15 e10_15 e12_15 e14_15
            refine Wp.condF (by go_simp) ?_
            refine Wp.skip ?_
            refine cutK_normal ⟨⟨by rw [e1_17, e1_12], by rw [e2_17, e2_12], by rw [e4_17, e4_12], by rw [e9_17, e9_12], by rw [e10_17, e10_12], trivial⟩, rfl, xq4, ?_⟩
            trivial
          · skip
            by_cases hw0 : word = 0
            · skip
              subst hw0
              by_cases hlz : ((L.length : Int) == 0) = true
              · skip
                have hin2 : inside (s.whenL n 0) d := hcan.choose_spec.2 (hhas.1 (.inr ⟨rfl, by simp at hlz; simp [hlz]⟩))
                refine Wp.seqRegion (.inl rfl) (by kernel_rfl) fun K' gd hK hg => ?_
                have g3 : gd 3 = some 49 := hg 3
                have g6 : gd 6 = some 52 := hg 6
                clear hg
                refine Wops.cut 3 fun K1 hK1 => ?_
                simp only [List.take_succ_cons, List.take_zero]
                go_simp
                refine Wcall (.inl rfl) (has_c _ L 0 _ (hR.ext xr).intsV (by omega)) ?_
                rintro v w6 ⟨rfl, hE⟩
                go_simp
                refine hK1 _ _ ?_
                clear hK1 K1
                simp only [List.drop_succ_cons, List.drop_zero]
                have z18 := Below.size hE
                replace f4 := Ext.fz hE c4_0 f4
                replace xw := Ext.trans xw hE
                replace xr := Ext.trans xr hE
                replace xz := Ext.trans xz hE
                replace xq4 := Ext.trans xq4 hE
                replace c4_0 := Ext.cell hE c4_0
                replace c4_1 := Ext.cell hE c4_1
                clear hE
                go_simp
                refine hK _ _ ?_
                clear hK K' gd g3 g6
                refine Wp.keep [1, 2, 4, 9, 10, 12, 14] fun r19 hkeep => ?_
                obtain ⟨e1_19, e2_19, e4_19, e9_19, e10_19, e12_19, e14_19, -⟩ := hkeep
                simp [go_sem, e1_13, e2_13, e3_13, e4_13, e9_13, e10_13, e12_13, e45_13] at e1_19 e2_19 e4_19 e9_19 e10_19 e12_19 e14_19
                clear e1_13 e2_13 e3_13 e4_13 e9_13 e10_13 e12_13 e45_13
                refine Wp.seqRegion (.inl rfl) (by kernel_rfl) fun K' gd hK hg => ?_
                clear hg
                refine Wops.cut 4 fun K1 hK1 => ?_
                simp only [List.take_succ_cons, List.take_zero]
                go_simp
                refine Wcall (.inl rfl) (inside_c _ _ d _ (hZ.ext xz).spans (by have := Sh.when_len s n 0; have := hgd.m2; omega)) ?_
                rintro v w7 ⟨rfl, hE⟩
                go_simp
                refine hK1 _ _ ?_
                clear hK1 K1
                simp only [List.drop_succ_cons, List.drop_zero]
                have z20 := Below.size hE
                replace f4 := Ext.fz hE c4_0 f4
                replace xw := Ext.trans xw hE
                replace xr := Ext.trans xr hE
                replace xz := Ext.trans xz hE
                replace xq4 := Ext.trans xq4 hE
                replace c4_0 := Ext.cell hE c4_0
                replace c4_1 := Ext.cell hE c4_1
                clear hE
                go_simp
                refine hK _ _ ?_
                clear hK K' gd
                refine Wp.keep [1, 2, 4, 9, 10, 62] fun r21 hkeep => ?_
                obtain ⟨e1_21, e2_21, e4_21, e9_21, e10_21, e62_21, -⟩ := hkeep
                simp [go_sem, e1_19, e2_19, e4_19, e9_19, e10_19, e12_19, e14_19] at e1_21 e2_21 e4_21 e9_21 e10_21 e62_21
                clear e1_19 e2_19 e4_19 e9_19 e10_19 e12_19 e14_19
                refine Wp.condF (by go_simp) ?_
                refine Wp.skip ?_
                refine cutK_normal ⟨⟨by rw [e1_21, e1_12], by rw [e2_21, e2_12], by rw [e4_21, e4_12], by rw [e9_21, e9_12], by rw [e10_21, e10_12], trivial⟩, rfl, xq4, ?_⟩
                trivial
              · skip
                have hin2 : ¬ inside (s.whenL n 0) d := fun h => by rcases hhas.2 (hcan.choose_spec.1 h) with h | h; exact hm h; exact hlz (by rw [h.2]; rfl)
                refine Wp.seqRegion (.inl rfl) (by kernel_rfl) fun K' gd hK hg => ?_
                have g3 : gd 3 = some 49 := hg 3
                have g6 : gd 6 = some 52 := hg 6
                clear hg
                refine Wops.cut 3 fun K1 hK1 => ?_
                simp only [List.take_succ_cons, List.take_zero]
                go_simp
                refine Wcall (.inl rfl) (has_c _ L 0 _ (hR.ext xr).intsV (by omega)) ?_
                rintro v w6 ⟨rfl, hE⟩
                go_simp
                refine hK1 _ _ ?_
                clear hK1 K1
                simp only [List.drop_succ_cons, List.drop_zero]
                have z22 := Below.size hE
                replace f4 := Ext.fz hE c4_0 f4
                replace xw := Ext.trans xw hE
                replace xr := Ext.trans xr hE
                replace xz := Ext.trans xz hE
                replace xq4 := Ext.trans xq4 hE
                replace c4_0 := Ext.cell hE c4_0
                replace c4_1 := Ext.cell hE c4_1
                clear hE
                go_simp
                refine hK _ _ ?_
                clear hK K' gd g3 g6
                refine Wp.keep [1, 2, 4, 9, 10, 12, 14] fun r23 hkeep => ?_
                obtain ⟨e1_23, e2_23, e4_23, e9_23, e10_23, e12_23, e14_23, -⟩ := hkeep
                simp [go_sem, e1_13, e2_13, e3_13, e4_13, e9_13, e10_13, e12_13, e45_13] at e1_23 e2_23 e4_23 e9_23 e10_23 e12_23 e14_23
                clear e1_13 e2_13 e3_13 e4_13 e9_13 e10_13 e12_13 e45_13
                refine Wp.seqRegion (.inl rfl) (by kernel_rfl) fun K' gd hK hg => ?_
                clear hg
                refine Wops.cut 4 fun K1 hK1 => ?_
                simp only [List.take_succ_cons, List.take_zero]
                go_simp
                refine Wcall (.inl rfl) (inside_c _ _ d _ (hZ.ext xz).spans (by have := Sh.when_len s n 0; have := hgd.m2; omega)) ?_
                rintro v w7 ⟨rfl, hE⟩
                go_simp
                refine hK1 _ _ ?_
                clear hK1 K1
                simp only [List.drop_succ_cons, List.drop_zero]
                have z24 := Below.size hE
                replace f4 := Ext.fz hE c4_0 f4
                replace xw := Ext.trans xw hE
                replace xr := Ext.trans xr hE
                replace xz := Ext.trans xz hE
                replace xq4 := Ext.trans xq4 hE
                replace c4_0 := Ext.cell hE c4_0
                replace c4_1 := Ext.cell hE c4_1
                clear hE
                go_simp
                refine hK _ _ ?_
                clear hK K' gd
                refine Wp.keep [1, 2, 4, 9, 10, 62] fun r25 hkeep => ?_
                obtain ⟨e1_25, e2_25, e4_25, e9_25, e10_25, e62_25, -⟩ := hkeep
                simp [go_sem, e1_23, e2_23, e4_23, e9_23, e10_23, e12_23, e14_23] at e1_25 e2_25 e4_25 e9_25 e10_25 e62_25
                clear e1_23 e2_23 e4_23 e9_23 e10_23 e12_23 e14_23
                refine Wp.condF (by go_simp) ?_
                refine Wp.skip ?_
                refine cutK_normal ⟨⟨by rw [e1_25, e1_12], by rw [e2_25, e2_12], by rw [e4_25, e4_12], by rw [e9_25, e9_12], by rw [e10_25, e10_12], trivial⟩, rfl, xq4, ?_⟩
                trivial
            · skip
              have hin2 : ¬ inside (s.whenL n word) d := fun h => by rcases hhas.2 (hcan.choose_spec.1 h) with h | h; exact hm h; exact hw0 h.1
              refine Wp.seqRegion (.inl rfl) (by kernel_rfl) fun K' gd hK hg => ?_
              have g3 : gd 3 = some 49 := hg 3
              have g6 : gd 6 = some 52 := hg 6
              clear hg
              refine Wops.cut 3 fun K1 hK1 => ?_
              simp only [List.take_succ_cons, List.take_zero]
              go_simp
              refine Wcall (.inl rfl) (has_c _ L word _ (hR.ext xr).intsV (by omega)) ?_
              rintro v w6 ⟨rfl, hE⟩
              go_simp
              refine hK1 _ _ ?_
              clear hK1 K1
              simp only [List.drop_succ_cons, List.drop_zero]
              have z26 := Below.size hE
              replace f4 := Ext.fz hE c4_0 f4
              replace xw := Ext.trans xw hE
              replace xr := Ext.trans xr hE
              replace xz := Ext.trans xz hE
              replace xq4 := Ext.trans xq4 hE
              replace c4_0 := Ext.cell hE c4_0
              replace c4_1 := Ext.cell hE c4_1
              clear hE
              go_simp
              refine hK _ _ ?_
              clear hK K' gd g3 g6
              refine Wp.keep [1, 2, 4, 9, 10, 12, 14] fun r27 hkeep => ?_
              obtain ⟨e1_27, e2_27, e4_27, e9_27, e10_27, e12_27, e14_27, -⟩ := hkeep
              simp [go_sem, e1_13, e2_13, e3_13, e4_13, e9_13, e10_13, e12_13, e45_13] at e1_27 e2_27 e4_27 e9_27 e10_27 e12_27 e14_27
              clear e1_13 e2_13 e3_13 e4_13 e9_13 e10_13 e12_13 e45_13
              refine Wp.seqRegion (.inl rfl) (by kernel_rfl) fun K' gd hK hg => ?_
              clear hg
              refine Wops.cut 4 fun K1 hK1 => ?_
              simp only [List.take_succ_cons, List.take_zero]
              go_simp
              refine Wcall (.inl rfl) (inside_c _ _ d _ (hZ.ext xz).spans (by have := Sh.when_len s n word; have := hgd.m2; omega)) ?_
              rintro v w7 ⟨rfl, hE⟩
              go_simp
              refine hK1 _ _ ?_
              clear hK1 K1
              simp only [List.drop_succ_cons, List.drop_zero]
              have z28 := Below.size hE
              replace f4 := Ext.fz hE c4_0 f4
              replace xw := Ext.trans xw hE
              replace xr := Ext.trans xr hE
              replace xz := Ext.trans xz hE
              replace xq4 := Ext.trans xq4 hE
              replace c4_0 := Ext.cell hE c4_0
              replace c4_1 := Ext.cell hE c4_1
              clear hE
              go_simp
              refine hK _ _ ?_
              clear hK K' gd
              refine Wp.keep [1, 2, 4, 9, 10, 62] fun r29 hkeep => ?_
              obtain ⟨e1_29, e2_29, e4_29, e9_29, e10_29, e62_29, -⟩ := hkeep
              simp [go_sem, e1_27, e2_27, e4_27, e9_27, e10_27, e12_27, e14_27] at e1_29 e2_29 e4_29 e9_29 e10_29 e62_29
              clear e1_27 e2_27 e4_27 e9_27 e10_27 e12_27 e14_27
              refine Wp.condF (by go_simp) ?_
              refine Wp.skip ?_
              refine cutK_normal ⟨⟨by rw [e1_29, e1_12], by rw [e2_29, e2_12], by rw [e4_29, e4_12], by rw [e9_29, e9_12], by rw [e10_29, e10_12], trivial⟩, rfl, xq4, ?_⟩
              trivial
        · skip
          refine Wp.seqRegion (.inl rfl) (by kernel_rfl) fun K' gd hK hg => ?_
          clear hg
          go_simp
          refine hK _ _ ?_
          clear hK K' gd
          refine Wp.keep [1, 2, 3, 4, 9, 10, 12, 45] fun r30 hkeep => ?_
          obtain ⟨e1_30, e2_30, e3_30, e4_30, e9_30, e10_30, e12_30, e45_30, -⟩ := hkeep
          simp [go_sem, e1_12, e2_12, e3_12, e4_12, e9_12, e10_12, e12_12, e13_12, e43_12] at e1_30 e2_30 e3_30 e4_30 e9_30 e10_30 e12_30 e45_30
          clear e3_12 e12_12 e13_12 e43_12
          refine Wp.condF (by go_simp) ?_
          refine Wp.skip ?_
          refine cutK_normal ⟨⟨by rw [e1_30, e1_12], by rw [e2_30, e2_12], by rw [e4_30, e4_12], by rw [e9_30, e9_12], by rw [e10_30, e10_12], trivial⟩, rfl, xq4, ?_⟩
          trivial
      · rintro r31 _ W4 ⟨hA, rfl, xq4, -⟩
        obtain ⟨e1_31, e2_31, e4_31, e9_31, e10_31, -⟩ := hA
        rw [e1_12] at e1_31
        rw [e2_12] at e2_31
        rw [e4_12] at e4_31
        rw [e9_12] at e9_31
        rw [e10_12] at e10_31
        clear e1_12 e2_12 e3_12 e4_12 e9_12 e10_12 e12_12 e13_12 e43_12
        have zxq4 := Below.size xq4
        replace f4 := Ext.fz xq4 c4_0 f4
        replace xw := Ext.trans xw xq4
        replace xr := Ext.trans xr xq4
        replace xz := Ext.trans xz xq4
        replace c4_0 := Ext.cell xq4 c4_0
        replace c4_1 := Ext.cell xq4 c4_1
        refine thenK_normal ?_
        refine Wp.seq ?_
        refine Wp.seqRegion (.inl rfl) (by kernel_rfl) fun K' gd hK hg => ?_
        clear hg
        go_simp
        refine hK _ _ ?_
        clear hK K' gd
        refine Wp.keep [1, 2, 4, 9, 10, 15] fun r32 hkeep => ?_
        obtain ⟨e1_32, e2_32, e4_32, e9_32, e10_32, e15_32, -⟩ := hkeep
        simp [go_sem, e1_31, e2_31, e4_31, e9_31, e10_31] at e1_32 e2_32 e4_32 e9_32 e10_32 e15_32
        clear e1_31 e2_31 e4_31 e9_31 e10_31
        refine Wp.block ?_
        refine Wp.loop (fun k ρ ds wk => AllEq [1, 2, 4, 9, 10] ρ r32 ∧ ds = [] ∧ (Ext W4 wk) ∧ (ρ 15 = .int .i64 (k : Int) ∧ (∃ _u : Unit, ∀ a ∈ s.alts.take k, a.day ≠ d))) (s.alts.length) ?_ ?_
        · refine ⟨AllEq.refl _ _, rfl, Ext.refl _, ?_⟩
          exact ⟨by rw [e15_32]; rfl, (), by simp⟩
        · rintro k r33 _ wk hk ⟨hA, rfl, xl5, ⟨e15, hno⟩⟩
          obtain ⟨e1_33, e2_33, e4_33, e9_33, e10_33, -⟩ := hA
          rw [e1_32] at e1_33
          rw [e2_32] at e2_33
          rw [e4_32] at e4_33
          rw [e9_32] at e9_33
          rw [e10_32] at e10_33
          have zxl5 := Below.size xl5
          replace f4 := Ext.fz xl5 c4_0 f4
          replace xw := Ext.trans xw xl5
          replace xr := Ext.trans xr xl5
          replace xz := Ext.trans xz xl5
          replace c4_0 := Ext.cell xl5 c4_0
          replace c4_1 := Ext.cell xl5 c4_1
          refine Wp.seq ?_
          refine Wp.seqRegion (.inl rfl) (by kernel_rfl) fun K' gd hK hg => ?_
          clear hg
          go_simp
          refine hK _ _ ?_
          clear hK K' gd
          refine Wp.keep [1, 2, 4, 9, 10, 15, 67] fun r34 hkeep => ?_
          obtain ⟨e1_34, e2_34, e4_34, e9_34, e10_34, e15_34, e67_34, -⟩ := hkeep
          simp [go_sem, e1_33, e2_33, e4_33, e9_33, e10_33, e15] at e1_34 e2_34 e4_34 e9_34 e10_34 e15_34 e67_34
          clear e1_33 e2_33 e4_33 e9_33 e10_33 e15
          by_cases h : k < s.alts.length
          · refine Wp.condT (by go_simp) ?_
            obtain ⟨b, o, rfl, hb, y0, y1, y2, y3, y4, y5⟩ := AltsV.six hAl h
            replace y2 := xw.cell y2
            clear y0 y1 y3 y4 y5
            by_cases hdd : s.alts[k].day = d
            · skip
              refine Wp.skip ?_
              refine thenK_normal ?_
              refine Wp.seq ?_
              refine Wp.block ?_
              refine Wp.seqRegion (.inl rfl) (by kernel_rfl) fun K' gd hK hg => ?_
              clear hg
              go_simp
              refine hK _ _ ?_
              clear hK K' gd
              refine Wp.keep [1, 2, 4, 9, 10, 15, 77] fun r35 hkeep => ?_
              obtain ⟨e1_35, e2_35, e4_35, e9_35, e10_35, e15_35, e77_35, -⟩ := hkeep
              simp [go_sem, e1_34, e2_34, e4_34, e9_34, e10_34, e15_34, e67_34] at e1_35 e2_35 e4_35 e9_35 e10_35 e15_35 e77_35
              clear e1_34 e2_34 e4_34 e9_34 e10_34 e15_34 e67_34
              refine Wp.condT (by go_simp) ?_
              refine Wp.seqRegion (.inl rfl) (by kernel_rfl) fun K' gd hK hg => ?_
              clear hg
              go_simp
              refine hK _ _ ?_
              clear hK K' gd
              refine Wp.keep [8] fun r36 hkeep => ?_
              obtain ⟨e8_36, -⟩ := hkeep
              simp [go_sem, e1_35, e2_35, e4_35, e9_35, e10_35, e15_35, e77_35] at e8_36
              clear e1_35 e2_35 e4_35 e9_35 e10_35 e15_35 e77_35
              refine Wp.ret ?_
              refine blockK_ret ?_
              refine thenK_ret ?_
              refine thenK_ret ?_
              refine blockK_ret ?_
              refine thenK_ret ?_
              refine endK_tmp Try.results4 (by decide) ?_
              rw [e8_36]
              exact ⟨rfl, xw⟩
            · skip
              refine Wp.skip ?_
              refine thenK_normal ?_
              refine Wp.seq ?_
              refine Wp.block ?_
              refine Wp.seqRegion (.inl rfl) (by kernel_rfl) fun K' gd hK hg => ?_
              clear hg
              go_simp
              refine hK _ _ ?_
              clear hK K' gd
              refine Wp.keep [1, 2, 4, 9, 10, 15, 77] fun r37 hkeep => ?_
              obtain ⟨e1_37, e2_37, e4_37, e9_37, e10_37, e15_37, e77_37, -⟩ := hkeep
              simp [go_sem, e1_34, e2_34, e4_34, e9_34, e10_34, e15_34, e67_34] at e1_37 e2_37 e4_37 e9_37 e10_37 e15_37 e77_37
              clear e1_34 e2_34 e4_34 e9_34 e10_34 e15_34 e67_34
              refine Wp.condF (by go_simp) ?_
              refine Wp.skip ?_
              refine blockK_normal ?_
              refine thenK_normal ?_
              refine Wp.loneRegion (.inl rfl) (by kernel_rfl) fun K' gd hK hg => ?_
              clear hg
              go_simp
              refine hK _ _ ?_
              clear hK K' gd
              refine Ends.keep [1, 2, 4, 9, 10, 15] fun r38 hkeep => ?_
              obtain ⟨e1_38, e2_38, e4_38, e9_38, e10_38, e15_38, -⟩ := hkeep
              simp [go_sem, e1_37, e2_37, e4_37, e9_37, e10_37, e15_37, e77_37] at e1_38 e2_38 e4_38 e9_38 e10_38 e15_38
              clear e1_37 e2_37 e4_37 e9_37 e10_37 e15_37 e77_37
              refine Ends.mk ?_
              refine thenK_normal ⟨by omega, ⟨by rw [e1_38, e1_32], by rw [e2_38, e2_32], by rw [e4_38, e4_32], by rw [e9_38, e9_32], by rw [e10_38, e10_32], trivial⟩, rfl, xl5, ?_⟩
              exact ⟨by rw [e15_38, IntWalk.i64_in _ (by have := hf.2; omega)]; rfl, (), fun a ha => by rw [take_snoc h, List.mem_append, List.mem_singleton] at ha; rcases ha with ha | rfl; exact hno.choose_spec a ha; exact hdd⟩
          · refine Wp.condF (by go_simp) ?_
            obtain rfl : k = s.alts.length := by omega
            rw [List.take_length] at hno
            by_cases hdz : d = 0
            · skip
              subst hdz
              have hLW := hzero.choose_spec hno.choose_spec rfl
              subst hLW
              obtain ⟨b2, o2, rfl, hb2, hc2⟩ := hx (by rintro e; rw [e] at hnl; exact absurd hnl (Nat.not_lt_zero _))
              have yw := xw.cell (hc2 n hnl)
              rw [Sh.W_get hnl] at yw
              obtain ⟨b8, o8, c8, e8, hb8, hc8⟩ := (hR.ext xr).intsV.get (k := 0) (by simp)
              injection e8 with e8 _ e9
              subst e8
              subst e9
              have d0 := hc8 0 (by simp)
              have hnw : (n : Int) < (s.words.length : Int) := by omega
              clear hc8 hc2
              simp only [Nat.add_zero] at d0
              replace d0 : wk.cell? ⟨b8, o8, none⟩ = some (.int .i64 (s.W n)) := d0
              refine Wp.exit ?_
              refine thenK_exit ?_
              refine thenK_exit ?_
              refine blockK_here ?_
              refine thenK_normal ?_
              refine Wp.seq ?_
              refine Wp.seqRegion (.inl rfl) (by kernel_rfl) fun K' gd hK hg => ?_
              clear hg
              go_simp
              refine hK _ _ ?_
              clear hK K' gd
              refine Wp.keep [1, 2, 4, 9, 10, 80] fun r39 hkeep => ?_
              obtain ⟨e1_39, e2_39, e4_39, e9_39, e10_39, e80_39, -⟩ := hkeep
              simp [go_sem, e1_34, e2_34, e4_34, e9_34, e10_34, e15_34, e67_34] at e1_39 e2_39 e4_39 e9_39 e10_39 e80_39
              clear e1_34 e2_34 e4_34 e9_34 e10_34 e15_34 e67_34
              refine Wp.condT (by go_simp) ?_
              refine Wp.seqDraw (.inl rfl) mixed [([0, 1], none), ([2, 3, 4, 5, 6], none), ([7, 8, 9, 10, 11], none), ([12, 13, 14, 15, 16], none), ([17], none)] (by kernel_rfl) fun K' gd hK hg => ?_
              have g1 : gd 1 = some 82 := hg 1
              have g6 : gd 6 = some 87 := hg 6
              clear hg
              simp only [pick, nth, List.map_cons, List.map_nil, Option.map_none, Option.map_some]
              refine Mops.absD fun D6 hD6 zD6 => ?_
              replace f4 := Ext.fz hD6 c4_0 f4
              replace xw := Ext.trans xw hD6
              replace xr := Ext.trans xr hD6
              replace xz := Ext.trans xz hD6
              replace xl5 := Ext.trans xl5 hD6
              replace c4_0 := Ext.cell hD6 c4_0
              replace c4_1 := Ext.cell hD6 c4_1
              replace d0 := Ext.cell hD6 d0
              replace yw := Ext.cell hD6 yw
              clear hD6
              apply Mops.none
              · intro w' hE'
                have hC' := hE'.cellsS
                go_simp
                with_reducible rfl
              apply Mops.none
              · intro w' hE'
                have hC' := hE'.cellsS
                go_simp
                with_reducible rfl
              apply Mops.none
              · intro w' hE'
                have hC' := hE'.cellsS
                go_simp
                with_reducible rfl
              apply Mops.none
              · intro w' hE'
                have hC' := hE'.cellsS
                go_simp
                with_reducible rfl
              apply Mops.none
              · intro w' hE'
                have hC' := hE'.cellsS
                go_simp
                with_reducible rfl
              refine Mops.done ?_
              refine hK _ _ ?_
              clear hK K' gd g1 g6
              refine Wp.keep [8] fun r40 hkeep => ?_
              obtain ⟨e8_40, -⟩ := hkeep
              simp [go_sem, e1_39, e2_39, e4_39, e9_39, e10_39, e80_39] at e8_40
              clear e1_39 e2_39 e4_39 e9_39 e10_39 e80_39
              refine Wp.ret ?_
              refine thenK_ret ?_
              refine endK_tmp Try.results4 (by decide) ?_
              rw [e8_40]
              exact ⟨by first | rfl | go_simp, xw⟩
            · skip
              have hwd : IntKind.i64.wrap (d - 1) = d - 1 := IntWalk.i64_in _ (by omega)
              have hr2 := readE_of (s := s) (i := n) (d := d - 1) hl (by omega) (by omega)
              refine Wp.exit ?_
              refine thenK_exit ?_
              refine thenK_exit ?_
              refine blockK_here ?_
              refine thenK_normal ?_
              refine Wp.seq ?_
              refine Wp.seqRegion (.inl rfl) (by kernel_rfl) fun K' gd hK hg => ?_
              clear hg
              go_simp
              refine hK _ _ ?_
              clear hK K' gd
              refine Wp.keep [1, 2, 4, 9, 10, 80] fun r41 hkeep => ?_
              obtain ⟨e1_41, e2_41, e4_41, e9_41, e10_41, e80_41, -⟩ := hkeep
              simp [go_sem, e1_34, e2_34, e4_34, e9_34, e10_34, e15_34, e67_34] at e1_41 e2_41 e4_41 e9_41 e10_41 e80_41
              clear e1_34 e2_34 e4_34 e9_34 e10_34 e15_34 e67_34
              refine Wp.condF (by go_simp) ?_
              refine Wp.skip ?_
              refine thenK_normal ?_
              refine Wp.seqRegion (.inl rfl) (by kernel_rfl) fun K' gd hK hg => ?_
              clear hg
              refine Wops.cut 5 fun K1 hK1 => ?_
              simp only [List.take_succ_cons, List.take_zero]
              go_simp
              refine Wcall (.inl rfl) (Reads_c _ s n (d - 1) _ (hV.ext xw) hf) ?_
              rintro v w8 ⟨t16, hv8, hR2, hE⟩
              rw [hr2] at hv8
              subst hv8
              rw [if_pos hr2] at hR2
              replace hR2 : OwnI w8 _ t16 (readsL (s.on n (d - 1))) := hR2
              rw [hprev.choose_spec hno.choose_spec] at hR2
              have xt := Ext.refl w8
              go_simp
              refine hK1 _ _ ?_
              clear hK1 K1
              simp only [List.drop_succ_cons, List.drop_zero]
              have z42 := Below.size hE
              replace f4 := Ext.fz hE c4_0 f4
              replace xw := Ext.trans xw hE
              replace xr := Ext.trans xr hE
              replace xz := Ext.trans xz hE
              replace xl5 := Ext.trans xl5 hE
              replace c4_0 := Ext.cell hE c4_0
              replace c4_1 := Ext.cell hE c4_1
              clear hE
              go_simp
              refine hK _ _ ?_
              clear hK K' gd
              refine Wp.keep [9, 10, 16, 17] fun r43 hkeep => ?_
              obtain ⟨e9_43, e10_43, e16_43, e17_43, -⟩ := hkeep
              simp [go_sem, e1_41, e2_41, e4_41, e9_41, e10_41, e80_41] at e9_43 e10_43 e16_43 e17_43
              clear e1_41 e2_41 e4_41 e9_41 e10_41 e80_41
              refine Wp.seqRegion (.inl rfl) (by kernel_rfl) fun K' gd hK hg => ?_
              clear hg
              refine Wops.cut 3 fun K1 hK1 => ?_
              simp only [List.take_succ_cons, List.take_zero]
              go_simp
              refine Wcall (.inl rfl) (sameI_T (rfl : L = L) _ (hR.ext xr).intsV (hR2.ext xt).intsV (by omega)) ?_
              rintro v w9 ⟨rfl, hE⟩
              go_simp
              refine hK1 _ _ ?_
              clear hK1 K1
              simp only [List.drop_succ_cons, List.drop_zero]
              have z44 := Below.size hE
              replace f4 := Ext.fz hE c4_0 f4
              replace xw := Ext.trans xw hE
              replace xr := Ext.trans xr hE
              replace xz := Ext.trans xz hE
              replace xl5 := Ext.trans xl5 hE
              replace xt := Ext.trans xt hE
              replace c4_0 := Ext.cell hE c4_0
              replace c4_1 := Ext.cell hE c4_1
              clear hE
              go_simp
              refine hK _ _ ?_
              clear hK K' gd
              refine Wp.keep [9, 17, 18] fun r45 hkeep => ?_
              obtain ⟨e9_45, e17_45, e18_45, -⟩ := hkeep
              simp [go_sem, e9_43, e10_43, e16_43, e17_43] at e9_45 e17_45 e18_45
              clear e9_43 e10_43 e16_43 e17_43
              refine Wp.seqRegion (.inl rfl) (by kernel_rfl) fun K' gd hK hg => ?_
              have g1 : gd 1 = some 110 := hg 1
              have g5 : gd 5 = some 114 := hg 5
              clear hg
              go_simp
              refine hK _ _ ?_
              clear hK K' gd g1 g5
              refine Wp.keep [8] fun r46 hkeep => ?_
              obtain ⟨e8_46, -⟩ := hkeep
              simp [go_sem, e9_45, e17_45, e18_45] at e8_46
              clear e9_45 e17_45 e18_45
              refine Wp.ret ?_
              refine endK_tmp Try.results4 (by decide) ?_
              rw [e8_46]
              exact ⟨by first | rfl | go_simp, xw⟩
    · skip
      refine Wp.seq ?_
      refine Wp.seqRegion (.inl rfl) (by kernel_rfl) fun K' gd hK hg => ?_
      clear hg
      go_simp
      refine hK _ _ ?_
      clear hK K' gd
      refine Wp.keep [1, 2, 3, 4, 9, 10, 12, 13, 39] fun r47 hkeep => ?_
      obtain ⟨e1_47, e2_47, e3_47, e4_47, e9_47, e10_47, e12_47, e13_47, e39_47, -⟩ := hkeep
      simp [go_sem, e1_10, e2_10, e3_10, e4_10, e9_10, e10_10, e11_10, e12_10, e13_10] at e1_47 e2_47 e3_47 e4_47 e9_47 e10_47 e12_47 e13_47 e39_47
      clear e1_10 e2_10 e3_10 e4_10 e9_10 e10_10 e11_10 e12_10 e13_10
      refine Wp.condT (by go_simp) ?_
      refine Wp.seqRegion (.inl rfl) (by kernel_rfl) fun K' gd hK hg => ?_
      clear hg
      go_simp
      refine hK _ _ ?_
      clear hK K' gd
      refine Wp.keep [8] fun r48 hkeep => ?_
      obtain ⟨e8_48, -⟩ := hkeep
      simp [go_sem, e1_47, e2_47, e3_47, e4_47, e9_47, e10_47, e12_47, e13_47, e39_47] at e8_48
      clear e1_47 e2_47 e3_47 e4_47 e9_47 e10_47 e12_47 e13_47 e39_47
      refine Wp.ret ?_
      refine thenK_ret ?_
      refine endK_tmp Try.results4 (by decide) ?_
      rw [e8_48]
      exact ⟨rfl, xw⟩
  · skip
    refine Wp.seq ?_
    refine Wp.seqRegion (.inl rfl) (by kernel_rfl) fun K' gd hK hg => ?_
    clear hg
    refine Wops.cut 2 fun K1 hK1 => ?_
    simp only [List.take_succ_cons, List.take_zero]
    go_simp
    refine Wcall (.inl rfl) (few_c _ s _ (hV.ext xw)) ?_
    rintro v w3 ⟨rfl, hE⟩
    go_simp
    refine hK1 _ _ ?_
    clear hK1 K1
    simp only [List.drop_succ_cons, List.drop_zero]
    have z49 := Below.size hE
    replace f4 := Ext.fz hE c4_0 f4
    replace xw := Ext.trans xw hE
    replace c4_0 := Ext.cell hE c4_0
    replace c4_1 := Ext.cell hE c4_1
    clear hE
    go_simp
    refine hK _ _ ?_
    clear hK K' gd
    refine Wp.keep [1, 2, 3, 4, 9, 22] fun r50 hkeep => ?_
    obtain ⟨e1_50, e2_50, e3_50, e4_50, e9_50, e22_50, -⟩ := hkeep
    simp [go_sem, e1_4, e2_4, e3_4, e4_4, e9_4] at e1_50 e2_50 e3_50 e4_50 e9_50 e22_50
    clear e1_4 e2_4 e3_4 e4_4 e9_4
    refine Wp.condT (by go_simp) ?_
    refine Wp.seqRegion (.inl rfl) (by kernel_rfl) fun K' gd hK hg => ?_
    clear hg
    go_simp
    refine hK _ _ ?_
    clear hK K' gd
    refine Wp.keep [8] fun r51 hkeep => ?_
    obtain ⟨e8_51, -⟩ := hkeep
    simp [go_sem, e1_50, e2_50, e3_50, e4_50, e9_50, e22_50] at e8_51
    clear e1_50 e2_50 e3_50 e4_50 e9_50 e22_50
    refine Wp.ret ?_
    refine thenK_ret ?_
    refine endK_tmp Try.results4 (by decide) ?_
    rw [e8_51]
    exact ⟨rfl, xw⟩
end Go.Proofs.Ytnjajbkkgfohaaa
namespace Go.Proofs.Ytnjajbkkgfohaaa
open Go.ChangeShapes Go.WideShapes Go.RowKit Go.Wk Go.Proofs

theorem own : ownKnob Try.prog.godebug = none := by kernel_rfl
theorem laidOut : laidOutB Try.prog = true := by kernel_rfl
set_option maxRecDepth 100000 in
theorem stateWords_lifted (os : Os) (started : os.Started) (H : Type) (enc : TypeId × Value → H) :
    ReturnsInHanded {} Try.checked os 4 .any (Rows.stateWordsSpec.pre6 enc Try.prog Try.f4 Rows.stateWordsRow.domain false) (Rows.stateWordsSpec.post enc Try.prog Try.f4 false true false false) := by
  refine returnsInHanded_of_change_sized (C := Try.checked) own started (by kernel_rfl) Try.func4
    (ChangeSpec.witness6 (enc := enc) (C := Try.checked) false ⟨#[], #[.agg #[.slice none 0 0, .slice none 0 0], .int .i64 0, .int .i64 0, .int .i64 0], []⟩ 8 (by kernel_rfl) (by kernel_rfl) (by kernel_rfl) (by kernel_rfl)) ?_
  intro W base args ds gs before hval0 hW0 _ hsz0 _
  have hval : ∀ (j : Nat) t v, Try.f4.params[j]? = some t → args[j]? = some v → Value.okWide Try.prog W .any base t v := hval0
  have hW : DataW.Whole enc Try.prog Try.f4.params.toList [] false W args.toList ds gs before := hW0
  have hsz : (DataW.weightsEach Try.prog (Try.f4.params.toList ++ []) (ds ++ gs)).all (· ≤ reachBytes) = true := hsz0
  clear hval0 hsz0
  obtain ⟨p, q, hA, hV, -, -, -⟩ := hW
  obtain ⟨rfl, -⟩ := trodVars_none hV
  rw [List.append_nil, List.append_nil] at hsz
  rw [Try.params4] at hA hsz hval
  obtain ⟨hlen, hR⟩ := Rd.of_args hA hsz
  obtain ⟨v0, v1, v2, v3, d0, d1, d2, d3, p0, p1, p2, p3, rfl, rfl, -, -, -, -, -⟩ := trodAll_four hA
  have r0 := hR 0 _ v0 rfl rfl
  have r1 := hR 1 _ v1 rfl rfl
  have r2 := hR 2 _ v2 rfl rfl
  have r3 := hR 3 _ v3 rfl rfl
  obtain ⟨cs0, rfl, -⟩ := okWide_struct Try.underlying25 (hval 0 _ v0 rfl rfl)
  obtain ⟨m1, rfl⟩ := okWide_int Try.underlying3 (hval 1 _ v1 rfl rfl)
  obtain ⟨m2, rfl⟩ := okWide_int Try.underlying3 (hval 2 _ v2 rfl rfl)
  obtain ⟨m3, rfl⟩ := okWide_int Try.underlying3 (hval 3 _ v3 rfl rfl)
  obtain ⟨x0, h0, f0⟩ := openSh ⟨cs0, rfl⟩ r0
  obtain ⟨x1, hm1, f1⟩ := r1.int Try.underlying3
  have e1 : x1 = m1 := by
    have e : [Value.int .i64 m1] = [Value.int .i64 x1] := hm1
    injection e with e _
    injection e with _ e
    exact e.symm
  subst e1
  obtain ⟨x2, hm2, f2⟩ := r2.int Try.underlying3
  have e2 : x2 = m2 := by
    have e : [Value.int .i64 m2] = [Value.int .i64 x2] := hm2
    injection e with e _
    injection e with _ e
    exact e.symm
  subst e2
  obtain ⟨x3, hm3, f3⟩ := r3.int Try.underlying3
  have e3 : x3 = m3 := by
    have e : [Value.int .i64 m3] = [Value.int .i64 x3] := hm3
    injection e with e _
    injection e with _ e
    exact e.symm
  subst e3
  refine (words_c _ x0 x1 x2 x3 W h0 f0).calls.mono fun e W' ⟨v, he, hv, hE⟩ => ?_
  subst he; subst hv
  exact ⟨_, rfl, law_post hW0 laidOut rfl (by rw [Try.params4]; intro t ht; simp at ht; rcases ht with rfl | rfl | rfl | rfl <;> exact ⟨by kernel_rfl, of_decide_eq_true (by kernel_rfl)⟩) rfl Try.underlying4 rfl rfl rfl hE⟩
theorem stateWords_holds : Rows.StateWordsSaid :=
  OpenClaim.holds_of_wide 4 Try.f4 rfl rfl rfl rfl rfl rfl rfl ⟨rfl, rfl, rfl, rfl, rfl⟩ rfl rfl rfl rfl rfl (by kernel_rfl) Try.func4 (by kernel_rfl)
    (of_decide_eq_true (by kernel_rfl)) (by unfold Func.isWrapper; first | (rw [if_pos (by decide +kernel)]; kernel_rfl) | (rw [if_neg (by decide +kernel)]; exact ⟨rfl, rfl⟩))
    (fun os started H enc _ => stateWords_lifted os started H enc)
#print axioms stateWords_holds
end Go.Proofs.Ytnjajbkkgfohaaa
