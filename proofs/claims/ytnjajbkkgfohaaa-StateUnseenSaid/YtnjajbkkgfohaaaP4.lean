/- The next day, the day before; what a day can be by those of other lines. What a day can be by those of other lines. The earliest and the latest days. First, Last, Clash; on; Fits. on; Fits. -/
import Derived.Test.YtnjajbkkgfohaaaP3
set_option linter.all false
namespace Go.Proofs.Ytnjajbkkgfohaaa
open Go.RowKit Go.Wk Go.Proofs
attribute [local irreducible] Go.Wk.Wops Go.Wk.Wp Go.Wk.Mtree Go.Wk.Mops
set_option maxHeartbeats 4000000
set_option maxRecDepth 20000

def near (xs : List (Int × Int)) (p : Int × Int → Int × Bool) : Int × Bool :=
  match xs.find? fun x => (p x).2 with
  | some x => ((p x).1, true)
  | none => (0, false)
theorem near_some {xs : List (Int × Int)} {p : Int × Int → Int × Bool} {k : Nat} (h : k < xs.length) (hn : ∀ y ∈ xs.take k, (p y).2 = false) (hp : (p xs[k]).2 = true) : near xs p = ((p xs[k]).1, true) := by
  unfold near
  have e : xs.find? (fun x => (p x).2) = some xs[k] := by
    have e0 : (xs.take k).find? (fun x => (p x).2) = none := List.find?_eq_none.2 (fun y hy => by simp [hn y hy])
    have e1 : (xs.drop k).find? (fun x => (p x).2) = some xs[k] := by rw [drop_cons h, List.find?_cons_of_pos (p := fun x => (p x).2) hp]
    have e2 : xs.find? (fun x => (p x).2) = (xs.take k ++ xs.drop k).find? (fun x => (p x).2) := by rw [List.take_append_drop]
    rw [e2, List.find?_append, e0, e1]; rfl
  rw [e]
theorem near_none {xs : List (Int × Int)} {p : Int × Int → Int × Bool} (hn : ∀ y ∈ xs, (p y).2 = false) : near xs p = (0, false) := by
  unfold near
  rw [List.find?_eq_none.2 (fun y hy => by simp [hn y hy])]
theorem nearest_c (v : Value) (xs : List (Int × Int)) (p : Int × Int → Int × Bool) (gf : Nat) (en : Value) (w : World) (hx : SpansV w w.heap.size v xs) (hl : xs.length ≤ 1000000000)
    (heg : ∀ args w, (callFunc gf args).run Try.prog w = .ok (.enter gf args) w)
    (hp : ∀ x W, Ext w W → CallsV Try.prog gf #[.agg #[.int .i64 x.1, .int .i64 x.2], en] W fun v W' => v = .tuple #[.int .i64 (p x).1, .bool (p x).2] ∧ Ext W W') :
    CallsV Try.prog 142 #[v, .func (.func gf) #[] #[en]] w fun v w' => v = .tuple #[.int .i64 (near xs p).1, .bool (near xs p).2] ∧ Ext w w' := by
  obtain ⟨A, c, rfl, -, -⟩ := id hx
  refine Wp.fn Try.func142 rfl Try.ntmps142 (by simp) ?_
  have xw := Ext.refl w
  refine Wp.keep [0, 1] fun r1 hkeep => ?_
  obtain ⟨e0_1, e1_1, -⟩ := hkeep
  simp [go_sem] at e0_1 e1_1
  refine Wp.seqRegion (.inl rfl) (by kernel_rfl) fun K' gd hK hg => ?_
  clear hg
  go_simp
  refine hK _ _ ?_
  clear hK K' gd
  refine Wp.keep [0, 1] fun r2 hkeep => ?_
  obtain ⟨e0_2, e1_2, -⟩ := hkeep
  simp [go_sem, e0_1, e1_1] at e0_2 e1_2
  clear e0_1 e1_1
  refine Wp.seq ?_
  refine Wp.seqRegion (.inl rfl) (by kernel_rfl) fun K' gd hK hg => ?_
  clear hg
  go_simp
  refine hK _ _ ?_
  clear hK K' gd
  refine Wp.keep [1, 10, 11, 12] fun r3 hkeep => ?_
  obtain ⟨e1_3, e10_3, e11_3, e12_3, -⟩ := hkeep
  simp [go_sem, e0_2, e1_2] at e1_3 e10_3 e11_3 e12_3
  clear e0_2 e1_2
  refine Wp.block ?_
  refine Wp.loop (fun k ρ ds wk => AllEq [1, 10, 11] ρ r3 ∧ ds = [] ∧ (Ext w wk) ∧ (ρ 12 = .int .i64 (k : Int) ∧ (∀ y ∈ xs.take k, (p y).2 = false))) (xs.length) ?_ ?_
  · refine ⟨AllEq.refl _ _, rfl, Ext.refl _, ?_⟩
    exact ⟨by rw [e12_3]; rfl, by simp⟩
  · rintro k r4 _ wk hk ⟨hA, rfl, xl1, ⟨e12, hn⟩⟩
    obtain ⟨e1_4, e10_4, e11_4, -⟩ := hA
    rw [e1_3] at e1_4
    rw [e10_3] at e10_4
    rw [e11_3] at e11_4
    have zxl1 := Below.size xl1
    replace xw := Ext.trans xw xl1
    refine Wp.seqRegion (.inl rfl) (by kernel_rfl) fun K' gd hK hg => ?_
    clear hg
    go_simp
    refine hK _ _ ?_
    clear hK K' gd
    refine Wp.keep [1, 10, 11, 12, 13] fun r5 hkeep => ?_
    obtain ⟨e1_5, e10_5, e11_5, e12_5, e13_5, -⟩ := hkeep
    simp [go_sem, e1_4, e10_4, e11_4, e12] at e1_5 e10_5 e11_5 e12_5 e13_5
    clear e1_4 e10_4 e11_4 e12
    refine Wp.seq ?_
    by_cases h : k < xs.length
    · refine Wp.condT (by go_simp) ?_
      obtain ⟨b, o, rfl, hb, y0, y1⟩ := SpansV.two hx h
      replace y0 := xw.cell y0
      replace y1 := xw.cell y1
      by_cases hq : (p xs[k]).2 = true
      · skip
        refine Wp.skip ?_
        refine thenK_normal ?_
        refine Wp.seq ?_
        refine Wp.block ?_
        refine Wp.seqRegion (.inl rfl) (by kernel_rfl) fun K' gd hK hg => ?_
        clear hg
        refine Wops.cut 4 fun K1 hK1 => ?_
        simp only [List.take_succ_cons, List.take_zero]
        go_simp
        refine hK1 _ _ ?_
        clear hK1 K1
        simp only [List.drop_succ_cons, List.drop_zero]
        refine Wops.absA fun V7_2 n7 hV7_2 => ?_
        obtain ⟨q7, hV7_2, s7, kV7_2, f7, r7⟩ := hV7_2
        try simp only [q7] at kV7_2 f7 r7 ⊢
        replace xw := Ext.trans xw hV7_2
        replace xl1 := Ext.trans xl1 hV7_2
        replace y0 := Ext.cell hV7_2 y0
        replace y1 := Ext.cell hV7_2 y1
        have c7_0 := kV7_2 0 _ rfl
        have c7_1 := kV7_2 1 _ rfl
        clear kV7_2 hV7_2
        clear r7
        try simp only [Wops_nil, updO_some, updO_none]
        refine hK _ _ ?_
        clear hK K' gd
        refine Wp.keep [1, 7, 10, 11, 12] fun r6 hkeep => ?_
        obtain ⟨e1_6, e7_6, e10_6, e11_6, e12_6, -⟩ := hkeep
        simp [go_sem, e1_5, e10_5, e11_5, e12_5, e13_5] at e1_6 e7_6 e10_6 e11_6 e12_6
        clear e1_5 e10_5 e11_5 e12_5 e13_5
        refine Wp.seqRegion (.inl rfl) (by kernel_rfl) fun K' gd hK hg => ?_
        clear hg
        refine Wops.cut 3 fun K1 hK1 => ?_
        simp only [List.take_succ_cons, List.take_zero]
        go_simp
        refine Wcall (.inl rfl) (hp xs[k] _ xw) ?_
        rintro v w2 ⟨rfl, hE⟩
        go_simp
        refine hK1 _ _ ?_
        clear hK1 K1
        simp only [List.drop_succ_cons, List.drop_zero]
        have z7 := Below.size hE
        replace f7 := Ext.fz hE c7_0 f7
        replace xw := Ext.trans xw hE
        replace xl1 := Ext.trans xl1 hE
        replace y0 := Ext.cell hE y0
        replace y1 := Ext.cell hE y1
        replace c7_0 := Ext.cell hE c7_0
        replace c7_1 := Ext.cell hE c7_1
        clear hE
        go_simp
        refine hK _ _ ?_
        clear hK K' gd
        refine Wp.keep [1, 8, 9, 10, 11, 12] fun r8 hkeep => ?_
        obtain ⟨e1_8, e8_8, e9_8, e10_8, e11_8, e12_8, -⟩ := hkeep
        simp [go_sem, e1_6, e7_6, e10_6, e11_6, e12_6] at e1_8 e8_8 e9_8 e10_8 e11_8 e12_8
        clear e1_6 e7_6 e10_6 e11_6 e12_6
        refine Wp.seqRegion (.inl rfl) (by kernel_rfl) fun K' gd hK hg => ?_
        clear hg
        go_simp
        refine hK _ _ ?_
        clear hK K' gd
        refine Wp.keep [1, 8, 10, 11, 12, 22] fun r9 hkeep => ?_
        obtain ⟨e1_9, e8_9, e10_9, e11_9, e12_9, e22_9, -⟩ := hkeep
        simp [go_sem, e1_8, e8_8, e9_8, e10_8, e11_8, e12_8] at e1_9 e8_9 e10_9 e11_9 e12_9 e22_9
        clear e1_8 e8_8 e9_8 e10_8 e11_8 e12_8
        refine Wp.condT (by go_simp) ?_
        refine Wp.seqRegion (.inl rfl) (by kernel_rfl) fun K' gd hK hg => ?_
        clear hg
        go_simp
        refine hK _ _ ?_
        clear hK K' gd
        refine Wp.keep [4, 5] fun r10 hkeep => ?_
        obtain ⟨e4_10, e5_10, -⟩ := hkeep
        simp [go_sem, e1_9, e8_9, e10_9, e11_9, e12_9, e22_9] at e4_10 e5_10
        clear e1_9 e8_9 e10_9 e11_9 e12_9 e22_9
        refine Wp.ret ?_
        refine blockK_ret ?_
        refine thenK_ret ?_
        refine thenK_ret ?_
        refine blockK_ret ?_
        refine thenK_ret ?_
        refine endK_tmp2 Try.results142 (by decide) (by decide) ?_
        rw [e4_10, e5_10]
        exact ⟨by rw [near_some h hn hq], xw⟩
      · skip
        refine Wp.skip ?_
        refine thenK_normal ?_
        refine Wp.seq ?_
        refine Wp.block ?_
        refine Wp.seqRegion (.inl rfl) (by kernel_rfl) fun K' gd hK hg => ?_
        clear hg
        refine Wops.cut 4 fun K1 hK1 => ?_
        simp only [List.take_succ_cons, List.take_zero]
        go_simp
        refine hK1 _ _ ?_
        clear hK1 K1
        simp only [List.drop_succ_cons, List.drop_zero]
        refine Wops.absA fun V7_3 n7 hV7_3 => ?_
        obtain ⟨q7, hV7_3, s7, kV7_3, f7, r7⟩ := hV7_3
        try simp only [q7] at kV7_3 f7 r7 ⊢
        replace xw := Ext.trans xw hV7_3
        replace xl1 := Ext.trans xl1 hV7_3
        replace y0 := Ext.cell hV7_3 y0
        replace y1 := Ext.cell hV7_3 y1
        have c7_0 := kV7_3 0 _ rfl
        have c7_1 := kV7_3 1 _ rfl
        clear kV7_3 hV7_3
        clear r7
        try simp only [Wops_nil, updO_some, updO_none]
        refine hK _ _ ?_
        clear hK K' gd
        refine Wp.keep [1, 7, 10, 11, 12] fun r11 hkeep => ?_
        obtain ⟨e1_11, e7_11, e10_11, e11_11, e12_11, -⟩ := hkeep
        simp [go_sem, e1_5, e10_5, e11_5, e12_5, e13_5] at e1_11 e7_11 e10_11 e11_11 e12_11
        clear e1_5 e10_5 e11_5 e12_5 e13_5
        refine Wp.seqRegion (.inl rfl) (by kernel_rfl) fun K' gd hK hg => ?_
        clear hg
        refine Wops.cut 3 fun K1 hK1 => ?_
        simp only [List.take_succ_cons, List.take_zero]
        go_simp
        refine Wcall (.inl rfl) (hp xs[k] _ xw) ?_
        rintro v w2 ⟨rfl, hE⟩
        go_simp
        refine hK1 _ _ ?_
        clear hK1 K1
        simp only [List.drop_succ_cons, List.drop_zero]
        have z12 := Below.size hE
        replace f7 := Ext.fz hE c7_0 f7
        replace xw := Ext.trans xw hE
        replace xl1 := Ext.trans xl1 hE
        replace y0 := Ext.cell hE y0
        replace y1 := Ext.cell hE y1
        replace c7_0 := Ext.cell hE c7_0
        replace c7_1 := Ext.cell hE c7_1
        clear hE
        go_simp
        refine hK _ _ ?_
        clear hK K' gd
        refine Wp.keep [1, 8, 9, 10, 11, 12] fun r13 hkeep => ?_
        obtain ⟨e1_13, e8_13, e9_13, e10_13, e11_13, e12_13, -⟩ := hkeep
        simp [go_sem, e1_11, e7_11, e10_11, e11_11, e12_11] at e1_13 e8_13 e9_13 e10_13 e11_13 e12_13
        clear e1_11 e7_11 e10_11 e11_11 e12_11
        refine Wp.seqRegion (.inl rfl) (by kernel_rfl) fun K' gd hK hg => ?_
        clear hg
        go_simp
        refine hK _ _ ?_
        clear hK K' gd
        refine Wp.keep [1, 8, 10, 11, 12, 22] fun r14 hkeep => ?_
        obtain ⟨e1_14, e8_14, e10_14, e11_14, e12_14, e22_14, -⟩ := hkeep
        simp [go_sem, e1_13, e8_13, e9_13, e10_13, e11_13, e12_13] at e1_14 e8_14 e10_14 e11_14 e12_14 e22_14
        clear e1_13 e8_13 e9_13 e10_13 e11_13 e12_13
        refine Wp.condF (by go_simp) ?_
        refine Wp.skip ?_
        refine blockK_normal ?_
        refine thenK_normal ?_
        refine Wp.loneRegion (.inl rfl) (by kernel_rfl) fun K' gd hK hg => ?_
        clear hg
        go_simp
        refine hK _ _ ?_
        clear hK K' gd
        refine Ends.keep [1, 10, 11, 12] fun r15 hkeep => ?_
        obtain ⟨e1_15, e10_15, e11_15, e12_15, -⟩ := hkeep
        simp [go_sem, e1_14, e8_14, e10_14, e11_14, e12_14, e22_14] at e1_15 e10_15 e11_15 e12_15
        clear e1_14 e8_14 e10_14 e11_14 e12_14 e22_14
        refine Ends.mk ?_
        refine thenK_normal ⟨by omega, ⟨by rw [e1_15, e1_3], by rw [e10_15, e10_3], by rw [e11_15, e11_3], trivial⟩, rfl, xl1, ?_⟩
        exact ⟨by rw [e12_15, IntWalk.i64_in _ (by omega)]; rfl, fun y hy => by rw [take_snoc h, List.mem_append, List.mem_singleton] at hy; rcases hy with hy | rfl; exact hn y hy; simpa using hq⟩
    · refine Wp.condF (by go_simp) ?_
      obtain rfl : k = xs.length := by omega
      rw [List.take_length] at hn
      refine Wp.exit ?_
      refine thenK_exit ?_
      refine thenK_exit ?_
      refine blockK_here ?_
      refine thenK_normal ?_
      refine Wp.seqRegion (.inl rfl) (by kernel_rfl) fun K' gd hK hg => ?_
      clear hg
      go_simp
      refine hK _ _ ?_
      clear hK K' gd
      refine Wp.keep [4, 5] fun r16 hkeep => ?_
      obtain ⟨e4_16, e5_16, -⟩ := hkeep
      simp [go_sem, e1_5, e10_5, e11_5, e12_5, e13_5] at e4_16 e5_16
      clear e1_5 e10_5 e11_5 e12_5 e13_5
      refine Wp.ret ?_
      refine endK_tmp2 Try.results142 (by decide) (by decide) ?_
      rw [e4_16, e5_16]
      exact ⟨by rw [near_none hn], xw⟩
def nxp (day : Int) (x : Int × Int) : Int × Bool := (max x.1 day, decide (day ≤ x.2))
def bfp (day : Int) (x : Int × Int) : Int × Bool := (min x.2 day, decide (x.1 ≤ day))
theorem next1_c (x y day : Int) (q : Nat) (w : World) (hq : w.cell? ⟨q, 0, none⟩ = some (.int .i64 day)) :
    CallsV Try.prog 151 #[.agg #[.int .i64 x, .int .i64 y], .pointer (some ⟨q, 0, none⟩)] w fun v w' => v = .tuple #[.int .i64 (nxp day (x, y)).1, .bool (nxp day (x, y)).2] ∧ Ext w w' := by
  refine Wp.fn Try.func151 rfl Try.ntmps151 (by simp) ?_
  have xw := Ext.refl w
  refine Wp.keep [0, 1] fun r1 hkeep => ?_
  obtain ⟨e0_1, e1_1, -⟩ := hkeep
  simp [go_sem] at e0_1 e1_1
  refine Wp.seqRegion (.inl rfl) (by kernel_rfl) fun K' gd hK hg => ?_
  clear hg
  refine Wops.cut 1 fun K1 hK1 => ?_
  simp only [List.take_succ_cons, List.take_zero]
  go_simp
  refine hK1 _ _ ?_
  clear hK1 K1
  simp only [List.drop_succ_cons, List.drop_zero]
  refine Wops.absA fun V2_1 n2 hV2_1 => ?_
  obtain ⟨q2, hV2_1, s2, kV2_1, f2, r2⟩ := hV2_1
  try simp only [q2] at kV2_1 f2 r2 ⊢
  replace xw := Ext.trans xw hV2_1
  replace hq := Ext.cell hV2_1 hq
  have c2_0 := kV2_1 0 _ rfl
  have c2_1 := kV2_1 1 _ rfl
  clear kV2_1 hV2_1
  clear r2
  go_simp
  refine hK _ _ ?_
  clear hK K' gd
  refine Wp.keep [1, 2] fun r2 hkeep => ?_
  obtain ⟨e1_2, e2_2, -⟩ := hkeep
  simp [go_sem, e0_1, e1_1] at e1_2 e2_2
  clear e0_1 e1_1
  refine Wp.seqDraw (.inl rfl) mixed [([0, 1, 2, 3, 4], none), ([5, 6, 7, 8, 9], none)] (by kernel_rfl) fun K' gd hK hg => ?_
  clear hg
  simp only [pick, nth, List.map_cons, List.map_nil, Option.map_none, Option.map_some]
  refine Mops.absD fun D2 hD2 zD2 => ?_
  replace f2 := Ext.fz hD2 c2_0 f2
  replace xw := Ext.trans xw hD2
  replace hq := Ext.cell hD2 hq
  replace c2_0 := Ext.cell hD2 c2_0
  replace c2_1 := Ext.cell hD2 c2_1
  clear hD2
  apply Mops.none
  · intro w' hE'
    have hC' := hE'.cellsS
    go_simp
    with_reducible rfl
  apply Mops.none
  · intro w' hE'
    have hC' := hE'.cellsS
    go_simp
    with_reducible rfl
  refine Mops.done ?_
  refine hK _ _ ?_
  clear hK K' gd
  refine Wp.keep [3, 4] fun r3 hkeep => ?_
  obtain ⟨e3_3, e4_3, -⟩ := hkeep
  simp [go_sem, e1_2, e2_2] at e3_3 e4_3
  clear e1_2 e2_2
  refine Wp.ret ?_
  refine endK_tmp2 Try.results151 (by decide) (by decide) ?_
  rw [e3_3, e4_3]
  exact ⟨by unfold nxp; congr 3; simp only [Int.max_def]; repeat' split; all_goals first | rfl | (congr 1; omega), xw⟩
theorem before1_c (x y day : Int) (q : Nat) (w : World) (hq : w.cell? ⟨q, 0, none⟩ = some (.int .i64 day)) :
    CallsV Try.prog 143 #[.agg #[.int .i64 x, .int .i64 y], .pointer (some ⟨q, 0, none⟩)] w fun v w' => v = .tuple #[.int .i64 (bfp day (x, y)).1, .bool (bfp day (x, y)).2] ∧ Ext w w' := by
  refine Wp.fn Try.func143 rfl Try.ntmps143 (by simp) ?_
  have xw := Ext.refl w
  refine Wp.keep [0, 1] fun r1 hkeep => ?_
  obtain ⟨e0_1, e1_1, -⟩ := hkeep
  simp [go_sem] at e0_1 e1_1
  refine Wp.seqRegion (.inl rfl) (by kernel_rfl) fun K' gd hK hg => ?_
  clear hg
  refine Wops.cut 1 fun K1 hK1 => ?_
  simp only [List.take_succ_cons, List.take_zero]
  go_simp
  refine hK1 _ _ ?_
  clear hK1 K1
  simp only [List.drop_succ_cons, List.drop_zero]
  refine Wops.absA fun V2_1 n2 hV2_1 => ?_
  obtain ⟨q2, hV2_1, s2, kV2_1, f2, r2⟩ := hV2_1
  try simp only [q2] at kV2_1 f2 r2 ⊢
  replace xw := Ext.trans xw hV2_1
  replace hq := Ext.cell hV2_1 hq
  have c2_0 := kV2_1 0 _ rfl
  have c2_1 := kV2_1 1 _ rfl
  clear kV2_1 hV2_1
  clear r2
  go_simp
  refine hK _ _ ?_
  clear hK K' gd
  refine Wp.keep [1, 2] fun r2 hkeep => ?_
  obtain ⟨e1_2, e2_2, -⟩ := hkeep
  simp [go_sem, e0_1, e1_1] at e1_2 e2_2
  clear e0_1 e1_1
  refine Wp.seqDraw (.inl rfl) mixed [([0, 1, 2, 3, 4], none), ([5, 6, 7, 8, 9], none)] (by kernel_rfl) fun K' gd hK hg => ?_
  clear hg
  simp only [pick, nth, List.map_cons, List.map_nil, Option.map_none, Option.map_some]
  refine Mops.absD fun D2 hD2 zD2 => ?_
  replace f2 := Ext.fz hD2 c2_0 f2
  replace xw := Ext.trans xw hD2
  replace hq := Ext.cell hD2 hq
  replace c2_0 := Ext.cell hD2 c2_0
  replace c2_1 := Ext.cell hD2 c2_1
  clear hD2
  apply Mops.none
  · intro w' hE'
    have hC' := hE'.cellsS
    go_simp
    with_reducible rfl
  apply Mops.none
  · intro w' hE'
    have hC' := hE'.cellsS
    go_simp
    with_reducible rfl
  refine Mops.done ?_
  refine hK _ _ ?_
  clear hK K' gd
  refine Wp.keep [3, 4] fun r3 hkeep => ?_
  obtain ⟨e3_3, e4_3, -⟩ := hkeep
  simp [go_sem, e1_2, e2_2] at e3_3 e4_3
  clear e1_2 e2_2
  refine Wp.ret ?_
  refine endK_tmp2 Try.results143 (by decide) (by decide) ?_
  rw [e3_3, e4_3]
  exact ⟨by unfold bfp; congr 3; simp only [Int.min_def]; repeat' split; all_goals first | rfl | (congr 1; omega), xw⟩
theorem next_near (l : List (Int × Int)) (e day : Int) : nextS l e day = if (near l (nxp day)).2 = true ∧ (near l (nxp day)).1 ≤ e then (near l (nxp day)).1 else 731 := by
  unfold nextS near
  have : (fun x : Int × Int => (nxp day x).2) = fun x => decide (day ≤ x.2) := rfl
  rw [this]
  cases l.find? fun x => decide (day ≤ x.2) with
  | none => simp
  | some x =>
    simp only [nxp, true_and]
    by_cases h : e < max x.1 day
    · rw [if_pos h, if_neg (by omega)]
    · rw [if_neg h, if_pos (by omega)]
theorem bef_near (l : List (Int × Int)) (b day : Int) : befS l b day = if (near l.reverse (bfp day)).2 = true ∧ b ≤ (near l.reverse (bfp day)).1 then (near l.reverse (bfp day)).1 else -1 := by
  unfold befS near
  have : (fun x : Int × Int => (bfp day x).2) = fun x => decide (x.1 ≤ day) := rfl
  rw [this]
  cases l.reverse.find? fun x => decide (x.1 ≤ day) with
  | none => simp
  | some x =>
    simp only [bfp, true_and]
    by_cases h : min x.2 day < b
    · rw [if_pos h, if_neg (by omega)]
    · rw [if_neg h, if_pos (by omega)]
theorem ownsZ_slice {w : World} {base : Nat} {v : Value} {xs : List (Int × Int)} (h : OwnZ w base v xs) : ∃ A n c, v = .slice A n c := by obtain ⟨A, c, h⟩ := ownsRow_slice h; exact ⟨A, _, c, h⟩
theorem OwnZ.rowP {w : World} {base : Nat} {v : Value} {l : List (Int × Int)} (h : OwnZ w base v l) (hne : l ≠ []) : ∃ b c, v = .slice (some ⟨b, 0, none⟩) l.length c ∧ base ≤ b ∧ l.length ≤ c ∧ RowP w b l.length fun i => l[i]?.getD (0, 0) := by
  rcases h.2 with ⟨rfl, hn⟩ | ⟨g, cap, cur, rfl, hb, hg, hnc, hcm, hcs, htake⟩
  · exact absurd (List.eq_nil_of_length_eq_zero hn) hne
  · refine ⟨g, cap, rfl, hb, hnc, fun i hi => ?_, fun i hi => ?_, own_fz h, List.length_pos_iff.2 hne⟩
    · have := World.ownsRow.cells h (g := g) rfl _ _ (encL_get (List.getElem?_eq_getElem hi)).1
      rw [Addr.add_lit, Nat.zero_add] at this; rw [List.getElem?_eq_getElem hi]; exact this
    · have := World.ownsRow.cells h (g := g) rfl _ _ (encL_get (List.getElem?_eq_getElem hi)).2
      rw [Addr.add_lit, Nat.zero_add] at this; rw [List.getElem?_eq_getElem hi]; exact this
theorem RowP.rev {w : World} {b c : Nat} {l : List (Int × Int)} (h : RowP w b l.length fun i => l[l.length - 1 - i]?.getD (0, 0)) (hc : l.length ≤ c) : SpansV w w.heap.size (.slice (some ⟨b, 0, none⟩) l.length c) l.reverse := by
  refine ⟨_, c, by rw [List.length_reverse], fun _ => ⟨b, 0, rfl, cell_lt (h.c0 0 h.n1), fun i hi r u hu => ?_⟩, by simpa using hc⟩
  rw [List.length_reverse] at hi
  have e : l[l.length - 1 - i]? = some (l.reverse[i]'(by simpa using hi)) := by rw [List.getElem_reverse, List.getElem?_eq_getElem]
  have h0 := h.c0 i hi
  have h1 := h.c1 i hi
  rw [e] at h0 h1
  match r, hu with
  | 0, hu => simp only [encZ, List.getElem?_cons_zero, Option.some.injEq] at hu; subst hu; rw [Nat.zero_add, Nat.add_zero]; exact h0
  | 1, hu => simp only [encZ, List.getElem?_cons_succ, List.getElem?_cons_zero, Option.some.injEq] at hu; subst hu; rw [Nat.zero_add]; exact h1
  | r + 2, hu => simp [encZ] at hu
theorem rev0_c (A : Option Addr) (c : Nat) (w : World) : CallsV Try.prog 141 #[.slice A 0 c] w fun _ w' => True ∧ Ext w w' := by
  refine Wp.fn Try.func141 rfl Try.ntmps141 (by simp) ?_
  have xw := Ext.refl w
  refine Wp.keep [0] fun r1 hkeep => ?_
  obtain ⟨e0_1, -⟩ := hkeep
  simp [go_sem] at e0_1
  refine Wp.seqRegion (.inl rfl) (by kernel_rfl) fun K' gd hK hg => ?_
  clear hg
  go_simp
  refine hK _ _ ?_
  clear hK K' gd
  refine Wp.keep [0, 2, 3] fun r2 hkeep => ?_
  obtain ⟨e0_2, e2_2, e3_2, -⟩ := hkeep
  simp [go_sem, e0_1] at e0_2 e2_2 e3_2
  clear e0_1
  refine Wp.block ?_
  refine Wp.loop (fun k ρ ds wk => AllEq [0] ρ r2 ∧ ds = [] ∧ (Ext w wk) ∧ (ρ 2 = .int .i64 0 ∧ ρ 3 = .int .i64 (-1))) (0) ?_ ?_
  · refine ⟨AllEq.refl _ _, rfl, Ext.refl _, ?_⟩
    exact ⟨by rw [e2_2], by rw [e3_2]; rfl⟩
  · rintro k r3 _ wk hk ⟨hA, rfl, xl1, ⟨e2, e3⟩⟩
    obtain ⟨e0_3, -⟩ := hA
    rw [e0_2] at e0_3
    have zxl1 := Below.size xl1
    replace xw := Ext.trans xw xl1
    refine Wp.seq ?_
    refine Wp.seqRegion (.inl rfl) (by kernel_rfl) fun K' gd hK hg => ?_
    clear hg
    go_simp
    refine hK _ _ ?_
    clear hK K' gd
    refine Wp.keep [0, 2, 3, 9] fun r4 hkeep => ?_
    obtain ⟨e0_4, e2_4, e3_4, e9_4, -⟩ := hkeep
    simp [go_sem, e0_3, e2, e3] at e0_4 e2_4 e3_4 e9_4
    clear e0_3 e2 e3
    refine Wp.condF (by go_simp) ?_
    refine Wp.exit ?_
    refine thenK_exit ?_
    refine thenK_exit ?_
    refine blockK_here ?_
    refine endN_none Try.results141 ?_
    exact ⟨trivial, xw⟩
theorem Md.T_get {m : Md} {i : Nat} (h : i < m.tab.length) : m.tab[i] = m.T i := by unfold Md.T; rw [List.getElem?_eq_getElem h]; rfl
theorem next_c (v : Value) (m : Md) (i : Nat) (day : Int) (w : World) (hV : MadeV w w.heap.size v m) (hm : MdOk m) (hi : i < m.n) :
    CallsV Try.prog 134 #[v, .int .i64 (i : Int), .int .i64 day] w fun v w' => v = .int .i64 (m.nx i day) ∧ Ext w w' := by
  obtain ⟨wv, tv, rfl, ⟨A, c, rfl, -⟩, hT⟩ := hV
  obtain ⟨A2, c2, rfl, -⟩ := id hT
  have htl : i < m.tab.length := by rw [hm.len]; exact hi
  obtain ⟨b, o, u, rfl, hb, -, y0, hS⟩ := hT.row htl
  rw [Md.T_get htl] at hS
  obtain ⟨A3, c3, rfl, -, -⟩ := id hS
  have hin : (i : Int) < (m.tab.length : Int) := by omega
  clear hT
  refine Wp.fn Try.func134 rfl Try.ntmps134 (by simp) ?_
  have xw := Ext.refl w
  refine Wp.keep [0, 1, 2] fun r1 hkeep => ?_
  obtain ⟨e0_1, e1_1, e2_1, -⟩ := hkeep
  simp [go_sem] at e0_1 e1_1 e2_1
  refine Wp.seqRegion (.inl rfl) (by kernel_rfl) fun K' gd hK hg => ?_
  clear hg
  refine Wops.cut 1 fun K1 hK1 => ?_
  simp only [List.take_succ_cons, List.take_zero]
  go_simp
  refine hK1 _ _ ?_
  clear hK1 K1
  simp only [List.drop_succ_cons, List.drop_zero]
  refine Wops.absA fun V3_1 n3 hV3_1 => ?_
  obtain ⟨q3, hV3_1, s3, kV3_1, f3, r3⟩ := hV3_1
  try simp only [q3] at kV3_1 f3 r3 ⊢
  replace xw := Ext.trans xw hV3_1
  replace y0 := Ext.cell hV3_1 y0
  have c3_0 := kV3_1 0 _ rfl
  have c3_1 := kV3_1 1 _ rfl
  have c3_2 := kV3_1 2 _ rfl
  have c3_3 := kV3_1 3 _ rfl
  have c3_4 := kV3_1 4 _ rfl
  clear kV3_1 hV3_1
  clear r3
  refine Wops.cut 1 fun K1 hK1 => ?_
  simp only [List.take_succ_cons, List.take_zero]
  go_simp
  refine hK1 _ _ ?_
  clear hK1 K1
  simp only [List.drop_succ_cons, List.drop_zero]
  refine Wops.absA fun V5_2 n5 hV5_2 => ?_
  obtain ⟨q5, hV5_2, s5, kV5_2, f5, r5⟩ := hV5_2
  try simp only [q5] at kV5_2 f5 r5 ⊢
  replace f3 := Ext.fz hV5_2 c3_0 f3
  replace xw := Ext.trans xw hV5_2
  replace y0 := Ext.cell hV5_2 y0
  replace c3_0 := Ext.cell hV5_2 c3_0
  replace c3_1 := Ext.cell hV5_2 c3_1
  replace c3_2 := Ext.cell hV5_2 c3_2
  replace c3_3 := Ext.cell hV5_2 c3_3
  replace c3_4 := Ext.cell hV5_2 c3_4
  have c5_0 := kV5_2 0 _ rfl
  clear kV5_2 hV5_2
  clear r5
  go_simp
  refine hK _ _ ?_
  clear hK K' gd
  refine Wp.keep [1, 3, 5] fun r2 hkeep => ?_
  obtain ⟨e1_2, e3_2, e5_2, -⟩ := hkeep
  simp [go_sem, e0_1, e1_1, e2_1] at e1_2 e3_2 e5_2
  clear e0_1 e1_1 e2_1
  refine Wp.seqRegion (.inl rfl) (by kernel_rfl) fun K' gd hK hg => ?_
  clear hg
  refine Wops.cut 7 fun K1 hK1 => ?_
  simp only [List.take_succ_cons, List.take_zero]
  go_simp
  refine Wcall (.inl rfl) (nearest_c _ (m.T i) (nxp day) 151 (.pointer (some ⟨n5, 0, none⟩)) _ (hS.ext xw) (by have := hm.many i; omega) (enters_of Try.func151 (by kernel_rfl) rfl) (fun x W hW => next1_c x.1 x.2 day n5 W (hW.cell c5_0))) ?_
  rintro v w2 ⟨rfl, hE⟩
  go_simp
  refine hK1 _ _ ?_
  clear hK1 K1
  simp only [List.drop_succ_cons, List.drop_zero]
  have z3 := Below.size hE
  replace f3 := Ext.fz hE c3_0 f3
  replace f5 := Ext.fz hE c5_0 f5
  replace xw := Ext.trans xw hE
  replace y0 := Ext.cell hE y0
  replace c3_0 := Ext.cell hE c3_0
  replace c3_1 := Ext.cell hE c3_1
  replace c3_2 := Ext.cell hE c3_2
  replace c3_3 := Ext.cell hE c3_3
  replace c3_4 := Ext.cell hE c3_4
  replace c5_0 := Ext.cell hE c5_0
  clear hE
  go_simp
  refine hK _ _ ?_
  clear hK K' gd
  refine Wp.keep [3, 7, 8] fun r4 hkeep => ?_
  obtain ⟨e3_4, e7_4, e8_4, -⟩ := hkeep
  simp [go_sem, e1_2, e3_2, e5_2] at e3_4 e7_4 e8_4
  clear e1_2 e3_2 e5_2
  by_cases hq : (near (m.T i) (nxp day)).2 = true
  · skip
    by_cases he : m.c.e < (near (m.T i) (nxp day)).1
    · skip
      refine Wp.seq ?_
      refine Wp.seqRegion (.inl rfl) (by kernel_rfl) fun K' gd hK hg => ?_
      have g2 : gd 2 = some 21 := hg 2
      clear hg
      go_simp
      refine hK _ _ ?_
      clear hK K' gd g2
      refine Wp.keep [7, 27] fun r5 hkeep => ?_
      obtain ⟨e7_5, e27_5, -⟩ := hkeep
      simp [go_sem, e3_4, e7_4, e8_4] at e7_5 e27_5
      clear e3_4 e7_4 e8_4
      refine Wp.condT (by go_simp) ?_
      refine Wp.seqRegion (.inl rfl) (by kernel_rfl) fun K' gd hK hg => ?_
      clear hg
      go_simp
      refine hK _ _ ?_
      clear hK K' gd
      refine Wp.keep [6] fun r6 hkeep => ?_
      obtain ⟨e6_6, -⟩ := hkeep
      simp [go_sem, e7_5, e27_5] at e6_6
      clear e7_5 e27_5
      refine Wp.ret ?_
      refine thenK_ret ?_
      refine endK_tmp Try.results134 (by decide) ?_
      rw [e6_6]
      exact ⟨by unfold Md.nx; rw [next_near, if_neg (by omega)], xw⟩
    · skip
      refine Wp.seq ?_
      refine Wp.seqRegion (.inl rfl) (by kernel_rfl) fun K' gd hK hg => ?_
      have g2 : gd 2 = some 21 := hg 2
      clear hg
      go_simp
      refine hK _ _ ?_
      clear hK K' gd g2
      refine Wp.keep [7, 27] fun r7 hkeep => ?_
      obtain ⟨e7_7, e27_7, -⟩ := hkeep
      simp [go_sem, e3_4, e7_4, e8_4] at e7_7 e27_7
      clear e3_4 e7_4 e8_4
      refine Wp.condF (by go_simp) ?_
      refine Wp.skip ?_
      refine thenK_normal ?_
      refine Wp.seqRegion (.inl rfl) (by kernel_rfl) fun K' gd hK hg => ?_
      clear hg
      go_simp
      refine hK _ _ ?_
      clear hK K' gd
      refine Wp.keep [6] fun r8 hkeep => ?_
      obtain ⟨e6_8, -⟩ := hkeep
      simp [go_sem, e7_7, e27_7] at e6_8
      clear e7_7 e27_7
      refine Wp.ret ?_
      refine endK_tmp Try.results134 (by decide) ?_
      rw [e6_8]
      exact ⟨by unfold Md.nx; rw [next_near, if_pos ⟨hq, by omega⟩], xw⟩
  · skip
    replace hq : (near (m.T i) (nxp day)).2 = false := by simpa using hq
    refine Wp.seq ?_
    refine Wp.seqRegion (.inl rfl) (by kernel_rfl) fun K' gd hK hg => ?_
    have g2 : gd 2 = some 21 := hg 2
    clear hg
    go_simp
    refine hK _ _ ?_
    clear hK K' gd g2
    refine Wp.keep [7, 27] fun r9 hkeep => ?_
    obtain ⟨e7_9, e27_9, -⟩ := hkeep
    simp [go_sem, e3_4, e7_4, e8_4] at e7_9 e27_9
    clear e3_4 e7_4 e8_4
    refine Wp.condT (by go_simp) ?_
    refine Wp.seqRegion (.inl rfl) (by kernel_rfl) fun K' gd hK hg => ?_
    clear hg
    go_simp
    refine hK _ _ ?_
    clear hK K' gd
    refine Wp.keep [6] fun r10 hkeep => ?_
    obtain ⟨e6_10, -⟩ := hkeep
    simp [go_sem, e7_9, e27_9] at e6_10
    clear e7_9 e27_9
    refine Wp.ret ?_
    refine thenK_ret ?_
    refine endK_tmp Try.results134 (by decide) ?_
    rw [e6_10]
    exact ⟨by unfold Md.nx; rw [next_near, if_neg (by rw [hq]; simp)], xw⟩
theorem before_c (v : Value) (m : Md) (i : Nat) (day : Int) (w : World) (hV : MadeV w w.heap.size v m) (hm : MdOk m) (hi : i < m.n) :
    CallsV Try.prog 116 #[v, .int .i64 (i : Int), .int .i64 day] w fun v w' => v = .int .i64 (m.bf i day) ∧ Ext w w' := by
  obtain ⟨wv, tv, rfl, ⟨A, c, rfl, -⟩, hT⟩ := hV
  obtain ⟨A2, c2, rfl, -⟩ := id hT
  have htl : i < m.tab.length := by rw [hm.len]; exact hi
  obtain ⟨b, o, u, rfl, hb, -, y0, hS⟩ := hT.row htl
  rw [Md.T_get htl] at hS
  obtain ⟨A3, c3, rfl, -, -⟩ := id hS
  have hin : (i : Int) < (m.tab.length : Int) := by omega
  have hmn := hm.many i
  clear hT
  obtain ⟨l, hl⟩ : ∃ l, ∃ _u : Unit, m.T i = l := ⟨_, (), rfl⟩
  rw [hl.choose_spec] at hS y0 hmn
  have hres : ∃ _u : Unit, m.bf i day = if (near l.reverse (bfp day)).2 = true ∧ m.c.b ≤ (near l.reverse (bfp day)).1 then (near l.reverse (bfp day)).1 else -1 := ⟨(), by unfold Md.bf; rw [bef_near, hl.choose_spec]⟩
  refine Wp.fn Try.func116 rfl Try.ntmps116 (by simp) ?_
  have xw := Ext.refl w
  refine Wp.keep [0, 1, 2] fun r1 hkeep => ?_
  obtain ⟨e0_1, e1_1, e2_1, -⟩ := hkeep
  simp [go_sem] at e0_1 e1_1 e2_1
  refine Wp.seqRegion (.inl rfl) (by kernel_rfl) fun K' gd hK hg => ?_
  clear hg
  refine Wops.cut 1 fun K1 hK1 => ?_
  simp only [List.take_succ_cons, List.take_zero]
  go_simp
  refine hK1 _ _ ?_
  clear hK1 K1
  simp only [List.drop_succ_cons, List.drop_zero]
  refine Wops.absA fun V3_1 n3 hV3_1 => ?_
  obtain ⟨q3, hV3_1, s3, kV3_1, f3, r3⟩ := hV3_1
  try simp only [q3] at kV3_1 f3 r3 ⊢
  replace xw := Ext.trans xw hV3_1
  replace y0 := Ext.cell hV3_1 y0
  have c3_0 := kV3_1 0 _ rfl
  have c3_1 := kV3_1 1 _ rfl
  have c3_2 := kV3_1 2 _ rfl
  have c3_3 := kV3_1 3 _ rfl
  have c3_4 := kV3_1 4 _ rfl
  clear kV3_1 hV3_1
  clear r3
  refine Wops.cut 1 fun K1 hK1 => ?_
  simp only [List.take_succ_cons, List.take_zero]
  go_simp
  refine hK1 _ _ ?_
  clear hK1 K1
  simp only [List.drop_succ_cons, List.drop_zero]
  refine Wops.absA fun V5_2 n5 hV5_2 => ?_
  obtain ⟨q5, hV5_2, s5, kV5_2, f5, r5⟩ := hV5_2
  try simp only [q5] at kV5_2 f5 r5 ⊢
  replace f3 := Ext.fz hV5_2 c3_0 f3
  replace xw := Ext.trans xw hV5_2
  replace y0 := Ext.cell hV5_2 y0
  replace c3_0 := Ext.cell hV5_2 c3_0
  replace c3_1 := Ext.cell hV5_2 c3_1
  replace c3_2 := Ext.cell hV5_2 c3_2
  replace c3_3 := Ext.cell hV5_2 c3_3
  replace c3_4 := Ext.cell hV5_2 c3_4
  have c5_0 := kV5_2 0 _ rfl
  clear kV5_2 hV5_2
  clear r5
  go_simp
  refine hK _ _ ?_
  clear hK K' gd
  refine Wp.keep [1, 3, 5] fun r2 hkeep => ?_
  obtain ⟨e1_2, e3_2, e5_2, -⟩ := hkeep
  simp [go_sem, e0_1, e1_1, e2_1] at e1_2 e3_2 e5_2
  clear e0_1 e1_1 e2_1
  refine Wp.seqRegion (.inl rfl) (by kernel_rfl) fun K' gd hK hg => ?_
  clear hg
  refine Wops.cut 6 fun K1 hK1 => ?_
  simp only [List.take_succ_cons, List.take_zero]
  go_simp
  refine Wcall (.inl rfl) (cloneZ_c _ l _ (hS.ext xw) (by omega)) ?_
  rintro v w2 ⟨hZ, hE⟩
  go_simp
  refine hK1 _ _ ?_
  clear hK1 K1
  simp only [List.drop_succ_cons, List.drop_zero]
  have z3 := Below.size hE
  replace f3 := Ext.fz hE c3_0 f3
  replace f5 := Ext.fz hE c5_0 f5
  replace xw := Ext.trans xw hE
  replace y0 := Ext.cell hE y0
  replace c3_0 := Ext.cell hE c3_0
  replace c3_1 := Ext.cell hE c3_1
  replace c3_2 := Ext.cell hE c3_2
  replace c3_3 := Ext.cell hE c3_3
  replace c3_4 := Ext.cell hE c3_4
  replace c5_0 := Ext.cell hE c5_0
  clear hE
  go_simp
  refine hK _ _ ?_
  clear hK K' gd
  refine Wp.keep [3, 5, 7] fun r4 hkeep => ?_
  obtain ⟨e3_4, e5_4, e7_4, -⟩ := hkeep
  simp [go_sem, e1_2, e3_2, e5_2] at e3_4 e5_4 e7_4
  clear e1_2 e3_2 e5_2
  by_cases hne : l = []
  · skip
    subst hne
    obtain ⟨A9, c9, rfl⟩ := ownsRow_slice hZ
    refine Wp.seqRegion (.inl rfl) (by kernel_rfl) fun K' gd hK hg => ?_
    clear hg
    refine Wops.cut 2 fun K1 hK1 => ?_
    simp only [List.take_succ_cons, List.take_zero]
    go_simp
    refine Wcall (.inl rfl) (rev0_c _ _ _) ?_
    rintro v w3 ⟨-, hE⟩
    go_simp
    refine hK1 _ _ ?_
    clear hK1 K1
    simp only [List.drop_succ_cons, List.drop_zero]
    have z5 := Below.size hE
    replace f3 := Ext.fz hE c3_0 f3
    replace f5 := Ext.fz hE c5_0 f5
    replace xw := Ext.trans xw hE
    replace y0 := Ext.cell hE y0
    replace c3_0 := Ext.cell hE c3_0
    replace c3_1 := Ext.cell hE c3_1
    replace c3_2 := Ext.cell hE c3_2
    replace c3_3 := Ext.cell hE c3_3
    replace c3_4 := Ext.cell hE c3_4
    replace c5_0 := Ext.cell hE c5_0
    clear hE
    try simp only [Wops_nil, updO_some, updO_none]
    refine hK _ _ ?_
    clear hK K' gd
    refine Wp.keep [3, 5, 7] fun r6 hkeep => ?_
    obtain ⟨e3_6, e5_6, e7_6, -⟩ := hkeep
    simp [go_sem, e3_4, e5_4, e7_4] at e3_6 e5_6 e7_6
    clear e3_4 e5_4 e7_4
    refine Wp.seqRegion (.inl rfl) (by kernel_rfl) fun K' gd hK hg => ?_
    clear hg
    refine Wops.cut 3 fun K1 hK1 => ?_
    simp only [List.take_succ_cons, List.take_zero]
    go_simp
    refine Wcall (.inl rfl) (nearest_c _ [] (bfp day) 143 (.pointer (some ⟨n5, 0, none⟩)) _ ⟨A9, c9, rfl, fun h => absurd rfl h, Nat.zero_le _⟩ (by simp) (enters_of Try.func143 (by kernel_rfl) rfl) (fun x W hW => before1_c x.1 x.2 day n5 W (hW.cell c5_0))) ?_
    rintro v w4 ⟨rfl, hE⟩
    go_simp
    refine hK1 _ _ ?_
    clear hK1 K1
    simp only [List.drop_succ_cons, List.drop_zero]
    have z7 := Below.size hE
    replace f3 := Ext.fz hE c3_0 f3
    replace f5 := Ext.fz hE c5_0 f5
    replace xw := Ext.trans xw hE
    replace y0 := Ext.cell hE y0
    replace c3_0 := Ext.cell hE c3_0
    replace c3_1 := Ext.cell hE c3_1
    replace c3_2 := Ext.cell hE c3_2
    replace c3_3 := Ext.cell hE c3_3
    replace c3_4 := Ext.cell hE c3_4
    replace c5_0 := Ext.cell hE c5_0
    clear hE
    go_simp
    refine hK _ _ ?_
    clear hK K' gd
    refine Wp.keep [3, 8, 9] fun r8 hkeep => ?_
    obtain ⟨e3_8, e8_8, e9_8, -⟩ := hkeep
    simp [go_sem, e3_6, e5_6, e7_6] at e3_8 e8_8 e9_8
    clear e3_6 e5_6 e7_6
    have hq0 : (near [] (bfp day)).2 = false := rfl
    refine Wp.seq ?_
    refine Wp.seqRegion (.inl rfl) (by kernel_rfl) fun K' gd hK hg => ?_
    have g2 : gd 2 = some 26 := hg 2
    clear hg
    go_simp
    refine hK _ _ ?_
    clear hK K' gd g2
    refine Wp.keep [8, 32] fun r9 hkeep => ?_
    obtain ⟨e8_9, e32_9, -⟩ := hkeep
    simp [go_sem, e3_8, e8_8, e9_8] at e8_9 e32_9
    clear e3_8 e8_8 e9_8
    refine Wp.condT (by go_simp) ?_
    refine Wp.seqRegion (.inl rfl) (by kernel_rfl) fun K' gd hK hg => ?_
    clear hg
    go_simp
    refine hK _ _ ?_
    clear hK K' gd
    refine Wp.keep [6] fun r10 hkeep => ?_
    obtain ⟨e6_10, -⟩ := hkeep
    simp [go_sem, e8_9, e32_9] at e6_10
    clear e8_9 e32_9
    refine Wp.ret ?_
    refine thenK_ret ?_
    refine endK_tmp Try.results116 (by decide) ?_
    rw [e6_10]
    exact ⟨by rw [hres.choose_spec, if_neg (by simp [near])], xw⟩
  · skip
    obtain ⟨b9, c9, rfl, hb9, hc9, hR⟩ := hZ.rowP hne
    refine Wp.seqRegion (.inl rfl) (by kernel_rfl) fun K' gd hK hg => ?_
    clear hg
    refine Wops.cut 2 fun K1 hK1 => ?_
    simp only [List.take_succ_cons, List.take_zero]
    go_simp
    refine Wcall (.inl rfl) (revZ_c b9 l.length c9 _ _ hR (by omega)) ?_
    rintro v w3 ⟨hR2, hE⟩
    go_simp
    refine hK1 _ _ ?_
    clear hK1 K1
    simp only [List.drop_succ_cons, List.drop_zero]
    have z11 := Chg.size hE
    replace f3 := Chg.fz hE c3_0 f3 XN
    replace f5 := Chg.fz hE c5_0 f5 XN
    replace xw := Chg.to xw hE XL
    replace y0 := Chg.cell hE y0 XN
    replace c3_0 := Chg.cell hE c3_0 XN
    replace c3_1 := Chg.cell hE c3_1 XN
    replace c3_2 := Chg.cell hE c3_2 XN
    replace c3_3 := Chg.cell hE c3_3 XN
    replace c3_4 := Chg.cell hE c3_4 XN
    replace c5_0 := Chg.cell hE c5_0 XN
    try simp only [Wops_nil, updO_some, updO_none]
    refine hK _ _ ?_
    clear hK K' gd
    refine Wp.keep [3, 5, 7] fun r12 hkeep => ?_
    obtain ⟨e3_12, e5_12, e7_12, -⟩ := hkeep
    simp [go_sem, e3_4, e5_4, e7_4] at e3_12 e5_12 e7_12
    clear e3_4 e5_4 e7_4
    refine Wp.seqRegion (.inl rfl) (by kernel_rfl) fun K' gd hK hg => ?_
    clear hg
    refine Wops.cut 3 fun K1 hK1 => ?_
    simp only [List.take_succ_cons, List.take_zero]
    go_simp
    refine Wcall (.inl rfl) (nearest_c _ l.reverse (bfp day) 143 (.pointer (some ⟨n5, 0, none⟩)) _ (hR2.rev hc9) (by simp; omega) (enters_of Try.func143 (by kernel_rfl) rfl) (fun x W hW => before1_c x.1 x.2 day n5 W (hW.cell c5_0))) ?_
    rintro v w4 ⟨rfl, hE⟩
    go_simp
    refine hK1 _ _ ?_
    clear hK1 K1
    simp only [List.drop_succ_cons, List.drop_zero]
    have z13 := Below.size hE
    replace f3 := Ext.fz hE c3_0 f3
    replace f5 := Ext.fz hE c5_0 f5
    replace xw := Ext.trans xw hE
    replace y0 := Ext.cell hE y0
    replace c3_0 := Ext.cell hE c3_0
    replace c3_1 := Ext.cell hE c3_1
    replace c3_2 := Ext.cell hE c3_2
    replace c3_3 := Ext.cell hE c3_3
    replace c3_4 := Ext.cell hE c3_4
    replace c5_0 := Ext.cell hE c5_0
    clear hE
    go_simp
    refine hK _ _ ?_
    clear hK K' gd
    refine Wp.keep [3, 8, 9] fun r14 hkeep => ?_
    obtain ⟨e3_14, e8_14, e9_14, -⟩ := hkeep
    simp [go_sem, e3_12, e5_12, e7_12] at e3_14 e8_14 e9_14
    clear e3_12 e5_12 e7_12
    by_cases hq : (near l.reverse (bfp day)).2 = true
    · skip
      by_cases he : (near l.reverse (bfp day)).1 < m.c.b
      · skip
        refine Wp.seq ?_
        refine Wp.seqRegion (.inl rfl) (by kernel_rfl) fun K' gd hK hg => ?_
        have g2 : gd 2 = some 26 := hg 2
        clear hg
        go_simp
        refine hK _ _ ?_
        clear hK K' gd g2
        refine Wp.keep [8, 32] fun r15 hkeep => ?_
        obtain ⟨e8_15, e32_15, -⟩ := hkeep
        simp [go_sem, e3_14, e8_14, e9_14] at e8_15 e32_15
        clear e3_14 e8_14 e9_14
        refine Wp.condT (by go_simp) ?_
        refine Wp.seqRegion (.inl rfl) (by kernel_rfl) fun K' gd hK hg => ?_
        clear hg
        go_simp
        refine hK _ _ ?_
        clear hK K' gd
        refine Wp.keep [6] fun r16 hkeep => ?_
        obtain ⟨e6_16, -⟩ := hkeep
        simp [go_sem, e8_15, e32_15] at e6_16
        clear e8_15 e32_15
        refine Wp.ret ?_
        refine thenK_ret ?_
        refine endK_tmp Try.results116 (by decide) ?_
        rw [e6_16]
        exact ⟨by rw [hres.choose_spec, if_neg (by omega)], xw⟩
      · skip
        refine Wp.seq ?_
        refine Wp.seqRegion (.inl rfl) (by kernel_rfl) fun K' gd hK hg => ?_
        have g2 : gd 2 = some 26 := hg 2
        clear hg
        go_simp
        refine hK _ _ ?_
        clear hK K' gd g2
        refine Wp.keep [8, 32] fun r17 hkeep => ?_
        obtain ⟨e8_17, e32_17, -⟩ := hkeep
        simp [go_sem, e3_14, e8_14, e9_14] at e8_17 e32_17
        clear e3_14 e8_14 e9_14
        refine Wp.condF (by go_simp) ?_
        refine Wp.skip ?_
        refine thenK_normal ?_
        refine Wp.seqRegion (.inl rfl) (by kernel_rfl) fun K' gd hK hg => ?_
        clear hg
        go_simp
        refine hK _ _ ?_
        clear hK K' gd
        refine Wp.keep [6] fun r18 hkeep => ?_
        obtain ⟨e6_18, -⟩ := hkeep
        simp [go_sem, e8_17, e32_17] at e6_18
        clear e8_17 e32_17
        refine Wp.ret ?_
        refine endK_tmp Try.results116 (by decide) ?_
        rw [e6_18]
        exact ⟨by rw [hres.choose_spec, if_pos ⟨hq, by omega⟩], xw⟩
    · skip
      replace hq : (near l.reverse (bfp day)).2 = false := by simpa using hq
      refine Wp.seq ?_
      refine Wp.seqRegion (.inl rfl) (by kernel_rfl) fun K' gd hK hg => ?_
      have g2 : gd 2 = some 26 := hg 2
      clear hg
      go_simp
      refine hK _ _ ?_
      clear hK K' gd g2
      refine Wp.keep [8, 32] fun r19 hkeep => ?_
      obtain ⟨e8_19, e32_19, -⟩ := hkeep
      simp [go_sem, e3_14, e8_14, e9_14] at e8_19 e32_19
      clear e3_14 e8_14 e9_14
      refine Wp.condT (by go_simp) ?_
      refine Wp.seqRegion (.inl rfl) (by kernel_rfl) fun K' gd hK hg => ?_
      clear hg
      go_simp
      refine hK _ _ ?_
      clear hK K' gd
      refine Wp.keep [6] fun r20 hkeep => ?_
      obtain ⟨e6_20, -⟩ := hkeep
      simp [go_sem, e8_19, e32_19] at e6_20
      clear e8_19 e32_19
      refine Wp.ret ?_
      refine thenK_ret ?_
      refine endK_tmp Try.results116 (by decide) ?_
      rw [e6_20]
      exact ⟨by rw [hres.choose_spec, if_neg (by rw [hq]; simp)], xw⟩
end Go.Proofs.Ytnjajbkkgfohaaa
namespace Go.Proofs.Ytnjajbkkgfohaaa
open Go.RowKit Go.Wk Go.Proofs
attribute [local irreducible] Go.Wk.Wops Go.Wk.Wp Go.Wk.Mtree Go.Wk.Mops
set_option maxHeartbeats 4000000
set_option maxRecDepth 20000

theorem IntsV.get {w : World} {B : Nat} {v : Value} {l : List Int} (h : IntsV w B v l) {k : Nat} (hk : k < l.length) : ∃ b o c, v = .slice (some ⟨b, o, none⟩) l.length c ∧ b < B ∧ ∀ k, k < l.length → w.cell? ⟨b, o + k, none⟩ = some (.int .i64 (gI l k)) := by
  obtain ⟨A, c, rfl, hx, -⟩ := h
  obtain ⟨b, o, rfl, hb, hc⟩ := hx (by rintro rfl; exact absurd hk (Nat.not_lt_zero _))
  exact ⟨b, o, c, rfl, hb, fun k hk => by rw [gI_lt hk]; exact hc k hk⟩
theorem from_c (v dv : Value) (m : Md) (l : List Int) (i pn : Nat) (w : World) (hV : MadeV w w.heap.size v m) (hD : IntsV w w.heap.size dv l) (hp : m.c.p = (pn : Int)) (hp1 : 1 ≤ pn) (hp2 : pn ≤ 40) (hi : i ≤ l.length) (hi2 : i ≤ 40)
    (hbd : ∀ j, j < i → -1000 ≤ gI l j ∧ gI l j ≤ 1000) :
    CallsV Try.prog 93 #[v, dv, .int .i64 (i : Int)] w fun v w' => v = .int .i64 (fromD m.c.b pn l i) ∧ Ext w w' := by
  obtain ⟨wv, tv, rfl, ⟨A, c, rfl, -⟩, ⟨A2, c2, rfl, -⟩⟩ := hV
  rw [hp]
  clear hp
  by_cases h0 : 0 < i
  · obtain ⟨k, rfl⟩ : ∃ k, i = k + 1 := ⟨i - 1, by omega⟩
    obtain ⟨b, o, c3, rfl, hb, hc⟩ := hD.get (show k < l.length by omega)
    have y0 := hc k (by omega)
    have hw1 : IntKind.i64.wrap (k : Int) = (k : Int) := IntWalk.i64_in _ (by omega)
    have hin : (k : Int) < (l.length : Int) := by omega
    have hgt : (0 : Int) < (k : Int) + 1 := by omega
    by_cases h1 : pn ≤ k + 1
    · have y1 := hc (k + 1 - pn) (by omega)
      have hb1 := hbd (k + 1 - pn) (by omega)
      have hw2 : IntKind.i64.wrap ((k : Int) + 1 - (pn : Int)) = ((k + 1 - pn : Nat) : Int) := by rw [IntWalk.i64_in _ (by omega)]; omega
      have hw3 : IntKind.i64.wrap (gI l (k + 1 - pn) + 1) = gI l (k + 1 - pn) + 1 := IntWalk.i64_in _ (by omega)
      have hin2 : ((k + 1 - pn : Nat) : Int) < (l.length : Int) := by omega
      have hge : (pn : Int) ≤ (k : Int) + 1 := by omega
      refine Wp.fn Try.func93 rfl Try.ntmps93 (by simp) ?_
      have xw := Ext.refl w
      refine Wp.keep [0, 1, 2] fun r1 hkeep => ?_
      obtain ⟨e0_1, e1_1, e2_1, -⟩ := hkeep
      simp [go_sem] at e0_1 e1_1 e2_1
      refine Wp.seqRegion (.inl rfl) (by kernel_rfl) fun K' gd hK hg => ?_
      clear hg
      refine Wops.cut 1 fun K1 hK1 => ?_
      simp only [List.take_succ_cons, List.take_zero]
      go_simp
      refine hK1 _ _ ?_
      clear hK1 K1
      simp only [List.drop_succ_cons, List.drop_zero]
      refine Wops.absA fun V3_1 n3 hV3_1 => ?_
      obtain ⟨q3, hV3_1, s3, kV3_1, f3, r3⟩ := hV3_1
      try simp only [q3] at kV3_1 f3 r3 ⊢
      replace xw := Ext.trans xw hV3_1
      replace y0 := Ext.cell hV3_1 y0
      replace y1 := Ext.cell hV3_1 y1
      have c3_0 := kV3_1 0 _ rfl
      have c3_1 := kV3_1 1 _ rfl
      have c3_2 := kV3_1 2 _ rfl
      have c3_3 := kV3_1 3 _ rfl
      have c3_4 := kV3_1 4 _ rfl
      clear kV3_1 hV3_1
      clear r3
      go_simp
      refine hK _ _ ?_
      clear hK K' gd
      refine Wp.keep [1, 2, 3] fun r2 hkeep => ?_
      obtain ⟨e1_2, e2_2, e3_2, -⟩ := hkeep
      simp [go_sem, e0_1, e1_1, e2_1] at e1_2 e2_2 e3_2
      clear e0_1 e1_1 e2_1
      refine Wp.seqRegion (.inl rfl) (by kernel_rfl) fun K' gd hK hg => ?_
      clear hg
      go_simp
      refine hK _ _ ?_
      clear hK K' gd
      refine Wp.keep [1, 2, 3, 7] fun r3 hkeep => ?_
      obtain ⟨e1_3, e2_3, e3_3, e7_3, -⟩ := hkeep
      simp [go_sem, e1_2, e2_2, e3_2] at e1_3 e2_3 e3_3 e7_3
      clear e1_2 e2_2 e3_2
      refine Wp.seq ?_
      refine Wp.seqRegion (.inl rfl) (by kernel_rfl) fun K' gd hK hg => ?_
      clear hg
      go_simp
      refine hK _ _ ?_
      clear hK K' gd
      refine Wp.keep [1, 2, 3, 7, 12] fun r4 hkeep => ?_
      obtain ⟨e1_4, e2_4, e3_4, e7_4, e12_4, -⟩ := hkeep
      simp [go_sem, e1_3, e2_3, e3_3, e7_3] at e1_4 e2_4 e3_4 e7_4 e12_4
      clear e1_3 e2_3 e3_3 e7_3
      refine Wp.condT (by go_simp) ?_
      refine Wp.loneRegion (.inl rfl) (by kernel_rfl) fun K' gd hK hg => ?_
      clear hg
      go_simp
      refine hK _ _ ?_
      clear hK K' gd
      refine Ends.keep [1, 2, 3, 7] fun r5 hkeep => ?_
      obtain ⟨e1_5, e2_5, e3_5, e7_5, -⟩ := hkeep
      simp [go_sem, e1_4, e2_4, e3_4, e7_4, e12_4] at e1_5 e2_5 e3_5 e7_5
      clear e1_4 e2_4 e3_4 e7_4 e12_4
      refine Ends.mk ?_
      refine thenK_normal ?_
      refine Wp.seq ?_
      refine Wp.seqRegion (.inl rfl) (by kernel_rfl) fun K' gd hK hg => ?_
      clear hg
      go_simp
      refine hK _ _ ?_
      clear hK K' gd
      refine Wp.keep [1, 2, 3, 7, 24] fun r6 hkeep => ?_
      obtain ⟨e1_6, e2_6, e3_6, e7_6, e24_6, -⟩ := hkeep
      simp [go_sem, e1_5, e2_5, e3_5, e7_5] at e1_6 e2_6 e3_6 e7_6 e24_6
      clear e1_5 e2_5 e3_5 e7_5
      refine Wp.condT (by go_simp) ?_
      refine Wp.loneRegion (.inl rfl) (by kernel_rfl) fun K' gd hK hg => ?_
      clear hg
      go_simp
      refine hK _ _ ?_
      clear hK K' gd
      refine Ends.keep [7] fun r7 hkeep => ?_
      obtain ⟨e7_7, -⟩ := hkeep
      simp [go_sem, e1_6, e2_6, e3_6, e7_6, e24_6] at e7_7
      clear e1_6 e2_6 e3_6 e7_6 e24_6
      refine Ends.mk ?_
      refine thenK_normal ?_
      refine Wp.seqRegion (.inl rfl) (by kernel_rfl) fun K' gd hK hg => ?_
      clear hg
      go_simp
      refine hK _ _ ?_
      clear hK K' gd
      refine Wp.keep [6] fun r8 hkeep => ?_
      obtain ⟨e6_8, -⟩ := hkeep
      simp [go_sem, e7_7] at e6_8
      clear e7_7
      refine Wp.ret ?_
      refine endK_tmp Try.results93 (by decide) ?_
      rw [e6_8]
      exact ⟨congrArg (Value.int .i64) (by unfold fromD; rw [if_pos h1, if_pos h0]; try simp only [Nat.add_sub_cancel, Int.max_def]; repeat' split; all_goals omega), xw⟩
    · have hge : ¬ (pn : Int) ≤ (k : Int) + 1 := by omega
      refine Wp.fn Try.func93 rfl Try.ntmps93 (by simp) ?_
      have xw := Ext.refl w
      refine Wp.keep [0, 1, 2] fun r1 hkeep => ?_
      obtain ⟨e0_1, e1_1, e2_1, -⟩ := hkeep
      simp [go_sem] at e0_1 e1_1 e2_1
      refine Wp.seqRegion (.inl rfl) (by kernel_rfl) fun K' gd hK hg => ?_
      clear hg
      refine Wops.cut 1 fun K1 hK1 => ?_
      simp only [List.take_succ_cons, List.take_zero]
      go_simp
      refine hK1 _ _ ?_
      clear hK1 K1
      simp only [List.drop_succ_cons, List.drop_zero]
      refine Wops.absA fun V3_1 n3 hV3_1 => ?_
      obtain ⟨q3, hV3_1, s3, kV3_1, f3, r3⟩ := hV3_1
      try simp only [q3] at kV3_1 f3 r3 ⊢
      replace xw := Ext.trans xw hV3_1
      replace y0 := Ext.cell hV3_1 y0
      have c3_0 := kV3_1 0 _ rfl
      have c3_1 := kV3_1 1 _ rfl
      have c3_2 := kV3_1 2 _ rfl
      have c3_3 := kV3_1 3 _ rfl
      have c3_4 := kV3_1 4 _ rfl
      clear kV3_1 hV3_1
      clear r3
      go_simp
      refine hK _ _ ?_
      clear hK K' gd
      refine Wp.keep [1, 2, 3] fun r2 hkeep => ?_
      obtain ⟨e1_2, e2_2, e3_2, -⟩ := hkeep
      simp [go_sem, e0_1, e1_1, e2_1] at e1_2 e2_2 e3_2
      clear e0_1 e1_1 e2_1
      refine Wp.seqRegion (.inl rfl) (by kernel_rfl) fun K' gd hK hg => ?_
      clear hg
      go_simp
      refine hK _ _ ?_
      clear hK K' gd
      refine Wp.keep [1, 2, 3, 7] fun r3 hkeep => ?_
      obtain ⟨e1_3, e2_3, e3_3, e7_3, -⟩ := hkeep
      simp [go_sem, e1_2, e2_2, e3_2] at e1_3 e2_3 e3_3 e7_3
      clear e1_2 e2_2 e3_2
      refine Wp.seq ?_
      refine Wp.seqRegion (.inl rfl) (by kernel_rfl) fun K' gd hK hg => ?_
      clear hg
      go_simp
      refine hK _ _ ?_
      clear hK K' gd
      refine Wp.keep [1, 2, 3, 7, 12] fun r4 hkeep => ?_
      obtain ⟨e1_4, e2_4, e3_4, e7_4, e12_4, -⟩ := hkeep
      simp [go_sem, e1_3, e2_3, e3_3, e7_3] at e1_4 e2_4 e3_4 e7_4 e12_4
      clear e1_3 e2_3 e3_3 e7_3
      refine Wp.condT (by go_simp) ?_
      refine Wp.loneRegion (.inl rfl) (by kernel_rfl) fun K' gd hK hg => ?_
      clear hg
      go_simp
      refine hK _ _ ?_
      clear hK K' gd
      refine Ends.keep [1, 2, 3, 7] fun r5 hkeep => ?_
      obtain ⟨e1_5, e2_5, e3_5, e7_5, -⟩ := hkeep
      simp [go_sem, e1_4, e2_4, e3_4, e7_4, e12_4] at e1_5 e2_5 e3_5 e7_5
      clear e1_4 e2_4 e3_4 e7_4 e12_4
      refine Ends.mk ?_
      refine thenK_normal ?_
      refine Wp.seq ?_
      refine Wp.seqRegion (.inl rfl) (by kernel_rfl) fun K' gd hK hg => ?_
      clear hg
      go_simp
      refine hK _ _ ?_
      clear hK K' gd
      refine Wp.keep [1, 2, 3, 7, 24] fun r6 hkeep => ?_
      obtain ⟨e1_6, e2_6, e3_6, e7_6, e24_6, -⟩ := hkeep
      simp [go_sem, e1_5, e2_5, e3_5, e7_5] at e1_6 e2_6 e3_6 e7_6 e24_6
      clear e1_5 e2_5 e3_5 e7_5
      refine Wp.condF (by go_simp) ?_
      refine Wp.skip ?_
      refine thenK_normal ?_
      refine Wp.seqRegion (.inl rfl) (by kernel_rfl) fun K' gd hK hg => ?_
      clear hg
      go_simp
      refine hK _ _ ?_
      clear hK K' gd
      refine Wp.keep [6] fun r7 hkeep => ?_
      obtain ⟨e6_7, -⟩ := hkeep
      simp [go_sem, e1_6, e2_6, e3_6, e7_6, e24_6] at e6_7
      clear e1_6 e2_6 e3_6 e7_6 e24_6
      refine Wp.ret ?_
      refine endK_tmp Try.results93 (by decide) ?_
      rw [e6_7]
      exact ⟨congrArg (Value.int .i64) (by unfold fromD; rw [if_neg h1, if_pos h0]; try simp only [Nat.add_sub_cancel, Int.max_def]; repeat' split; all_goals omega), xw⟩
  · obtain rfl : i = 0 := by omega
    have hge : ¬ (pn : Int) ≤ 0 := by omega
    have h1 : ¬ pn ≤ 0 := by omega
    have hp0 : ¬ pn = 0 := by omega
    refine Wp.fn Try.func93 rfl Try.ntmps93 (by simp) ?_
    have xw := Ext.refl w
    refine Wp.keep [0, 1, 2] fun r1 hkeep => ?_
    obtain ⟨e0_1, e1_1, e2_1, -⟩ := hkeep
    simp [go_sem] at e0_1 e1_1 e2_1
    refine Wp.seqRegion (.inl rfl) (by kernel_rfl) fun K' gd hK hg => ?_
    clear hg
    refine Wops.cut 1 fun K1 hK1 => ?_
    simp only [List.take_succ_cons, List.take_zero]
    go_simp
    refine hK1 _ _ ?_
    clear hK1 K1
    simp only [List.drop_succ_cons, List.drop_zero]
    refine Wops.absA fun V3_1 n3 hV3_1 => ?_
    obtain ⟨q3, hV3_1, s3, kV3_1, f3, r3⟩ := hV3_1
    try simp only [q3] at kV3_1 f3 r3 ⊢
    replace xw := Ext.trans xw hV3_1
    have c3_0 := kV3_1 0 _ rfl
    have c3_1 := kV3_1 1 _ rfl
    have c3_2 := kV3_1 2 _ rfl
    have c3_3 := kV3_1 3 _ rfl
    have c3_4 := kV3_1 4 _ rfl
    clear kV3_1 hV3_1
    clear r3
    go_simp
    refine hK _ _ ?_
    clear hK K' gd
    refine Wp.keep [1, 2, 3] fun r2 hkeep => ?_
    obtain ⟨e1_2, e2_2, e3_2, -⟩ := hkeep
    simp [go_sem, e0_1, e1_1, e2_1] at e1_2 e2_2 e3_2
    clear e0_1 e1_1 e2_1
    refine Wp.seqRegion (.inl rfl) (by kernel_rfl) fun K' gd hK hg => ?_
    clear hg
    go_simp
    refine hK _ _ ?_
    clear hK K' gd
    refine Wp.keep [1, 2, 3, 7] fun r3 hkeep => ?_
    obtain ⟨e1_3, e2_3, e3_3, e7_3, -⟩ := hkeep
    simp [go_sem, e1_2, e2_2, e3_2] at e1_3 e2_3 e3_3 e7_3
    clear e1_2 e2_2 e3_2
    refine Wp.seq ?_
    refine Wp.seqRegion (.inl rfl) (by kernel_rfl) fun K' gd hK hg => ?_
    clear hg
    go_simp
    refine hK _ _ ?_
    clear hK K' gd
    refine Wp.keep [1, 2, 3, 7, 12] fun r4 hkeep => ?_
    obtain ⟨e1_4, e2_4, e3_4, e7_4, e12_4, -⟩ := hkeep
    simp [go_sem, e1_3, e2_3, e3_3, e7_3] at e1_4 e2_4 e3_4 e7_4 e12_4
    clear e1_3 e2_3 e3_3 e7_3
    refine Wp.condF (by go_simp) ?_
    refine Wp.skip ?_
    refine thenK_normal ?_
    refine Wp.seq ?_
    refine Wp.seqRegion (.inl rfl) (by kernel_rfl) fun K' gd hK hg => ?_
    clear hg
    go_simp
    refine hK _ _ ?_
    clear hK K' gd
    refine Wp.keep [1, 2, 3, 7, 24] fun r5 hkeep => ?_
    obtain ⟨e1_5, e2_5, e3_5, e7_5, e24_5, -⟩ := hkeep
    simp [go_sem, e1_4, e2_4, e3_4, e7_4, e12_4] at e1_5 e2_5 e3_5 e7_5 e24_5
    clear e1_4 e2_4 e3_4 e7_4 e12_4
    refine Wp.condF (by go_simp) ?_
    refine Wp.skip ?_
    refine thenK_normal ?_
    refine Wp.seqRegion (.inl rfl) (by kernel_rfl) fun K' gd hK hg => ?_
    clear hg
    go_simp
    refine hK _ _ ?_
    clear hK K' gd
    refine Wp.keep [6] fun r6 hkeep => ?_
    obtain ⟨e6_6, -⟩ := hkeep
    simp [go_sem, e1_5, e2_5, e3_5, e7_5, e24_5] at e6_6
    clear e1_5 e2_5 e3_5 e7_5 e24_5
    refine Wp.ret ?_
    refine endK_tmp Try.results93 (by decide) ?_
    rw [e6_6]
    exact ⟨congrArg (Value.int .i64) (by unfold fromD; rw [if_neg h1, if_neg h0]), xw⟩
theorem gI_drop (l : List Int) (n i : Nat) : gI (l.drop n) i = gI l (n + i) := by unfold gI; rw [List.getElem?_drop]
theorem to_c (v dv : Value) (m : Md) (l : List Int) (i pn : Nat) (w : World) (hV : MadeV w w.heap.size v m) (hD : IntsV w w.heap.size dv l) (hp : m.c.p = (pn : Int)) (hp1 : 1 ≤ pn) (hp2 : pn ≤ 40) (hi : i < l.length) (hi2 : l.length ≤ 40)
    (hbd : ∀ j, i < j → j < l.length → -1000 ≤ gI l j ∧ gI l j ≤ 1000) :
    CallsV Try.prog 133 #[v, dv, .int .i64 (i : Int)] w fun v w' => v = .int .i64 (toD m.c.e pn (l.drop (i + 1))) ∧ Ext w w' := by
  obtain ⟨wv, tv, rfl, ⟨A, c, rfl, -⟩, ⟨A2, c2, rfl, -⟩⟩ := hV
  rw [hp]
  clear hp
  obtain ⟨b, o, c3, rfl, hb, hc⟩ := hD.get hi
  obtain ⟨i1, hi1⟩ : ∃ i1 : Nat, ∃ _u : Unit, i1 = i + 1 := ⟨_, (), rfl⟩
  obtain ⟨j1, hj1⟩ : ∃ j1 : Nat, ∃ _u : Unit, j1 = i + pn := ⟨_, (), rfl⟩
  have hw1 : IntKind.i64.wrap ((i : Int) + 1) = (i1 : Int) := by have := hi1.choose_spec; rw [IntWalk.i64_in _ (by omega)]; omega
  have hw2 : IntKind.i64.wrap ((i : Int) + (pn : Int)) = (j1 : Int) := by have := hj1.choose_spec; rw [IntWalk.i64_in _ (by omega)]; omega
  have hres : ∃ _u : Unit, toD m.c.e pn (l.drop (i + 1)) = if j1 < l.length then min (if i1 < l.length then min m.c.e (gI l i1) else m.c.e) (gI l j1 - 1) else (if i1 < l.length then min m.c.e (gI l i1) else m.c.e) := ⟨(), by
    have e1 := hi1.choose_spec
    have e2 := hj1.choose_spec
    rw [← e1]
    have hdl : (l.drop i1).length = l.length - i1 := List.length_drop
    unfold toD
    rw [gI_drop, gI_drop, show i1 + (pn - 1) = j1 by omega, Nat.add_zero]
    by_cases a : j1 < l.length <;> by_cases c : i1 < l.length
    · rw [if_pos (by omega), if_pos (by omega), if_pos a, if_pos c]
    · omega
    · rw [if_neg (by omega), if_pos (by omega), if_neg a, if_pos c]
    · rw [if_neg (by omega), if_neg (by omega), if_neg a, if_neg c]⟩
  have e1 := hi1.choose_spec
  have e2 := hj1.choose_spec
  have hij : i1 ≤ j1 := by omega
  have hbd1 : j1 < l.length → -1000 ≤ gI l j1 ∧ gI l j1 ≤ 1000 := fun h => hbd j1 (by omega) h
  clear hbd e1 e2
  obtain ⟨r, hr⟩ : ∃ r, toD m.c.e pn (l.drop (i + 1)) = r := ⟨_, rfl⟩
  rw [hr] at hres ⊢
  clear hr
  by_cases h0 : i1 < l.length
  · have y0 := hc i1 h0
    have hin : (i1 : Int) < (l.length : Int) := by omega
    by_cases h1 : j1 < l.length
    · have y1 := hc j1 h1
      have hb1 := hbd1 h1
      have hw3 : IntKind.i64.wrap (gI l j1 - 1) = gI l j1 - 1 := IntWalk.i64_in _ (by omega)
      have hin2 : (j1 : Int) < (l.length : Int) := by omega
      refine Wp.fn Try.func133 rfl Try.ntmps133 (by simp) ?_
      have xw := Ext.refl w
      refine Wp.keep [0, 1, 2] fun r1 hkeep => ?_
      obtain ⟨e0_1, e1_1, e2_1, -⟩ := hkeep
      simp [go_sem] at e0_1 e1_1 e2_1
      refine Wp.seqRegion (.inl rfl) (by kernel_rfl) fun K' gd hK hg => ?_
      clear hg
      refine Wops.cut 1 fun K1 hK1 => ?_
      simp only [List.take_succ_cons, List.take_zero]
      go_simp
      refine hK1 _ _ ?_
      clear hK1 K1
      simp only [List.drop_succ_cons, List.drop_zero]
      refine Wops.absA fun V3_1 n3 hV3_1 => ?_
      obtain ⟨q3, hV3_1, s3, kV3_1, f3, r3⟩ := hV3_1
      try simp only [q3] at kV3_1 f3 r3 ⊢
      replace xw := Ext.trans xw hV3_1
      replace y0 := Ext.cell hV3_1 y0
      replace y1 := Ext.cell hV3_1 y1
      have c3_0 := kV3_1 0 _ rfl
      have c3_1 := kV3_1 1 _ rfl
      have c3_2 := kV3_1 2 _ rfl
      have c3_3 := kV3_1 3 _ rfl
      have c3_4 := kV3_1 4 _ rfl
      clear kV3_1 hV3_1
      clear r3
      go_simp
      refine hK _ _ ?_
      clear hK K' gd
      refine Wp.keep [1, 2, 3] fun r2 hkeep => ?_
      obtain ⟨e1_2, e2_2, e3_2, -⟩ := hkeep
      simp [go_sem, e0_1, e1_1, e2_1] at e1_2 e2_2 e3_2
      clear e0_1 e1_1 e2_1
      refine Wp.seqRegion (.inl rfl) (by kernel_rfl) fun K' gd hK hg => ?_
      clear hg
      go_simp
      refine hK _ _ ?_
      clear hK K' gd
      refine Wp.keep [1, 2, 3, 7] fun r3 hkeep => ?_
      obtain ⟨e1_3, e2_3, e3_3, e7_3, -⟩ := hkeep
      simp [go_sem, e1_2, e2_2, e3_2] at e1_3 e2_3 e3_3 e7_3
      clear e1_2 e2_2 e3_2
      refine Wp.seq ?_
      refine Wp.seqRegion (.inl rfl) (by kernel_rfl) fun K' gd hK hg => ?_
      clear hg
      go_simp
      refine hK _ _ ?_
      clear hK K' gd
      refine Wp.keep [1, 2, 3, 7, 15] fun r4 hkeep => ?_
      obtain ⟨e1_4, e2_4, e3_4, e7_4, e15_4, -⟩ := hkeep
      simp [go_sem, e1_3, e2_3, e3_3, e7_3] at e1_4 e2_4 e3_4 e7_4 e15_4
      clear e1_3 e2_3 e3_3 e7_3
      refine Wp.condT (by go_simp) ?_
      refine Wp.loneRegion (.inl rfl) (by kernel_rfl) fun K' gd hK hg => ?_
      clear hg
      go_simp
      refine hK _ _ ?_
      clear hK K' gd
      refine Ends.keep [1, 2, 3, 7] fun r5 hkeep => ?_
      obtain ⟨e1_5, e2_5, e3_5, e7_5, -⟩ := hkeep
      simp [go_sem, e1_4, e2_4, e3_4, e7_4, e15_4] at e1_5 e2_5 e3_5 e7_5
      clear e1_4 e2_4 e3_4 e7_4 e15_4
      refine Ends.mk ?_
      refine thenK_normal ?_
      refine Wp.seq ?_
      refine Wp.seqRegion (.inl rfl) (by kernel_rfl) fun K' gd hK hg => ?_
      clear hg
      go_simp
      refine hK _ _ ?_
      clear hK K' gd
      refine Wp.keep [1, 2, 3, 7, 30] fun r6 hkeep => ?_
      obtain ⟨e1_6, e2_6, e3_6, e7_6, e30_6, -⟩ := hkeep
      simp [go_sem, e1_5, e2_5, e3_5, e7_5] at e1_6 e2_6 e3_6 e7_6 e30_6
      clear e1_5 e2_5 e3_5 e7_5
      refine Wp.condT (by go_simp) ?_
      refine Wp.loneRegion (.inl rfl) (by kernel_rfl) fun K' gd hK hg => ?_
      clear hg
      go_simp
      refine hK _ _ ?_
      clear hK K' gd
      refine Ends.keep [7] fun r7 hkeep => ?_
      obtain ⟨e7_7, -⟩ := hkeep
      simp [go_sem, e1_6, e2_6, e3_6, e7_6, e30_6] at e7_7
      clear e1_6 e2_6 e3_6 e7_6 e30_6
      refine Ends.mk ?_
      refine thenK_normal ?_
      refine Wp.seqRegion (.inl rfl) (by kernel_rfl) fun K' gd hK hg => ?_
      clear hg
      go_simp
      refine hK _ _ ?_
      clear hK K' gd
      refine Wp.keep [6] fun r8 hkeep => ?_
      obtain ⟨e6_8, -⟩ := hkeep
      simp [go_sem, e7_7] at e6_8
      clear e7_7
      refine Wp.ret ?_
      refine endK_tmp Try.results133 (by decide) ?_
      rw [e6_8]
      exact ⟨congrArg (Value.int .i64) (by rw [hres.choose_spec, if_pos h1, if_pos h0]; try simp only [Int.min_def]; repeat' split; all_goals omega), xw⟩
    · skip
      refine Wp.fn Try.func133 rfl Try.ntmps133 (by simp) ?_
      have xw := Ext.refl w
      refine Wp.keep [0, 1, 2] fun r1 hkeep => ?_
      obtain ⟨e0_1, e1_1, e2_1, -⟩ := hkeep
      simp [go_sem] at e0_1 e1_1 e2_1
      refine Wp.seqRegion (.inl rfl) (by kernel_rfl) fun K' gd hK hg => ?_
      clear hg
      refine Wops.cut 1 fun K1 hK1 => ?_
      simp only [List.take_succ_cons, List.take_zero]
      go_simp
      refine hK1 _ _ ?_
      clear hK1 K1
      simp only [List.drop_succ_cons, List.drop_zero]
      refine Wops.absA fun V3_1 n3 hV3_1 => ?_
      obtain ⟨q3, hV3_1, s3, kV3_1, f3, r3⟩ := hV3_1
      try simp only [q3] at kV3_1 f3 r3 ⊢
      replace xw := Ext.trans xw hV3_1
      replace y0 := Ext.cell hV3_1 y0
      have c3_0 := kV3_1 0 _ rfl
      have c3_1 := kV3_1 1 _ rfl
      have c3_2 := kV3_1 2 _ rfl
      have c3_3 := kV3_1 3 _ rfl
      have c3_4 := kV3_1 4 _ rfl
      clear kV3_1 hV3_1
      clear r3
      go_simp
      refine hK _ _ ?_
      clear hK K' gd
      refine Wp.keep [1, 2, 3] fun r2 hkeep => ?_
      obtain ⟨e1_2, e2_2, e3_2, -⟩ := hkeep
      simp [go_sem, e0_1, e1_1, e2_1] at e1_2 e2_2 e3_2
      clear e0_1 e1_1 e2_1
      refine Wp.seqRegion (.inl rfl) (by kernel_rfl) fun K' gd hK hg => ?_
      clear hg
      go_simp
      refine hK _ _ ?_
      clear hK K' gd
      refine Wp.keep [1, 2, 3, 7] fun r3 hkeep => ?_
      obtain ⟨e1_3, e2_3, e3_3, e7_3, -⟩ := hkeep
      simp [go_sem, e1_2, e2_2, e3_2] at e1_3 e2_3 e3_3 e7_3
      clear e1_2 e2_2 e3_2
      refine Wp.seq ?_
      refine Wp.seqRegion (.inl rfl) (by kernel_rfl) fun K' gd hK hg => ?_
      clear hg
      go_simp
      refine hK _ _ ?_
      clear hK K' gd
      refine Wp.keep [1, 2, 3, 7, 15] fun r4 hkeep => ?_
      obtain ⟨e1_4, e2_4, e3_4, e7_4, e15_4, -⟩ := hkeep
      simp [go_sem, e1_3, e2_3, e3_3, e7_3] at e1_4 e2_4 e3_4 e7_4 e15_4
      clear e1_3 e2_3 e3_3 e7_3
      refine Wp.condT (by go_simp) ?_
      refine Wp.loneRegion (.inl rfl) (by kernel_rfl) fun K' gd hK hg => ?_
      clear hg
      go_simp
      refine hK _ _ ?_
      clear hK K' gd
      refine Ends.keep [1, 2, 3, 7] fun r5 hkeep => ?_
      obtain ⟨e1_5, e2_5, e3_5, e7_5, -⟩ := hkeep
      simp [go_sem, e1_4, e2_4, e3_4, e7_4, e15_4] at e1_5 e2_5 e3_5 e7_5
      clear e1_4 e2_4 e3_4 e7_4 e15_4
      refine Ends.mk ?_
      refine thenK_normal ?_
      refine Wp.seq ?_
      refine Wp.seqRegion (.inl rfl) (by kernel_rfl) fun K' gd hK hg => ?_
      clear hg
      go_simp
      refine hK _ _ ?_
      clear hK K' gd
      refine Wp.keep [1, 2, 3, 7, 30] fun r6 hkeep => ?_
      obtain ⟨e1_6, e2_6, e3_6, e7_6, e30_6, -⟩ := hkeep
      simp [go_sem, e1_5, e2_5, e3_5, e7_5] at e1_6 e2_6 e3_6 e7_6 e30_6
      clear e1_5 e2_5 e3_5 e7_5
      refine Wp.condF (by go_simp) ?_
      refine Wp.skip ?_
      refine thenK_normal ?_
      refine Wp.seqRegion (.inl rfl) (by kernel_rfl) fun K' gd hK hg => ?_
      clear hg
      go_simp
      refine hK _ _ ?_
      clear hK K' gd
      refine Wp.keep [6] fun r7 hkeep => ?_
      obtain ⟨e6_7, -⟩ := hkeep
      simp [go_sem, e1_6, e2_6, e3_6, e7_6, e30_6] at e6_7
      clear e1_6 e2_6 e3_6 e7_6 e30_6
      refine Wp.ret ?_
      refine endK_tmp Try.results133 (by decide) ?_
      rw [e6_7]
      exact ⟨congrArg (Value.int .i64) (by rw [hres.choose_spec, if_neg h1, if_pos h0]; try simp only [Int.min_def]; repeat' split; all_goals omega), xw⟩
  · have h1 : ¬ j1 < l.length := by omega
    refine Wp.fn Try.func133 rfl Try.ntmps133 (by simp) ?_
    have xw := Ext.refl w
    refine Wp.keep [0, 1, 2] fun r1 hkeep => ?_
    obtain ⟨e0_1, e1_1, e2_1, -⟩ := hkeep
    simp [go_sem] at e0_1 e1_1 e2_1
    refine Wp.seqRegion (.inl rfl) (by kernel_rfl) fun K' gd hK hg => ?_
    clear hg
    refine Wops.cut 1 fun K1 hK1 => ?_
    simp only [List.take_succ_cons, List.take_zero]
    go_simp
    refine hK1 _ _ ?_
    clear hK1 K1
    simp only [List.drop_succ_cons, List.drop_zero]
    refine Wops.absA fun V3_1 n3 hV3_1 => ?_
    obtain ⟨q3, hV3_1, s3, kV3_1, f3, r3⟩ := hV3_1
    try simp only [q3] at kV3_1 f3 r3 ⊢
    replace xw := Ext.trans xw hV3_1
    have c3_0 := kV3_1 0 _ rfl
    have c3_1 := kV3_1 1 _ rfl
    have c3_2 := kV3_1 2 _ rfl
    have c3_3 := kV3_1 3 _ rfl
    have c3_4 := kV3_1 4 _ rfl
    clear kV3_1 hV3_1
    clear r3
    go_simp
    refine hK _ _ ?_
    clear hK K' gd
    refine Wp.keep [1, 2, 3] fun r2 hkeep => ?_
    obtain ⟨e1_2, e2_2, e3_2, -⟩ := hkeep
    simp [go_sem, e0_1, e1_1, e2_1] at e1_2 e2_2 e3_2
    clear e0_1 e1_1 e2_1
    refine Wp.seqRegion (.inl rfl) (by kernel_rfl) fun K' gd hK hg => ?_
    clear hg
    go_simp
    refine hK _ _ ?_
    clear hK K' gd
    refine Wp.keep [1, 2, 3, 7] fun r3 hkeep => ?_
    obtain ⟨e1_3, e2_3, e3_3, e7_3, -⟩ := hkeep
    simp [go_sem, e1_2, e2_2, e3_2] at e1_3 e2_3 e3_3 e7_3
    clear e1_2 e2_2 e3_2
    refine Wp.seq ?_
    refine Wp.seqRegion (.inl rfl) (by kernel_rfl) fun K' gd hK hg => ?_
    clear hg
    go_simp
    refine hK _ _ ?_
    clear hK K' gd
    refine Wp.keep [1, 2, 3, 7, 15] fun r4 hkeep => ?_
    obtain ⟨e1_4, e2_4, e3_4, e7_4, e15_4, -⟩ := hkeep
    simp [go_sem, e1_3, e2_3, e3_3, e7_3] at e1_4 e2_4 e3_4 e7_4 e15_4
    clear e1_3 e2_3 e3_3 e7_3
    refine Wp.condF (by go_simp) ?_
    refine Wp.skip ?_
    refine thenK_normal ?_
    refine Wp.seq ?_
    refine Wp.seqRegion (.inl rfl) (by kernel_rfl) fun K' gd hK hg => ?_
    clear hg
    go_simp
    refine hK _ _ ?_
    clear hK K' gd
    refine Wp.keep [1, 2, 3, 7, 30] fun r5 hkeep => ?_
    obtain ⟨e1_5, e2_5, e3_5, e7_5, e30_5, -⟩ := hkeep
    simp [go_sem, e1_4, e2_4, e3_4, e7_4, e15_4] at e1_5 e2_5 e3_5 e7_5 e30_5
    clear e1_4 e2_4 e3_4 e7_4 e15_4
    refine Wp.condF (by go_simp) ?_
    refine Wp.skip ?_
    refine thenK_normal ?_
    refine Wp.seqRegion (.inl rfl) (by kernel_rfl) fun K' gd hK hg => ?_
    clear hg
    go_simp
    refine hK _ _ ?_
    clear hK K' gd
    refine Wp.keep [6] fun r6 hkeep => ?_
    obtain ⟨e6_6, -⟩ := hkeep
    simp [go_sem, e1_5, e2_5, e3_5, e7_5, e30_5] at e6_6
    clear e1_5 e2_5 e3_5 e7_5 e30_5
    refine Wp.ret ?_
    refine endK_tmp Try.results133 (by decide) ?_
    rw [e6_6]
    exact ⟨congrArg (Value.int .i64) (by rw [hres.choose_spec, if_neg h1, if_neg h0]), xw⟩
end Go.Proofs.Ytnjajbkkgfohaaa
namespace Go.Proofs.Ytnjajbkkgfohaaa
open Go.RowKit Go.Wk Go.Proofs
attribute [local irreducible] Go.Wk.Wops Go.Wk.Wp Go.Wk.Mtree Go.Wk.Mops
set_option maxHeartbeats 4000000
set_option maxRecDepth 20000

theorem fromD_congr {b : Int} {p i : Nat} {l k : List Int} (hp : 1 ≤ p) (h : ∀ j, j < i → gI l j = gI k j) : fromD b p l i = fromD b p k i := by
  unfold fromD
  by_cases h0 : 0 < i
  · rw [h (i - 1) (by omega)]
    by_cases hpi : p ≤ i
    · rw [h (i - p) (by omega)]
    · rw [if_neg hpi, if_neg hpi]
  · obtain rfl : i = 0 := by omega
    rw [if_neg (by omega), if_neg (by omega), if_neg (by omega), if_neg (by omega)]
theorem gI_app {l k : List Int} {j : Nat} (h : j < l.length) : gI (l ++ k) j = gI l j := by unfold gI; rw [List.getElem?_append_left h]
theorem firstGo_stuck {nx : Nat → Int → Int} {b : Int} {p k : Nat} (h : (firstGo nx b p k).getLast? = some 731) : ∀ n, k ≤ n → firstGo nx b p n = firstGo nx b p k
  | 0, hn => by obtain rfl : k = 0 := by omega
                rfl
  | n + 1, hn => by
    rcases Nat.lt_or_ge n k with hk | hk
    · obtain rfl : k = n + 1 := by omega
      rfl
    · have ih := firstGo_stuck h n hk
      rw [firstGo, ih, if_pos h]
theorem firstGo_next {nx : Nat → Int → Int} {b : Int} {p k : Nat} (h : ∀ x ∈ firstGo nx b p k, x ≠ 731) : firstGo nx b p (k + 1) = firstGo nx b p k ++ [nx k (fromD b p (firstGo nx b p k) k)] := by
  rw [firstGo, if_neg fun e => h 731 (List.mem_of_getLast? e) rfl]
theorem set_next {l : List Int} {n : Nat} {x : Int} (h : l.length < n) : (l ++ List.replicate (n - l.length) 0).set l.length x = l ++ [x] ++ List.replicate (n - (l.length + 1)) 0 := by
  rw [List.set_append_right _ _ (Nat.le_refl _), Nat.sub_self, show n - l.length = (n - (l.length + 1)) + 1 by omega, List.replicate_succ]
  simp
theorem RowI.allN {W : World} {b n : Nat} {xs : List Int} (h : RowI W b xs) (hn : xs.length = n) : IntsV W W.heap.size (.slice (some ⟨b, 0, none⟩) n n) xs := by
  have := h.all (c := n) (by omega)
  rwa [hn] at this
theorem nx_bd {m : Md} (hm : MdOk m) (i : Nat) {day : Int} (h : 0 ≤ day) : 0 ≤ m.nx i day ∧ m.nx i day ≤ 731 := by
  have := hm.e7
  rcases hm.nxIs i day with ⟨-, h1, h2, -⟩ | ⟨h1, -⟩ <;> omega
theorem firstGo_bd {m : Md} (hm : MdOk m) (p : Nat) : ∀ k, ∀ x ∈ firstGo m.nx m.c.b p k, 0 ≤ x ∧ x ≤ 731
  | 0, x, hx => by cases hx
  | k + 1, x, hx => by
    rw [firstGo] at hx
    split at hx
    · exact firstGo_bd hm p k x hx
    · rcases List.mem_append.1 hx with hx | hx
      · exact firstGo_bd hm p k x hx
      · rw [List.mem_singleton.1 hx]
        have := hm.b0
        have := (fromD_ge (b := m.c.b) (p := p) (i := k) (l := firstGo m.nx m.c.b p k)).1
        exact nx_bd hm k (by omega)
theorem first_c (v : Value) (m : Md) (w : World) (hV : MadeV w w.heap.size v m) (hm : MdOk m) :
    CallsV Try.prog 99 #[v] w fun v w' => ∃ t, v = .tuple #[t, .bool m.ok] ∧ IntsB w' w.heap.size t m.first ∧ Ext w w' := by
  obtain ⟨A, c, A2, c2, rfl⟩ := hV.five
  obtain ⟨pn, hpn⟩ : ∃ pn : Nat, m.c.p = (pn : Int) := ⟨m.c.p.toNat, by have := hm.p1; omega⟩
  rw [hpn] at hV
  have hpt : ∃ _u : Unit, m.c.p.toNat = pn := ⟨(), by omega⟩
  have hp1 := hm.p1
  have hp2 := hm.p2
  have hn1 := hm.n1
  have hn2 := hm.n2
  have hnb : m.n ≤ 1000000000 := by omega
  obtain ⟨q, hq⟩ : ∃ q : Nat, ∃ _u : Unit, q + 1 = m.n := ⟨m.n - 1, (), by omega⟩
  have hw1 : IntKind.i64.wrap ((m.n : Int) - 1) = (q : Int) := by have := hq.choose_spec; rw [IntWalk.i64_in _ (by omega)]; omega
  have hqn : (q : Int) < (m.n : Int) := by have := hq.choose_spec; omega
  refine Wp.fn Try.func99 rfl Try.ntmps99 (by simp) ?_
  have xw := Ext.refl w
  refine Wp.keep [0] fun r1 hkeep => ?_
  obtain ⟨e0_1, -⟩ := hkeep
  simp [go_sem] at e0_1
  refine Wp.seqRegion (.inl rfl) (by kernel_rfl) fun K' gd hK hg => ?_
  clear hg
  refine Wops.cut 1 fun K1 hK1 => ?_
  simp only [List.take_succ_cons, List.take_zero]
  go_simp
  refine hK1 _ _ ?_
  clear hK1 K1
  simp only [List.drop_succ_cons, List.drop_zero]
  refine Wops.absA fun V1_1 n1 hV1_1 => ?_
  obtain ⟨q1, hV1_1, s1, kV1_1, f1, r1⟩ := hV1_1
  try simp only [q1] at kV1_1 f1 r1 ⊢
  replace xw := Ext.trans xw hV1_1
  have c1_0 := kV1_1 0 _ rfl
  have c1_1 := kV1_1 1 _ rfl
  have c1_2 := kV1_1 2 _ rfl
  have c1_3 := kV1_1 3 _ rfl
  have c1_4 := kV1_1 4 _ rfl
  clear kV1_1 hV1_1
  clear r1
  go_simp
  refine hK _ _ ?_
  clear hK K' gd
  refine Wp.keep [1] fun r2 hkeep => ?_
  obtain ⟨e1_2, -⟩ := hkeep
  simp [go_sem, e0_1] at e1_2
  clear e0_1
  refine Wp.scopeKey 0 (fun _ _ _ => False) (fun _ => 0) rfl (fun _ _ _ h => h.elim) (fun _ => ?_)
  have xw_xa := xw
  have c1_0_xa := c1_0
  have c1_1_xa := c1_1
  have c1_2_xa := c1_2
  have c1_3_xa := c1_3
  have c1_4_xa := c1_4
  have f1_xa := f1
  have xa := Ext.refl V1_1
  refine Wp.seqRegion (.inl rfl) (by kernel_rfl) fun K' gd hK hg => ?_
  clear hg
  refine Wops.cut 5 fun K1 hK1 => ?_
  simp only [List.take_succ_cons, List.take_zero]
  go_simp
  refine hK1 _ _ ?_
  clear hK1 K1
  simp only [List.drop_succ_cons, List.drop_zero]
  refine Wops.absA fun V10_3 n10 hV10_3 => ?_
  obtain ⟨q10, hV10_3, s10, k10, f10, r10⟩ := hV10_3
  try simp only [q10] at k10 f10 r10 ⊢
  replace f1 := Ext.fz hV10_3 c1_0 f1
  replace xw := Ext.trans xw hV10_3
  replace xa := Ext.trans xa hV10_3
  replace c1_0 := Ext.cell hV10_3 c1_0
  replace c1_1 := Ext.cell hV10_3 c1_1
  replace c1_2 := Ext.cell hV10_3 c1_2
  replace c1_3 := Ext.cell hV10_3 c1_3
  replace c1_4 := Ext.cell hV10_3 c1_4
  clear hV10_3
  go_simp
  refine hK _ _ ?_
  clear hK K' gd
  refine Wp.keep [1, 4] fun r3 hkeep => ?_
  obtain ⟨e1_3, e4_3, -⟩ := hkeep
  simp [go_sem, e1_2] at e1_3 e4_3
  clear e1_2
  refine Wp.seq ?_
  refine Wp.label ?_
  refine thenK_normal ?_
  refine Wp.seq ?_
  have hR0 := RowI.made r10
  clear k10 f10 r10
  refine Wp.seqRegion (.inl rfl) (by kernel_rfl) fun K' gd hK hg => ?_
  clear hg
  go_simp
  refine hK _ _ ?_
  clear hK K' gd
  refine Wp.keep [1, 4, 12, 13] fun r4 hkeep => ?_
  obtain ⟨e1_4, e4_4, e12_4, e13_4, -⟩ := hkeep
  simp [go_sem, e1_3, e4_3] at e1_4 e4_4 e12_4 e13_4
  clear e1_3 e4_3
  refine Wp.block ?_
  refine Wp.loop (fun k ρ ds wk => AllEq [1, 12] ρ r4 ∧ ds = [] ∧ (Ext V1_1 wk) ∧ (∃ l, ρ 13 = .int .i64 (k : Int) ∧ ρ 4 = .slice (some ⟨n10, 0, none⟩) m.n m.n ∧ RowI wk n10 (l ++ List.replicate (m.n - k) 0) ∧ (∃ _u : Unit, l = firstGo m.nx m.c.b pn k ∧ l.length = k) ∧ (∀ x ∈ l, x ≠ 731))) (m.n) ?_ ?_
  · refine ⟨AllEq.refl _ _, rfl, xa, ?_⟩
    exact ⟨[], by rw [e13_4]; rfl, e4_4, hR0, ⟨(), rfl, rfl⟩, by simp⟩
  · rintro k r5 _ wk hk ⟨hA, rfl, xo, ⟨l, e13, e4, hR, hl, hne⟩⟩
    obtain ⟨e1_5, e12_5, -⟩ := hA
    rw [e1_4] at e1_5
    rw [e12_4] at e12_5
    have zxo := Below.size xo
    have xw := xw_xa
    have c1_0 := c1_0_xa
    have c1_1 := c1_1_xa
    have c1_2 := c1_2_xa
    have c1_3 := c1_3_xa
    have c1_4 := c1_4_xa
    have f1 := f1_xa
    replace f1 := Ext.fz xo c1_0 f1
    replace xw := Ext.trans xw xo
    replace c1_0 := Ext.cell xo c1_0
    replace c1_1 := Ext.cell xo c1_1
    replace c1_2 := Ext.cell xo c1_2
    replace c1_3 := Ext.cell xo c1_3
    replace c1_4 := Ext.cell xo c1_4
    refine Wp.seqRegion (.inl rfl) (by kernel_rfl) fun K' gd hK hg => ?_
    clear hg
    go_simp
    refine hK _ _ ?_
    clear hK K' gd
    refine Wp.keep [1, 4, 12, 13, 14] fun r6 hkeep => ?_
    obtain ⟨e1_6, e4_6, e12_6, e13_6, e14_6, -⟩ := hkeep
    simp [go_sem, e1_5, e4, e12_5, e13] at e1_6 e4_6 e12_6 e13_6 e14_6
    clear e1_5 e4 e12_5 e13
    refine Wp.seq ?_
    by_cases h : k < m.n
    · refine Wp.condT (by go_simp) ?_
      obtain ⟨hl2, hll⟩ := hl.choose_spec
      have hlen : (l ++ List.replicate (m.n - k) 0).length = m.n := by simp; omega
      have hbl : ∀ x ∈ l, 0 ≤ x ∧ x ≤ 731 := by rw [hl2]; exact firstGo_bd hm pn k
      have hcg : ∃ _u : Unit, fromD m.c.b pn (l ++ List.replicate (m.n - k) 0) k = fromD m.c.b pn l k := ⟨(), fromD_congr (by omega) fun j hj => gI_app (by omega)⟩
      have hbd : ∀ j, j < k → -1000 ≤ gI (l ++ List.replicate (m.n - k) 0) j ∧ gI (l ++ List.replicate (m.n - k) 0) j ≤ 1000 := fun j hj => by rw [gI_app (by omega)]; have := hbl _ (gI_mem (l := l) (i := j) (by omega)); omega
      obtain ⟨x, hx⟩ : ∃ x, m.nx k (fromD m.c.b pn (l ++ List.replicate (m.n - k) 0) k) = x := ⟨_, rfl⟩
      have hs1 : ∃ _u : Unit, firstGo m.nx m.c.b pn (k + 1) = l ++ [x] := ⟨(), by rw [firstGo_next (by rw [← hl2]; exact hne), ← hl2, ← hx, hcg.choose_spec]⟩
      clear hl2
      have d1 := hR.cell (i := k) (by omega)
      have hkn : (k : Int) < (m.n : Int) := by omega
      have fb := hR.fz
      refine Wp.skip ?_
      refine thenK_normal ?_
      refine Wp.seq ?_
      refine Wp.block ?_
      refine Wp.seqRegion (.inl rfl) (by kernel_rfl) fun K' gd hK hg => ?_
      clear hg
      go_simp
      refine hK _ _ ?_
      clear hK K' gd
      refine Wp.keep [1, 4, 5, 12, 13] fun r7 hkeep => ?_
      obtain ⟨e1_7, e4_7, e5_7, e12_7, e13_7, -⟩ := hkeep
      simp [go_sem, e1_6, e4_6, e12_6, e13_6, e14_6] at e1_7 e4_7 e5_7 e12_7 e13_7
      clear e1_6 e4_6 e12_6 e13_6 e14_6
      refine Wp.seqDraw (.inl rfl) mixed [([0, 1, 2, 3, 4], none), ([5, 6], some (7, false)), ([], some (8, false)), ([9], some (10, true))] (by kernel_rfl) fun K' gd hK hg => ?_
      clear hg
      simp only [pick, nth, List.map_cons, List.map_nil, Option.map_none, Option.map_some]
      refine Mops.absD fun D5 hD5 zD5 => ?_
      replace f1 := Ext.fz hD5 c1_0 f1
      replace fb := Ext.fz hD5 d1 fb
      replace hR := hR.ext hD5
      replace xw := Ext.trans xw hD5
      replace xo := Ext.trans xo hD5
      replace c1_0 := Ext.cell hD5 c1_0
      replace c1_1 := Ext.cell hD5 c1_1
      replace c1_2 := Ext.cell hD5 c1_2
      replace c1_3 := Ext.cell hD5 c1_3
      replace c1_4 := Ext.cell hD5 c1_4
      replace d1 := Ext.cell hD5 d1
      clear hD5
      apply Mops.none
      · intro w' hE'
        have hC' := hE'.cellsS
        go_simp
        with_reducible rfl
      apply Mops.act
      · intro w' hE'
        have hC' := hE'.cellsS
        go_simp
        with_reducible rfl
      intro K1 hK1
      go_simp
      refine Wcall (.inl rfl) (from_c _ _ m (l ++ List.replicate (m.n - k) 0) k pn _ (hV.ext xw) (hR.allN hlen) hpn (by omega) (by omega) (by omega) (by omega) hbd) ?_
      rintro v w2 ⟨rfl, hE⟩
      go_simp
      refine hK1 _ _ (by assumption) ?_
      clear hK1 K1
      have z8 := Below.size hE
      replace f1 := Ext.fz hE c1_0 f1
      replace fb := Ext.fz hE d1 fb
      replace hR := hR.ext hE
      replace xw := Ext.trans xw hE
      replace xo := Ext.trans xo hE
      replace c1_0 := Ext.cell hE c1_0
      replace c1_1 := Ext.cell hE c1_1
      replace c1_2 := Ext.cell hE c1_2
      replace c1_3 := Ext.cell hE c1_3
      replace c1_4 := Ext.cell hE c1_4
      replace d1 := Ext.cell hE d1
      clear hE
      apply Mops.act
      · exact fun _ _ => Rops_done
      intro K1 hK1
      go_simp
      refine Wcall (.inl rfl) (next_c _ m k _ _ (hV.ext xw) hm h) ?_
      rintro v w3 ⟨rfl, hE⟩
      go_simp
      refine hK1 _ _ (by assumption) ?_
      clear hK1 K1
      have z9 := Below.size hE
      replace f1 := Ext.fz hE c1_0 f1
      replace fb := Ext.fz hE d1 fb
      replace hR := hR.ext hE
      replace xw := Ext.trans xw hE
      replace xo := Ext.trans xo hE
      replace c1_0 := Ext.cell hE c1_0
      replace c1_1 := Ext.cell hE c1_1
      replace c1_2 := Ext.cell hE c1_2
      replace c1_3 := Ext.cell hE c1_3
      replace c1_4 := Ext.cell hE c1_4
      replace d1 := Ext.cell hE d1
      clear hE
      apply Mops.last
      · intro w' hE'
        have hC' := hE'.cellsS
        go_simp
        with_reducible rfl
      intro K1 hK1
      go_simp
      refine hK1 _ _ ?_
      clear hK1 K1
      refine Mops.absS (b := n10) (i := k) [_] (some1 d1) fun P1 hP1 => ?_
      have zP1 := hP1.same
      replace f1 := Put.frz hP1 f1
      replace xw := Put.to xw hP1 (by omega)
      replace xo := Put.to xo hP1 (by omega)
      replace c1_0 := Put.cell hP1 c1_0 (by omega)
      replace c1_1 := Put.cell hP1 c1_1 (by omega)
      replace c1_2 := Put.cell hP1 c1_2 (by omega)
      replace c1_3 := Put.cell hP1 c1_3 (by omega)
      replace c1_4 := Put.cell hP1 c1_4 (by omega)
      have hR2 := hR.store hP1 (by omega)
      have hset : (l ++ List.replicate (m.n - k) 0).set k x = l ++ [x] ++ List.replicate (m.n - (k + 1)) 0 := by have := set_next (l := l) (n := m.n) (x := x) (by omega); rw [hll] at this; exact this
      rw [hset] at hR2
      clear hset
      have d2 : P1.cell? ⟨n10, k, none⟩ = some (.int .i64 x) := by have := hP1.new 0 _ rfl; rwa [Nat.add_zero] at this
      obtain ⟨k1, hk1⟩ : ∃ k1 : Nat, ∃ _u : Unit, k1 = k + 1 := ⟨_, (), rfl⟩
      have hwk : IntKind.i64.wrap ((k : Int) + 1) = (k1 : Int) := by have := hk1.choose_spec; rw [IntWalk.i64_in _ (by omega)]; omega
      have hwk1 : IntKind.i64.wrap ((k1 : Int) - 1) = (k : Int) := by have := hk1.choose_spec; rw [IntWalk.i64_in _ (by omega)]; omega
      have hkk : (k : Int) < (k1 : Int) := by have := hk1.choose_spec; omega
      have hk1n : (k1 : Int) ≤ (m.n : Int) := by have := hk1.choose_spec; omega
      refine Mops.done ?_
      refine hK _ _ ?_
      clear hK K' gd
      refine Wp.keep [1, 4, 5, 12, 13] fun r10 hkeep => ?_
      obtain ⟨e1_10, e4_10, e5_10, e12_10, e13_10, -⟩ := hkeep
      simp [go_sem, e1_7, e4_7, e5_7, e12_7, e13_7] at e1_10 e4_10 e5_10 e12_10 e13_10
      clear e1_7 e4_7 e5_7 e12_7 e13_7
      by_cases h7 : x = 731
      · skip
        subst h7
        refine Wp.seqRegion (.inl rfl) (by kernel_rfl) fun K' gd hK hg => ?_
        clear hg
        go_simp
        refine hK _ _ ?_
        clear hK K' gd
        refine Wp.keep [1, 4, 5, 12, 13, 30] fun r11 hkeep => ?_
        obtain ⟨e1_11, e4_11, e5_11, e12_11, e13_11, e30_11, -⟩ := hkeep
        simp [go_sem, e1_10, e4_10, e5_10, e12_10, e13_10] at e1_11 e4_11 e5_11 e12_11 e13_11 e30_11
        clear e1_10 e4_10 e5_10 e12_10 e13_10
        refine Wp.condT (by go_simp) ?_
        refine Wp.seqRegion (.inl rfl) (by kernel_rfl) fun K' gd hK hg => ?_
        clear hg
        go_simp
        refine hK _ _ ?_
        clear hK K' gd
        refine Wp.keep [4] fun r12 hkeep => ?_
        obtain ⟨e4_12, -⟩ := hkeep
        simp [go_sem, e1_11, e4_11, e5_11, e12_11, e13_11, e30_11] at e4_12
        clear e1_11 e4_11 e5_11 e12_11 e13_11 e30_11
        refine Wp.exit ?_
        refine blockK_on (by decide) ?_
        refine thenK_exit ?_
        refine thenK_exit ?_
        refine blockK_here ?_
        refine thenK_normal ?_
        refine Wp.seqDraw (.inl rfl) mixed [([0, 1, 2, 3, 4], none), ([5, 6, 7, 8, 9], none)] (by kernel_rfl) fun K' gd hK hg => ?_
        clear hg
        simp only [pick, nth, List.map_cons, List.map_nil, Option.map_none, Option.map_some]
        refine Mops.absD fun D7 hD7 zD7 => ?_
        replace f1 := Ext.fz hD7 c1_0 f1
        replace hR2 := hR2.ext hD7
        replace xw := Ext.trans xw hD7
        replace xo := Ext.trans xo hD7
        replace c1_0 := Ext.cell hD7 c1_0
        replace c1_1 := Ext.cell hD7 c1_1
        replace c1_2 := Ext.cell hD7 c1_2
        replace c1_3 := Ext.cell hD7 c1_3
        replace c1_4 := Ext.cell hD7 c1_4
        replace d2 := Ext.cell hD7 d2
        clear hD7
        apply Mops.none
        · intro w' hE'
          have hC' := hE'.cellsS
          go_simp
          with_reducible rfl
        apply Mops.none
        · intro w' hE'
          have hC' := hE'.cellsS
          go_simp
          with_reducible rfl
        refine Mops.done ?_
        refine hK _ _ ?_
        clear hK K' gd
        refine Wp.keep [2, 3] fun r13 hkeep => ?_
        obtain ⟨e2_13, e3_13, -⟩ := hkeep
        simp [go_sem, e4_12] at e2_13 e3_13
        clear e4_12
        refine Wp.ret ?_
        refine gotoK_ret ?_
        refine endK_tmp2 Try.results99 (by decide) (by decide) ?_
        rw [e2_13, e3_13]
        obtain ⟨-, e1⟩ := hs1
        obtain ⟨-, e2⟩ := hk1
        obtain ⟨-, e3⟩ := hpt
        have hst : m.first = l ++ [731] := by unfold Md.first; rw [e3, ← e1]; exact firstGo_stuck (by rw [e1]; simp) m.n (by omega)
        have hok : m.ok = false := by unfold Md.ok; rw [hst]; simp
        refine ⟨_, by rw [hok], ?_, xw⟩
        have := hR2.intsB (base := w.heap.size) (by omega) (n := k1) (c := m.n) (by simp; omega) (by omega)
        rwa [List.take_left' (by simp; omega), ← hst] at this
      · skip
        refine Wp.seqRegion (.inl rfl) (by kernel_rfl) fun K' gd hK hg => ?_
        clear hg
        go_simp
        refine hK _ _ ?_
        clear hK K' gd
        refine Wp.keep [1, 4, 5, 12, 13, 30] fun r14 hkeep => ?_
        obtain ⟨e1_14, e4_14, e5_14, e12_14, e13_14, e30_14, -⟩ := hkeep
        simp [go_sem, e1_10, e4_10, e5_10, e12_10, e13_10] at e1_14 e4_14 e5_14 e12_14 e13_14 e30_14
        clear e1_10 e4_10 e5_10 e12_10 e13_10
        refine Wp.condF (by go_simp) ?_
        refine Wp.skip ?_
        refine blockK_normal ?_
        refine thenK_normal ?_
        refine Wp.loneRegion (.inl rfl) (by kernel_rfl) fun K' gd hK hg => ?_
        clear hg
        go_simp
        refine hK _ _ ?_
        clear hK K' gd
        refine Ends.keep [1, 4, 12, 13] fun r15 hkeep => ?_
        obtain ⟨e1_15, e4_15, e12_15, e13_15, -⟩ := hkeep
        simp [go_sem, e1_14, e4_14, e5_14, e12_14, e13_14, e30_14] at e1_15 e4_15 e12_15 e13_15
        clear e1_14 e4_14 e5_14 e12_14 e13_14 e30_14
        refine Ends.mk ?_
        refine thenK_normal ⟨by omega, ⟨by rw [e1_15, e1_4], by rw [e12_15, e12_4], trivial⟩, rfl, xo, ?_⟩
        exact ⟨l ++ [x], by rw [e13_15, hk1.choose_spec], e4_15, hR2, ⟨(), hs1.choose_spec.symm, by simp; omega⟩, fun y hy => by rw [List.mem_append, List.mem_singleton] at hy; rcases hy with hy | rfl; exact hne y hy; exact h7⟩
    · refine Wp.condF (by go_simp) ?_
      obtain rfl : k = m.n := by omega
      obtain ⟨hl2, hll⟩ := hl.choose_spec
      rw [Nat.sub_self, List.replicate_zero, List.append_nil] at hR
      have hqq := hq.choose_spec
      have d3 := hR.cell (i := q) (by omega)
      have hy := hne _ (List.getElem_mem (h := show q < l.length by omega))
      clear hqq hl2
      refine Wp.exit ?_
      refine thenK_exit ?_
      refine thenK_exit ?_
      refine blockK_here ?_
      refine thenK_normal ?_
      refine Wp.seqDraw (.inl rfl) mixed [([0, 1, 2, 3, 4], none), ([5, 6, 7, 8, 9], none)] (by kernel_rfl) fun K' gd hK hg => ?_
      clear hg
      simp only [pick, nth, List.map_cons, List.map_nil, Option.map_none, Option.map_some]
      refine Mops.absD fun D8 hD8 zD8 => ?_
      replace f1 := Ext.fz hD8 c1_0 f1
      replace hR := hR.ext hD8
      replace xw := Ext.trans xw hD8
      replace xo := Ext.trans xo hD8
      replace c1_0 := Ext.cell hD8 c1_0
      replace c1_1 := Ext.cell hD8 c1_1
      replace c1_2 := Ext.cell hD8 c1_2
      replace c1_3 := Ext.cell hD8 c1_3
      replace c1_4 := Ext.cell hD8 c1_4
      replace d3 := Ext.cell hD8 d3
      clear hD8
      apply Mops.none
      · intro w' hE'
        have hC' := hE'.cellsS
        go_simp
        with_reducible rfl
      apply Mops.none
      · intro w' hE'
        have hC' := hE'.cellsS
        go_simp
        with_reducible rfl
      refine Mops.done ?_
      refine hK _ _ ?_
      clear hK K' gd
      refine Wp.keep [2, 3] fun r16 hkeep => ?_
      obtain ⟨e2_16, e3_16, -⟩ := hkeep
      simp [go_sem, e1_6, e4_6, e12_6, e13_6, e14_6] at e2_16 e3_16
      clear e1_6 e4_6 e12_6 e13_6 e14_6
      refine Wp.ret ?_
      refine gotoK_ret ?_
      refine endK_tmp2 Try.results99 (by decide) (by decide) ?_
      rw [e2_16, e3_16]
      obtain ⟨-, e3⟩ := hpt
      obtain ⟨-, e4, -⟩ := hl
      have hst : m.first = l := by unfold Md.first; rw [e3, e4]
      have hok : m.ok = true := by unfold Md.ok; rw [hst, decide_eq_false]; rfl; exact fun e => hne 731 (List.mem_of_getLast? e) rfl
      exact ⟨_, by rw [hok, show (l[q] != 731) = true by simpa using hne _ (List.getElem_mem _)], by rw [hst]; exact hR.allB (by omega) hll, xw⟩
theorem bf_bd {m : Md} (hm : MdOk m) (i : Nat) {day : Int} (h : day ≤ 730) : -1 ≤ m.bf i day ∧ m.bf i day ≤ 730 := by
  have := hm.b0
  rcases hm.bfIs i day with ⟨-, h1, h2, -⟩ | ⟨h1, -⟩ <;> omega
theorem lastGo_bd {m : Md} (hm : MdOk m) (p n : Nat) : ∀ k, ∀ x ∈ lastGo m.bf m.c.e p n k, -1 ≤ x ∧ x ≤ 730
  | 0, x, hx => by cases hx
  | k + 1, x, hx => by
    rw [lastGo] at hx
    rcases List.mem_cons.1 hx with rfl | hx
    · have := hm.e7
      have := (toD_le (e := m.c.e) (p := p) (l := lastGo m.bf m.c.e p n k)).1
      exact bf_bd hm _ (by omega)
    · exact lastGo_bd hm p n k x hx
theorem lastGo_len {bf : Nat → Int → Int} {e : Int} {p n : Nat} : ∀ k, (lastGo bf e p n k).length = k
  | 0 => rfl
  | k + 1 => by rw [lastGo, List.length_cons, lastGo_len k]
theorem set_before {l : List Int} {j : Nat} {x : Int} : (List.replicate (j + 1) 0 ++ l).set j x = List.replicate j 0 ++ x :: l := by
  rw [List.replicate_succ', List.append_assoc, List.set_append_right _ _ (by simp)]
  simp
theorem last_c (v : Value) (m : Md) (w : World) (hV : MadeV w w.heap.size v m) (hm : MdOk m) :
    CallsV Try.prog 97 #[v] w fun t w' => IntsB w' w.heap.size t m.last ∧ Ext w w' := by
  obtain ⟨A, c, A2, c2, rfl⟩ := hV.five
  obtain ⟨pn, hpn⟩ : ∃ pn : Nat, m.c.p = (pn : Int) := ⟨m.c.p.toNat, by have := hm.p1; omega⟩
  have hp1 := hm.p1
  have hp2 := hm.p2
  have hn1 := hm.n1
  have hn2 := hm.n2
  have hnb : m.n ≤ 1000000000 := by omega
  rw [hpn] at hV
  have hpt : ∃ _u : Unit, m.c.p.toNat = pn := ⟨(), by omega⟩
  refine Wp.fn Try.func97 rfl Try.ntmps97 (by simp) ?_
  have xw := Ext.refl w
  refine Wp.keep [0] fun r1 hkeep => ?_
  obtain ⟨e0_1, -⟩ := hkeep
  simp [go_sem] at e0_1
  refine Wp.seqRegion (.inl rfl) (by kernel_rfl) fun K' gd hK hg => ?_
  clear hg
  refine Wops.cut 1 fun K1 hK1 => ?_
  simp only [List.take_succ_cons, List.take_zero]
  go_simp
  refine hK1 _ _ ?_
  clear hK1 K1
  simp only [List.drop_succ_cons, List.drop_zero]
  refine Wops.absA fun V1_1 n1 hV1_1 => ?_
  obtain ⟨q1, hV1_1, s1, kV1_1, f1, r1⟩ := hV1_1
  try simp only [q1] at kV1_1 f1 r1 ⊢
  replace xw := Ext.trans xw hV1_1
  have c1_0 := kV1_1 0 _ rfl
  have c1_1 := kV1_1 1 _ rfl
  have c1_2 := kV1_1 2 _ rfl
  have c1_3 := kV1_1 3 _ rfl
  have c1_4 := kV1_1 4 _ rfl
  clear kV1_1 hV1_1
  clear r1
  go_simp
  refine hK _ _ ?_
  clear hK K' gd
  refine Wp.keep [1] fun r2 hkeep => ?_
  obtain ⟨e1_2, -⟩ := hkeep
  simp [go_sem, e0_1] at e1_2
  clear e0_1
  have xw_xa := xw
  have c1_0_xa := c1_0
  have c1_1_xa := c1_1
  have c1_2_xa := c1_2
  have c1_3_xa := c1_3
  have c1_4_xa := c1_4
  have f1_xa := f1
  have xa := Ext.refl V1_1
  refine Wp.seqRegion (.inl rfl) (by kernel_rfl) fun K' gd hK hg => ?_
  clear hg
  refine Wops.cut 5 fun K1 hK1 => ?_
  simp only [List.take_succ_cons, List.take_zero]
  go_simp
  refine hK1 _ _ ?_
  clear hK1 K1
  simp only [List.drop_succ_cons, List.drop_zero]
  refine Wops.absA fun V10_3 n10 hV10_3 => ?_
  obtain ⟨q10, hV10_3, s10, k10, f10, r10⟩ := hV10_3
  try simp only [q10] at k10 f10 r10 ⊢
  replace f1 := Ext.fz hV10_3 c1_0 f1
  replace xw := Ext.trans xw hV10_3
  replace xa := Ext.trans xa hV10_3
  replace c1_0 := Ext.cell hV10_3 c1_0
  replace c1_1 := Ext.cell hV10_3 c1_1
  replace c1_2 := Ext.cell hV10_3 c1_2
  replace c1_3 := Ext.cell hV10_3 c1_3
  replace c1_4 := Ext.cell hV10_3 c1_4
  clear hV10_3
  go_simp
  refine hK _ _ ?_
  clear hK K' gd
  refine Wp.keep [1, 3] fun r3 hkeep => ?_
  obtain ⟨e1_3, e3_3, -⟩ := hkeep
  simp [go_sem, e1_2] at e1_3 e3_3
  clear e1_2
  refine Wp.seq ?_
  have hR0 := RowI.made r10
  clear k10 f10 r10
  obtain ⟨q, hq⟩ : ∃ q : Nat, ∃ _u : Unit, q + 1 = m.n := ⟨m.n - 1, (), by omega⟩
  have hw1 : IntKind.i64.wrap ((m.n : Int) - 1) = (q : Int) := by have := hq.choose_spec; rw [IntWalk.i64_in _ (by omega)]; omega
  refine Wp.seqRegion (.inl rfl) (by kernel_rfl) fun K' gd hK hg => ?_
  clear hg
  go_simp
  refine hK _ _ ?_
  clear hK K' gd
  refine Wp.keep [1, 3, 12, 13] fun r4 hkeep => ?_
  obtain ⟨e1_4, e3_4, e12_4, e13_4, -⟩ := hkeep
  simp [go_sem, e1_3, e3_3] at e1_4 e3_4 e12_4 e13_4
  clear e1_3 e3_3
  refine Wp.block ?_
  refine Wp.loop (fun k ρ ds wk => AllEq [1, 3, 12] ρ r4 ∧ ds = [] ∧ (Ext V1_1 wk) ∧ (∃ l, ρ 13 = .int .i64 (k : Int) ∧ RowI wk n10 (List.replicate (m.n - k) 0 ++ l) ∧ (∃ _u : Unit, l = lastGo m.bf m.c.e pn m.n k))) (m.n) ?_ ?_
  · refine ⟨AllEq.refl _ _, rfl, xa, ?_⟩
    exact ⟨[], by rw [e13_4]; rfl, by rw [Nat.sub_zero, List.append_nil]; exact hR0, (), rfl⟩
  · rintro k r5 _ wk hk ⟨hA, rfl, xo, ⟨l, e13, hR, hl⟩⟩
    obtain ⟨e1_5, e3_5, e12_5, -⟩ := hA
    rw [e1_4] at e1_5
    rw [e3_4] at e3_5
    rw [e12_4] at e12_5
    have zxo := Below.size xo
    have xw := xw_xa
    have c1_0 := c1_0_xa
    have c1_1 := c1_1_xa
    have c1_2 := c1_2_xa
    have c1_3 := c1_3_xa
    have c1_4 := c1_4_xa
    have f1 := f1_xa
    replace f1 := Ext.fz xo c1_0 f1
    replace xw := Ext.trans xw xo
    replace c1_0 := Ext.cell xo c1_0
    replace c1_1 := Ext.cell xo c1_1
    replace c1_2 := Ext.cell xo c1_2
    replace c1_3 := Ext.cell xo c1_3
    replace c1_4 := Ext.cell xo c1_4
    refine Wp.seqRegion (.inl rfl) (by kernel_rfl) fun K' gd hK hg => ?_
    clear hg
    go_simp
    refine hK _ _ ?_
    clear hK K' gd
    refine Wp.keep [1, 3, 12, 13, 14] fun r6 hkeep => ?_
    obtain ⟨e1_6, e3_6, e12_6, e13_6, e14_6, -⟩ := hkeep
    simp [go_sem, e1_5, e3_5, e12_5, e13] at e1_6 e3_6 e12_6 e13_6 e14_6
    clear e1_5 e3_5 e12_5 e13
    refine Wp.seq ?_
    by_cases h : k < m.n
    · refine Wp.condT (by go_simp) ?_
      have hl2 := hl.choose_spec
      have hll : l.length = k := by rw [hl2, lastGo_len]
      obtain ⟨j, hj⟩ : ∃ j : Nat, ∃ _u : Unit, j + k + 1 = m.n := ⟨m.n - 1 - k, (), by omega⟩
      have hjk := hj.choose_spec
      have hqq := hq.choose_spec
      have hw2 : IntKind.i64.wrap ((q : Int) - (k : Int)) = (j : Int) := by rw [IntWalk.i64_in _ (by omega)]; omega
      obtain ⟨L, hL⟩ : ∃ L, ∃ _u : Unit, L = List.replicate (m.n - k) 0 ++ l := ⟨_, (), rfl⟩
      rw [← hL.choose_spec] at hR
      have hlen : L.length = m.n := by rw [hL.choose_spec]; simp; omega
      have hbl : ∀ x ∈ l, -1 ≤ x ∧ x ≤ 730 := by rw [hl2]; exact lastGo_bd hm pn _ k
      have hdr : ∃ _u : Unit, L.drop (j + 1) = l := ⟨(), by rw [hL.choose_spec, List.drop_left' (by simp; omega)]⟩
      have hbd : ∀ i, j < i → i < L.length → -1000 ≤ gI L i ∧ gI L i ≤ 1000 := fun i h1 h2 => (show gI L i = gI l (i - (j + 1)) from (by rw [← hdr.choose_spec, gI_drop]; congr 1; omega)).symm ▸ (by have := hbl _ (gI_mem (l := l) (i := i - (j + 1)) (by omega)); omega)
      obtain ⟨x, hx⟩ : ∃ x, m.bf j (toD m.c.e pn (L.drop (j + 1))) = x := ⟨_, rfl⟩
      have hs1 : ∃ _u : Unit, x :: l = lastGo m.bf m.c.e pn m.n (k + 1) := ⟨(), by rw [lastGo, ← hl2, ← hx, hdr.choose_spec, show m.n - 1 - k = j by omega]⟩
      have hjn : (j : Int) < (m.n : Int) := by omega
      have hjl : j < L.length := by omega
      clear hl2 hjk hqq hlen
      have d1 := hR.cell hjl
      have fb := hR.fz
      refine Wp.skip ?_
      refine thenK_normal ?_
      refine Wp.seq ?_
      refine Wp.block ?_
      refine Wp.seqRegion (.inl rfl) (by kernel_rfl) fun K' gd hK hg => ?_
      clear hg
      go_simp
      refine hK _ _ ?_
      clear hK K' gd
      refine Wp.keep [1, 3, 4, 12, 13] fun r7 hkeep => ?_
      obtain ⟨e1_7, e3_7, e4_7, e12_7, e13_7, -⟩ := hkeep
      simp [go_sem, e1_6, e3_6, e12_6, e13_6, e14_6] at e1_7 e3_7 e4_7 e12_7 e13_7
      clear e1_6 e3_6 e12_6 e13_6 e14_6
      refine Wp.seqRegion (.inl rfl) (by kernel_rfl) fun K' gd hK hg => ?_
      clear hg
      go_simp
      refine hK _ _ ?_
      clear hK K' gd
      refine Wp.keep [1, 3, 5, 12, 13] fun r8 hkeep => ?_
      obtain ⟨e1_8, e3_8, e5_8, e12_8, e13_8, -⟩ := hkeep
      simp [go_sem, e1_7, e3_7, e4_7, e12_7, e13_7] at e1_8 e3_8 e5_8 e12_8 e13_8
      clear e1_7 e3_7 e4_7 e12_7 e13_7
      refine Wp.loneDraw (.inl rfl) mixed [([0, 1, 2, 3, 4], none), ([5, 6], some (7, false)), ([], some (8, false)), ([9], some (10, true))] (by kernel_rfl) fun K' gd hK hg => ?_
      clear hg
      simp only [pick, nth, List.map_cons, List.map_nil, Option.map_none, Option.map_some]
      refine Mops.absD fun D5 hD5 zD5 => ?_
      replace f1 := Ext.fz hD5 c1_0 f1
      replace fb := Ext.fz hD5 d1 fb
      replace hR := hR.ext hD5
      replace xw := Ext.trans xw hD5
      replace xo := Ext.trans xo hD5
      replace c1_0 := Ext.cell hD5 c1_0
      replace c1_1 := Ext.cell hD5 c1_1
      replace c1_2 := Ext.cell hD5 c1_2
      replace c1_3 := Ext.cell hD5 c1_3
      replace c1_4 := Ext.cell hD5 c1_4
      replace d1 := Ext.cell hD5 d1
      clear hD5
      apply Mops.none
      · intro w' hE'
        have hC' := hE'.cellsS
        go_simp
        with_reducible rfl
      apply Mops.act
      · intro w' hE'
        have hC' := hE'.cellsS
        go_simp
        with_reducible rfl
      intro K1 hK1
      go_simp
      refine Wcall (.inl rfl) (to_c _ _ m L j pn _ (hV.ext xw) (hR.allN (by rw [hL.choose_spec]; simp; omega)) hpn (by omega) (by omega) hjl (by rw [hL.choose_spec]; simp; omega) hbd) ?_
      rintro v w2 ⟨rfl, hE⟩
      go_simp
      refine hK1 _ _ (by assumption) ?_
      clear hK1 K1
      have z9 := Below.size hE
      replace f1 := Ext.fz hE c1_0 f1
      replace fb := Ext.fz hE d1 fb
      replace hR := hR.ext hE
      replace xw := Ext.trans xw hE
      replace xo := Ext.trans xo hE
      replace c1_0 := Ext.cell hE c1_0
      replace c1_1 := Ext.cell hE c1_1
      replace c1_2 := Ext.cell hE c1_2
      replace c1_3 := Ext.cell hE c1_3
      replace c1_4 := Ext.cell hE c1_4
      replace d1 := Ext.cell hE d1
      clear hE
      apply Mops.act
      · exact fun _ _ => Rops_done
      intro K1 hK1
      go_simp
      refine Wcall (.inl rfl) (before_c _ m j _ _ (hV.ext xw) hm (by omega)) ?_
      rintro v w3 ⟨rfl, hE⟩
      go_simp
      refine hK1 _ _ (by assumption) ?_
      clear hK1 K1
      have z10 := Below.size hE
      replace f1 := Ext.fz hE c1_0 f1
      replace fb := Ext.fz hE d1 fb
      replace hR := hR.ext hE
      replace xw := Ext.trans xw hE
      replace xo := Ext.trans xo hE
      replace c1_0 := Ext.cell hE c1_0
      replace c1_1 := Ext.cell hE c1_1
      replace c1_2 := Ext.cell hE c1_2
      replace c1_3 := Ext.cell hE c1_3
      replace c1_4 := Ext.cell hE c1_4
      replace d1 := Ext.cell hE d1
      clear hE
      apply Mops.last
      · intro w' hE'
        have hC' := hE'.cellsS
        go_simp
        with_reducible rfl
      intro K1 hK1
      go_simp
      refine hK1 _ _ ?_
      clear hK1 K1
      refine Mops.absS (b := n10) (i := j) [_] (some1 d1) fun P1 hP1 => ?_
      have zP1 := hP1.same
      replace f1 := Put.frz hP1 f1
      replace xw := Put.to xw hP1 (by omega)
      replace xo := Put.to xo hP1 (by omega)
      replace c1_0 := Put.cell hP1 c1_0 (by omega)
      replace c1_1 := Put.cell hP1 c1_1 (by omega)
      replace c1_2 := Put.cell hP1 c1_2 (by omega)
      replace c1_3 := Put.cell hP1 c1_3 (by omega)
      replace c1_4 := Put.cell hP1 c1_4 (by omega)
      refine Mops.done ?_
      refine hK _ _ ?_
      clear hK K' gd
      refine Ends.keep [1, 3, 12, 13] fun r11 hkeep => ?_
      obtain ⟨e1_11, e3_11, e12_11, e13_11, -⟩ := hkeep
      simp [go_sem, e1_8, e3_8, e5_8, e12_8, e13_8] at e1_11 e3_11 e12_11 e13_11
      clear e1_8 e3_8 e5_8 e12_8 e13_8
      refine Ends.mk ?_
      refine blockK_normal ?_
      refine thenK_normal ?_
      have hR2 := hR.store hP1 hjl
      refine Wp.loneRegion (.inl rfl) (by kernel_rfl) fun K' gd hK hg => ?_
      clear hg
      go_simp
      refine hK _ _ ?_
      clear hK K' gd
      refine Ends.keep [1, 3, 12, 13] fun r12 hkeep => ?_
      obtain ⟨e1_12, e3_12, e12_12, e13_12, -⟩ := hkeep
      simp [go_sem, e1_11, e3_11, e12_11, e13_11] at e1_12 e3_12 e12_12 e13_12
      clear e1_11 e3_11 e12_11 e13_11
      refine Ends.mk ?_
      refine thenK_normal ⟨by omega, ⟨by rw [e1_12, e1_4], by rw [e3_12, e3_4], by rw [e12_12, e12_4], trivial⟩, rfl, xo, ?_⟩
      have hjk := hj.choose_spec
      refine ⟨x :: l, by rw [e13_12, IntWalk.i64_in _ (by omega)]; rfl, ?_, (), hs1.choose_spec⟩
      rw [hL.choose_spec, show m.n - k = j + 1 by omega, set_before] at hR2
      rw [show m.n - (k + 1) = j by omega]; exact hR2
    · refine Wp.condF (by go_simp) ?_
      obtain rfl : k = m.n := by omega
      rw [Nat.sub_self, List.replicate_zero, List.nil_append] at hR
      refine Wp.exit ?_
      refine thenK_exit ?_
      refine thenK_exit ?_
      refine blockK_here ?_
      refine thenK_normal ?_
      refine Wp.seqRegion (.inl rfl) (by kernel_rfl) fun K' gd hK hg => ?_
      clear hg
      go_simp
      refine hK _ _ ?_
      clear hK K' gd
      refine Wp.keep [2] fun r13 hkeep => ?_
      obtain ⟨e2_13, -⟩ := hkeep
      simp [go_sem, e1_6, e3_6, e12_6, e13_6, e14_6] at e2_13
      clear e1_6 e3_6 e12_6 e13_6 e14_6
      refine Wp.ret ?_
      refine endK_tmp Try.results97 (by decide) ?_
      rw [e2_13]
      obtain ⟨-, e3⟩ := hpt
      obtain ⟨-, e4⟩ := hl
      have hst : m.last = l := by unfold Md.last; rw [e3, e4]
      exact ⟨by rw [hst]; exact hR.allB (by omega) (by rw [e4, lastGo_len]), xw⟩
end Go.Proofs.Ytnjajbkkgfohaaa
namespace Go.Proofs.Ytnjajbkkgfohaaa
open Go.RowKit Go.Wk Go.Proofs
attribute [local irreducible] Go.Wk.Wops Go.Wk.Wp Go.Wk.Mtree Go.Wk.Mops
set_option maxHeartbeats 4000000
set_option maxRecDepth 20000

def okS (s : Sh) (c : Cp) : Bool := (s.md c).ok
def begE (s : Sh) (c : Cp) : Int := if copyS s c = 0 then (if okS s c = true then 0 else 9) else copyS s c
theorem begE_zero {s : Sh} {c : Cp} : begE s c = 0 ↔ copyS s c = 0 ∧ okS s c = true := by
  unfold begE
  by_cases h : copyS s c = 0
  · by_cases h2 : okS s c = true <;> simp [h, h2]
  · simp [h]
theorem copyS_ne9 {s : Sh} {c : Cp} : ¬ copyS s c = 9 := by
  unfold copyS
  split
  · split <;> decide
  · unfold checkS
    split
    · decide
    · split
      · decide
      · have key : ∀ (l done : List Alt), ¬ chkA s.n done l = 9 := by
          intro l
          induction l with
          | nil => intro done; simp [chkA]
          | cons a l ih =>
            intro done; unfold chkA
            split
            · decide
            · split
              · decide
              · exact ih _
        exact key _ _
theorem begun_c (v u : Value) (s : Sh) (c : Cp) (w : World) (hV : SheetV w w.heap.size v s) (hU : CopyV w w.heap.size u c) (hf : FitS s) (hg : FitC c) :
    CallsV Try.prog 94 #[v, u] w fun v w' => ∃ A n k x y z A2 n2 k2 dv, v = .tuple #[.agg #[.slice A n k, .int .i64 x, .int .i64 y, .int .i64 z, .slice A2 n2 k2], dv, .int .i64 (begE s c)] ∧
      (begE s c = 0 → ∃ wu, u = .agg #[wu, .int .i64 c.b, .int .i64 c.e, .int .i64 c.p] ∧ MadeB w' w.heap.size (.agg #[.slice A n k, .int .i64 x, .int .i64 y, .int .i64 z, .slice A2 n2 k2]) (s.md c) wu) ∧ IntsB w' w.heap.size dv (if begE s c = 0 then (s.md c).first else []) ∧ Ext w w' := by
  obtain ⟨wv, av, rfl, ⟨A, c1, rfl, -, -⟩, ⟨A3, c3, rfl, -, -⟩⟩ := id hV
  obtain ⟨wu, rfl, hW⟩ := id hU
  obtain ⟨A2, c2, rfl, -, -⟩ := id hW
  refine Wp.fn Try.func94 rfl Try.ntmps94 (by simp) ?_
  have xw := Ext.refl w
  refine Wp.keep [0, 1] fun r1 hkeep => ?_
  obtain ⟨e0_1, e1_1, -⟩ := hkeep
  simp [go_sem] at e0_1 e1_1
  refine Wp.seqRegion (.inl rfl) (by kernel_rfl) fun K' gd hK hg => ?_
  clear hg
  refine Wops.cut 1 fun K1 hK1 => ?_
  simp only [List.take_succ_cons, List.take_zero]
  go_simp
  refine hK1 _ _ ?_
  clear hK1 K1
  simp only [List.drop_succ_cons, List.drop_zero]
  refine Wops.absA fun V2_1 n2 hV2_1 => ?_
  obtain ⟨q2, hV2_1, s2, kV2_1, f2, r2⟩ := hV2_1
  try simp only [q2] at kV2_1 f2 r2 ⊢
  replace xw := Ext.trans xw hV2_1
  have c2_0 := kV2_1 0 _ rfl
  have c2_1 := kV2_1 1 _ rfl
  clear kV2_1 hV2_1
  clear r2
  refine Wops.cut 1 fun K1 hK1 => ?_
  simp only [List.take_succ_cons, List.take_zero]
  go_simp
  refine hK1 _ _ ?_
  clear hK1 K1
  simp only [List.drop_succ_cons, List.drop_zero]
  refine Wops.absA fun V3_2 n3 hV3_2 => ?_
  obtain ⟨q3, hV3_2, s3, kV3_2, f3, r3⟩ := hV3_2
  try simp only [q3] at kV3_2 f3 r3 ⊢
  replace f2 := Ext.fz hV3_2 c2_0 f2
  replace xw := Ext.trans xw hV3_2
  replace c2_0 := Ext.cell hV3_2 c2_0
  replace c2_1 := Ext.cell hV3_2 c2_1
  have c3_0 := kV3_2 0 _ rfl
  have c3_1 := kV3_2 1 _ rfl
  have c3_2 := kV3_2 2 _ rfl
  have c3_3 := kV3_2 3 _ rfl
  clear kV3_2 hV3_2
  clear r3
  refine Wops.cut 1 fun K1 hK1 => ?_
  simp only [List.take_succ_cons, List.take_zero]
  go_simp
  refine hK1 _ _ ?_
  clear hK1 K1
  simp only [List.drop_succ_cons, List.drop_zero]
  refine Wops.absA fun V4_3 n4 hV4_3 => ?_
  obtain ⟨q4, hV4_3, s4, kV4_3, f4, r4⟩ := hV4_3
  try simp only [q4] at kV4_3 f4 r4 ⊢
  replace f2 := Ext.fz hV4_3 c2_0 f2
  replace f3 := Ext.fz hV4_3 c3_0 f3
  replace xw := Ext.trans xw hV4_3
  replace c2_0 := Ext.cell hV4_3 c2_0
  replace c2_1 := Ext.cell hV4_3 c2_1
  replace c3_0 := Ext.cell hV4_3 c3_0
  replace c3_1 := Ext.cell hV4_3 c3_1
  replace c3_2 := Ext.cell hV4_3 c3_2
  replace c3_3 := Ext.cell hV4_3 c3_3
  have c4_0 := kV4_3 0 _ rfl
  have c4_1 := kV4_3 1 _ rfl
  have c4_2 := kV4_3 2 _ rfl
  have c4_3 := kV4_3 3 _ rfl
  have c4_4 := kV4_3 4 _ rfl
  clear kV4_3 hV4_3
  clear r4
  go_simp
  refine hK _ _ ?_
  clear hK K' gd
  refine Wp.keep [2, 3, 4] fun r2 hkeep => ?_
  obtain ⟨e2_2, e3_2, e4_2, -⟩ := hkeep
  simp [go_sem, e0_1, e1_1] at e2_2 e3_2 e4_2
  clear e0_1 e1_1
  refine Wp.seq ?_
  refine Wp.seqRegion (.inl rfl) (by kernel_rfl) fun K' gd hK hg => ?_
  clear hg
  refine Wops.cut 3 fun K1 hK1 => ?_
  simp only [List.take_succ_cons, List.take_zero]
  go_simp
  refine Wcall (.inl rfl) (copy_c _ _ s c _ (hV.ext xw) (hU.ext xw) hf hg) ?_
  rintro v w2 ⟨rfl, hE⟩
  go_simp
  refine hK1 _ _ ?_
  clear hK1 K1
  simp only [List.drop_succ_cons, List.drop_zero]
  have z3 := Below.size hE
  replace f2 := Ext.fz hE c2_0 f2
  replace f3 := Ext.fz hE c3_0 f3
  replace f4 := Ext.fz hE c4_0 f4
  replace xw := Ext.trans xw hE
  replace c2_0 := Ext.cell hE c2_0
  replace c2_1 := Ext.cell hE c2_1
  replace c3_0 := Ext.cell hE c3_0
  replace c3_1 := Ext.cell hE c3_1
  replace c3_2 := Ext.cell hE c3_2
  replace c3_3 := Ext.cell hE c3_3
  replace c4_0 := Ext.cell hE c4_0
  replace c4_1 := Ext.cell hE c4_1
  replace c4_2 := Ext.cell hE c4_2
  replace c4_3 := Ext.cell hE c4_3
  replace c4_4 := Ext.cell hE c4_4
  clear hE
  go_simp
  refine hK _ _ ?_
  clear hK K' gd
  refine Wp.keep [2, 3, 4, 7] fun r4 hkeep => ?_
  obtain ⟨e2_4, e3_4, e4_4, e7_4, -⟩ := hkeep
  simp [go_sem, e2_2, e3_2, e4_2] at e2_4 e3_4 e4_4 e7_4
  clear e2_2 e3_2 e4_2
  by_cases h0 : copyS s c = 0
  · skip
    refine Wp.seqRegion (.inl rfl) (by kernel_rfl) fun K' gd hK hg => ?_
    clear hg
    go_simp
    refine hK _ _ ?_
    clear hK K' gd
    refine Wp.keep [2, 3, 4, 7, 15] fun r5 hkeep => ?_
    obtain ⟨e2_5, e3_5, e4_5, e7_5, e15_5, -⟩ := hkeep
    simp [go_sem, e2_4, e3_4, e4_4, e7_4] at e2_5 e3_5 e4_5 e7_5 e15_5
    clear e2_4 e3_4 e4_4 e7_4
    refine Wp.condF (by go_simp) ?_
    obtain ⟨hg0, hv0⟩ := copyS_zero.1 h0
    have hgd := checkS_zero.1 hg0
    refine Wp.skip ?_
    refine thenK_normal ?_
    refine Wp.seqRegion (.inl rfl) (by kernel_rfl) fun K' gd hK hg => ?_
    clear hg
    refine Wops.cut 3 fun K1 hK1 => ?_
    simp only [List.take_succ_cons, List.take_zero]
    go_simp
    refine Wcall (.inl rfl) (madeB_c _ _ s c _ (hV.ext xw) (hU.ext xw) hgd hv0) ?_
    rintro v w3 ⟨⟨wu, hwu, hM⟩, hE⟩
    injection hwu with hwu
    simp at hwu
    subst hwu
    obtain ⟨A6, n6, c6, rfl⟩ := hM.two
    go_simp
    refine hK1 _ _ ?_
    clear hK1 K1
    simp only [List.drop_succ_cons, List.drop_zero]
    have z6 := Below.size hE
    replace f2 := Ext.fz hE c2_0 f2
    replace f3 := Ext.fz hE c3_0 f3
    replace f4 := Ext.fz hE c4_0 f4
    replace xw := Ext.trans xw hE
    replace c2_0 := Ext.cell hE c2_0
    replace c2_1 := Ext.cell hE c2_1
    replace c3_0 := Ext.cell hE c3_0
    replace c3_1 := Ext.cell hE c3_1
    replace c3_2 := Ext.cell hE c3_2
    replace c3_3 := Ext.cell hE c3_3
    replace c4_0 := Ext.cell hE c4_0
    replace c4_1 := Ext.cell hE c4_1
    replace c4_2 := Ext.cell hE c4_2
    replace c4_3 := Ext.cell hE c4_3
    replace c4_4 := Ext.cell hE c4_4
    clear hE
    refine Wops.cut 2 fun K1 hK1 => ?_
    simp only [List.take_succ_cons, List.take_zero]
    go_simp
    refine hK1 _ _ ?_
    clear hK1 K1
    simp only [List.drop_succ_cons, List.drop_zero]
    refine Wops.absA fun V8_4 n8 hV8_4 => ?_
    obtain ⟨q8, hV8_4, s8, kV8_4, f8, r8⟩ := hV8_4
    try simp only [q8] at kV8_4 f8 r8 ⊢
    replace f2 := Ext.fz hV8_4 c2_0 f2
    replace f3 := Ext.fz hV8_4 c3_0 f3
    replace f4 := Ext.fz hV8_4 c4_0 f4
    replace hM := hM.ext hV8_4
    replace xw := Ext.trans xw hV8_4
    replace c2_0 := Ext.cell hV8_4 c2_0
    replace c2_1 := Ext.cell hV8_4 c2_1
    replace c3_0 := Ext.cell hV8_4 c3_0
    replace c3_1 := Ext.cell hV8_4 c3_1
    replace c3_2 := Ext.cell hV8_4 c3_2
    replace c3_3 := Ext.cell hV8_4 c3_3
    replace c4_0 := Ext.cell hV8_4 c4_0
    replace c4_1 := Ext.cell hV8_4 c4_1
    replace c4_2 := Ext.cell hV8_4 c4_2
    replace c4_3 := Ext.cell hV8_4 c4_3
    replace c4_4 := Ext.cell hV8_4 c4_4
    have c8_0 := kV8_4 0 _ rfl
    have c8_1 := kV8_4 1 _ rfl
    have c8_2 := kV8_4 2 _ rfl
    have c8_3 := kV8_4 3 _ rfl
    have c8_4 := kV8_4 4 _ rfl
    clear kV8_4 hV8_4
    clear r8
    try simp only [Wops_nil, updO_some, updO_none]
    refine hK _ _ ?_
    clear hK K' gd
    refine Wp.keep [4, 8] fun r7 hkeep => ?_
    obtain ⟨e4_7, e8_7, -⟩ := hkeep
    simp [go_sem, e2_5, e3_5, e4_5, e7_5, e15_5] at e4_7 e8_7
    clear e2_5 e3_5 e4_5 e7_5 e15_5
    refine Wp.seqRegion (.inl rfl) (by kernel_rfl) fun K' gd hK hg => ?_
    clear hg
    refine Wops.cut 2 fun K1 hK1 => ?_
    simp only [List.take_succ_cons, List.take_zero]
    go_simp
    refine Wcall (.inl rfl) (first_c _ (s.md c) _ (hM.made (hW.ext xw)) (hgd.mdOk hv0)) ?_
    rintro v w4 ⟨t, rfl, hI, hE⟩
    go_simp
    refine hK1 _ _ ?_
    clear hK1 K1
    simp only [List.drop_succ_cons, List.drop_zero]
    have z8 := Below.size hE
    replace f2 := Ext.fz hE c2_0 f2
    replace f3 := Ext.fz hE c3_0 f3
    replace f4 := Ext.fz hE c4_0 f4
    replace f8 := Ext.fz hE c8_0 f8
    replace hM := hM.ext hE
    replace xw := Ext.trans xw hE
    replace c2_0 := Ext.cell hE c2_0
    replace c2_1 := Ext.cell hE c2_1
    replace c3_0 := Ext.cell hE c3_0
    replace c3_1 := Ext.cell hE c3_1
    replace c3_2 := Ext.cell hE c3_2
    replace c3_3 := Ext.cell hE c3_3
    replace c4_0 := Ext.cell hE c4_0
    replace c4_1 := Ext.cell hE c4_1
    replace c4_2 := Ext.cell hE c4_2
    replace c4_3 := Ext.cell hE c4_3
    replace c4_4 := Ext.cell hE c4_4
    replace c8_0 := Ext.cell hE c8_0
    replace c8_1 := Ext.cell hE c8_1
    replace c8_2 := Ext.cell hE c8_2
    replace c8_3 := Ext.cell hE c8_3
    replace c8_4 := Ext.cell hE c8_4
    clear hE
    go_simp
    refine hK _ _ ?_
    clear hK K' gd
    refine Wp.keep [4, 8, 9, 10] fun r9 hkeep => ?_
    obtain ⟨e4_9, e8_9, e9_9, e10_9, -⟩ := hkeep
    simp [go_sem, e4_7, e8_7] at e4_9 e8_9 e9_9 e10_9
    clear e4_7 e8_7
    by_cases h1 : (s.md c).ok = true
    · skip
      refine Wp.seq ?_
      refine Wp.seqRegion (.inl rfl) (by kernel_rfl) fun K' gd hK hg => ?_
      clear hg
      go_simp
      refine hK _ _ ?_
      clear hK K' gd
      refine Wp.keep [4, 8, 9, 27] fun r10 hkeep => ?_
      obtain ⟨e4_10, e8_10, e9_10, e27_10, -⟩ := hkeep
      simp [go_sem, e4_9, e8_9, e9_9, e10_9] at e4_10 e8_10 e9_10 e27_10
      clear e4_9 e8_9 e9_9 e10_9
      refine Wp.condF (by go_simp) ?_
      refine Wp.skip ?_
      refine thenK_normal ?_
      refine Wp.seqRegion (.inl rfl) (by kernel_rfl) fun K' gd hK hg => ?_
      clear hg
      refine Wops.cut 3 fun K1 hK1 => ?_
      simp only [List.take_succ_cons, List.take_zero]
      go_simp
      refine hK1 _ _ ?_
      clear hK1 K1
      simp only [List.drop_succ_cons, List.drop_zero]
      refine Wops.absS (b := n4) (i := 0) [_, _, _, _, _] (somes [cellVal c4_0, cellVal c4_1, cellVal c4_2, cellVal c4_3, cellVal c4_4] (by simp) (by intro j v hj; match j, hj with | 0, hj => (simp at hj; subst hj; exact c4_0) | 1, hj => (simp at hj; subst hj; exact c4_1) | 2, hj => (simp at hj; subst hj; exact c4_2) | 3, hj => (simp at hj; subst hj; exact c4_3) | 4, hj => (simp at hj; subst hj; exact c4_4))) fun P5 hP5 => ?_
      have zP5 := hP5.same
      replace f2 := Put.frz hP5 f2
      replace f3 := Put.frz hP5 f3
      replace f4 := Put.frz hP5 f4
      replace f8 := Put.frz hP5 f8
      replace hM := hM.put hP5 (by omega)
      replace hI := hI.put hP5 (by omega)
      replace xw := Put.to xw hP5 (by omega)
      replace c2_0 := Put.cell hP5 c2_0 (by omega)
      replace c2_1 := Put.cell hP5 c2_1 (by omega)
      replace c3_0 := Put.cell hP5 c3_0 (by omega)
      replace c3_1 := Put.cell hP5 c3_1 (by omega)
      replace c3_2 := Put.cell hP5 c3_2 (by omega)
      replace c3_3 := Put.cell hP5 c3_3 (by omega)
      clear c4_0
      clear c4_1
      clear c4_2
      clear c4_3
      clear c4_4
      replace c8_0 := Put.cell hP5 c8_0 (by omega)
      replace c8_1 := Put.cell hP5 c8_1 (by omega)
      replace c8_2 := Put.cell hP5 c8_2 (by omega)
      replace c8_3 := Put.cell hP5 c8_3 (by omega)
      replace c8_4 := Put.cell hP5 c8_4 (by omega)
      have c4_0 := hP5.new 0 _ rfl
      try simp only [Nat.reduceAdd, Nat.zero_add, Nat.add_zero] at c4_0
      have c4_1 := hP5.new 1 _ rfl
      try simp only [Nat.reduceAdd, Nat.zero_add, Nat.add_zero] at c4_1
      have c4_2 := hP5.new 2 _ rfl
      try simp only [Nat.reduceAdd, Nat.zero_add, Nat.add_zero] at c4_2
      have c4_3 := hP5.new 3 _ rfl
      try simp only [Nat.reduceAdd, Nat.zero_add, Nat.add_zero] at c4_3
      have c4_4 := hP5.new 4 _ rfl
      try simp only [Nat.reduceAdd, Nat.zero_add, Nat.add_zero] at c4_4
      clear hP5
      go_simp
      refine hK _ _ ?_
      clear hK K' gd
      refine Wp.keep [4, 5, 6] fun r11 hkeep => ?_
      obtain ⟨e4_11, e5_11, e6_11, -⟩ := hkeep
      simp [go_sem, e4_10, e8_10, e9_10, e27_10] at e4_11 e5_11 e6_11
      clear e4_10 e8_10 e9_10 e27_10
      refine Wp.ret ?_
      refine endK_cell_tmp2 (v := .agg #[cellVal c4_0, cellVal c4_1, cellVal c4_2, cellVal c4_3, cellVal c4_4]) Try.results94 (by decide) (by decide) (by decide) e4_11 (by dsimp only [cellVal]; go_simp) ?_
      rw [e5_11, e6_11]
      dsimp only [cellVal]
      have e : begE s c = 0 := begE_zero.2 ⟨h0, h1⟩
      exact ⟨_, _, _, _, _, _, _, _, _, _, by rw [e], fun _ => ⟨_, rfl, hM.less (by omega)⟩, by rw [if_pos e]; exact hI.less (by omega), xw⟩
    · skip
      refine Wp.seq ?_
      refine Wp.seqRegion (.inl rfl) (by kernel_rfl) fun K' gd hK hg => ?_
      clear hg
      go_simp
      refine hK _ _ ?_
      clear hK K' gd
      refine Wp.keep [4, 8, 9, 27] fun r12 hkeep => ?_
      obtain ⟨e4_12, e8_12, e9_12, e27_12, -⟩ := hkeep
      simp [go_sem, e4_9, e8_9, e9_9, e10_9] at e4_12 e8_12 e9_12 e27_12
      clear e4_9 e8_9 e9_9 e10_9
      refine Wp.condT (by go_simp) ?_
      refine Wp.seqRegion (.inl rfl) (by kernel_rfl) fun K' gd hK hg => ?_
      clear hg
      refine Wops.cut 2 fun K1 hK1 => ?_
      simp only [List.take_succ_cons, List.take_zero]
      go_simp
      refine hK1 _ _ ?_
      clear hK1 K1
      simp only [List.drop_succ_cons, List.drop_zero]
      refine Wops.absS (b := n4) (i := 0) [_, _, _, _, _] (somes [cellVal c4_0, cellVal c4_1, cellVal c4_2, cellVal c4_3, cellVal c4_4] (by simp) (by intro j v hj; match j, hj with | 0, hj => (simp at hj; subst hj; exact c4_0) | 1, hj => (simp at hj; subst hj; exact c4_1) | 2, hj => (simp at hj; subst hj; exact c4_2) | 3, hj => (simp at hj; subst hj; exact c4_3) | 4, hj => (simp at hj; subst hj; exact c4_4))) fun P6 hP6 => ?_
      have zP6 := hP6.same
      replace f2 := Put.frz hP6 f2
      replace f3 := Put.frz hP6 f3
      replace f4 := Put.frz hP6 f4
      replace f8 := Put.frz hP6 f8
      replace hM := hM.put hP6 (by omega)
      replace hI := hI.put hP6 (by omega)
      replace xw := Put.to xw hP6 (by omega)
      replace c2_0 := Put.cell hP6 c2_0 (by omega)
      replace c2_1 := Put.cell hP6 c2_1 (by omega)
      replace c3_0 := Put.cell hP6 c3_0 (by omega)
      replace c3_1 := Put.cell hP6 c3_1 (by omega)
      replace c3_2 := Put.cell hP6 c3_2 (by omega)
      replace c3_3 := Put.cell hP6 c3_3 (by omega)
      clear c4_0
      clear c4_1
      clear c4_2
      clear c4_3
      clear c4_4
      replace c8_0 := Put.cell hP6 c8_0 (by omega)
      replace c8_1 := Put.cell hP6 c8_1 (by omega)
      replace c8_2 := Put.cell hP6 c8_2 (by omega)
      replace c8_3 := Put.cell hP6 c8_3 (by omega)
      replace c8_4 := Put.cell hP6 c8_4 (by omega)
      have c4_0 := hP6.new 0 _ rfl
      try simp only [Nat.reduceAdd, Nat.zero_add, Nat.add_zero] at c4_0
      have c4_1 := hP6.new 1 _ rfl
      try simp only [Nat.reduceAdd, Nat.zero_add, Nat.add_zero] at c4_1
      have c4_2 := hP6.new 2 _ rfl
      try simp only [Nat.reduceAdd, Nat.zero_add, Nat.add_zero] at c4_2
      have c4_3 := hP6.new 3 _ rfl
      try simp only [Nat.reduceAdd, Nat.zero_add, Nat.add_zero] at c4_3
      have c4_4 := hP6.new 4 _ rfl
      try simp only [Nat.reduceAdd, Nat.zero_add, Nat.add_zero] at c4_4
      clear hP6
      go_simp
      refine hK _ _ ?_
      clear hK K' gd
      refine Wp.keep [4, 5, 6] fun r13 hkeep => ?_
      obtain ⟨e4_13, e5_13, e6_13, -⟩ := hkeep
      simp [go_sem, e4_12, e8_12, e9_12, e27_12] at e4_13 e5_13 e6_13
      clear e4_12 e8_12 e9_12 e27_12
      refine Wp.ret ?_
      refine thenK_ret ?_
      refine endK_cell_tmp2 (v := .agg #[cellVal c4_0, cellVal c4_1, cellVal c4_2, cellVal c4_3, cellVal c4_4]) Try.results94 (by decide) (by decide) (by decide) e4_13 (by dsimp only [cellVal]; go_simp) ?_
      rw [e5_13, e6_13]
      dsimp only [cellVal]
      have e : begE s c = 9 := by unfold begE okS; rw [if_pos h0, if_neg h1]
      exact ⟨_, _, _, _, _, _, _, _, _, _, by rw [e], fun h => absurd (e.symm.trans h) (by decide), by rw [e, if_neg (by decide)]; exact IntsB.nil _ _, xw⟩
  · skip
    refine Wp.seqRegion (.inl rfl) (by kernel_rfl) fun K' gd hK hg => ?_
    clear hg
    go_simp
    refine hK _ _ ?_
    clear hK K' gd
    refine Wp.keep [2, 3, 4, 7, 15] fun r14 hkeep => ?_
    obtain ⟨e2_14, e3_14, e4_14, e7_14, e15_14, -⟩ := hkeep
    simp [go_sem, e2_4, e3_4, e4_4, e7_4] at e2_14 e3_14 e4_14 e7_14 e15_14
    clear e2_4 e3_4 e4_4 e7_4
    refine Wp.condT (by go_simp) ?_
    refine Wp.seqRegion (.inl rfl) (by kernel_rfl) fun K' gd hK hg => ?_
    clear hg
    refine Wops.cut 3 fun K1 hK1 => ?_
    simp only [List.take_succ_cons, List.take_zero]
    go_simp
    refine hK1 _ _ ?_
    clear hK1 K1
    simp only [List.drop_succ_cons, List.drop_zero]
    refine Wops.absS (b := n4) (i := 0) [_, _, _, _, _] (somes [cellVal c4_0, cellVal c4_1, cellVal c4_2, cellVal c4_3, cellVal c4_4] (by simp) (by intro j v hj; match j, hj with | 0, hj => (simp at hj; subst hj; exact c4_0) | 1, hj => (simp at hj; subst hj; exact c4_1) | 2, hj => (simp at hj; subst hj; exact c4_2) | 3, hj => (simp at hj; subst hj; exact c4_3) | 4, hj => (simp at hj; subst hj; exact c4_4))) fun P7 hP7 => ?_
    have zP7 := hP7.same
    replace f2 := Put.frz hP7 f2
    replace f3 := Put.frz hP7 f3
    replace f4 := Put.frz hP7 f4
    replace xw := Put.to xw hP7 (by omega)
    replace c2_0 := Put.cell hP7 c2_0 (by omega)
    replace c2_1 := Put.cell hP7 c2_1 (by omega)
    replace c3_0 := Put.cell hP7 c3_0 (by omega)
    replace c3_1 := Put.cell hP7 c3_1 (by omega)
    replace c3_2 := Put.cell hP7 c3_2 (by omega)
    replace c3_3 := Put.cell hP7 c3_3 (by omega)
    clear c4_0
    clear c4_1
    clear c4_2
    clear c4_3
    clear c4_4
    have c4_0 := hP7.new 0 _ rfl
    try simp only [Nat.reduceAdd, Nat.zero_add, Nat.add_zero] at c4_0
    have c4_1 := hP7.new 1 _ rfl
    try simp only [Nat.reduceAdd, Nat.zero_add, Nat.add_zero] at c4_1
    have c4_2 := hP7.new 2 _ rfl
    try simp only [Nat.reduceAdd, Nat.zero_add, Nat.add_zero] at c4_2
    have c4_3 := hP7.new 3 _ rfl
    try simp only [Nat.reduceAdd, Nat.zero_add, Nat.add_zero] at c4_3
    have c4_4 := hP7.new 4 _ rfl
    try simp only [Nat.reduceAdd, Nat.zero_add, Nat.add_zero] at c4_4
    clear hP7
    go_simp
    refine hK _ _ ?_
    clear hK K' gd
    refine Wp.keep [4, 5, 6] fun r15 hkeep => ?_
    obtain ⟨e4_15, e5_15, e6_15, -⟩ := hkeep
    simp [go_sem, e2_14, e3_14, e4_14, e7_14, e15_14] at e4_15 e5_15 e6_15
    clear e2_14 e3_14 e4_14 e7_14 e15_14
    refine Wp.ret ?_
    refine thenK_ret ?_
    refine endK_cell_tmp2 (v := .agg #[cellVal c4_0, cellVal c4_1, cellVal c4_2, cellVal c4_3, cellVal c4_4]) Try.results94 (by decide) (by decide) (by decide) e4_15 (by dsimp only [cellVal]; go_simp) ?_
    rw [e5_15, e6_15]
    dsimp only [cellVal]
    have e : begE s c = copyS s c := by unfold begE; rw [if_neg h0]
    exact ⟨_, _, _, _, _, _, _, _, _, _, by rw [e], fun h => absurd (e.symm.trans h) h0, by rw [e, if_neg h0]; exact IntsB.nil _ _, xw⟩
theorem First_c (v u : Value) (s : Sh) (c : Cp) (w : World) (hV : SheetV w w.heap.size v s) (hU : CopyV w w.heap.size u c) (hf : FitS s) (hg : FitC c) :
    CallsV Try.prog 39 #[v, u] w fun v w' => ∃ t, v = .tuple #[t, .int .i64 (begE s c)] ∧ IntsB w' w.heap.size t (if begE s c = 0 then (s.md c).first else []) ∧ Ext w w' := by
  obtain ⟨wv, av, rfl, ⟨A, c1, rfl, -, -⟩, ⟨A3, c3, rfl, -, -⟩⟩ := id hV
  obtain ⟨wu, rfl, ⟨A2, c2, rfl, -, -⟩⟩ := id hU
  refine Wp.fn Try.func39 rfl Try.ntmps39 (by simp) ?_
  have xw := Ext.refl w
  refine Wp.keep [0, 1] fun r1 hkeep => ?_
  obtain ⟨e0_1, e1_1, -⟩ := hkeep
  simp [go_sem] at e0_1 e1_1
  refine Wp.seqRegion (.inl rfl) (by kernel_rfl) fun K' gd hK hg => ?_
  clear hg
  refine Wops.cut 1 fun K1 hK1 => ?_
  simp only [List.take_succ_cons, List.take_zero]
  go_simp
  refine hK1 _ _ ?_
  clear hK1 K1
  simp only [List.drop_succ_cons, List.drop_zero]
  refine Wops.absA fun V2_1 n2 hV2_1 => ?_
  obtain ⟨q2, hV2_1, s2, kV2_1, f2, r2⟩ := hV2_1
  try simp only [q2] at kV2_1 f2 r2 ⊢
  replace xw := Ext.trans xw hV2_1
  have c2_0 := kV2_1 0 _ rfl
  have c2_1 := kV2_1 1 _ rfl
  clear kV2_1 hV2_1
  clear r2
  refine Wops.cut 1 fun K1 hK1 => ?_
  simp only [List.take_succ_cons, List.take_zero]
  go_simp
  refine hK1 _ _ ?_
  clear hK1 K1
  simp only [List.drop_succ_cons, List.drop_zero]
  refine Wops.absA fun V3_2 n3 hV3_2 => ?_
  obtain ⟨q3, hV3_2, s3, kV3_2, f3, r3⟩ := hV3_2
  try simp only [q3] at kV3_2 f3 r3 ⊢
  replace f2 := Ext.fz hV3_2 c2_0 f2
  replace xw := Ext.trans xw hV3_2
  replace c2_0 := Ext.cell hV3_2 c2_0
  replace c2_1 := Ext.cell hV3_2 c2_1
  have c3_0 := kV3_2 0 _ rfl
  have c3_1 := kV3_2 1 _ rfl
  have c3_2 := kV3_2 2 _ rfl
  have c3_3 := kV3_2 3 _ rfl
  clear kV3_2 hV3_2
  clear r3
  go_simp
  refine hK _ _ ?_
  clear hK K' gd
  refine Wp.keep [2, 3] fun r2 hkeep => ?_
  obtain ⟨e2_2, e3_2, -⟩ := hkeep
  simp [go_sem, e0_1, e1_1] at e2_2 e3_2
  clear e0_1 e1_1
  refine Wp.seqRegion (.inl rfl) (by kernel_rfl) fun K' gd hK hg => ?_
  clear hg
  refine Wops.cut 3 fun K1 hK1 => ?_
  simp only [List.take_succ_cons, List.take_zero]
  go_simp
  refine Wcall (.inl rfl) (begun_c _ _ s c _ (hV.ext xw) (hU.ext xw) hf hg) ?_
  rintro v w2 ⟨B1, b2, b3, b4, b5, b6, B2, b7, b8, dv, rfl, -, hI, hE⟩
  go_simp
  refine hK1 _ _ ?_
  clear hK1 K1
  simp only [List.drop_succ_cons, List.drop_zero]
  have z3 := Below.size hE
  replace f2 := Ext.fz hE c2_0 f2
  replace f3 := Ext.fz hE c3_0 f3
  replace xw := Ext.trans xw hE
  replace c2_0 := Ext.cell hE c2_0
  replace c2_1 := Ext.cell hE c2_1
  replace c3_0 := Ext.cell hE c3_0
  replace c3_1 := Ext.cell hE c3_1
  replace c3_2 := Ext.cell hE c3_2
  replace c3_3 := Ext.cell hE c3_3
  clear hE
  refine Wops.cut 6 fun K1 hK1 => ?_
  simp only [List.take_succ_cons, List.take_zero]
  go_simp
  refine hK1 _ _ ?_
  clear hK1 K1
  simp only [List.drop_succ_cons, List.drop_zero]
  refine Wops.absA fun V6_3 n6 hV6_3 => ?_
  obtain ⟨q6, hV6_3, s6, kV6_3, f6, r6⟩ := hV6_3
  try simp only [q6] at kV6_3 f6 r6 ⊢
  replace f2 := Ext.fz hV6_3 c2_0 f2
  replace f3 := Ext.fz hV6_3 c3_0 f3
  replace hI := hI.ext hV6_3
  replace xw := Ext.trans xw hV6_3
  replace c2_0 := Ext.cell hV6_3 c2_0
  replace c2_1 := Ext.cell hV6_3 c2_1
  replace c3_0 := Ext.cell hV6_3 c3_0
  replace c3_1 := Ext.cell hV6_3 c3_1
  replace c3_2 := Ext.cell hV6_3 c3_2
  replace c3_3 := Ext.cell hV6_3 c3_3
  have c6_0 := kV6_3 0 _ rfl
  have c6_1 := kV6_3 1 _ rfl
  have c6_2 := kV6_3 2 _ rfl
  have c6_3 := kV6_3 3 _ rfl
  have c6_4 := kV6_3 4 _ rfl
  clear kV6_3 hV6_3
  clear r6
  go_simp
  refine hK _ _ ?_
  clear hK K' gd
  refine Wp.keep [7, 8] fun r4 hkeep => ?_
  obtain ⟨e7_4, e8_4, -⟩ := hkeep
  simp [go_sem, e2_2, e3_2] at e7_4 e8_4
  clear e2_2 e3_2
  refine Wp.seqRegion (.inl rfl) (by kernel_rfl) fun K' gd hK hg => ?_
  clear hg
  go_simp
  refine hK _ _ ?_
  clear hK K' gd
  refine Wp.keep [4, 5] fun r5 hkeep => ?_
  obtain ⟨e4_5, e5_5, -⟩ := hkeep
  simp [go_sem, e7_4, e8_4] at e4_5 e5_5
  clear e7_4 e8_4
  refine Wp.ret ?_
  refine endK_tmp2 Try.results39 (by decide) (by decide) ?_
  rw [e4_5, e5_5]
  exact ⟨_, rfl, hI.less (by omega), xw⟩
theorem Last_c (v u : Value) (s : Sh) (c : Cp) (w : World) (hV : SheetV w w.heap.size v s) (hU : CopyV w w.heap.size u c) (hf : FitS s) (hg : FitC c) :
    CallsV Try.prog 41 #[v, u] w fun v w' => ∃ t, v = .tuple #[t, .int .i64 (begE s c)] ∧ IntsB w' w.heap.size t (if begE s c = 0 then (s.md c).last else []) ∧ Ext w w' := by
  obtain ⟨wv, av, rfl, ⟨A, c1, rfl, -, -⟩, ⟨A3, c3, rfl, -, -⟩⟩ := id hV
  obtain ⟨wu, rfl, hW⟩ := id hU
  obtain ⟨A2, c2, rfl, -, -⟩ := id hW
  refine Wp.fn Try.func41 rfl Try.ntmps41 (by simp) ?_
  have xw := Ext.refl w
  refine Wp.keep [0, 1] fun r1 hkeep => ?_
  obtain ⟨e0_1, e1_1, -⟩ := hkeep
  simp [go_sem] at e0_1 e1_1
  refine Wp.seqRegion (.inl rfl) (by kernel_rfl) fun K' gd hK hg => ?_
  clear hg
  refine Wops.cut 1 fun K1 hK1 => ?_
  simp only [List.take_succ_cons, List.take_zero]
  go_simp
  refine hK1 _ _ ?_
  clear hK1 K1
  simp only [List.drop_succ_cons, List.drop_zero]
  refine Wops.absA fun V2_1 n2 hV2_1 => ?_
  obtain ⟨q2, hV2_1, s2, kV2_1, f2, r2⟩ := hV2_1
  try simp only [q2] at kV2_1 f2 r2 ⊢
  replace xw := Ext.trans xw hV2_1
  have c2_0 := kV2_1 0 _ rfl
  have c2_1 := kV2_1 1 _ rfl
  clear kV2_1 hV2_1
  clear r2
  refine Wops.cut 1 fun K1 hK1 => ?_
  simp only [List.take_succ_cons, List.take_zero]
  go_simp
  refine hK1 _ _ ?_
  clear hK1 K1
  simp only [List.drop_succ_cons, List.drop_zero]
  refine Wops.absA fun V3_2 n3 hV3_2 => ?_
  obtain ⟨q3, hV3_2, s3, kV3_2, f3, r3⟩ := hV3_2
  try simp only [q3] at kV3_2 f3 r3 ⊢
  replace f2 := Ext.fz hV3_2 c2_0 f2
  replace xw := Ext.trans xw hV3_2
  replace c2_0 := Ext.cell hV3_2 c2_0
  replace c2_1 := Ext.cell hV3_2 c2_1
  have c3_0 := kV3_2 0 _ rfl
  have c3_1 := kV3_2 1 _ rfl
  have c3_2 := kV3_2 2 _ rfl
  have c3_3 := kV3_2 3 _ rfl
  clear kV3_2 hV3_2
  clear r3
  go_simp
  refine hK _ _ ?_
  clear hK K' gd
  refine Wp.keep [2, 3] fun r2 hkeep => ?_
  obtain ⟨e2_2, e3_2, -⟩ := hkeep
  simp [go_sem, e0_1, e1_1] at e2_2 e3_2
  clear e0_1 e1_1
  refine Wp.seqRegion (.inl rfl) (by kernel_rfl) fun K' gd hK hg => ?_
  clear hg
  refine Wops.cut 3 fun K1 hK1 => ?_
  simp only [List.take_succ_cons, List.take_zero]
  go_simp
  refine Wcall (.inl rfl) (begun_c _ _ s c _ (hV.ext xw) (hU.ext xw) hf hg) ?_
  rintro v w2 ⟨B1, b2, b3, b4, b5, b6, B2, b7, b8, dv, rfl, hM, -, hE⟩
  have xc := Ext.refl w2
  go_simp
  refine hK1 _ _ ?_
  clear hK1 K1
  simp only [List.drop_succ_cons, List.drop_zero]
  have z3 := Below.size hE
  replace f2 := Ext.fz hE c2_0 f2
  replace f3 := Ext.fz hE c3_0 f3
  replace xw := Ext.trans xw hE
  replace c2_0 := Ext.cell hE c2_0
  replace c2_1 := Ext.cell hE c2_1
  replace c3_0 := Ext.cell hE c3_0
  replace c3_1 := Ext.cell hE c3_1
  replace c3_2 := Ext.cell hE c3_2
  replace c3_3 := Ext.cell hE c3_3
  clear hE
  refine Wops.cut 6 fun K1 hK1 => ?_
  simp only [List.take_succ_cons, List.take_zero]
  go_simp
  refine hK1 _ _ ?_
  clear hK1 K1
  simp only [List.drop_succ_cons, List.drop_zero]
  refine Wops.absA fun V6_4 n6 hV6_4 => ?_
  obtain ⟨q6, hV6_4, s6, kV6_4, f6, r6⟩ := hV6_4
  try simp only [q6] at kV6_4 f6 r6 ⊢
  replace f2 := Ext.fz hV6_4 c2_0 f2
  replace f3 := Ext.fz hV6_4 c3_0 f3
  replace xw := Ext.trans xw hV6_4
  replace xc := Ext.trans xc hV6_4
  replace c2_0 := Ext.cell hV6_4 c2_0
  replace c2_1 := Ext.cell hV6_4 c2_1
  replace c3_0 := Ext.cell hV6_4 c3_0
  replace c3_1 := Ext.cell hV6_4 c3_1
  replace c3_2 := Ext.cell hV6_4 c3_2
  replace c3_3 := Ext.cell hV6_4 c3_3
  have c6_0 := kV6_4 0 _ rfl
  have c6_1 := kV6_4 1 _ rfl
  have c6_2 := kV6_4 2 _ rfl
  have c6_3 := kV6_4 3 _ rfl
  have c6_4 := kV6_4 4 _ rfl
  clear kV6_4 hV6_4
  clear r6
  go_simp
  refine hK _ _ ?_
  clear hK K' gd
  refine Wp.keep [6, 8] fun r4 hkeep => ?_
  obtain ⟨e6_4, e8_4, -⟩ := hkeep
  simp [go_sem, e2_2, e3_2] at e6_4 e8_4
  clear e2_2 e3_2
  by_cases h0 : begE s c = 0
  · skip
    refine Wp.seq ?_
    refine Wp.seqRegion (.inl rfl) (by kernel_rfl) fun K' gd hK hg => ?_
    clear hg
    go_simp
    refine hK _ _ ?_
    clear hK K' gd
    refine Wp.keep [6, 8, 17] fun r5 hkeep => ?_
    obtain ⟨e6_5, e8_5, e17_5, -⟩ := hkeep
    simp [go_sem, e6_4, e8_4] at e6_5 e8_5 e17_5
    clear e6_4 e8_4
    refine Wp.condF (by go_simp) ?_
    obtain ⟨wu, hwu, hM⟩ := hM h0
    injection hwu with hwu
    simp at hwu
    subst hwu
    obtain ⟨h1, h2⟩ := begE_zero.1 h0
    obtain ⟨hg0, hv0⟩ := copyS_zero.1 h1
    have hgd := checkS_zero.1 hg0
    refine Wp.skip ?_
    refine thenK_normal ?_
    refine Wp.seqRegion (.inl rfl) (by kernel_rfl) fun K' gd hK hg => ?_
    clear hg
    refine Wops.cut 2 fun K1 hK1 => ?_
    simp only [List.take_succ_cons, List.take_zero]
    go_simp
    refine Wcall (.inl rfl) (last_c _ (s.md c) _ ((hM.ext xc).made (hW.ext xw)) (hgd.mdOk hv0)) ?_
    rintro v w4 ⟨hI, hE⟩
    go_simp
    refine hK1 _ _ ?_
    clear hK1 K1
    simp only [List.drop_succ_cons, List.drop_zero]
    have z6 := Below.size hE
    replace f2 := Ext.fz hE c2_0 f2
    replace f3 := Ext.fz hE c3_0 f3
    replace f6 := Ext.fz hE c6_0 f6
    replace xw := Ext.trans xw hE
    replace xc := Ext.trans xc hE
    replace c2_0 := Ext.cell hE c2_0
    replace c2_1 := Ext.cell hE c2_1
    replace c3_0 := Ext.cell hE c3_0
    replace c3_1 := Ext.cell hE c3_1
    replace c3_2 := Ext.cell hE c3_2
    replace c3_3 := Ext.cell hE c3_3
    replace c6_0 := Ext.cell hE c6_0
    replace c6_1 := Ext.cell hE c6_1
    replace c6_2 := Ext.cell hE c6_2
    replace c6_3 := Ext.cell hE c6_3
    replace c6_4 := Ext.cell hE c6_4
    clear hE
    go_simp
    refine hK _ _ ?_
    clear hK K' gd
    refine Wp.keep [4, 5] fun r7 hkeep => ?_
    obtain ⟨e4_7, e5_7, -⟩ := hkeep
    simp [go_sem, e6_5, e8_5, e17_5] at e4_7 e5_7
    clear e6_5 e8_5 e17_5
    refine Wp.ret ?_
    refine endK_tmp2 Try.results41 (by decide) (by decide) ?_
    rw [e4_7, e5_7]
    exact ⟨_, by rw [h0], by rw [if_pos h0]; exact hI.less (by omega), xw⟩
  · skip
    refine Wp.seq ?_
    refine Wp.seqRegion (.inl rfl) (by kernel_rfl) fun K' gd hK hg => ?_
    clear hg
    go_simp
    refine hK _ _ ?_
    clear hK K' gd
    refine Wp.keep [6, 8, 17] fun r8 hkeep => ?_
    obtain ⟨e6_8, e8_8, e17_8, -⟩ := hkeep
    simp [go_sem, e6_4, e8_4] at e6_8 e8_8 e17_8
    clear e6_4 e8_4
    refine Wp.condT (by go_simp) ?_
    refine Wp.seqRegion (.inl rfl) (by kernel_rfl) fun K' gd hK hg => ?_
    clear hg
    go_simp
    refine hK _ _ ?_
    clear hK K' gd
    refine Wp.keep [4, 5] fun r9 hkeep => ?_
    obtain ⟨e4_9, e5_9, -⟩ := hkeep
    simp [go_sem, e6_8, e8_8, e17_8] at e4_9 e5_9
    clear e6_8 e8_8 e17_8
    refine Wp.ret ?_
    refine thenK_ret ?_
    refine endK_tmp2 Try.results41 (by decide) (by decide) ?_
    rw [e4_9, e5_9]
    exact ⟨_, rfl, by rw [if_neg h0]; exact IntsB.nil _ _, xw⟩
theorem Clash_c (v u : Value) (s : Sh) (c : Cp) (w : World) (hV : SheetV w w.heap.size v s) (hU : CopyV w w.heap.size u c) (hf : FitS s) (hg : FitC c) :
    CallsV Try.prog 59 #[v, u] w fun v w' => ∃ t, v = .tuple #[t, .bool (decide (begE s c = 9)), .int .i64 (copyS s c)] ∧ IntsB w' w.heap.size t (if begE s c = 9 then (s.md c).first else []) ∧ Ext w w' := by
  obtain ⟨wv, av, rfl, ⟨A, c1, rfl, -, -⟩, ⟨A3, c3, rfl, -, -⟩⟩ := id hV
  obtain ⟨wu, rfl, ⟨A2, c2, rfl, -, -⟩⟩ := id hU
  refine Wp.fn Try.func59 rfl Try.ntmps59 (by simp) ?_
  have xw := Ext.refl w
  refine Wp.keep [0, 1] fun r1 hkeep => ?_
  obtain ⟨e0_1, e1_1, -⟩ := hkeep
  simp [go_sem] at e0_1 e1_1
  refine Wp.seqRegion (.inl rfl) (by kernel_rfl) fun K' gd hK hg => ?_
  clear hg
  refine Wops.cut 1 fun K1 hK1 => ?_
  simp only [List.take_succ_cons, List.take_zero]
  go_simp
  refine hK1 _ _ ?_
  clear hK1 K1
  simp only [List.drop_succ_cons, List.drop_zero]
  refine Wops.absA fun V2_1 n2 hV2_1 => ?_
  obtain ⟨q2, hV2_1, s2, kV2_1, f2, r2⟩ := hV2_1
  try simp only [q2] at kV2_1 f2 r2 ⊢
  replace xw := Ext.trans xw hV2_1
  have c2_0 := kV2_1 0 _ rfl
  have c2_1 := kV2_1 1 _ rfl
  clear kV2_1 hV2_1
  clear r2
  refine Wops.cut 1 fun K1 hK1 => ?_
  simp only [List.take_succ_cons, List.take_zero]
  go_simp
  refine hK1 _ _ ?_
  clear hK1 K1
  simp only [List.drop_succ_cons, List.drop_zero]
  refine Wops.absA fun V3_2 n3 hV3_2 => ?_
  obtain ⟨q3, hV3_2, s3, kV3_2, f3, r3⟩ := hV3_2
  try simp only [q3] at kV3_2 f3 r3 ⊢
  replace f2 := Ext.fz hV3_2 c2_0 f2
  replace xw := Ext.trans xw hV3_2
  replace c2_0 := Ext.cell hV3_2 c2_0
  replace c2_1 := Ext.cell hV3_2 c2_1
  have c3_0 := kV3_2 0 _ rfl
  have c3_1 := kV3_2 1 _ rfl
  have c3_2 := kV3_2 2 _ rfl
  have c3_3 := kV3_2 3 _ rfl
  clear kV3_2 hV3_2
  clear r3
  go_simp
  refine hK _ _ ?_
  clear hK K' gd
  refine Wp.keep [2, 3] fun r2 hkeep => ?_
  obtain ⟨e2_2, e3_2, -⟩ := hkeep
  simp [go_sem, e0_1, e1_1] at e2_2 e3_2
  clear e0_1 e1_1
  refine Wp.seq ?_
  refine Wp.seqRegion (.inl rfl) (by kernel_rfl) fun K' gd hK hg => ?_
  clear hg
  refine Wops.cut 3 fun K1 hK1 => ?_
  simp only [List.take_succ_cons, List.take_zero]
  go_simp
  refine Wcall (.inl rfl) (copy_c _ _ s c _ (hV.ext xw) (hU.ext xw) hf hg) ?_
  rintro v w2 ⟨rfl, hE⟩
  go_simp
  refine hK1 _ _ ?_
  clear hK1 K1
  simp only [List.drop_succ_cons, List.drop_zero]
  have z3 := Below.size hE
  replace f2 := Ext.fz hE c2_0 f2
  replace f3 := Ext.fz hE c3_0 f3
  replace xw := Ext.trans xw hE
  replace c2_0 := Ext.cell hE c2_0
  replace c2_1 := Ext.cell hE c2_1
  replace c3_0 := Ext.cell hE c3_0
  replace c3_1 := Ext.cell hE c3_1
  replace c3_2 := Ext.cell hE c3_2
  replace c3_3 := Ext.cell hE c3_3
  clear hE
  go_simp
  refine hK _ _ ?_
  clear hK K' gd
  refine Wp.keep [2, 3, 7] fun r4 hkeep => ?_
  obtain ⟨e2_4, e3_4, e7_4, -⟩ := hkeep
  simp [go_sem, e2_2, e3_2] at e2_4 e3_4 e7_4
  clear e2_2 e3_2
  by_cases h0 : copyS s c = 0
  · skip
    refine Wp.seqRegion (.inl rfl) (by kernel_rfl) fun K' gd hK hg => ?_
    clear hg
    go_simp
    refine hK _ _ ?_
    clear hK K' gd
    refine Wp.keep [2, 3, 7, 14] fun r5 hkeep => ?_
    obtain ⟨e2_5, e3_5, e7_5, e14_5, -⟩ := hkeep
    simp [go_sem, e2_4, e3_4, e7_4] at e2_5 e3_5 e7_5 e14_5
    clear e2_4 e3_4 e7_4
    refine Wp.condF (by go_simp) ?_
    obtain ⟨hg0, hv0⟩ := copyS_zero.1 h0
    have hgd := checkS_zero.1 hg0
    refine Wp.skip ?_
    refine thenK_normal ?_
    refine Wp.seqRegion (.inl rfl) (by kernel_rfl) fun K' gd hK hg => ?_
    clear hg
    refine Wops.cut 3 fun K1 hK1 => ?_
    simp only [List.take_succ_cons, List.take_zero]
    go_simp
    refine Wcall (.inl rfl) (madeOf_c _ _ s c _ (hV.ext xw) (hU.ext xw) hgd hv0) ?_
    rintro v w3 ⟨hM, hE⟩
    obtain ⟨A5, c5, A6, c6, rfl⟩ := hM.five
    go_simp
    refine hK1 _ _ ?_
    clear hK1 K1
    simp only [List.drop_succ_cons, List.drop_zero]
    have z6 := Below.size hE
    replace f2 := Ext.fz hE c2_0 f2
    replace f3 := Ext.fz hE c3_0 f3
    replace xw := Ext.trans xw hE
    replace c2_0 := Ext.cell hE c2_0
    replace c2_1 := Ext.cell hE c2_1
    replace c3_0 := Ext.cell hE c3_0
    replace c3_1 := Ext.cell hE c3_1
    replace c3_2 := Ext.cell hE c3_2
    replace c3_3 := Ext.cell hE c3_3
    clear hE
    refine Wops.cut 1 fun K1 hK1 => ?_
    simp only [List.take_succ_cons, List.take_zero]
    go_simp
    refine Wcall (.inl rfl) (first_c _ (s.md c) _ hM (hgd.mdOk hv0)) ?_
    rintro v w4 ⟨t, rfl, hI, hE⟩
    go_simp
    refine hK1 _ _ ?_
    clear hK1 K1
    simp only [List.drop_succ_cons, List.drop_zero]
    have z7 := Below.size hE
    replace f2 := Ext.fz hE c2_0 f2
    replace f3 := Ext.fz hE c3_0 f3
    replace hM := hM.ext hE
    replace xw := Ext.trans xw hE
    replace c2_0 := Ext.cell hE c2_0
    replace c2_1 := Ext.cell hE c2_1
    replace c3_0 := Ext.cell hE c3_0
    replace c3_1 := Ext.cell hE c3_1
    replace c3_2 := Ext.cell hE c3_2
    replace c3_3 := Ext.cell hE c3_3
    clear hE
    go_simp
    refine hK _ _ ?_
    clear hK K' gd
    refine Wp.keep [8, 9] fun r8 hkeep => ?_
    obtain ⟨e8_8, e9_8, -⟩ := hkeep
    simp [go_sem, e2_5, e3_5, e7_5, e14_5] at e8_8 e9_8
    clear e2_5 e3_5 e7_5 e14_5
    by_cases h1 : (s.md c).ok = true
    · skip
      refine Wp.seq ?_
      refine Wp.seqRegion (.inl rfl) (by kernel_rfl) fun K' gd hK hg => ?_
      clear hg
      go_simp
      refine hK _ _ ?_
      clear hK K' gd
      refine Wp.keep [8, 23] fun r9 hkeep => ?_
      obtain ⟨e8_9, e23_9, -⟩ := hkeep
      simp [go_sem, e8_8, e9_8] at e8_9 e23_9
      clear e8_8 e9_8
      refine Wp.condT (by go_simp) ?_
      refine Wp.seqRegion (.inl rfl) (by kernel_rfl) fun K' gd hK hg => ?_
      clear hg
      go_simp
      refine hK _ _ ?_
      clear hK K' gd
      refine Wp.keep [4, 5, 6] fun r10 hkeep => ?_
      obtain ⟨e4_10, e5_10, e6_10, -⟩ := hkeep
      simp [go_sem, e8_9, e23_9] at e4_10 e5_10 e6_10
      clear e8_9 e23_9
      refine Wp.ret ?_
      refine thenK_ret ?_
      refine endK_tmp3 Try.results59 (by decide) (by decide) (by decide) ?_
      rw [e4_10, e5_10, e6_10]
      have e : begE s c = 0 := begE_zero.2 ⟨h0, h1⟩
      exact ⟨_, by rw [e, h0]; rfl, by rw [e, if_neg (by decide)]; exact IntsB.nil _ _, xw⟩
    · skip
      refine Wp.seq ?_
      refine Wp.seqRegion (.inl rfl) (by kernel_rfl) fun K' gd hK hg => ?_
      clear hg
      go_simp
      refine hK _ _ ?_
      clear hK K' gd
      refine Wp.keep [8, 23] fun r11 hkeep => ?_
      obtain ⟨e8_11, e23_11, -⟩ := hkeep
      simp [go_sem, e8_8, e9_8] at e8_11 e23_11
      clear e8_8 e9_8
      refine Wp.condF (by go_simp) ?_
      refine Wp.skip ?_
      refine thenK_normal ?_
      refine Wp.seqRegion (.inl rfl) (by kernel_rfl) fun K' gd hK hg => ?_
      clear hg
      go_simp
      refine hK _ _ ?_
      clear hK K' gd
      refine Wp.keep [4, 5, 6] fun r12 hkeep => ?_
      obtain ⟨e4_12, e5_12, e6_12, -⟩ := hkeep
      simp [go_sem, e8_11, e23_11] at e4_12 e5_12 e6_12
      clear e8_11 e23_11
      refine Wp.ret ?_
      refine endK_tmp3 Try.results59 (by decide) (by decide) (by decide) ?_
      rw [e4_12, e5_12, e6_12]
      have e : begE s c = 9 := by unfold begE okS; rw [if_pos h0, if_neg h1]
      exact ⟨_, by rw [e, h0]; rfl, by rw [if_pos e]; exact hI.less (by omega), xw⟩
  · skip
    refine Wp.seqRegion (.inl rfl) (by kernel_rfl) fun K' gd hK hg => ?_
    clear hg
    go_simp
    refine hK _ _ ?_
    clear hK K' gd
    refine Wp.keep [2, 3, 7, 14] fun r13 hkeep => ?_
    obtain ⟨e2_13, e3_13, e7_13, e14_13, -⟩ := hkeep
    simp [go_sem, e2_4, e3_4, e7_4] at e2_13 e3_13 e7_13 e14_13
    clear e2_4 e3_4 e7_4
    refine Wp.condT (by go_simp) ?_
    refine Wp.seqRegion (.inl rfl) (by kernel_rfl) fun K' gd hK hg => ?_
    clear hg
    go_simp
    refine hK _ _ ?_
    clear hK K' gd
    refine Wp.keep [4, 5, 6] fun r14 hkeep => ?_
    obtain ⟨e4_14, e5_14, e6_14, -⟩ := hkeep
    simp [go_sem, e2_13, e3_13, e7_13, e14_13] at e4_14 e5_14 e6_14
    clear e2_13 e3_13 e7_13 e14_13
    refine Wp.ret ?_
    refine thenK_ret ?_
    refine endK_tmp3 Try.results59 (by decide) (by decide) (by decide) ?_
    rw [e4_14, e5_14, e6_14]
    have e : begE s c = copyS s c := by unfold begE; rw [if_neg h0]
    have e9 : ¬ begE s c = 9 := by rw [e]; exact copyS_ne9
    exact ⟨_, by rw [decide_eq_false e9], by rw [if_neg e9]; exact IntsB.nil _ _, xw⟩
end Go.Proofs.Ytnjajbkkgfohaaa
namespace Go.Proofs.Ytnjajbkkgfohaaa
open Go.RowKit Go.Wk Go.Proofs
attribute [local irreducible] Go.Wk.Wops Go.Wk.Wp Go.Wk.Mtree Go.Wk.Mops
set_option maxHeartbeats 4000000
set_option maxRecDepth 20000

theorem indexZ_c (v : Value) (xs : List (Int × Int)) (p : Int × Int → Bool) (gf : Nat) (en : Value) (w : World) (hx : SpansV w w.heap.size v xs) (hl : xs.length ≤ 1000000000)
    (heg : ∀ args w, (callFunc gf args).run Try.prog w = .ok (.enter gf args) w)
    (hp : ∀ x W, Ext w W → CallsV Try.prog gf #[.agg #[.int .i64 x.1, .int .i64 x.2], en] W fun v W' => v = .bool (p x) ∧ Ext W W') :
    CallsV Try.prog 150 #[v, .func (.func gf) #[] #[en]] w fun v w' => ∃ r : Int, v = .int .i64 r ∧ decide (0 ≤ r) = xs.any p ∧ Ext w w' := by
  obtain ⟨A, c, rfl, -, -⟩ := id hx
  refine Wp.fn Try.func150 rfl Try.ntmps150 (by simp) ?_
  have xw := Ext.refl w
  refine Wp.keep [0, 1] fun r1 hkeep => ?_
  obtain ⟨e0_1, e1_1, -⟩ := hkeep
  simp [go_sem] at e0_1 e1_1
  refine Wp.seqRegion (.inl rfl) (by kernel_rfl) fun K' gd hK hg => ?_
  clear hg
  go_simp
  refine hK _ _ ?_
  clear hK K' gd
  refine Wp.keep [0, 1] fun r2 hkeep => ?_
  obtain ⟨e0_2, e1_2, -⟩ := hkeep
  simp [go_sem, e0_1, e1_1] at e0_2 e1_2
  clear e0_1 e1_1
  refine Wp.seq ?_
  refine Wp.seqRegion (.inl rfl) (by kernel_rfl) fun K' gd hK hg => ?_
  clear hg
  go_simp
  refine hK _ _ ?_
  clear hK K' gd
  refine Wp.keep [0, 1, 7, 8] fun r3 hkeep => ?_
  obtain ⟨e0_3, e1_3, e7_3, e8_3, -⟩ := hkeep
  simp [go_sem, e0_2, e1_2] at e0_3 e1_3 e7_3 e8_3
  clear e0_2 e1_2
  refine Wp.block ?_
  refine Wp.loop (fun k ρ ds wk => AllEq [0, 1, 7] ρ r3 ∧ ds = [] ∧ (Ext w wk) ∧ (ρ 8 = .int .i64 (k : Int) ∧ (xs.take k).any p = false)) (xs.length) ?_ ?_
  · refine ⟨AllEq.refl _ _, rfl, Ext.refl _, ?_⟩
    exact ⟨by rw [e8_3]; rfl, by simp⟩
  · rintro k r4 _ wk hk ⟨hA, rfl, xl1, ⟨e8, hn⟩⟩
    obtain ⟨e0_4, e1_4, e7_4, -⟩ := hA
    rw [e0_3] at e0_4
    rw [e1_3] at e1_4
    rw [e7_3] at e7_4
    have zxl1 := Below.size xl1
    replace xw := Ext.trans xw xl1
    refine Wp.seqRegion (.inl rfl) (by kernel_rfl) fun K' gd hK hg => ?_
    clear hg
    go_simp
    refine hK _ _ ?_
    clear hK K' gd
    refine Wp.keep [0, 1, 7, 8, 9] fun r5 hkeep => ?_
    obtain ⟨e0_5, e1_5, e7_5, e8_5, e9_5, -⟩ := hkeep
    simp [go_sem, e0_4, e1_4, e7_4, e8] at e0_5 e1_5 e7_5 e8_5 e9_5
    clear e0_4 e1_4 e7_4 e8
    refine Wp.seq ?_
    by_cases h : k < xs.length
    · refine Wp.condT (by go_simp) ?_
      obtain ⟨b, o, rfl, hb, y0, y1⟩ := SpansV.two hx h
      replace y0 := xw.cell y0
      replace y1 := xw.cell y1
      by_cases hq : p xs[k] = true
      · skip
        refine Wp.skip ?_
        refine thenK_normal ?_
        refine Wp.seq ?_
        refine Wp.block ?_
        refine Wp.seqRegion (.inl rfl) (by kernel_rfl) fun K' gd hK hg => ?_
        clear hg
        go_simp
        refine hK _ _ ?_
        clear hK K' gd
        refine Wp.keep [0, 1, 5, 7, 8] fun r6 hkeep => ?_
        obtain ⟨e0_6, e1_6, e5_6, e7_6, e8_6, -⟩ := hkeep
        simp [go_sem, e0_5, e1_5, e7_5, e8_5, e9_5] at e0_6 e1_6 e5_6 e7_6 e8_6
        clear e0_5 e1_5 e7_5 e8_5 e9_5
        refine Wp.seqRegion (.inl rfl) (by kernel_rfl) fun K' gd hK hg => ?_
        clear hg
        refine Wops.cut 6 fun K1 hK1 => ?_
        simp only [List.take_succ_cons, List.take_zero]
        go_simp
        refine Wcall (.inl rfl) (hp xs[k] _ xw) ?_
        rintro v w2 ⟨rfl, hE⟩
        go_simp
        refine hK1 _ _ ?_
        clear hK1 K1
        simp only [List.drop_succ_cons, List.drop_zero]
        have z7 := Below.size hE
        replace xw := Ext.trans xw hE
        replace xl1 := Ext.trans xl1 hE
        replace y0 := Ext.cell hE y0
        replace y1 := Ext.cell hE y1
        clear hE
        try simp only [Wops_nil, updO_some, updO_none]
        refine hK _ _ ?_
        clear hK K' gd
        refine Wp.keep [0, 1, 5, 7, 8, 16] fun r8 hkeep => ?_
        obtain ⟨e0_8, e1_8, e5_8, e7_8, e8_8, e16_8, -⟩ := hkeep
        simp [go_sem, e0_6, e1_6, e5_6, e7_6, e8_6] at e0_8 e1_8 e5_8 e7_8 e8_8 e16_8
        clear e0_6 e1_6 e5_6 e7_6 e8_6
        refine Wp.condT (by go_simp) ?_
        refine Wp.seqRegion (.inl rfl) (by kernel_rfl) fun K' gd hK hg => ?_
        clear hg
        go_simp
        refine hK _ _ ?_
        clear hK K' gd
        refine Wp.keep [4] fun r9 hkeep => ?_
        obtain ⟨e4_9, -⟩ := hkeep
        simp [go_sem, e0_8, e1_8, e5_8, e7_8, e8_8, e16_8] at e4_9
        clear e0_8 e1_8 e5_8 e7_8 e8_8 e16_8
        refine Wp.ret ?_
        refine blockK_ret ?_
        refine thenK_ret ?_
        refine thenK_ret ?_
        refine blockK_ret ?_
        refine thenK_ret ?_
        refine endK_tmp Try.results150 (by decide) ?_
        rw [e4_9]
        exact ⟨_, rfl, by rw [List.any_eq_true.2 ⟨xs[k], List.getElem_mem h, hq⟩]; simp, xw⟩
      · skip
        refine Wp.skip ?_
        refine thenK_normal ?_
        refine Wp.seq ?_
        refine Wp.block ?_
        refine Wp.seqRegion (.inl rfl) (by kernel_rfl) fun K' gd hK hg => ?_
        clear hg
        go_simp
        refine hK _ _ ?_
        clear hK K' gd
        refine Wp.keep [0, 1, 5, 7, 8] fun r10 hkeep => ?_
        obtain ⟨e0_10, e1_10, e5_10, e7_10, e8_10, -⟩ := hkeep
        simp [go_sem, e0_5, e1_5, e7_5, e8_5, e9_5] at e0_10 e1_10 e5_10 e7_10 e8_10
        clear e0_5 e1_5 e7_5 e8_5 e9_5
        refine Wp.seqRegion (.inl rfl) (by kernel_rfl) fun K' gd hK hg => ?_
        clear hg
        refine Wops.cut 6 fun K1 hK1 => ?_
        simp only [List.take_succ_cons, List.take_zero]
        go_simp
        refine Wcall (.inl rfl) (hp xs[k] _ xw) ?_
        rintro v w2 ⟨rfl, hE⟩
        go_simp
        refine hK1 _ _ ?_
        clear hK1 K1
        simp only [List.drop_succ_cons, List.drop_zero]
        have z11 := Below.size hE
        replace xw := Ext.trans xw hE
        replace xl1 := Ext.trans xl1 hE
        replace y0 := Ext.cell hE y0
        replace y1 := Ext.cell hE y1
        clear hE
        try simp only [Wops_nil, updO_some, updO_none]
        refine hK _ _ ?_
        clear hK K' gd
        refine Wp.keep [0, 1, 5, 7, 8, 16] fun r12 hkeep => ?_
        obtain ⟨e0_12, e1_12, e5_12, e7_12, e8_12, e16_12, -⟩ := hkeep
        simp [go_sem, e0_10, e1_10, e5_10, e7_10, e8_10] at e0_12 e1_12 e5_12 e7_12 e8_12 e16_12
        clear e0_10 e1_10 e5_10 e7_10 e8_10
        refine Wp.condF (by go_simp) ?_
        refine Wp.skip ?_
        refine blockK_normal ?_
        refine thenK_normal ?_
        refine Wp.loneRegion (.inl rfl) (by kernel_rfl) fun K' gd hK hg => ?_
        clear hg
        go_simp
        refine hK _ _ ?_
        clear hK K' gd
        refine Ends.keep [0, 1, 7, 8] fun r13 hkeep => ?_
        obtain ⟨e0_13, e1_13, e7_13, e8_13, -⟩ := hkeep
        simp [go_sem, e0_12, e1_12, e5_12, e7_12, e8_12, e16_12] at e0_13 e1_13 e7_13 e8_13
        clear e0_12 e1_12 e5_12 e7_12 e8_12 e16_12
        refine Ends.mk ?_
        refine thenK_normal ⟨by omega, ⟨by rw [e0_13, e0_3], by rw [e1_13, e1_3], by rw [e7_13, e7_3], trivial⟩, rfl, xl1, ?_⟩
        exact ⟨by rw [e8_13, IntWalk.i64_in _ (by omega)]; rfl, by rw [take_snoc h, List.any_append, hn]; simpa using hq⟩
    · refine Wp.condF (by go_simp) ?_
      obtain rfl : k = xs.length := by omega
      rw [List.take_length] at hn
      refine Wp.exit ?_
      refine thenK_exit ?_
      refine thenK_exit ?_
      refine blockK_here ?_
      refine thenK_normal ?_
      refine Wp.seqRegion (.inl rfl) (by kernel_rfl) fun K' gd hK hg => ?_
      clear hg
      go_simp
      refine hK _ _ ?_
      clear hK K' gd
      refine Wp.keep [4] fun r14 hkeep => ?_
      obtain ⟨e4_14, -⟩ := hkeep
      simp [go_sem, e0_5, e1_5, e7_5, e8_5, e9_5] at e4_14
      clear e0_5 e1_5 e7_5 e8_5 e9_5
      refine Wp.ret ?_
      refine endK_tmp Try.results150 (by decide) ?_
      rw [e4_14]
      exact ⟨_, rfl, by rw [hn]; rfl, xw⟩
theorem containsZ_c (v : Value) (xs : List (Int × Int)) (p : Int × Int → Bool) (gf : Nat) (en : Value) (w : World) (hx : SpansV w w.heap.size v xs) (hl : xs.length ≤ 1000000000)
    (heg : ∀ args w, (callFunc gf args).run Try.prog w = .ok (.enter gf args) w)
    (hp : ∀ x W, Ext w W → CallsV Try.prog gf #[.agg #[.int .i64 x.1, .int .i64 x.2], en] W fun v W' => v = .bool (p x) ∧ Ext W W') :
    CallsV Try.prog 125 #[v, .func (.func gf) #[] #[en]] w fun v w' => v = .bool (xs.any p) ∧ Ext w w' := by
  refine Wp.fn Try.func125 rfl Try.ntmps125 (by simp) ?_
  have xw := Ext.refl w
  refine Wp.keep [0, 1] fun r1 hkeep => ?_
  obtain ⟨e0_1, e1_1, -⟩ := hkeep
  simp [go_sem] at e0_1 e1_1
  refine Wp.seqRegion (.inl rfl) (by kernel_rfl) fun K' gd hK hg => ?_
  clear hg
  go_simp
  refine hK _ _ ?_
  clear hK K' gd
  refine Wp.keep [0, 1] fun r2 hkeep => ?_
  obtain ⟨e0_2, e1_2, -⟩ := hkeep
  simp [go_sem, e0_1, e1_1] at e0_2 e1_2
  clear e0_1 e1_1
  refine Wp.seqRegion (.inl rfl) (by kernel_rfl) fun K' gd hK hg => ?_
  clear hg
  refine Wops.cut 3 fun K1 hK1 => ?_
  simp only [List.take_succ_cons, List.take_zero]
  go_simp
  refine Wcall (.inl rfl) (indexZ_c v xs p gf en w hx hl heg hp) ?_
  rintro v w2 ⟨r, rfl, hr, hE⟩
  go_simp
  refine hK1 _ _ ?_
  clear hK1 K1
  simp only [List.drop_succ_cons, List.drop_zero]
  have z3 := Below.size hE
  replace xw := Ext.trans xw hE
  clear hE
  go_simp
  refine hK _ _ ?_
  clear hK K' gd
  refine Wp.keep [4] fun r4 hkeep => ?_
  obtain ⟨e4_4, -⟩ := hkeep
  simp [go_sem, e0_2, e1_2] at e4_4
  clear e0_2 e1_2
  refine Wp.ret ?_
  refine endK_tmp Try.results125 (by decide) ?_
  rw [e4_4]
  exact ⟨by rw [← hr], xw⟩
def inP (d : Int) (x : Int × Int) : Bool := decide (x.1 ≤ d ∧ d ≤ x.2)
instance (l : List (Int × Int)) (d : Int) : Decidable (inside l d) := by unfold inside; infer_instance
theorem inside_any (l : List (Int × Int)) (d : Int) : l.any (inP d) = decide (inside l d) := by
  by_cases h : inside l d
  · rw [decide_eq_true h, List.any_eq_true]
    obtain ⟨x, hx, h1⟩ := h
    exact ⟨x, hx, decide_eq_true h1⟩
  · rw [decide_eq_false h, Bool.eq_false_iff]
    intro h2
    rw [List.any_eq_true] at h2
    obtain ⟨x, hx, h1⟩ := h2
    exact h ⟨x, hx, of_decide_eq_true h1⟩
instance (m : Md) (i : Nat) (d : Int) : Decidable (m.can i d) := by unfold Md.can; infer_instance
theorem on1_c (x y day : Int) (q : Nat) (w : World) (hq : w.cell? ⟨q, 0, none⟩ = some (.int .i64 day)) :
    CallsV Try.prog 132 #[.agg #[.int .i64 x, .int .i64 y], .pointer (some ⟨q, 0, none⟩)] w fun v w' => v = .bool (inP day (x, y)) ∧ Ext w w' := by
  refine Wp.fn Try.func132 rfl Try.ntmps132 (by simp) ?_
  have xw := Ext.refl w
  refine Wp.keep [0, 1] fun r1 hkeep => ?_
  obtain ⟨e0_1, e1_1, -⟩ := hkeep
  simp [go_sem] at e0_1 e1_1
  refine Wp.seqRegion (.inl rfl) (by kernel_rfl) fun K' gd hK hg => ?_
  clear hg
  refine Wops.cut 1 fun K1 hK1 => ?_
  simp only [List.take_succ_cons, List.take_zero]
  go_simp
  refine hK1 _ _ ?_
  clear hK1 K1
  simp only [List.drop_succ_cons, List.drop_zero]
  refine Wops.absA fun V2_1 n2 hV2_1 => ?_
  obtain ⟨q2, hV2_1, s2, kV2_1, f2, r2⟩ := hV2_1
  try simp only [q2] at kV2_1 f2 r2 ⊢
  replace xw := Ext.trans xw hV2_1
  replace hq := Ext.cell hV2_1 hq
  have c2_0 := kV2_1 0 _ rfl
  have c2_1 := kV2_1 1 _ rfl
  clear kV2_1 hV2_1
  clear r2
  go_simp
  refine hK _ _ ?_
  clear hK K' gd
  refine Wp.keep [1, 2] fun r2 hkeep => ?_
  obtain ⟨e1_2, e2_2, -⟩ := hkeep
  simp [go_sem, e0_1, e1_1] at e1_2 e2_2
  clear e0_1 e1_1
  refine Wp.seqRegion (.inl rfl) (by kernel_rfl) fun K' gd hK hg => ?_
  clear hg
  refine Wops.cut 6 fun K1 hK1 => ?_
  simp only [List.take_succ_cons, List.take_zero]
  go_simp
  refine Wcall (.inl rfl) (within_E _ _ _ _) ?_
  rintro v w2 ⟨rfl, hE⟩
  go_simp
  refine hK1 _ _ ?_
  clear hK1 K1
  simp only [List.drop_succ_cons, List.drop_zero]
  have z3 := Below.size hE
  replace f2 := Ext.fz hE c2_0 f2
  replace xw := Ext.trans xw hE
  replace hq := Ext.cell hE hq
  replace c2_0 := Ext.cell hE c2_0
  replace c2_1 := Ext.cell hE c2_1
  clear hE
  go_simp
  refine hK _ _ ?_
  clear hK K' gd
  refine Wp.keep [3] fun r4 hkeep => ?_
  obtain ⟨e3_4, -⟩ := hkeep
  simp [go_sem, e1_2, e2_2] at e3_4
  clear e1_2 e2_2
  refine Wp.ret ?_
  refine endK_tmp Try.results132 (by decide) ?_
  rw [e3_4]
  exact ⟨by unfold inP; rw [Bool.decide_and], xw⟩
theorem on_c (v : Value) (m : Md) (i : Nat) (day : Int) (w : World) (hV : MadeV w w.heap.size v m) (hm : MdOk m) (hi : i < m.n) :
    CallsV Try.prog 92 #[v, .int .i64 (i : Int), .int .i64 day] w fun v w' => v = .bool (decide (m.can i day)) ∧ Ext w w' := by
  obtain ⟨wv, tv, rfl, ⟨A, c, rfl, -⟩, hT⟩ := hV
  obtain ⟨A2, c2, rfl, -⟩ := id hT
  have htl : i < m.tab.length := by rw [hm.len]; exact hi
  obtain ⟨b, o, u, rfl, hb, -, y0, hS⟩ := hT.row htl
  rw [Md.T_get htl] at hS
  obtain ⟨A3, c3, rfl, -, -⟩ := id hS
  have hin : (i : Int) < (m.tab.length : Int) := by omega
  clear hT
  refine Wp.fn Try.func92 rfl Try.ntmps92 (by simp) ?_
  have xw := Ext.refl w
  refine Wp.keep [0, 1, 2] fun r1 hkeep => ?_
  obtain ⟨e0_1, e1_1, e2_1, -⟩ := hkeep
  simp [go_sem] at e0_1 e1_1 e2_1
  refine Wp.seqRegion (.inl rfl) (by kernel_rfl) fun K' gd hK hg => ?_
  clear hg
  refine Wops.cut 1 fun K1 hK1 => ?_
  simp only [List.take_succ_cons, List.take_zero]
  go_simp
  refine hK1 _ _ ?_
  clear hK1 K1
  simp only [List.drop_succ_cons, List.drop_zero]
  refine Wops.absA fun V3_1 n3 hV3_1 => ?_
  obtain ⟨q3, hV3_1, s3, kV3_1, f3, r3⟩ := hV3_1
  try simp only [q3] at kV3_1 f3 r3 ⊢
  replace xw := Ext.trans xw hV3_1
  replace y0 := Ext.cell hV3_1 y0
  have c3_0 := kV3_1 0 _ rfl
  have c3_1 := kV3_1 1 _ rfl
  have c3_2 := kV3_1 2 _ rfl
  have c3_3 := kV3_1 3 _ rfl
  have c3_4 := kV3_1 4 _ rfl
  clear kV3_1 hV3_1
  clear r3
  refine Wops.cut 1 fun K1 hK1 => ?_
  simp only [List.take_succ_cons, List.take_zero]
  go_simp
  refine hK1 _ _ ?_
  clear hK1 K1
  simp only [List.drop_succ_cons, List.drop_zero]
  refine Wops.absA fun V5_2 n5 hV5_2 => ?_
  obtain ⟨q5, hV5_2, s5, kV5_2, f5, r5⟩ := hV5_2
  try simp only [q5] at kV5_2 f5 r5 ⊢
  replace f3 := Ext.fz hV5_2 c3_0 f3
  replace xw := Ext.trans xw hV5_2
  replace y0 := Ext.cell hV5_2 y0
  replace c3_0 := Ext.cell hV5_2 c3_0
  replace c3_1 := Ext.cell hV5_2 c3_1
  replace c3_2 := Ext.cell hV5_2 c3_2
  replace c3_3 := Ext.cell hV5_2 c3_3
  replace c3_4 := Ext.cell hV5_2 c3_4
  have c5_0 := kV5_2 0 _ rfl
  clear kV5_2 hV5_2
  clear r5
  go_simp
  refine hK _ _ ?_
  clear hK K' gd
  refine Wp.keep [1, 3, 5] fun r2 hkeep => ?_
  obtain ⟨e1_2, e3_2, e5_2, -⟩ := hkeep
  simp [go_sem, e0_1, e1_1, e2_1] at e1_2 e3_2 e5_2
  clear e0_1 e1_1 e2_1
  refine Wp.seqRegion (.inl rfl) (by kernel_rfl) fun K' gd hK hg => ?_
  clear hg
  refine Wops.cut 7 fun K1 hK1 => ?_
  simp only [List.take_succ_cons, List.take_zero]
  go_simp
  refine Wcall (.inl rfl) (containsZ_c _ (m.T i) (inP day) 132 (.pointer (some ⟨n5, 0, none⟩)) _ (hS.ext xw) (by have := hm.many i; omega) (enters_of Try.func132 (by kernel_rfl) rfl) (fun x W hW => on1_c x.1 x.2 day n5 W (hW.cell c5_0))) ?_
  rintro v w2 ⟨rfl, hE⟩
  go_simp
  refine hK1 _ _ ?_
  clear hK1 K1
  simp only [List.drop_succ_cons, List.drop_zero]
  have z3 := Below.size hE
  replace f3 := Ext.fz hE c3_0 f3
  replace f5 := Ext.fz hE c5_0 f5
  replace xw := Ext.trans xw hE
  replace y0 := Ext.cell hE y0
  replace c3_0 := Ext.cell hE c3_0
  replace c3_1 := Ext.cell hE c3_1
  replace c3_2 := Ext.cell hE c3_2
  replace c3_3 := Ext.cell hE c3_3
  replace c3_4 := Ext.cell hE c3_4
  replace c5_0 := Ext.cell hE c5_0
  clear hE
  go_simp
  refine hK _ _ ?_
  clear hK K' gd
  refine Wp.keep [6] fun r4 hkeep => ?_
  obtain ⟨e6_4, -⟩ := hkeep
  simp [go_sem, e1_2, e3_2, e5_2] at e6_4
  clear e1_2 e3_2 e5_2
  refine Wp.ret ?_
  refine endK_tmp Try.results92 (by decide) ?_
  rw [e6_4]
  exact ⟨by rw [inside_any]; rfl, xw⟩
theorem on_T {v : Value} {m : Md} {i : Nat} {day : Int} (h : m.can i day) (w : World) (hV : MadeV w w.heap.size v m) (hm : MdOk m) (hi : i < m.n) :
    CallsV Try.prog 92 #[v, .int .i64 (i : Int), .int .i64 day] w fun v w' => v = .bool true ∧ Ext w w' :=
  (on_c v m i day w hV hm hi).mono fun v w' ⟨h1, h2⟩ => ⟨by rw [h1, decide_eq_true h], h2⟩
theorem on_F {v : Value} {m : Md} {i : Nat} {day : Int} (h : ¬ m.can i day) (w : World) (hV : MadeV w w.heap.size v m) (hm : MdOk m) (hi : i < m.n) :
    CallsV Try.prog 92 #[v, .int .i64 (i : Int), .int .i64 day] w fun v w' => v = .bool false ∧ Ext w w' :=
  (on_c v m i day w hV hm hi).mono fun v w' ⟨h1, h2⟩ => ⟨by rw [h1, decide_eq_false h], h2⟩
def FitAt (m : Md) (dy : List Int) (i : Nat) : Prop := (m.c.b ≤ gI dy i ∧ gI dy i ≤ m.c.e) ∧ m.can i (gI dy i) ∧ fromD m.c.b m.c.p.toNat dy i ≤ gI dy i
instance (m : Md) (dy : List Int) (i : Nat) : Decidable (FitAt m dy i) := by unfold FitAt; infer_instance
def fitI (m : Md) (dy : List Int) : Option Nat := (List.range m.n).find? fun i => !decide (FitAt m dy i)
def fitE (s : Sh) (c : Cp) (dy : List Int) : Int := if copyS s c = 0 then (if dy.length = s.n then 0 else 1) else copyS s c
def fitR (s : Sh) (c : Cp) (dy : List Int) : Int × Bool := if fitE s c dy = 0 then (match fitI (s.md c) dy with | none => (0, true) | some i => ((i : Int), false)) else (0, false)
theorem fitI_some {m : Md} {dy : List Int} {k : Nat} (hk : k < m.n) (h : ∀ j, j < k → FitAt m dy j) (hn : ¬ FitAt m dy k) : fitI m dy = some k := by
  unfold fitI
  have e : List.range m.n = List.range k ++ (k :: (List.range (m.n - k - 1)).map fun i => k + 1 + i) := by
    rw [show m.n = k + (1 + (m.n - k - 1)) by omega, List.range_add, List.range_add]
    simp [Function.comp_def, Nat.add_assoc]
  rw [e, List.find?_append, List.find?_eq_none.2 (fun j hj => by simp [h j (List.mem_range.1 hj)]), List.find?_cons_of_pos (p := fun i => !decide (FitAt m dy i)) (by simp [hn])]
  rfl
theorem fitI_none {m : Md} {dy : List Int} : fitI m dy = none ↔ ∀ j, j < m.n → FitAt m dy j := by
  unfold fitI
  rw [List.find?_eq_none]
  constructor
  · intro h j hj; have := h j (List.mem_range.2 hj); simpa using this
  · intro h j hj; simpa using h j (List.mem_range.1 hj)
theorem Fits_c (v u dv : Value) (s : Sh) (c : Cp) (dy : List Int) (w : World) (hV : SheetV w w.heap.size v s) (hU : CopyV w w.heap.size u c) (hD : IntsV w w.heap.size dv dy) (hf : FitS s) (hg : FitC c) (hdl : dy.length ≤ 1000000000000000) :
    CallsV Try.prog 37 #[v, u, dv] w fun v w' => v = .tuple #[.int .i64 (fitR s c dy).1, .bool (fitR s c dy).2, .int .i64 (fitE s c dy)] ∧ Ext w w' := by
  obtain ⟨wv, av, rfl, ⟨A, c1, rfl, -, -⟩, ⟨A3, c3, rfl, -, -⟩⟩ := id hV
  obtain ⟨wu, rfl, hW⟩ := id hU
  obtain ⟨A2, c2, rfl, -, -⟩ := id hW
  obtain ⟨A4, c4, rfl, hx, -⟩ := id hD
  refine Wp.fn Try.func37 rfl Try.ntmps37 (by simp) ?_
  have xw := Ext.refl w
  refine Wp.keep [0, 1, 2] fun r1 hkeep => ?_
  obtain ⟨e0_1, e1_1, e2_1, -⟩ := hkeep
  simp [go_sem] at e0_1 e1_1 e2_1
  refine Wp.seqRegion (.inl rfl) (by kernel_rfl) fun K' gd hK hg => ?_
  clear hg
  refine Wops.cut 1 fun K1 hK1 => ?_
  simp only [List.take_succ_cons, List.take_zero]
  go_simp
  refine hK1 _ _ ?_
  clear hK1 K1
  simp only [List.drop_succ_cons, List.drop_zero]
  refine Wops.absA fun V3_1 n3 hV3_1 => ?_
  obtain ⟨q3, hV3_1, s3, kV3_1, f3, r3⟩ := hV3_1
  try simp only [q3] at kV3_1 f3 r3 ⊢
  replace xw := Ext.trans xw hV3_1
  have c3_0 := kV3_1 0 _ rfl
  have c3_1 := kV3_1 1 _ rfl
  clear kV3_1 hV3_1
  clear r3
  refine Wops.cut 1 fun K1 hK1 => ?_
  simp only [List.take_succ_cons, List.take_zero]
  go_simp
  refine hK1 _ _ ?_
  clear hK1 K1
  simp only [List.drop_succ_cons, List.drop_zero]
  refine Wops.absA fun V4_2 n4 hV4_2 => ?_
  obtain ⟨q4, hV4_2, s4, kV4_2, f4, r4⟩ := hV4_2
  try simp only [q4] at kV4_2 f4 r4 ⊢
  replace f3 := Ext.fz hV4_2 c3_0 f3
  replace xw := Ext.trans xw hV4_2
  replace c3_0 := Ext.cell hV4_2 c3_0
  replace c3_1 := Ext.cell hV4_2 c3_1
  have c4_0 := kV4_2 0 _ rfl
  have c4_1 := kV4_2 1 _ rfl
  have c4_2 := kV4_2 2 _ rfl
  have c4_3 := kV4_2 3 _ rfl
  clear kV4_2 hV4_2
  clear r4
  go_simp
  refine hK _ _ ?_
  clear hK K' gd
  refine Wp.keep [2, 3, 4] fun r2 hkeep => ?_
  obtain ⟨e2_2, e3_2, e4_2, -⟩ := hkeep
  simp [go_sem, e0_1, e1_1, e2_1] at e2_2 e3_2 e4_2
  clear e0_1 e1_1 e2_1
  refine Wp.seq ?_
  refine Wp.seqRegion (.inl rfl) (by kernel_rfl) fun K' gd hK hg => ?_
  clear hg
  refine Wops.cut 3 fun K1 hK1 => ?_
  simp only [List.take_succ_cons, List.take_zero]
  go_simp
  refine Wcall (.inl rfl) (copy_c _ _ s c _ (hV.ext xw) (hU.ext xw) hf hg) ?_
  rintro v w2 ⟨rfl, hE⟩
  go_simp
  refine hK1 _ _ ?_
  clear hK1 K1
  simp only [List.drop_succ_cons, List.drop_zero]
  have z3 := Below.size hE
  replace f3 := Ext.fz hE c3_0 f3
  replace f4 := Ext.fz hE c4_0 f4
  replace xw := Ext.trans xw hE
  replace c3_0 := Ext.cell hE c3_0
  replace c3_1 := Ext.cell hE c3_1
  replace c4_0 := Ext.cell hE c4_0
  replace c4_1 := Ext.cell hE c4_1
  replace c4_2 := Ext.cell hE c4_2
  replace c4_3 := Ext.cell hE c4_3
  clear hE
  go_simp
  refine hK _ _ ?_
  clear hK K' gd
  refine Wp.keep [2, 3, 4, 9] fun r4 hkeep => ?_
  obtain ⟨e2_4, e3_4, e4_4, e9_4, -⟩ := hkeep
  simp [go_sem, e2_2, e3_2, e4_2] at e2_4 e3_4 e4_4 e9_4
  clear e2_2 e3_2 e4_2
  by_cases h0 : copyS s c = 0
  · skip
    refine Wp.seqRegion (.inl rfl) (by kernel_rfl) fun K' gd hK hg => ?_
    clear hg
    go_simp
    refine hK _ _ ?_
    clear hK K' gd
    refine Wp.keep [2, 3, 4, 9, 17] fun r5 hkeep => ?_
    obtain ⟨e2_5, e3_5, e4_5, e9_5, e17_5, -⟩ := hkeep
    simp [go_sem, e2_4, e3_4, e4_4, e9_4] at e2_5 e3_5 e4_5 e9_5 e17_5
    clear e2_4 e3_4 e4_4 e9_4
    refine Wp.condF (by go_simp) ?_
    obtain ⟨hg0, hv0⟩ := copyS_zero.1 h0
    have hgd := checkS_zero.1 hg0
    have hmk := hgd.mdOk hv0
    by_cases hl : (dy.length : Int) = (s.words.length : Int)
    · skip
      refine Wp.skip ?_
      refine thenK_normal ?_
      refine Wp.seq ?_
      refine Wp.seqRegion (.inl rfl) (by kernel_rfl) fun K' gd hK hg => ?_
      clear hg
      go_simp
      refine hK _ _ ?_
      clear hK K' gd
      refine Wp.keep [2, 3, 4, 24] fun r6 hkeep => ?_
      obtain ⟨e2_6, e3_6, e4_6, e24_6, -⟩ := hkeep
      simp [go_sem, e2_5, e3_5, e4_5, e9_5, e17_5] at e2_6 e3_6 e4_6 e24_6
      clear e2_5 e3_5 e4_5 e9_5 e17_5
      refine Wp.condF (by go_simp) ?_
      refine Wp.skip ?_
      refine thenK_normal ?_
      refine Wp.seqRegion (.inl rfl) (by kernel_rfl) fun K' gd hK hg => ?_
      clear hg
      refine Wops.cut 3 fun K1 hK1 => ?_
      simp only [List.take_succ_cons, List.take_zero]
      go_simp
      refine Wcall (.inl rfl) (madeB_c _ _ s c _ (hV.ext xw) (hU.ext xw) hgd hv0) ?_
      rintro v w3 ⟨⟨wu, hwu, hM⟩, hE⟩
      injection hwu with hwu
      simp at hwu
      subst hwu
      obtain ⟨A6, n6, c6, rfl⟩ := hM.two
      go_simp
      refine hK1 _ _ ?_
      clear hK1 K1
      simp only [List.drop_succ_cons, List.drop_zero]
      have z7 := Below.size hE
      replace f3 := Ext.fz hE c3_0 f3
      replace f4 := Ext.fz hE c4_0 f4
      replace xw := Ext.trans xw hE
      replace c3_0 := Ext.cell hE c3_0
      replace c3_1 := Ext.cell hE c3_1
      replace c4_0 := Ext.cell hE c4_0
      replace c4_1 := Ext.cell hE c4_1
      replace c4_2 := Ext.cell hE c4_2
      replace c4_3 := Ext.cell hE c4_3
      clear hE
      refine Wops.cut 2 fun K1 hK1 => ?_
      simp only [List.take_succ_cons, List.take_zero]
      go_simp
      refine hK1 _ _ ?_
      clear hK1 K1
      simp only [List.drop_succ_cons, List.drop_zero]
      refine Wops.absA fun V10_3 n10 hV10_3 => ?_
      obtain ⟨q10, hV10_3, s10, kV10_3, f10, r10⟩ := hV10_3
      try simp only [q10] at kV10_3 f10 r10 ⊢
      replace f3 := Ext.fz hV10_3 c3_0 f3
      replace f4 := Ext.fz hV10_3 c4_0 f4
      replace hM := hM.ext hV10_3
      replace xw := Ext.trans xw hV10_3
      replace c3_0 := Ext.cell hV10_3 c3_0
      replace c3_1 := Ext.cell hV10_3 c3_1
      replace c4_0 := Ext.cell hV10_3 c4_0
      replace c4_1 := Ext.cell hV10_3 c4_1
      replace c4_2 := Ext.cell hV10_3 c4_2
      replace c4_3 := Ext.cell hV10_3 c4_3
      have c10_0 := kV10_3 0 _ rfl
      have c10_1 := kV10_3 1 _ rfl
      have c10_2 := kV10_3 2 _ rfl
      have c10_3 := kV10_3 3 _ rfl
      have c10_4 := kV10_3 4 _ rfl
      clear kV10_3 hV10_3
      clear r10
      try simp only [Wops_nil, updO_some, updO_none]
      refine hK _ _ ?_
      clear hK K' gd
      refine Wp.keep [2, 4, 10] fun r8 hkeep => ?_
      obtain ⟨e2_8, e4_8, e10_8, -⟩ := hkeep
      simp [go_sem, e2_6, e3_6, e4_6, e24_6] at e2_8 e4_8 e10_8
      clear e2_6 e3_6 e4_6 e24_6
      replace hl : ∃ _u : Unit, dy.length = s.words.length := ⟨(), by omega⟩
      obtain ⟨pn, hpn⟩ : ∃ pn : Nat, ∃ _u : Unit, c.p = (pn : Int) := ⟨c.p.toNat, (), by have := hmk.p1; exact (Int.toNat_of_nonneg (by have : 1 ≤ c.p := hmk.p1; omega)).symm⟩
      have hp12 : 1 ≤ pn ∧ pn ≤ 40 := by have h1 : 1 ≤ c.p := hmk.p1; have h2 : c.p ≤ 40 := hmk.p2; have := hpn.choose_spec; omega
      have hcl : ∃ _u : Unit, c.words.length = s.words.length := ⟨(), hv0.1⟩
      have hcn : (s.md c).n = c.words.length := rfl
      have hn40 : c.words.length ≤ 40 := hmk.n2
      have he730 : c.e ≤ 730 ∧ 0 ≤ c.b := ⟨hmk.e7, hmk.b0⟩
      refine Wp.seq ?_
      refine Wp.seqRegion (.inl rfl) (by kernel_rfl) fun K' gd hK hg => ?_
      clear hg
      go_simp
      refine hK _ _ ?_
      clear hK K' gd
      refine Wp.keep [2, 4, 10, 28, 29, 30] fun r9 hkeep => ?_
      obtain ⟨e2_9, e4_9, e10_9, e28_9, e29_9, e30_9, -⟩ := hkeep
      simp [go_sem, e2_8, e4_8, e10_8] at e2_9 e4_9 e10_9 e28_9 e29_9 e30_9
      clear e2_8 e4_8 e10_8
      refine Wp.block ?_
      refine Wp.loop (fun k ρ ds wk => AllEq [2, 4, 10, 28, 29] ρ r9 ∧ ds = [] ∧ (Ext V10_3 wk) ∧ (ρ 30 = .int .i64 (k : Int) ∧ (∃ _u : Unit, ∀ j, j < k → FitAt (s.md c) dy j))) (dy.length) ?_ ?_
      · refine ⟨AllEq.refl _ _, rfl, Ext.refl _, ?_⟩
        exact ⟨by rw [e30_9]; rfl, (), fun j hj => absurd hj (Nat.not_lt_zero _)⟩
      · rintro k r10 _ wk hk ⟨hA, rfl, xl4, ⟨e30, hF⟩⟩
        obtain ⟨e2_10, e4_10, e10_10, e28_10, e29_10, -⟩ := hA
        rw [e2_9] at e2_10
        rw [e4_9] at e4_10
        rw [e10_9] at e10_10
        rw [e28_9] at e28_10
        rw [e29_9] at e29_10
        have zxl4 := Below.size xl4
        replace f3 := Ext.fz xl4 c3_0 f3
        replace f4 := Ext.fz xl4 c4_0 f4
        replace f10 := Ext.fz xl4 c10_0 f10
        replace hM := hM.ext xl4
        replace xw := Ext.trans xw xl4
        replace c3_0 := Ext.cell xl4 c3_0
        replace c3_1 := Ext.cell xl4 c3_1
        replace c4_0 := Ext.cell xl4 c4_0
        replace c4_1 := Ext.cell xl4 c4_1
        replace c4_2 := Ext.cell xl4 c4_2
        replace c4_3 := Ext.cell xl4 c4_3
        replace c10_0 := Ext.cell xl4 c10_0
        replace c10_1 := Ext.cell xl4 c10_1
        replace c10_2 := Ext.cell xl4 c10_2
        replace c10_3 := Ext.cell xl4 c10_3
        replace c10_4 := Ext.cell xl4 c10_4
        refine Wp.seqRegion (.inl rfl) (by kernel_rfl) fun K' gd hK hg => ?_
        clear hg
        go_simp
        refine hK _ _ ?_
        clear hK K' gd
        refine Wp.keep [2, 4, 10, 28, 29, 30, 31] fun r11 hkeep => ?_
        obtain ⟨e2_11, e4_11, e10_11, e28_11, e29_11, e30_11, e31_11, -⟩ := hkeep
        simp [go_sem, e2_10, e4_10, e10_10, e28_10, e29_10, e30] at e2_11 e4_11 e10_11 e28_11 e29_11 e30_11 e31_11
        clear e2_10 e4_10 e10_10 e28_10 e29_10 e30
        refine Wp.seq ?_
        by_cases h : k < dy.length
        · refine Wp.condT (by go_simp) ?_
          obtain ⟨b, o, rfl, hb, hc⟩ := hx (by intro e; rw [e] at h; exact absurd h (Nat.not_lt_zero _))
          have d1 := xw.cell (hc k h)
          rw [← gI_lt h] at d1
          have hFk := hF.choose_spec
          have hln := hl.choose_spec
          have hbd : ∀ j, j < k → -1000 ≤ gI dy j ∧ gI dy j ≤ 1000 := fun j hj => by have q : c.b ≤ gI dy j ∧ gI dy j ≤ c.e := (hFk j hj).1; omega
          have hkn : k < (s.md c).n := by have := hcl.choose_spec; rw [hcn]; omega
          have hpn2 : ∃ _u : Unit, (s.md c).c.p = (pn : Int) := hpn
          have hpt : ∃ _u : Unit, (s.md c).c.p.toNat = pn := ⟨(), by rw [hpn2.choose_spec]; exact Int.toNat_natCast pn⟩
          have hno : ¬ FitAt (s.md c) dy k → ∃ _u : Unit, fitR s c dy = ((k : Int), false) ∧ fitE s c dy = 0 := fun hn => ⟨(), by have e : fitE s c dy = 0 := (by unfold fitE; rw [if_pos h0, if_pos (show dy.length = s.n from hln)]); exact ⟨by unfold fitR; rw [if_pos e, fitI_some hkn hFk hn], e⟩⟩
          clear hln hcn
          by_cases h1 : c.b ≤ gI dy k ∧ gI dy k ≤ c.e
          · skip
            by_cases h2 : (s.md c).can k (gI dy k)
            · skip
              by_cases h3 : gI dy k < fromD (s.md c).c.b pn dy k
              · skip
                refine Wp.skip ?_
                refine thenK_normal ?_
                refine Wp.seq ?_
                refine Wp.block ?_
                refine Wp.seqRegion (.inl rfl) (by kernel_rfl) fun K' gd hK hg => ?_
                clear hg
                go_simp
                refine hK _ _ ?_
                clear hK K' gd
                refine Wp.keep [2, 4, 10, 11, 12, 28, 29, 30] fun r12 hkeep => ?_
                obtain ⟨e2_12, e4_12, e10_12, e11_12, e12_12, e28_12, e29_12, e30_12, -⟩ := hkeep
                simp [go_sem, e2_11, e4_11, e10_11, e28_11, e29_11, e30_11, e31_11] at e2_12 e4_12 e10_12 e11_12 e12_12 e28_12 e29_12 e30_12
                clear e2_11 e4_11 e10_11 e28_11 e29_11 e30_11 e31_11
                refine Wp.seqRegion (.inl rfl) (by kernel_rfl) fun K' gd hK hg => ?_
                have g7 : gd 7 = some 42 := hg 7
                have g14 : gd 14 = some 49 := hg 14
                clear hg
                refine Wops.cut 6 fun K1 hK1 => ?_
                simp only [List.take_succ_cons, List.take_zero]
                go_simp
                refine Wcall (.inl rfl) (within_T h1 _) ?_
                rintro v w4 ⟨rfl, hE⟩
                go_simp
                refine hK1 _ _ ?_
                clear hK1 K1
                simp only [List.drop_succ_cons, List.drop_zero]
                have z13 := Below.size hE
                replace f3 := Ext.fz hE c3_0 f3
                replace f4 := Ext.fz hE c4_0 f4
                replace f10 := Ext.fz hE c10_0 f10
                replace hM := hM.ext hE
                replace xw := Ext.trans xw hE
                replace xl4 := Ext.trans xl4 hE
                replace c3_0 := Ext.cell hE c3_0
                replace c3_1 := Ext.cell hE c3_1
                replace c4_0 := Ext.cell hE c4_0
                replace c4_1 := Ext.cell hE c4_1
                replace c4_2 := Ext.cell hE c4_2
                replace c4_3 := Ext.cell hE c4_3
                replace c10_0 := Ext.cell hE c10_0
                replace c10_1 := Ext.cell hE c10_1
                replace c10_2 := Ext.cell hE c10_2
                replace c10_3 := Ext.cell hE c10_3
                replace c10_4 := Ext.cell hE c10_4
                replace d1 := Ext.cell hE d1
                clear hE
                refine Wops.cut 6 fun K1 hK1 => ?_
                simp only [List.take_succ_cons, List.take_zero]
                go_simp
                refine Wcall (.inl rfl) (on_T h2 _ (hM.made (hW.ext xw)) hmk hkn) ?_
                rintro v w5 ⟨rfl, hE⟩
                go_simp
                refine hK1 _ _ ?_
                clear hK1 K1
                simp only [List.drop_succ_cons, List.drop_zero]
                have z14 := Below.size hE
                replace f3 := Ext.fz hE c3_0 f3
                replace f4 := Ext.fz hE c4_0 f4
                replace f10 := Ext.fz hE c10_0 f10
                replace hM := hM.ext hE
                replace xw := Ext.trans xw hE
                replace xl4 := Ext.trans xl4 hE
                replace c3_0 := Ext.cell hE c3_0
                replace c3_1 := Ext.cell hE c3_1
                replace c4_0 := Ext.cell hE c4_0
                replace c4_1 := Ext.cell hE c4_1
                replace c4_2 := Ext.cell hE c4_2
                replace c4_3 := Ext.cell hE c4_3
                replace c10_0 := Ext.cell hE c10_0
                replace c10_1 := Ext.cell hE c10_1
                replace c10_2 := Ext.cell hE c10_2
                replace c10_3 := Ext.cell hE c10_3
                replace c10_4 := Ext.cell hE c10_4
                replace d1 := Ext.cell hE d1
                clear hE
                refine Wops.cut 8 fun K1 hK1 => ?_
                simp only [List.take_succ_cons, List.take_zero]
                go_simp
                refine Wcall (.inl rfl) (from_c _ _ (s.md c) dy k pn _ (hM.made (hW.ext xw)) (hD.ext xw) hpn2.choose_spec (by omega) (by omega) (by omega) (by have : (s.md c).n = c.words.length := rfl; omega) hbd) ?_
                rintro v w6 ⟨rfl, hE⟩
                go_simp
                refine hK1 _ _ ?_
                clear hK1 K1
                simp only [List.drop_succ_cons, List.drop_zero]
                have z15 := Below.size hE
                replace f3 := Ext.fz hE c3_0 f3
                replace f4 := Ext.fz hE c4_0 f4
                replace f10 := Ext.fz hE c10_0 f10
                replace hM := hM.ext hE
                replace xw := Ext.trans xw hE
                replace xl4 := Ext.trans xl4 hE
                replace c3_0 := Ext.cell hE c3_0
                replace c3_1 := Ext.cell hE c3_1
                replace c4_0 := Ext.cell hE c4_0
                replace c4_1 := Ext.cell hE c4_1
                replace c4_2 := Ext.cell hE c4_2
                replace c4_3 := Ext.cell hE c4_3
                replace c10_0 := Ext.cell hE c10_0
                replace c10_1 := Ext.cell hE c10_1
                replace c10_2 := Ext.cell hE c10_2
                replace c10_3 := Ext.cell hE c10_3
                replace c10_4 := Ext.cell hE c10_4
                replace d1 := Ext.cell hE d1
                clear hE
                go_simp
                refine hK _ _ ?_
                clear hK K' gd g7 g14
                refine Wp.keep [2, 4, 10, 11, 28, 29, 30, 56] fun r16 hkeep => ?_
                obtain ⟨e2_16, e4_16, e10_16, e11_16, e28_16, e29_16, e30_16, e56_16, -⟩ := hkeep
                simp [go_sem, e2_12, e4_12, e10_12, e11_12, e12_12, e28_12, e29_12, e30_12] at e2_16 e4_16 e10_16 e11_16 e28_16 e29_16 e30_16 e56_16
                clear e2_12 e4_12 e10_12 e11_12 e12_12 e28_12 e29_12 e30_12
                refine Wp.condT (by go_simp) ?_
                refine Wp.seqRegion (.inl rfl) (by kernel_rfl) fun K' gd hK hg => ?_
                clear hg
                go_simp
                refine hK _ _ ?_
                clear hK K' gd
                refine Wp.keep [6, 7, 8] fun r17 hkeep => ?_
                obtain ⟨e6_17, e7_17, e8_17, -⟩ := hkeep
                simp [go_sem, e2_16, e4_16, e10_16, e11_16, e28_16, e29_16, e30_16, e56_16] at e6_17 e7_17 e8_17
                clear e2_16 e4_16 e10_16 e11_16 e28_16 e29_16 e30_16 e56_16
                refine Wp.ret ?_
                refine blockK_ret ?_
                refine thenK_ret ?_
                refine thenK_ret ?_
                refine blockK_ret ?_
                refine thenK_ret ?_
                refine endK_tmp3 Try.results37 (by decide) (by decide) (by decide) ?_
                rw [e6_17, e7_17, e8_17]
                obtain ⟨-, e1, e2⟩ := hno (fun q => by have := q.2.2; rw [hpt.choose_spec] at this; omega)
                exact ⟨by rw [e1, e2], xw⟩
              · skip
                refine Wp.skip ?_
                refine thenK_normal ?_
                refine Wp.seq ?_
                refine Wp.block ?_
                refine Wp.seqRegion (.inl rfl) (by kernel_rfl) fun K' gd hK hg => ?_
                clear hg
                go_simp
                refine hK _ _ ?_
                clear hK K' gd
                refine Wp.keep [2, 4, 10, 11, 12, 28, 29, 30] fun r18 hkeep => ?_
                obtain ⟨e2_18, e4_18, e10_18, e11_18, e12_18, e28_18, e29_18, e30_18, -⟩ := hkeep
                simp [go_sem, e2_11, e4_11, e10_11, e28_11, e29_11, e30_11, e31_11] at e2_18 e4_18 e10_18 e11_18 e12_18 e28_18 e29_18 e30_18
                clear e2_11 e4_11 e10_11 e28_11 e29_11 e30_11 e31_11
                refine Wp.seqRegion (.inl rfl) (by kernel_rfl) fun K' gd hK hg => ?_
                have g7 : gd 7 = some 42 := hg 7
                have g14 : gd 14 = some 49 := hg 14
                clear hg
                refine Wops.cut 6 fun K1 hK1 => ?_
                simp only [List.take_succ_cons, List.take_zero]
                go_simp
                refine Wcall (.inl rfl) (within_T h1 _) ?_
                rintro v w4 ⟨rfl, hE⟩
                go_simp
                refine hK1 _ _ ?_
                clear hK1 K1
                simp only [List.drop_succ_cons, List.drop_zero]
                have z19 := Below.size hE
                replace f3 := Ext.fz hE c3_0 f3
                replace f4 := Ext.fz hE c4_0 f4
                replace f10 := Ext.fz hE c10_0 f10
                replace hM := hM.ext hE
                replace xw := Ext.trans xw hE
                replace xl4 := Ext.trans xl4 hE
                replace c3_0 := Ext.cell hE c3_0
                replace c3_1 := Ext.cell hE c3_1
                replace c4_0 := Ext.cell hE c4_0
                replace c4_1 := Ext.cell hE c4_1
                replace c4_2 := Ext.cell hE c4_2
                replace c4_3 := Ext.cell hE c4_3
                replace c10_0 := Ext.cell hE c10_0
                replace c10_1 := Ext.cell hE c10_1
                replace c10_2 := Ext.cell hE c10_2
                replace c10_3 := Ext.cell hE c10_3
                replace c10_4 := Ext.cell hE c10_4
                replace d1 := Ext.cell hE d1
                clear hE
                refine Wops.cut 6 fun K1 hK1 => ?_
                simp only [List.take_succ_cons, List.take_zero]
                go_simp
                refine Wcall (.inl rfl) (on_T h2 _ (hM.made (hW.ext xw)) hmk hkn) ?_
                rintro v w5 ⟨rfl, hE⟩
                go_simp
                refine hK1 _ _ ?_
                clear hK1 K1
                simp only [List.drop_succ_cons, List.drop_zero]
                have z20 := Below.size hE
                replace f3 := Ext.fz hE c3_0 f3
                replace f4 := Ext.fz hE c4_0 f4
                replace f10 := Ext.fz hE c10_0 f10
                replace hM := hM.ext hE
                replace xw := Ext.trans xw hE
                replace xl4 := Ext.trans xl4 hE
                replace c3_0 := Ext.cell hE c3_0
                replace c3_1 := Ext.cell hE c3_1
                replace c4_0 := Ext.cell hE c4_0
                replace c4_1 := Ext.cell hE c4_1
                replace c4_2 := Ext.cell hE c4_2
                replace c4_3 := Ext.cell hE c4_3
                replace c10_0 := Ext.cell hE c10_0
                replace c10_1 := Ext.cell hE c10_1
                replace c10_2 := Ext.cell hE c10_2
                replace c10_3 := Ext.cell hE c10_3
                replace c10_4 := Ext.cell hE c10_4
                replace d1 := Ext.cell hE d1
                clear hE
                refine Wops.cut 8 fun K1 hK1 => ?_
                simp only [List.take_succ_cons, List.take_zero]
                go_simp
                refine Wcall (.inl rfl) (from_c _ _ (s.md c) dy k pn _ (hM.made (hW.ext xw)) (hD.ext xw) hpn2.choose_spec (by omega) (by omega) (by omega) (by have : (s.md c).n = c.words.length := rfl; omega) hbd) ?_
                rintro v w6 ⟨rfl, hE⟩
                go_simp
                refine hK1 _ _ ?_
                clear hK1 K1
                simp only [List.drop_succ_cons, List.drop_zero]
                have z21 := Below.size hE
                replace f3 := Ext.fz hE c3_0 f3
                replace f4 := Ext.fz hE c4_0 f4
                replace f10 := Ext.fz hE c10_0 f10
                replace hM := hM.ext hE
                replace xw := Ext.trans xw hE
                replace xl4 := Ext.trans xl4 hE
                replace c3_0 := Ext.cell hE c3_0
                replace c3_1 := Ext.cell hE c3_1
                replace c4_0 := Ext.cell hE c4_0
                replace c4_1 := Ext.cell hE c4_1
                replace c4_2 := Ext.cell hE c4_2
                replace c4_3 := Ext.cell hE c4_3
                replace c10_0 := Ext.cell hE c10_0
                replace c10_1 := Ext.cell hE c10_1
                replace c10_2 := Ext.cell hE c10_2
                replace c10_3 := Ext.cell hE c10_3
                replace c10_4 := Ext.cell hE c10_4
                replace d1 := Ext.cell hE d1
                clear hE
                go_simp
                refine hK _ _ ?_
                clear hK K' gd g7 g14
                refine Wp.keep [2, 4, 10, 11, 28, 29, 30, 56] fun r22 hkeep => ?_
                obtain ⟨e2_22, e4_22, e10_22, e11_22, e28_22, e29_22, e30_22, e56_22, -⟩ := hkeep
                simp [go_sem, e2_18, e4_18, e10_18, e11_18, e12_18, e28_18, e29_18, e30_18] at e2_22 e4_22 e10_22 e11_22 e28_22 e29_22 e30_22 e56_22
                clear e2_18 e4_18 e10_18 e11_18 e12_18 e28_18 e29_18 e30_18
                refine Wp.condF (by go_simp) ?_
                refine Wp.skip ?_
                refine blockK_normal ?_
                refine thenK_normal ?_
                refine Wp.loneRegion (.inl rfl) (by kernel_rfl) fun K' gd hK hg => ?_
                clear hg
                go_simp
                refine hK _ _ ?_
                clear hK K' gd
                refine Ends.keep [2, 4, 10, 28, 29, 30] fun r23 hkeep => ?_
                obtain ⟨e2_23, e4_23, e10_23, e28_23, e29_23, e30_23, -⟩ := hkeep
                simp [go_sem, e2_22, e4_22, e10_22, e11_22, e28_22, e29_22, e30_22, e56_22] at e2_23 e4_23 e10_23 e28_23 e29_23 e30_23
                clear e2_22 e4_22 e10_22 e11_22 e28_22 e29_22 e30_22 e56_22
                refine Ends.mk ?_
                refine thenK_normal ⟨by omega, ⟨by rw [e2_23, e2_9], by rw [e4_23, e4_9], by rw [e10_23, e10_9], by rw [e28_23, e28_9], by rw [e29_23, e29_9], trivial⟩, rfl, xl4, ?_⟩
                exact ⟨by rw [e30_23, IntWalk.i64_in _ (by omega)]; rfl, (), fun j hj => by rcases Nat.lt_succ_iff_lt_or_eq.1 hj with hj | rfl; exact hFk j hj; exact ⟨h1, h2, by rw [hpt.choose_spec]; omega⟩⟩
            · skip
              refine Wp.skip ?_
              refine thenK_normal ?_
              refine Wp.seq ?_
              refine Wp.block ?_
              refine Wp.seqRegion (.inl rfl) (by kernel_rfl) fun K' gd hK hg => ?_
              clear hg
              go_simp
              refine hK _ _ ?_
              clear hK K' gd
              refine Wp.keep [2, 4, 10, 11, 12, 28, 29, 30] fun r24 hkeep => ?_
              obtain ⟨e2_24, e4_24, e10_24, e11_24, e12_24, e28_24, e29_24, e30_24, -⟩ := hkeep
              simp [go_sem, e2_11, e4_11, e10_11, e28_11, e29_11, e30_11, e31_11] at e2_24 e4_24 e10_24 e11_24 e12_24 e28_24 e29_24 e30_24
              clear e2_11 e4_11 e10_11 e28_11 e29_11 e30_11 e31_11
              refine Wp.seqRegion (.inl rfl) (by kernel_rfl) fun K' gd hK hg => ?_
              have g7 : gd 7 = some 42 := hg 7
              have g14 : gd 14 = some 49 := hg 14
              clear hg
              refine Wops.cut 6 fun K1 hK1 => ?_
              simp only [List.take_succ_cons, List.take_zero]
              go_simp
              refine Wcall (.inl rfl) (within_T h1 _) ?_
              rintro v w4 ⟨rfl, hE⟩
              go_simp
              refine hK1 _ _ ?_
              clear hK1 K1
              simp only [List.drop_succ_cons, List.drop_zero]
              have z25 := Below.size hE
              replace f3 := Ext.fz hE c3_0 f3
              replace f4 := Ext.fz hE c4_0 f4
              replace f10 := Ext.fz hE c10_0 f10
              replace hM := hM.ext hE
              replace xw := Ext.trans xw hE
              replace xl4 := Ext.trans xl4 hE
              replace c3_0 := Ext.cell hE c3_0
              replace c3_1 := Ext.cell hE c3_1
              replace c4_0 := Ext.cell hE c4_0
              replace c4_1 := Ext.cell hE c4_1
              replace c4_2 := Ext.cell hE c4_2
              replace c4_3 := Ext.cell hE c4_3
              replace c10_0 := Ext.cell hE c10_0
              replace c10_1 := Ext.cell hE c10_1
              replace c10_2 := Ext.cell hE c10_2
              replace c10_3 := Ext.cell hE c10_3
              replace c10_4 := Ext.cell hE c10_4
              replace d1 := Ext.cell hE d1
              clear hE
              refine Wops.cut 6 fun K1 hK1 => ?_
              simp only [List.take_succ_cons, List.take_zero]
              go_simp
              refine Wcall (.inl rfl) (on_F h2 _ (hM.made (hW.ext xw)) hmk hkn) ?_
              rintro v w5 ⟨rfl, hE⟩
              go_simp
              refine hK1 _ _ ?_
              clear hK1 K1
              simp only [List.drop_succ_cons, List.drop_zero]
              have z26 := Below.size hE
              replace f3 := Ext.fz hE c3_0 f3
              replace f4 := Ext.fz hE c4_0 f4
              replace f10 := Ext.fz hE c10_0 f10
              replace hM := hM.ext hE
              replace xw := Ext.trans xw hE
              replace xl4 := Ext.trans xl4 hE
              replace c3_0 := Ext.cell hE c3_0
              replace c3_1 := Ext.cell hE c3_1
              replace c4_0 := Ext.cell hE c4_0
              replace c4_1 := Ext.cell hE c4_1
              replace c4_2 := Ext.cell hE c4_2
              replace c4_3 := Ext.cell hE c4_3
              replace c10_0 := Ext.cell hE c10_0
              replace c10_1 := Ext.cell hE c10_1
              replace c10_2 := Ext.cell hE c10_2
              replace c10_3 := Ext.cell hE c10_3
              replace c10_4 := Ext.cell hE c10_4
              replace d1 := Ext.cell hE d1
              clear hE
              refine Wops.cut 8 fun K1 hK1 => ?_
              simp only [List.take_succ_cons, List.take_zero]
              go_simp
              refine hK1 _ _ ?_
              clear hK1 K1
              simp only [List.drop_succ_cons, List.drop_zero]
              go_simp
              refine hK _ _ ?_
              clear hK K' gd g7 g14
              refine Wp.keep [2, 4, 10, 11, 28, 29, 30, 56] fun r27 hkeep => ?_
              obtain ⟨e2_27, e4_27, e10_27, e11_27, e28_27, e29_27, e30_27, e56_27, -⟩ := hkeep
              simp [go_sem, e2_24, e4_24, e10_24, e11_24, e12_24, e28_24, e29_24, e30_24] at e2_27 e4_27 e10_27 e11_27 e28_27 e29_27 e30_27 e56_27
              clear e2_24 e4_24 e10_24 e11_24 e12_24 e28_24 e29_24 e30_24
              refine Wp.condT (by go_simp) ?_
              refine Wp.seqRegion (.inl rfl) (by kernel_rfl) fun K' gd hK hg => ?_
              clear hg
              go_simp
              refine hK _ _ ?_
              clear hK K' gd
              refine Wp.keep [6, 7, 8] fun r28 hkeep => ?_
              obtain ⟨e6_28, e7_28, e8_28, -⟩ := hkeep
              simp [go_sem, e2_27, e4_27, e10_27, e11_27, e28_27, e29_27, e30_27, e56_27] at e6_28 e7_28 e8_28
              clear e2_27 e4_27 e10_27 e11_27 e28_27 e29_27 e30_27 e56_27
              refine Wp.ret ?_
              refine blockK_ret ?_
              refine thenK_ret ?_
              refine thenK_ret ?_
              refine blockK_ret ?_
              refine thenK_ret ?_
              refine endK_tmp3 Try.results37 (by decide) (by decide) (by decide) ?_
              rw [e6_28, e7_28, e8_28]
              obtain ⟨-, e1, e2⟩ := hno (fun q => h2 q.2.1)
              exact ⟨by rw [e1, e2], xw⟩
          · skip
            refine Wp.skip ?_
            refine thenK_normal ?_
            refine Wp.seq ?_
            refine Wp.block ?_
            refine Wp.seqRegion (.inl rfl) (by kernel_rfl) fun K' gd hK hg => ?_
            clear hg
            go_simp
            refine hK _ _ ?_
            clear hK K' gd
            refine Wp.keep [2, 4, 10, 11, 12, 28, 29, 30] fun r29 hkeep => ?_
            obtain ⟨e2_29, e4_29, e10_29, e11_29, e12_29, e28_29, e29_29, e30_29, -⟩ := hkeep
            simp [go_sem, e2_11, e4_11, e10_11, e28_11, e29_11, e30_11, e31_11] at e2_29 e4_29 e10_29 e11_29 e12_29 e28_29 e29_29 e30_29
            clear e2_11 e4_11 e10_11 e28_11 e29_11 e30_11 e31_11
            refine Wp.seqRegion (.inl rfl) (by kernel_rfl) fun K' gd hK hg => ?_
            have g7 : gd 7 = some 42 := hg 7
            have g14 : gd 14 = some 49 := hg 14
            clear hg
            refine Wops.cut 6 fun K1 hK1 => ?_
            simp only [List.take_succ_cons, List.take_zero]
            go_simp
            refine Wcall (.inl rfl) (within_F h1 _) ?_
            rintro v w4 ⟨rfl, hE⟩
            go_simp
            refine hK1 _ _ ?_
            clear hK1 K1
            simp only [List.drop_succ_cons, List.drop_zero]
            have z30 := Below.size hE
            replace f3 := Ext.fz hE c3_0 f3
            replace f4 := Ext.fz hE c4_0 f4
            replace f10 := Ext.fz hE c10_0 f10
            replace hM := hM.ext hE
            replace xw := Ext.trans xw hE
            replace xl4 := Ext.trans xl4 hE
            replace c3_0 := Ext.cell hE c3_0
            replace c3_1 := Ext.cell hE c3_1
            replace c4_0 := Ext.cell hE c4_0
            replace c4_1 := Ext.cell hE c4_1
            replace c4_2 := Ext.cell hE c4_2
            replace c4_3 := Ext.cell hE c4_3
            replace c10_0 := Ext.cell hE c10_0
            replace c10_1 := Ext.cell hE c10_1
            replace c10_2 := Ext.cell hE c10_2
            replace c10_3 := Ext.cell hE c10_3
            replace c10_4 := Ext.cell hE c10_4
            replace d1 := Ext.cell hE d1
            clear hE
            refine Wops.cut 6 fun K1 hK1 => ?_
            simp only [List.take_succ_cons, List.take_zero]
            go_simp
            refine hK1 _ _ ?_
            clear hK1 K1
            simp only [List.drop_succ_cons, List.drop_zero]
            refine Wops.cut 8 fun K1 hK1 => ?_
            simp only [List.take_succ_cons, List.take_zero]
            go_simp
            refine hK1 _ _ ?_
            clear hK1 K1
            simp only [List.drop_succ_cons, List.drop_zero]
            go_simp
            refine hK _ _ ?_
            clear hK K' gd g7 g14
            refine Wp.keep [2, 4, 10, 11, 28, 29, 30, 56] fun r31 hkeep => ?_
            obtain ⟨e2_31, e4_31, e10_31, e11_31, e28_31, e29_31, e30_31, e56_31, -⟩ := hkeep
            simp [go_sem, e2_29, e4_29, e10_29, e11_29, e12_29, e28_29, e29_29, e30_29] at e2_31 e4_31 e10_31 e11_31 e28_31 e29_31 e30_31 e56_31
            clear e2_29 e4_29 e10_29 e11_29 e12_29 e28_29 e29_29 e30_29
            refine Wp.condT (by go_simp) ?_
            refine Wp.seqRegion (.inl rfl) (by kernel_rfl) fun K' gd hK hg => ?_
            clear hg
            go_simp
            refine hK _ _ ?_
            clear hK K' gd
            refine Wp.keep [6, 7, 8] fun r32 hkeep => ?_
            obtain ⟨e6_32, e7_32, e8_32, -⟩ := hkeep
            simp [go_sem, e2_31, e4_31, e10_31, e11_31, e28_31, e29_31, e30_31, e56_31] at e6_32 e7_32 e8_32
            clear e2_31 e4_31 e10_31 e11_31 e28_31 e29_31 e30_31 e56_31
            refine Wp.ret ?_
            refine blockK_ret ?_
            refine thenK_ret ?_
            refine thenK_ret ?_
            refine blockK_ret ?_
            refine thenK_ret ?_
            refine endK_tmp3 Try.results37 (by decide) (by decide) (by decide) ?_
            rw [e6_32, e7_32, e8_32]
            obtain ⟨-, e1, e2⟩ := hno (fun q => h1 q.1)
            exact ⟨by rw [e1, e2], xw⟩
        · refine Wp.condF (by go_simp) ?_
          obtain rfl : k = dy.length := by omega
          refine Wp.exit ?_
          refine thenK_exit ?_
          refine thenK_exit ?_
          refine blockK_here ?_
          refine thenK_normal ?_
          refine Wp.seqRegion (.inl rfl) (by kernel_rfl) fun K' gd hK hg => ?_
          clear hg
          go_simp
          refine hK _ _ ?_
          clear hK K' gd
          refine Wp.keep [6, 7, 8] fun r33 hkeep => ?_
          obtain ⟨e6_33, e7_33, e8_33, -⟩ := hkeep
          simp [go_sem, e2_11, e4_11, e10_11, e28_11, e29_11, e30_11, e31_11] at e6_33 e7_33 e8_33
          clear e2_11 e4_11 e10_11 e28_11 e29_11 e30_11 e31_11
          refine Wp.ret ?_
          refine endK_tmp3 Try.results37 (by decide) (by decide) (by decide) ?_
          rw [e6_33, e7_33, e8_33]
          have e : fitE s c dy = 0 := by unfold fitE; rw [if_pos h0, if_pos (show dy.length = s.n from hl.choose_spec)]
          have e2 : fitI (s.md c) dy = none := fitI_none.2 fun j hj => hF.choose_spec j (by have e9 : (s.md c).n = c.words.length := rfl; have := hl.choose_spec; have := hcl.choose_spec; omega)
          exact ⟨by unfold fitR; rw [if_pos e, e2, e], xw⟩
    · skip
      refine Wp.skip ?_
      refine thenK_normal ?_
      refine Wp.seq ?_
      refine Wp.seqRegion (.inl rfl) (by kernel_rfl) fun K' gd hK hg => ?_
      clear hg
      go_simp
      refine hK _ _ ?_
      clear hK K' gd
      refine Wp.keep [2, 3, 4, 24] fun r34 hkeep => ?_
      obtain ⟨e2_34, e3_34, e4_34, e24_34, -⟩ := hkeep
      simp [go_sem, e2_5, e3_5, e4_5, e9_5, e17_5] at e2_34 e3_34 e4_34 e24_34
      clear e2_5 e3_5 e4_5 e9_5 e17_5
      refine Wp.condT (by go_simp) ?_
      refine Wp.seqRegion (.inl rfl) (by kernel_rfl) fun K' gd hK hg => ?_
      clear hg
      go_simp
      refine hK _ _ ?_
      clear hK K' gd
      refine Wp.keep [6, 7, 8] fun r35 hkeep => ?_
      obtain ⟨e6_35, e7_35, e8_35, -⟩ := hkeep
      simp [go_sem, e2_34, e3_34, e4_34, e24_34] at e6_35 e7_35 e8_35
      clear e2_34 e3_34 e4_34 e24_34
      refine Wp.ret ?_
      refine thenK_ret ?_
      refine endK_tmp3 Try.results37 (by decide) (by decide) (by decide) ?_
      rw [e6_35, e7_35, e8_35]
      have e : fitE s c dy = 1 := by unfold fitE; rw [if_pos h0, if_neg (show ¬ dy.length = s.n from fun q => hl (congrArg Nat.cast q))]
      exact ⟨by unfold fitR; rw [if_neg (by rw [e]; decide), e], xw⟩
  · skip
    refine Wp.seqRegion (.inl rfl) (by kernel_rfl) fun K' gd hK hg => ?_
    clear hg
    go_simp
    refine hK _ _ ?_
    clear hK K' gd
    refine Wp.keep [2, 3, 4, 9, 17] fun r36 hkeep => ?_
    obtain ⟨e2_36, e3_36, e4_36, e9_36, e17_36, -⟩ := hkeep
    simp [go_sem, e2_4, e3_4, e4_4, e9_4] at e2_36 e3_36 e4_36 e9_36 e17_36
    clear e2_4 e3_4 e4_4 e9_4
    refine Wp.condT (by go_simp) ?_
    refine Wp.seqRegion (.inl rfl) (by kernel_rfl) fun K' gd hK hg => ?_
    clear hg
    go_simp
    refine hK _ _ ?_
    clear hK K' gd
    refine Wp.keep [6, 7, 8] fun r37 hkeep => ?_
    obtain ⟨e6_37, e7_37, e8_37, -⟩ := hkeep
    simp [go_sem, e2_36, e3_36, e4_36, e9_36, e17_36] at e6_37 e7_37 e8_37
    clear e2_36 e3_36 e4_36 e9_36 e17_36
    refine Wp.ret ?_
    refine thenK_ret ?_
    refine endK_tmp3 Try.results37 (by decide) (by decide) (by decide) ?_
    rw [e6_37, e7_37, e8_37]
    have e : fitE s c dy = copyS s c := by unfold fitE; rw [if_neg h0]
    exact ⟨by unfold fitR; rw [if_neg (by rw [e]; exact h0), e], xw⟩
end Go.Proofs.Ytnjajbkkgfohaaa
