/- Between. StateFollows. -/
import Derived.Test.YtnjajbkkgfohaaaQ13
set_option linter.all false
namespace Go.Proofs.Ytnjajbkkgfohaaa
open Go.RowKit Go.Wk Go.Proofs
attribute [local irreducible] Go.Wk.Wops Go.Wk.Wp Go.Wk.Mtree Go.Wk.Mops
set_option maxHeartbeats 8000000
set_option maxRecDepth 20000

theorem IntsB.two {w X : World} {base p q : Nat} {a b v : Value} {xs : List Int} (h : IntsB w base v xs) (hE : Ext w X) (hp : p < base ∨ w.heap.size ≤ p) (hq : q < base ∨ w.heap.size ≤ q) : IntsB ((X.setCell ⟨p, 0, none⟩ a).setCell ⟨q, 0, none⟩ b) base v xs := by
  obtain ⟨A, c, rfl, hx, hl⟩ := h
  have hC : Chg [p, q] X ((X.setCell ⟨p, 0, none⟩ a).setCell ⟨q, 0, none⟩ b) := ((Chg.refl [p, q] X).setC (by simp)).setC (by simp)
  refine ⟨A, c, rfl, fun hne => ?_, hl⟩
  obtain ⟨g, o, h1, h2, h3, h4⟩ := hx hne
  have hs := Below.size hE
  have hs2 := hC.size
  exact ⟨g, o, h1, h2, by omega, fun k hk => Chg.cell hC (hE.cell (h4 k hk)) (by intro hm; simp at hm; omega)⟩
theorem bet1_c (a : Alt) (q r : Nat) (fv gv : Value) (f b : List Int) (w : World) (hq : w.cell? ⟨q, 0, none⟩ = some fv) (hr : w.cell? ⟨r, 0, none⟩ = some gv) (hl : IntsV w w.heap.size fv f) (hm : IntsV w w.heap.size gv b) (ha : 0 ≤ a.tu ∧ a.tu < (f.length : Int)) (hfb : f.length = b.length) :
    CallsV Try.prog 104 (#[altV a] ++ #[.pointer (some ⟨q, 0, none⟩), .pointer (some ⟨r, 0, none⟩)]) w fun v w' => v = .bool (betP f b a) ∧ Ext w w' := by
  show CallsV _ _ #[.agg #[.int .i64 a.id, .int .i64 a.kind, .int .i64 a.day, .int .i64 a.frm, .int .i64 a.tu, .int .i64 a.word], .pointer (some ⟨q, 0, none⟩), .pointer (some ⟨r, 0, none⟩)] _ _
  obtain ⟨n, hn⟩ : ∃ n : Nat, a.tu = (n : Int) := ⟨a.tu.toNat, by omega⟩
  have hs : ∃ _u : Unit, betP f b a = (decide (a.day ≤ gI f n) && decide (gI b n < a.day)) := ⟨(), by unfold betP; rw [hn]; rfl⟩
  rw [hn]
  have hnl : n < f.length := by omega
  have hnb : n < b.length := by omega
  obtain ⟨g, o, c, rfl, hb, hc⟩ := hl.get hnl
  obtain ⟨g2, o2, c2, rfl, hb2, hc2⟩ := hm.get hnb
  have y0 := hc n hnl
  have y1 := hc2 n hnb
  have i1 : (n : Int) < (f.length : Int) := by omega
  have i2 : (n : Int) < (b.length : Int) := by omega
  clear hc hc2 hn hfb ha
  refine Wp.fn Try.func104 rfl Try.ntmps104 (by simp) ?_
  have xw := Ext.refl w
  refine Wp.keep [0, 1, 2] fun r1 hkeep => ?_
  obtain ⟨e0_1, e1_1, e2_1, -⟩ := hkeep
  simp [go_sem] at e0_1 e1_1 e2_1
  by_cases h1 : a.day ≤ gI f n
  · skip
    refine Wp.seqRegion (.inl rfl) (by kernel_rfl) fun K' gd hK hg => ?_
    clear hg
    refine Wops.cut 1 fun K1 hK1 => ?_
    simp only [List.take_succ_cons, List.take_zero]
    go_simp
    refine hK1 _ _ ?_
    clear hK1 K1
    simp only [List.drop_succ_cons, List.drop_zero]
    refine Wops.absA fun V3_1 n3 hV3_1 => ?_
    obtain ⟨q3, hV3_1, s3, kV3_1, f3, r3⟩ := hV3_1
    try simp only [q3] at kV3_1 f3 r3 ⊢
    replace xw := Ext.trans xw hV3_1
    replace hq := Ext.cell hV3_1 hq
    replace hr := Ext.cell hV3_1 hr
    replace y0 := Ext.cell hV3_1 y0
    replace y1 := Ext.cell hV3_1 y1
    have c3_0 := kV3_1 0 _ rfl
    have c3_1 := kV3_1 1 _ rfl
    have c3_2 := kV3_1 2 _ rfl
    have c3_3 := kV3_1 3 _ rfl
    have c3_4 := kV3_1 4 _ rfl
    have c3_5 := kV3_1 5 _ rfl
    clear kV3_1 hV3_1
    clear r3
    go_simp
    refine hK _ _ ?_
    clear hK K' gd
    refine Wp.keep [1, 2, 3] fun r2 hkeep => ?_
    obtain ⟨e1_2, e2_2, e3_2, -⟩ := hkeep
    simp [go_sem, e0_1, e1_1, e2_1] at e1_2 e2_2 e3_2
    clear e0_1 e1_1 e2_1
    refine Wp.seqDraw (.inl rfl) mixed [([0, 1, 2, 3, 4], none), ([5, 6, 7, 8], none), ([9, 10, 11, 12, 13], none), ([14, 15, 16, 17, 18], none)] (by kernel_rfl) fun K' gd hK hg => ?_
    have g8 : gd 8 = some 13 := hg 8
    clear hg
    simp only [pick, nth, List.map_cons, List.map_nil, Option.map_none, Option.map_some]
    refine Mops.absD fun D2 hD2 zD2 => ?_
    replace f3 := Ext.fz hD2 c3_0 f3
    replace xw := Ext.trans xw hD2
    replace hq := Ext.cell hD2 hq
    replace hr := Ext.cell hD2 hr
    replace y0 := Ext.cell hD2 y0
    replace y1 := Ext.cell hD2 y1
    replace c3_0 := Ext.cell hD2 c3_0
    replace c3_1 := Ext.cell hD2 c3_1
    replace c3_2 := Ext.cell hD2 c3_2
    replace c3_3 := Ext.cell hD2 c3_3
    replace c3_4 := Ext.cell hD2 c3_4
    replace c3_5 := Ext.cell hD2 c3_5
    clear hD2
    apply Mops.none
    · intro w' hE'
      have hC' := hE'.cellsS
      go_simp
      with_reducible rfl
    apply Mops.none
    · intro w' hE'
      have hC' := hE'.cellsS
      go_simp
      with_reducible rfl
    apply Mops.none
    · intro w' hE'
      have hC' := hE'.cellsS
      go_simp
      with_reducible rfl
    apply Mops.none
    · intro w' hE'
      have hC' := hE'.cellsS
      go_simp
      with_reducible rfl
    refine Mops.done ?_
    refine hK _ _ ?_
    clear hK K' gd g8
    refine Wp.keep [4] fun r3 hkeep => ?_
    obtain ⟨e4_3, -⟩ := hkeep
    simp [go_sem, e1_2, e2_2, e3_2] at e4_3
    clear e1_2 e2_2 e3_2
    refine Wp.ret ?_
    refine endK_tmp Try.results104 (by decide) ?_
    rw [e4_3]
    exact ⟨by rw [hs.choose_spec, decide_eq_true h1]; rfl, xw⟩
  · skip
    refine Wp.seqRegion (.inl rfl) (by kernel_rfl) fun K' gd hK hg => ?_
    clear hg
    refine Wops.cut 1 fun K1 hK1 => ?_
    simp only [List.take_succ_cons, List.take_zero]
    go_simp
    refine hK1 _ _ ?_
    clear hK1 K1
    simp only [List.drop_succ_cons, List.drop_zero]
    refine Wops.absA fun V3_3 n3 hV3_3 => ?_
    obtain ⟨q3, hV3_3, s3, kV3_3, f3, r3⟩ := hV3_3
    try simp only [q3] at kV3_3 f3 r3 ⊢
    replace xw := Ext.trans xw hV3_3
    replace hq := Ext.cell hV3_3 hq
    replace hr := Ext.cell hV3_3 hr
    replace y0 := Ext.cell hV3_3 y0
    replace y1 := Ext.cell hV3_3 y1
    have c3_0 := kV3_3 0 _ rfl
    have c3_1 := kV3_3 1 _ rfl
    have c3_2 := kV3_3 2 _ rfl
    have c3_3 := kV3_3 3 _ rfl
    have c3_4 := kV3_3 4 _ rfl
    have c3_5 := kV3_3 5 _ rfl
    clear kV3_3 hV3_3
    clear r3
    go_simp
    refine hK _ _ ?_
    clear hK K' gd
    refine Wp.keep [1, 2, 3] fun r4 hkeep => ?_
    obtain ⟨e1_4, e2_4, e3_4, -⟩ := hkeep
    simp [go_sem, e0_1, e1_1, e2_1] at e1_4 e2_4 e3_4
    clear e0_1 e1_1 e2_1
    refine Wp.seqDraw (.inl rfl) mixed [([0, 1, 2, 3, 4], none), ([5, 6, 7, 8], none), ([9, 10, 11, 12, 13], none), ([14, 15, 16, 17, 18], none)] (by kernel_rfl) fun K' gd hK hg => ?_
    have g8 : gd 8 = some 13 := hg 8
    clear hg
    simp only [pick, nth, List.map_cons, List.map_nil, Option.map_none, Option.map_some]
    refine Mops.absD fun D4 hD4 zD4 => ?_
    replace f3 := Ext.fz hD4 c3_0 f3
    replace xw := Ext.trans xw hD4
    replace hq := Ext.cell hD4 hq
    replace hr := Ext.cell hD4 hr
    replace y0 := Ext.cell hD4 y0
    replace y1 := Ext.cell hD4 y1
    replace c3_0 := Ext.cell hD4 c3_0
    replace c3_1 := Ext.cell hD4 c3_1
    replace c3_2 := Ext.cell hD4 c3_2
    replace c3_3 := Ext.cell hD4 c3_3
    replace c3_4 := Ext.cell hD4 c3_4
    replace c3_5 := Ext.cell hD4 c3_5
    clear hD4
    apply Mops.none
    · intro w' hE'
      have hC' := hE'.cellsS
      go_simp
      with_reducible rfl
    apply Mops.none
    · intro w' hE'
      have hC' := hE'.cellsS
      go_simp
      with_reducible rfl
    apply Mops.none
    · intro w' hE'
      have hC' := hE'.cellsS
      go_simp
      with_reducible rfl
    apply Mops.none
    · intro w' hE'
      have hC' := hE'.cellsS
      go_simp
      with_reducible rfl
    refine Mops.done ?_
    refine hK _ _ ?_
    clear hK K' gd g8
    refine Wp.keep [4] fun r5 hkeep => ?_
    obtain ⟨e4_5, -⟩ := hkeep
    simp [go_sem, e1_4, e2_4, e3_4] at e4_5
    clear e1_4 e2_4 e3_4
    refine Wp.ret ?_
    refine endK_tmp Try.results104 (by decide) ?_
    rw [e4_5]
    exact ⟨by rw [hs.choose_spec, decide_eq_false h1]; rfl, xw⟩
theorem bet2_c (a : Alt) (q r : Nat) (fv gv : Value) (f b : List Int) (w : World) (hq : w.cell? ⟨q, 0, none⟩ = some fv) (hr : w.cell? ⟨r, 0, none⟩ = some gv) (hl : IntsV w w.heap.size fv f) (hm : IntsV w w.heap.size gv b) (ha : 0 ≤ a.tu ∧ a.tu < (f.length : Int)) (hfb : f.length = b.length) :
    CallsV Try.prog 105 (#[altV a] ++ #[.pointer (some ⟨q, 0, none⟩), .pointer (some ⟨r, 0, none⟩)]) w fun v w' => v = .bool (betP f b a) ∧ Ext w w' := by
  show CallsV _ _ #[.agg #[.int .i64 a.id, .int .i64 a.kind, .int .i64 a.day, .int .i64 a.frm, .int .i64 a.tu, .int .i64 a.word], .pointer (some ⟨q, 0, none⟩), .pointer (some ⟨r, 0, none⟩)] _ _
  obtain ⟨n, hn⟩ : ∃ n : Nat, a.tu = (n : Int) := ⟨a.tu.toNat, by omega⟩
  have hs : ∃ _u : Unit, betP f b a = (decide (a.day ≤ gI f n) && decide (gI b n < a.day)) := ⟨(), by unfold betP; rw [hn]; rfl⟩
  rw [hn]
  have hnl : n < f.length := by omega
  have hnb : n < b.length := by omega
  obtain ⟨g, o, c, rfl, hb, hc⟩ := hl.get hnl
  obtain ⟨g2, o2, c2, rfl, hb2, hc2⟩ := hm.get hnb
  have y0 := hc n hnl
  have y1 := hc2 n hnb
  have i1 : (n : Int) < (f.length : Int) := by omega
  have i2 : (n : Int) < (b.length : Int) := by omega
  clear hc hc2 hn hfb ha
  refine Wp.fn Try.func105 rfl Try.ntmps105 (by simp) ?_
  have xw := Ext.refl w
  refine Wp.keep [0, 1, 2] fun r1 hkeep => ?_
  obtain ⟨e0_1, e1_1, e2_1, -⟩ := hkeep
  simp [go_sem] at e0_1 e1_1 e2_1
  by_cases h1 : a.day ≤ gI f n
  · skip
    refine Wp.seqRegion (.inl rfl) (by kernel_rfl) fun K' gd hK hg => ?_
    clear hg
    refine Wops.cut 1 fun K1 hK1 => ?_
    simp only [List.take_succ_cons, List.take_zero]
    go_simp
    refine hK1 _ _ ?_
    clear hK1 K1
    simp only [List.drop_succ_cons, List.drop_zero]
    refine Wops.absA fun V3_1 n3 hV3_1 => ?_
    obtain ⟨q3, hV3_1, s3, kV3_1, f3, r3⟩ := hV3_1
    try simp only [q3] at kV3_1 f3 r3 ⊢
    replace xw := Ext.trans xw hV3_1
    replace hq := Ext.cell hV3_1 hq
    replace hr := Ext.cell hV3_1 hr
    replace y0 := Ext.cell hV3_1 y0
    replace y1 := Ext.cell hV3_1 y1
    have c3_0 := kV3_1 0 _ rfl
    have c3_1 := kV3_1 1 _ rfl
    have c3_2 := kV3_1 2 _ rfl
    have c3_3 := kV3_1 3 _ rfl
    have c3_4 := kV3_1 4 _ rfl
    have c3_5 := kV3_1 5 _ rfl
    clear kV3_1 hV3_1
    clear r3
    go_simp
    refine hK _ _ ?_
    clear hK K' gd
    refine Wp.keep [1, 2, 3] fun r2 hkeep => ?_
    obtain ⟨e1_2, e2_2, e3_2, -⟩ := hkeep
    simp [go_sem, e0_1, e1_1, e2_1] at e1_2 e2_2 e3_2
    clear e0_1 e1_1 e2_1
    refine Wp.seqDraw (.inl rfl) mixed [([0, 1, 2, 3, 4], none), ([5, 6, 7, 8], none), ([9, 10, 11, 12, 13], none), ([14, 15, 16, 17, 18], none)] (by kernel_rfl) fun K' gd hK hg => ?_
    have g8 : gd 8 = some 13 := hg 8
    clear hg
    simp only [pick, nth, List.map_cons, List.map_nil, Option.map_none, Option.map_some]
    refine Mops.absD fun D2 hD2 zD2 => ?_
    replace f3 := Ext.fz hD2 c3_0 f3
    replace xw := Ext.trans xw hD2
    replace hq := Ext.cell hD2 hq
    replace hr := Ext.cell hD2 hr
    replace y0 := Ext.cell hD2 y0
    replace y1 := Ext.cell hD2 y1
    replace c3_0 := Ext.cell hD2 c3_0
    replace c3_1 := Ext.cell hD2 c3_1
    replace c3_2 := Ext.cell hD2 c3_2
    replace c3_3 := Ext.cell hD2 c3_3
    replace c3_4 := Ext.cell hD2 c3_4
    replace c3_5 := Ext.cell hD2 c3_5
    clear hD2
    apply Mops.none
    · intro w' hE'
      have hC' := hE'.cellsS
      go_simp
      with_reducible rfl
    apply Mops.none
    · intro w' hE'
      have hC' := hE'.cellsS
      go_simp
      with_reducible rfl
    apply Mops.none
    · intro w' hE'
      have hC' := hE'.cellsS
      go_simp
      with_reducible rfl
    apply Mops.none
    · intro w' hE'
      have hC' := hE'.cellsS
      go_simp
      with_reducible rfl
    refine Mops.done ?_
    refine hK _ _ ?_
    clear hK K' gd g8
    refine Wp.keep [4] fun r3 hkeep => ?_
    obtain ⟨e4_3, -⟩ := hkeep
    simp [go_sem, e1_2, e2_2, e3_2] at e4_3
    clear e1_2 e2_2 e3_2
    refine Wp.ret ?_
    refine endK_tmp Try.results105 (by decide) ?_
    rw [e4_3]
    exact ⟨by rw [hs.choose_spec, decide_eq_true h1]; rfl, xw⟩
  · skip
    refine Wp.seqRegion (.inl rfl) (by kernel_rfl) fun K' gd hK hg => ?_
    clear hg
    refine Wops.cut 1 fun K1 hK1 => ?_
    simp only [List.take_succ_cons, List.take_zero]
    go_simp
    refine hK1 _ _ ?_
    clear hK1 K1
    simp only [List.drop_succ_cons, List.drop_zero]
    refine Wops.absA fun V3_3 n3 hV3_3 => ?_
    obtain ⟨q3, hV3_3, s3, kV3_3, f3, r3⟩ := hV3_3
    try simp only [q3] at kV3_3 f3 r3 ⊢
    replace xw := Ext.trans xw hV3_3
    replace hq := Ext.cell hV3_3 hq
    replace hr := Ext.cell hV3_3 hr
    replace y0 := Ext.cell hV3_3 y0
    replace y1 := Ext.cell hV3_3 y1
    have c3_0 := kV3_3 0 _ rfl
    have c3_1 := kV3_3 1 _ rfl
    have c3_2 := kV3_3 2 _ rfl
    have c3_3 := kV3_3 3 _ rfl
    have c3_4 := kV3_3 4 _ rfl
    have c3_5 := kV3_3 5 _ rfl
    clear kV3_3 hV3_3
    clear r3
    go_simp
    refine hK _ _ ?_
    clear hK K' gd
    refine Wp.keep [1, 2, 3] fun r4 hkeep => ?_
    obtain ⟨e1_4, e2_4, e3_4, -⟩ := hkeep
    simp [go_sem, e0_1, e1_1, e2_1] at e1_4 e2_4 e3_4
    clear e0_1 e1_1 e2_1
    refine Wp.seqDraw (.inl rfl) mixed [([0, 1, 2, 3, 4], none), ([5, 6, 7, 8], none), ([9, 10, 11, 12, 13], none), ([14, 15, 16, 17, 18], none)] (by kernel_rfl) fun K' gd hK hg => ?_
    have g8 : gd 8 = some 13 := hg 8
    clear hg
    simp only [pick, nth, List.map_cons, List.map_nil, Option.map_none, Option.map_some]
    refine Mops.absD fun D4 hD4 zD4 => ?_
    replace f3 := Ext.fz hD4 c3_0 f3
    replace xw := Ext.trans xw hD4
    replace hq := Ext.cell hD4 hq
    replace hr := Ext.cell hD4 hr
    replace y0 := Ext.cell hD4 y0
    replace y1 := Ext.cell hD4 y1
    replace c3_0 := Ext.cell hD4 c3_0
    replace c3_1 := Ext.cell hD4 c3_1
    replace c3_2 := Ext.cell hD4 c3_2
    replace c3_3 := Ext.cell hD4 c3_3
    replace c3_4 := Ext.cell hD4 c3_4
    replace c3_5 := Ext.cell hD4 c3_5
    clear hD4
    apply Mops.none
    · intro w' hE'
      have hC' := hE'.cellsS
      go_simp
      with_reducible rfl
    apply Mops.none
    · intro w' hE'
      have hC' := hE'.cellsS
      go_simp
      with_reducible rfl
    apply Mops.none
    · intro w' hE'
      have hC' := hE'.cellsS
      go_simp
      with_reducible rfl
    apply Mops.none
    · intro w' hE'
      have hC' := hE'.cellsS
      go_simp
      with_reducible rfl
    refine Mops.done ?_
    refine hK _ _ ?_
    clear hK K' gd g8
    refine Wp.keep [4] fun r5 hkeep => ?_
    obtain ⟨e4_5, -⟩ := hkeep
    simp [go_sem, e1_4, e2_4, e3_4] at e4_5
    clear e1_4 e2_4 e3_4
    refine Wp.ret ?_
    refine endK_tmp Try.results105 (by decide) ?_
    rw [e4_5]
    exact ⟨by rw [hs.choose_spec, decide_eq_false h1]; rfl, xw⟩
theorem Between_c (v u t : Value) (s : Sh) (c d : Cp) (w : World) (hV : SheetV w w.heap.size v s) (hU : CopyV w w.heap.size u c) (hT : CopyV w w.heap.size t d) (hf : FitS s) (hg : FitC c) (hh : FitC d) (hal : befE s c d = 0 → s.alts.length ≤ 12) :
    CallsV Try.prog 50 #[v, u, t] w fun v w' => ∃ x y, v = .tuple #[x, y, .int .i64 (befE s c d)] ∧ IntsB w' w.heap.size x (if befE s c d = 0 then idsS s (betP (s.md d).first (s.md c).last) else []) ∧
      IntsB w' w.heap.size y (if befE s c d = 0 then idsS s (betP (s.md d).last (s.md c).first) else []) ∧ Ext w w' := by
  obtain ⟨wv, av, rfl, ⟨A, c1, rfl, -, -⟩, ⟨A3, c3, rfl, -, -⟩⟩ := id hV
  obtain ⟨wu, rfl, hW⟩ := id hU
  obtain ⟨A2, c2, rfl, -, -⟩ := id hW
  obtain ⟨wt, rfl, hX⟩ := id hT
  obtain ⟨A4, c4, rfl, -, -⟩ := id hX
  refine Wp.fn Try.func50 rfl Try.ntmps50 (by simp) ?_
  have xw := Ext.refl w
  refine Wp.keep [0, 1, 2] fun r1 hkeep => ?_
  obtain ⟨e0_1, e1_1, e2_1, -⟩ := hkeep
  simp [go_sem] at e0_1 e1_1 e2_1
  refine Wp.seqRegion (.inl rfl) (by kernel_rfl) fun K' gd hK hg => ?_
  clear hg
  refine Wops.cut 1 fun K1 hK1 => ?_
  simp only [List.take_succ_cons, List.take_zero]
  go_simp
  refine hK1 _ _ ?_
  clear hK1 K1
  simp only [List.drop_succ_cons, List.drop_zero]
  refine Wops.absA fun V3_1 n3 hV3_1 => ?_
  obtain ⟨q3, hV3_1, s3, kV3_1, f3, r3⟩ := hV3_1
  try simp only [q3] at kV3_1 f3 r3 ⊢
  replace xw := Ext.trans xw hV3_1
  have c3_0 := kV3_1 0 _ rfl
  have c3_1 := kV3_1 1 _ rfl
  clear kV3_1 hV3_1
  clear r3
  refine Wops.cut 1 fun K1 hK1 => ?_
  simp only [List.take_succ_cons, List.take_zero]
  go_simp
  refine hK1 _ _ ?_
  clear hK1 K1
  simp only [List.drop_succ_cons, List.drop_zero]
  refine Wops.absA fun V4_2 n4 hV4_2 => ?_
  obtain ⟨q4, hV4_2, s4, kV4_2, f4, r4⟩ := hV4_2
  try simp only [q4] at kV4_2 f4 r4 ⊢
  replace f3 := Ext.fz hV4_2 c3_0 f3
  replace xw := Ext.trans xw hV4_2
  replace c3_0 := Ext.cell hV4_2 c3_0
  replace c3_1 := Ext.cell hV4_2 c3_1
  have c4_0 := kV4_2 0 _ rfl
  have c4_1 := kV4_2 1 _ rfl
  have c4_2 := kV4_2 2 _ rfl
  have c4_3 := kV4_2 3 _ rfl
  clear kV4_2 hV4_2
  clear r4
  refine Wops.cut 1 fun K1 hK1 => ?_
  simp only [List.take_succ_cons, List.take_zero]
  go_simp
  refine hK1 _ _ ?_
  clear hK1 K1
  simp only [List.drop_succ_cons, List.drop_zero]
  refine Wops.absA fun V5_3 n5 hV5_3 => ?_
  obtain ⟨q5, hV5_3, s5, kV5_3, f5, r5⟩ := hV5_3
  try simp only [q5] at kV5_3 f5 r5 ⊢
  replace f3 := Ext.fz hV5_3 c3_0 f3
  replace f4 := Ext.fz hV5_3 c4_0 f4
  replace xw := Ext.trans xw hV5_3
  replace c3_0 := Ext.cell hV5_3 c3_0
  replace c3_1 := Ext.cell hV5_3 c3_1
  replace c4_0 := Ext.cell hV5_3 c4_0
  replace c4_1 := Ext.cell hV5_3 c4_1
  replace c4_2 := Ext.cell hV5_3 c4_2
  replace c4_3 := Ext.cell hV5_3 c4_3
  have c5_0 := kV5_3 0 _ rfl
  have c5_1 := kV5_3 1 _ rfl
  have c5_2 := kV5_3 2 _ rfl
  have c5_3 := kV5_3 3 _ rfl
  clear kV5_3 hV5_3
  clear r5
  go_simp
  refine hK _ _ ?_
  clear hK K' gd
  refine Wp.keep [3, 4, 5] fun r2 hkeep => ?_
  obtain ⟨e3_2, e4_2, e5_2, -⟩ := hkeep
  simp [go_sem, e0_1, e1_1, e2_1] at e3_2 e4_2 e5_2
  clear e0_1 e1_1 e2_1
  refine Wp.seq ?_
  refine Wp.seqRegion (.inl rfl) (by kernel_rfl) fun K' gd hK hg => ?_
  clear hg
  refine Wops.cut 3 fun K1 hK1 => ?_
  simp only [List.take_succ_cons, List.take_zero]
  go_simp
  refine Wcall (.inl rfl) (copy_c _ _ s c _ (hV.ext xw) (hU.ext xw) hf hg) ?_
  rintro v w2 ⟨rfl, hE⟩
  go_simp
  refine hK1 _ _ ?_
  clear hK1 K1
  simp only [List.drop_succ_cons, List.drop_zero]
  have z3 := Below.size hE
  replace f3 := Ext.fz hE c3_0 f3
  replace f4 := Ext.fz hE c4_0 f4
  replace f5 := Ext.fz hE c5_0 f5
  replace xw := Ext.trans xw hE
  replace c3_0 := Ext.cell hE c3_0
  replace c3_1 := Ext.cell hE c3_1
  replace c4_0 := Ext.cell hE c4_0
  replace c4_1 := Ext.cell hE c4_1
  replace c4_2 := Ext.cell hE c4_2
  replace c4_3 := Ext.cell hE c4_3
  replace c5_0 := Ext.cell hE c5_0
  replace c5_1 := Ext.cell hE c5_1
  replace c5_2 := Ext.cell hE c5_2
  replace c5_3 := Ext.cell hE c5_3
  clear hE
  go_simp
  refine hK _ _ ?_
  clear hK K' gd
  refine Wp.keep [3, 4, 5, 9] fun r4 hkeep => ?_
  obtain ⟨e3_4, e4_4, e5_4, e9_4, -⟩ := hkeep
  simp [go_sem, e3_2, e4_2, e5_2] at e3_4 e4_4 e5_4 e9_4
  clear e3_2 e4_2 e5_2
  by_cases k1 : copyS s c = 0
  · skip
    refine Wp.seqRegion (.inl rfl) (by kernel_rfl) fun K' gd hK hg => ?_
    clear hg
    go_simp
    refine hK _ _ ?_
    clear hK K' gd
    refine Wp.keep [3, 4, 5, 9, 24] fun r5 hkeep => ?_
    obtain ⟨e3_5, e4_5, e5_5, e9_5, e24_5, -⟩ := hkeep
    simp [go_sem, e3_4, e4_4, e5_4, e9_4] at e3_5 e4_5 e5_5 e9_5 e24_5
    clear e3_4 e4_4 e5_4 e9_4
    refine Wp.condF (by go_simp) ?_
    refine Wp.skip ?_
    refine thenK_normal ?_
    refine Wp.seq ?_
    refine Wp.seqRegion (.inl rfl) (by kernel_rfl) fun K' gd hK hg => ?_
    clear hg
    refine Wops.cut 3 fun K1 hK1 => ?_
    simp only [List.take_succ_cons, List.take_zero]
    go_simp
    refine Wcall (.inl rfl) (copy_c _ _ s d _ (hV.ext xw) (hT.ext xw) hf hh) ?_
    rintro v w3 ⟨rfl, hE⟩
    go_simp
    refine hK1 _ _ ?_
    clear hK1 K1
    simp only [List.drop_succ_cons, List.drop_zero]
    have z6 := Below.size hE
    replace f3 := Ext.fz hE c3_0 f3
    replace f4 := Ext.fz hE c4_0 f4
    replace f5 := Ext.fz hE c5_0 f5
    replace xw := Ext.trans xw hE
    replace c3_0 := Ext.cell hE c3_0
    replace c3_1 := Ext.cell hE c3_1
    replace c4_0 := Ext.cell hE c4_0
    replace c4_1 := Ext.cell hE c4_1
    replace c4_2 := Ext.cell hE c4_2
    replace c4_3 := Ext.cell hE c4_3
    replace c5_0 := Ext.cell hE c5_0
    replace c5_1 := Ext.cell hE c5_1
    replace c5_2 := Ext.cell hE c5_2
    replace c5_3 := Ext.cell hE c5_3
    clear hE
    go_simp
    refine hK _ _ ?_
    clear hK K' gd
    refine Wp.keep [3, 4, 5, 10] fun r7 hkeep => ?_
    obtain ⟨e3_7, e4_7, e5_7, e10_7, -⟩ := hkeep
    simp [go_sem, e3_5, e4_5, e5_5, e9_5, e24_5] at e3_7 e4_7 e5_7 e10_7
    clear e3_5 e4_5 e5_5 e9_5 e24_5
    by_cases k2 : copyS s d = 0
    · skip
      refine Wp.seqRegion (.inl rfl) (by kernel_rfl) fun K' gd hK hg => ?_
      clear hg
      go_simp
      refine hK _ _ ?_
      clear hK K' gd
      refine Wp.keep [3, 4, 5, 10, 30] fun r8 hkeep => ?_
      obtain ⟨e3_8, e4_8, e5_8, e10_8, e30_8, -⟩ := hkeep
      simp [go_sem, e3_7, e4_7, e5_7, e10_7] at e3_8 e4_8 e5_8 e10_8 e30_8
      clear e3_7 e4_7 e5_7 e10_7
      refine Wp.condF (by go_simp) ?_
      refine Wp.skip ?_
      refine thenK_normal ?_
      refine Wp.seqRegion (.inl rfl) (by kernel_rfl) fun K' gd hK hg => ?_
      clear hg
      refine Wops.cut 3 fun K1 hK1 => ?_
      simp only [List.take_succ_cons, List.take_zero]
      go_simp
      refine Wcall (.inl rfl) (begun_c _ _ s c _ (hV.ext xw) (hU.ext xw) hf hg) ?_
      rintro v w4 ⟨B1, b2, b3, b4, b5, b6, B2, b7, b8, dv, rfl, hM, hI, hE⟩
      have xc := Ext.refl w4
      obtain ⟨A6, n6, c6, rfl⟩ : ∃ A n c, dv = .slice A n c := by obtain ⟨A, c, e⟩ := hI.slice; exact ⟨A, _, c, e⟩
      go_simp
      refine hK1 _ _ ?_
      clear hK1 K1
      simp only [List.drop_succ_cons, List.drop_zero]
      have z9 := Below.size hE
      replace f3 := Ext.fz hE c3_0 f3
      replace f4 := Ext.fz hE c4_0 f4
      replace f5 := Ext.fz hE c5_0 f5
      replace xw := Ext.trans xw hE
      replace c3_0 := Ext.cell hE c3_0
      replace c3_1 := Ext.cell hE c3_1
      replace c4_0 := Ext.cell hE c4_0
      replace c4_1 := Ext.cell hE c4_1
      replace c4_2 := Ext.cell hE c4_2
      replace c4_3 := Ext.cell hE c4_3
      replace c5_0 := Ext.cell hE c5_0
      replace c5_1 := Ext.cell hE c5_1
      replace c5_2 := Ext.cell hE c5_2
      replace c5_3 := Ext.cell hE c5_3
      clear hE
      refine Wops.cut 5 fun K1 hK1 => ?_
      simp only [List.take_succ_cons, List.take_zero]
      go_simp
      refine hK1 _ _ ?_
      clear hK1 K1
      simp only [List.drop_succ_cons, List.drop_zero]
      refine Wops.absA fun V11_5 n11 hV11_5 => ?_
      obtain ⟨q11, hV11_5, s11, kV11_5, f11, r11⟩ := hV11_5
      try simp only [q11] at kV11_5 f11 r11 ⊢
      replace f3 := Ext.fz hV11_5 c3_0 f3
      replace f4 := Ext.fz hV11_5 c4_0 f4
      replace f5 := Ext.fz hV11_5 c5_0 f5
      replace xw := Ext.trans xw hV11_5
      replace xc := Ext.trans xc hV11_5
      replace c3_0 := Ext.cell hV11_5 c3_0
      replace c3_1 := Ext.cell hV11_5 c3_1
      replace c4_0 := Ext.cell hV11_5 c4_0
      replace c4_1 := Ext.cell hV11_5 c4_1
      replace c4_2 := Ext.cell hV11_5 c4_2
      replace c4_3 := Ext.cell hV11_5 c4_3
      replace c5_0 := Ext.cell hV11_5 c5_0
      replace c5_1 := Ext.cell hV11_5 c5_1
      replace c5_2 := Ext.cell hV11_5 c5_2
      replace c5_3 := Ext.cell hV11_5 c5_3
      have c11_0 := kV11_5 0 _ rfl
      have c11_1 := kV11_5 1 _ rfl
      have c11_2 := kV11_5 2 _ rfl
      have c11_3 := kV11_5 3 _ rfl
      have c11_4 := kV11_5 4 _ rfl
      clear kV11_5 hV11_5
      clear r11
      refine Wops.cut 1 fun K1 hK1 => ?_
      simp only [List.take_succ_cons, List.take_zero]
      go_simp
      refine hK1 _ _ ?_
      clear hK1 K1
      simp only [List.drop_succ_cons, List.drop_zero]
      refine Wops.absA fun V12_6 n12 hV12_6 => ?_
      obtain ⟨q12, hV12_6, s12, kV12_6, f12, r12⟩ := hV12_6
      try simp only [q12] at kV12_6 f12 r12 ⊢
      replace f3 := Ext.fz hV12_6 c3_0 f3
      replace f4 := Ext.fz hV12_6 c4_0 f4
      replace f5 := Ext.fz hV12_6 c5_0 f5
      replace f11 := Ext.fz hV12_6 c11_0 f11
      replace xw := Ext.trans xw hV12_6
      replace xc := Ext.trans xc hV12_6
      replace c3_0 := Ext.cell hV12_6 c3_0
      replace c3_1 := Ext.cell hV12_6 c3_1
      replace c4_0 := Ext.cell hV12_6 c4_0
      replace c4_1 := Ext.cell hV12_6 c4_1
      replace c4_2 := Ext.cell hV12_6 c4_2
      replace c4_3 := Ext.cell hV12_6 c4_3
      replace c5_0 := Ext.cell hV12_6 c5_0
      replace c5_1 := Ext.cell hV12_6 c5_1
      replace c5_2 := Ext.cell hV12_6 c5_2
      replace c5_3 := Ext.cell hV12_6 c5_3
      replace c11_0 := Ext.cell hV12_6 c11_0
      replace c11_1 := Ext.cell hV12_6 c11_1
      replace c11_2 := Ext.cell hV12_6 c11_2
      replace c11_3 := Ext.cell hV12_6 c11_3
      replace c11_4 := Ext.cell hV12_6 c11_4
      have c12_0 := kV12_6 0 _ rfl
      clear kV12_6 hV12_6
      clear r12
      refine Wops.cut 1 fun K1 hK1 => ?_
      simp only [List.take_succ_cons, List.take_zero]
      go_simp
      refine hK1 _ _ ?_
      clear hK1 K1
      simp only [List.drop_succ_cons, List.drop_zero]
      refine Wops.absS (b := n11) (i := 0) [_, _, _, _, _] (somes [cellVal c11_0, cellVal c11_1, cellVal c11_2, cellVal c11_3, cellVal c11_4] (by simp) (by intro j v hj; match j, hj with | 0, hj => (simp at hj; subst hj; exact c11_0) | 1, hj => (simp at hj; subst hj; exact c11_1) | 2, hj => (simp at hj; subst hj; exact c11_2) | 3, hj => (simp at hj; subst hj; exact c11_3) | 4, hj => (simp at hj; subst hj; exact c11_4))) fun P7 hP7 => ?_
      have zP7 := hP7.same
      replace f3 := Put.frz hP7 f3
      replace f4 := Put.frz hP7 f4
      replace f5 := Put.frz hP7 f5
      replace f11 := Put.frz hP7 f11
      replace f12 := Put.frz hP7 f12
      replace xw := Put.to xw hP7 (by omega)
      replace xc := Put.to xc hP7 (by omega)
      replace c3_0 := Put.cell hP7 c3_0 (by omega)
      replace c3_1 := Put.cell hP7 c3_1 (by omega)
      replace c4_0 := Put.cell hP7 c4_0 (by omega)
      replace c4_1 := Put.cell hP7 c4_1 (by omega)
      replace c4_2 := Put.cell hP7 c4_2 (by omega)
      replace c4_3 := Put.cell hP7 c4_3 (by omega)
      replace c5_0 := Put.cell hP7 c5_0 (by omega)
      replace c5_1 := Put.cell hP7 c5_1 (by omega)
      replace c5_2 := Put.cell hP7 c5_2 (by omega)
      replace c5_3 := Put.cell hP7 c5_3 (by omega)
      clear c11_0
      clear c11_1
      clear c11_2
      clear c11_3
      clear c11_4
      replace c12_0 := Put.cell hP7 c12_0 (by omega)
      have c11_0 := hP7.new 0 _ rfl
      try simp only [Nat.reduceAdd, Nat.zero_add, Nat.add_zero] at c11_0
      have c11_1 := hP7.new 1 _ rfl
      try simp only [Nat.reduceAdd, Nat.zero_add, Nat.add_zero] at c11_1
      have c11_2 := hP7.new 2 _ rfl
      try simp only [Nat.reduceAdd, Nat.zero_add, Nat.add_zero] at c11_2
      have c11_3 := hP7.new 3 _ rfl
      try simp only [Nat.reduceAdd, Nat.zero_add, Nat.add_zero] at c11_3
      have c11_4 := hP7.new 4 _ rfl
      try simp only [Nat.reduceAdd, Nat.zero_add, Nat.add_zero] at c11_4
      clear hP7
      refine Wops.cut 1 fun K1 hK1 => ?_
      simp only [List.take_succ_cons, List.take_zero]
      go_simp
      refine hK1 _ _ ?_
      clear hK1 K1
      simp only [List.drop_succ_cons, List.drop_zero]
      refine Wops.absS (b := n12) (i := 0) [_] (somes [cellVal c12_0] (by simp) (by intro j v hj; match j, hj with | 0, hj => (simp at hj; subst hj; exact c12_0))) fun P8 hP8 => ?_
      have zP8 := hP8.same
      replace f3 := Put.frz hP8 f3
      replace f4 := Put.frz hP8 f4
      replace f5 := Put.frz hP8 f5
      replace f11 := Put.frz hP8 f11
      replace f12 := Put.frz hP8 f12
      replace xw := Put.to xw hP8 (by omega)
      replace xc := Put.to xc hP8 (by omega)
      replace c3_0 := Put.cell hP8 c3_0 (by omega)
      replace c3_1 := Put.cell hP8 c3_1 (by omega)
      replace c4_0 := Put.cell hP8 c4_0 (by omega)
      replace c4_1 := Put.cell hP8 c4_1 (by omega)
      replace c4_2 := Put.cell hP8 c4_2 (by omega)
      replace c4_3 := Put.cell hP8 c4_3 (by omega)
      replace c5_0 := Put.cell hP8 c5_0 (by omega)
      replace c5_1 := Put.cell hP8 c5_1 (by omega)
      replace c5_2 := Put.cell hP8 c5_2 (by omega)
      replace c5_3 := Put.cell hP8 c5_3 (by omega)
      clear c12_0
      replace c11_0 := Put.cell hP8 c11_0 (by omega)
      replace c11_1 := Put.cell hP8 c11_1 (by omega)
      replace c11_2 := Put.cell hP8 c11_2 (by omega)
      replace c11_3 := Put.cell hP8 c11_3 (by omega)
      replace c11_4 := Put.cell hP8 c11_4 (by omega)
      have c12_0 := hP8.new 0 _ rfl
      try simp only [Nat.reduceAdd, Nat.zero_add, Nat.add_zero] at c12_0
      clear hP8
      go_simp
      refine hK _ _ ?_
      clear hK K' gd
      refine Wp.keep [3, 5, 11, 12, 13] fun r10 hkeep => ?_
      obtain ⟨e3_10, e5_10, e11_10, e12_10, e13_10, -⟩ := hkeep
      simp [go_sem, e3_8, e4_8, e5_8, e10_8, e30_8] at e3_10 e5_10 e11_10 e12_10 e13_10
      clear e3_8 e4_8 e5_8 e10_8 e30_8
      by_cases k3 : begE s c = 0
      · skip
        rw [if_pos k3] at hI
        refine Wp.seq ?_
        refine Wp.seqRegion (.inl rfl) (by kernel_rfl) fun K' gd hK hg => ?_
        clear hg
        go_simp
        refine hK _ _ ?_
        clear hK K' gd
        refine Wp.keep [3, 5, 11, 12, 13, 40] fun r11 hkeep => ?_
        obtain ⟨e3_11, e5_11, e11_11, e12_11, e13_11, e40_11, -⟩ := hkeep
        simp [go_sem, e3_10, e5_10, e11_10, e12_10, e13_10] at e3_11 e5_11 e11_11 e12_11 e13_11 e40_11
        clear e3_10 e5_10 e11_10 e12_10 e13_10
        refine Wp.condF (by go_simp) ?_
        refine Wp.skip ?_
        refine thenK_normal ?_
        refine Wp.seqRegion (.inl rfl) (by kernel_rfl) fun K' gd hK hg => ?_
        clear hg
        refine Wops.cut 3 fun K1 hK1 => ?_
        simp only [List.take_succ_cons, List.take_zero]
        go_simp
        refine Wcall (.inl rfl) (begun_c _ _ s d _ (hV.ext xw) (hT.ext xw) hf hh) ?_
        rintro v w5 ⟨D1, d2, d3, d4, d5, d6, D2, d7, d8, ev, rfl, hN, hJ, hE⟩
        have xd := Ext.refl w5
        obtain ⟨A7, n7, c7, rfl⟩ : ∃ A n c, ev = .slice A n c := by obtain ⟨A, c, e⟩ := hJ.slice; exact ⟨A, _, c, e⟩
        go_simp
        refine hK1 _ _ ?_
        clear hK1 K1
        simp only [List.drop_succ_cons, List.drop_zero]
        have z12 := Below.size hE
        replace f3 := Ext.fz hE c3_0 f3
        replace f4 := Ext.fz hE c4_0 f4
        replace f5 := Ext.fz hE c5_0 f5
        replace f11 := Ext.fz hE c11_0 f11
        replace f12 := Ext.fz hE c12_0 f12
        replace xw := Ext.trans xw hE
        replace xc := Ext.trans xc hE
        replace c3_0 := Ext.cell hE c3_0
        replace c3_1 := Ext.cell hE c3_1
        replace c4_0 := Ext.cell hE c4_0
        replace c4_1 := Ext.cell hE c4_1
        replace c4_2 := Ext.cell hE c4_2
        replace c4_3 := Ext.cell hE c4_3
        replace c5_0 := Ext.cell hE c5_0
        replace c5_1 := Ext.cell hE c5_1
        replace c5_2 := Ext.cell hE c5_2
        replace c5_3 := Ext.cell hE c5_3
        replace c11_0 := Ext.cell hE c11_0
        replace c11_1 := Ext.cell hE c11_1
        replace c11_2 := Ext.cell hE c11_2
        replace c11_3 := Ext.cell hE c11_3
        replace c11_4 := Ext.cell hE c11_4
        replace c12_0 := Ext.cell hE c12_0
        clear hE
        refine Wops.cut 5 fun K1 hK1 => ?_
        simp only [List.take_succ_cons, List.take_zero]
        go_simp
        refine hK1 _ _ ?_
        clear hK1 K1
        simp only [List.drop_succ_cons, List.drop_zero]
        refine Wops.absA fun V14_10 n14 hV14_10 => ?_
        obtain ⟨q14, hV14_10, s14, kV14_10, f14, r14⟩ := hV14_10
        try simp only [q14] at kV14_10 f14 r14 ⊢
        replace f3 := Ext.fz hV14_10 c3_0 f3
        replace f4 := Ext.fz hV14_10 c4_0 f4
        replace f5 := Ext.fz hV14_10 c5_0 f5
        replace f11 := Ext.fz hV14_10 c11_0 f11
        replace f12 := Ext.fz hV14_10 c12_0 f12
        replace xw := Ext.trans xw hV14_10
        replace xc := Ext.trans xc hV14_10
        replace xd := Ext.trans xd hV14_10
        replace c3_0 := Ext.cell hV14_10 c3_0
        replace c3_1 := Ext.cell hV14_10 c3_1
        replace c4_0 := Ext.cell hV14_10 c4_0
        replace c4_1 := Ext.cell hV14_10 c4_1
        replace c4_2 := Ext.cell hV14_10 c4_2
        replace c4_3 := Ext.cell hV14_10 c4_3
        replace c5_0 := Ext.cell hV14_10 c5_0
        replace c5_1 := Ext.cell hV14_10 c5_1
        replace c5_2 := Ext.cell hV14_10 c5_2
        replace c5_3 := Ext.cell hV14_10 c5_3
        replace c11_0 := Ext.cell hV14_10 c11_0
        replace c11_1 := Ext.cell hV14_10 c11_1
        replace c11_2 := Ext.cell hV14_10 c11_2
        replace c11_3 := Ext.cell hV14_10 c11_3
        replace c11_4 := Ext.cell hV14_10 c11_4
        replace c12_0 := Ext.cell hV14_10 c12_0
        have c14_0 := kV14_10 0 _ rfl
        have c14_1 := kV14_10 1 _ rfl
        have c14_2 := kV14_10 2 _ rfl
        have c14_3 := kV14_10 3 _ rfl
        have c14_4 := kV14_10 4 _ rfl
        clear kV14_10 hV14_10
        clear r14
        refine Wops.cut 1 fun K1 hK1 => ?_
        simp only [List.take_succ_cons, List.take_zero]
        go_simp
        refine hK1 _ _ ?_
        clear hK1 K1
        simp only [List.drop_succ_cons, List.drop_zero]
        refine Wops.absA fun V15_11 n15 hV15_11 => ?_
        obtain ⟨q15, hV15_11, s15, kV15_11, f15, r15⟩ := hV15_11
        try simp only [q15] at kV15_11 f15 r15 ⊢
        replace f3 := Ext.fz hV15_11 c3_0 f3
        replace f4 := Ext.fz hV15_11 c4_0 f4
        replace f5 := Ext.fz hV15_11 c5_0 f5
        replace f11 := Ext.fz hV15_11 c11_0 f11
        replace f12 := Ext.fz hV15_11 c12_0 f12
        replace f14 := Ext.fz hV15_11 c14_0 f14
        replace xw := Ext.trans xw hV15_11
        replace xc := Ext.trans xc hV15_11
        replace xd := Ext.trans xd hV15_11
        replace c3_0 := Ext.cell hV15_11 c3_0
        replace c3_1 := Ext.cell hV15_11 c3_1
        replace c4_0 := Ext.cell hV15_11 c4_0
        replace c4_1 := Ext.cell hV15_11 c4_1
        replace c4_2 := Ext.cell hV15_11 c4_2
        replace c4_3 := Ext.cell hV15_11 c4_3
        replace c5_0 := Ext.cell hV15_11 c5_0
        replace c5_1 := Ext.cell hV15_11 c5_1
        replace c5_2 := Ext.cell hV15_11 c5_2
        replace c5_3 := Ext.cell hV15_11 c5_3
        replace c11_0 := Ext.cell hV15_11 c11_0
        replace c11_1 := Ext.cell hV15_11 c11_1
        replace c11_2 := Ext.cell hV15_11 c11_2
        replace c11_3 := Ext.cell hV15_11 c11_3
        replace c11_4 := Ext.cell hV15_11 c11_4
        replace c12_0 := Ext.cell hV15_11 c12_0
        replace c14_0 := Ext.cell hV15_11 c14_0
        replace c14_1 := Ext.cell hV15_11 c14_1
        replace c14_2 := Ext.cell hV15_11 c14_2
        replace c14_3 := Ext.cell hV15_11 c14_3
        replace c14_4 := Ext.cell hV15_11 c14_4
        have c15_0 := kV15_11 0 _ rfl
        clear kV15_11 hV15_11
        clear r15
        refine Wops.cut 1 fun K1 hK1 => ?_
        simp only [List.take_succ_cons, List.take_zero]
        go_simp
        refine hK1 _ _ ?_
        clear hK1 K1
        simp only [List.drop_succ_cons, List.drop_zero]
        refine Wops.absS (b := n14) (i := 0) [_, _, _, _, _] (somes [cellVal c14_0, cellVal c14_1, cellVal c14_2, cellVal c14_3, cellVal c14_4] (by simp) (by intro j v hj; match j, hj with | 0, hj => (simp at hj; subst hj; exact c14_0) | 1, hj => (simp at hj; subst hj; exact c14_1) | 2, hj => (simp at hj; subst hj; exact c14_2) | 3, hj => (simp at hj; subst hj; exact c14_3) | 4, hj => (simp at hj; subst hj; exact c14_4))) fun P12 hP12 => ?_
        have zP12 := hP12.same
        replace f3 := Put.frz hP12 f3
        replace f4 := Put.frz hP12 f4
        replace f5 := Put.frz hP12 f5
        replace f11 := Put.frz hP12 f11
        replace f12 := Put.frz hP12 f12
        replace f14 := Put.frz hP12 f14
        replace f15 := Put.frz hP12 f15
        replace xw := Put.to xw hP12 (by omega)
        replace xc := Put.to xc hP12 (by omega)
        replace xd := Put.to xd hP12 (by omega)
        replace c3_0 := Put.cell hP12 c3_0 (by omega)
        replace c3_1 := Put.cell hP12 c3_1 (by omega)
        replace c4_0 := Put.cell hP12 c4_0 (by omega)
        replace c4_1 := Put.cell hP12 c4_1 (by omega)
        replace c4_2 := Put.cell hP12 c4_2 (by omega)
        replace c4_3 := Put.cell hP12 c4_3 (by omega)
        replace c5_0 := Put.cell hP12 c5_0 (by omega)
        replace c5_1 := Put.cell hP12 c5_1 (by omega)
        replace c5_2 := Put.cell hP12 c5_2 (by omega)
        replace c5_3 := Put.cell hP12 c5_3 (by omega)
        replace c11_0 := Put.cell hP12 c11_0 (by omega)
        replace c11_1 := Put.cell hP12 c11_1 (by omega)
        replace c11_2 := Put.cell hP12 c11_2 (by omega)
        replace c11_3 := Put.cell hP12 c11_3 (by omega)
        replace c11_4 := Put.cell hP12 c11_4 (by omega)
        replace c12_0 := Put.cell hP12 c12_0 (by omega)
        clear c14_0
        clear c14_1
        clear c14_2
        clear c14_3
        clear c14_4
        replace c15_0 := Put.cell hP12 c15_0 (by omega)
        have c14_0 := hP12.new 0 _ rfl
        try simp only [Nat.reduceAdd, Nat.zero_add, Nat.add_zero] at c14_0
        have c14_1 := hP12.new 1 _ rfl
        try simp only [Nat.reduceAdd, Nat.zero_add, Nat.add_zero] at c14_1
        have c14_2 := hP12.new 2 _ rfl
        try simp only [Nat.reduceAdd, Nat.zero_add, Nat.add_zero] at c14_2
        have c14_3 := hP12.new 3 _ rfl
        try simp only [Nat.reduceAdd, Nat.zero_add, Nat.add_zero] at c14_3
        have c14_4 := hP12.new 4 _ rfl
        try simp only [Nat.reduceAdd, Nat.zero_add, Nat.add_zero] at c14_4
        clear hP12
        refine Wops.cut 1 fun K1 hK1 => ?_
        simp only [List.take_succ_cons, List.take_zero]
        go_simp
        refine hK1 _ _ ?_
        clear hK1 K1
        simp only [List.drop_succ_cons, List.drop_zero]
        refine Wops.absS (b := n15) (i := 0) [_] (somes [cellVal c15_0] (by simp) (by intro j v hj; match j, hj with | 0, hj => (simp at hj; subst hj; exact c15_0))) fun P13 hP13 => ?_
        have zP13 := hP13.same
        replace f3 := Put.frz hP13 f3
        replace f4 := Put.frz hP13 f4
        replace f5 := Put.frz hP13 f5
        replace f11 := Put.frz hP13 f11
        replace f12 := Put.frz hP13 f12
        replace f14 := Put.frz hP13 f14
        replace f15 := Put.frz hP13 f15
        replace xw := Put.to xw hP13 (by omega)
        replace xc := Put.to xc hP13 (by omega)
        replace xd := Put.to xd hP13 (by omega)
        replace c3_0 := Put.cell hP13 c3_0 (by omega)
        replace c3_1 := Put.cell hP13 c3_1 (by omega)
        replace c4_0 := Put.cell hP13 c4_0 (by omega)
        replace c4_1 := Put.cell hP13 c4_1 (by omega)
        replace c4_2 := Put.cell hP13 c4_2 (by omega)
        replace c4_3 := Put.cell hP13 c4_3 (by omega)
        replace c5_0 := Put.cell hP13 c5_0 (by omega)
        replace c5_1 := Put.cell hP13 c5_1 (by omega)
        replace c5_2 := Put.cell hP13 c5_2 (by omega)
        replace c5_3 := Put.cell hP13 c5_3 (by omega)
        replace c11_0 := Put.cell hP13 c11_0 (by omega)
        replace c11_1 := Put.cell hP13 c11_1 (by omega)
        replace c11_2 := Put.cell hP13 c11_2 (by omega)
        replace c11_3 := Put.cell hP13 c11_3 (by omega)
        replace c11_4 := Put.cell hP13 c11_4 (by omega)
        replace c12_0 := Put.cell hP13 c12_0 (by omega)
        clear c15_0
        replace c14_0 := Put.cell hP13 c14_0 (by omega)
        replace c14_1 := Put.cell hP13 c14_1 (by omega)
        replace c14_2 := Put.cell hP13 c14_2 (by omega)
        replace c14_3 := Put.cell hP13 c14_3 (by omega)
        replace c14_4 := Put.cell hP13 c14_4 (by omega)
        have c15_0 := hP13.new 0 _ rfl
        try simp only [Nat.reduceAdd, Nat.zero_add, Nat.add_zero] at c15_0
        clear hP13
        go_simp
        refine hK _ _ ?_
        clear hK K' gd
        refine Wp.keep [3, 11, 12, 13, 14, 15] fun r13 hkeep => ?_
        obtain ⟨e3_13, e11_13, e12_13, e13_13, e14_13, e15_13, -⟩ := hkeep
        simp [go_sem, e3_11, e5_11, e11_11, e12_11, e13_11, e40_11] at e3_13 e11_13 e12_13 e13_13 e14_13 e15_13
        clear e3_11 e5_11 e11_11 e12_11 e13_11 e40_11
        by_cases k4 : begE s d = 0
        · skip
          rw [if_pos k4] at hJ
          obtain ⟨wu, hwu, hM⟩ := hM k3
          injection hwu with hwu
          simp at hwu
          subst hwu
          obtain ⟨wt, hwt, hN⟩ := hN k4
          injection hwt with hwt
          simp at hwt
          subst hwt
          obtain ⟨hgd, hmk, hok, hl1, hl2, hn1, hn40⟩ := beg_know k3
          obtain ⟨-, hmk2, hok2, hl3, hl4, -, -⟩ := beg_know k4
          have htu : ∀ a ∈ s.alts, 0 ≤ a.tu ∧ a.tu < (s.words.length : Int) := fun a ha => by obtain ⟨q1, q2⟩ := (ends_of k3).tu a ha; omega
          have hls : ∃ _u : Unit, (s.md c).first.length = s.words.length ∧ (s.md c).last.length = s.words.length ∧ (s.md d).first.length = s.words.length ∧ (s.md d).last.length = s.words.length := ⟨(), hl1, hl2, hl3, hl4⟩
          clear hl1 hl2 hl3 hl4
          have hb0 : ∃ _u : Unit, befE s c d = 0 := ⟨(), befE_zero.2 ⟨k3, k4⟩⟩
          refine Wp.seq ?_
          refine Wp.seqRegion (.inl rfl) (by kernel_rfl) fun K' gd hK hg => ?_
          clear hg
          go_simp
          refine hK _ _ ?_
          clear hK K' gd
          refine Wp.keep [3, 11, 12, 13, 14, 15, 50] fun r14 hkeep => ?_
          obtain ⟨e3_14, e11_14, e12_14, e13_14, e14_14, e15_14, e50_14, -⟩ := hkeep
          simp [go_sem, e3_13, e11_13, e12_13, e13_13, e14_13, e15_13] at e3_14 e11_14 e12_14 e13_14 e14_14 e15_14 e50_14
          clear e3_13 e11_13 e12_13 e13_13 e14_13 e15_13
          refine Wp.condF (by go_simp) ?_
          refine Wp.skip ?_
          refine thenK_normal ?_
          refine Wp.seqDrawT (.inl rfl) mixed (.rd [0, 2] (.both (.act 1 false (.both (.act 3 false (.both (.act 4 false (.act 5 false (.act 6 true (.act 7 true .done)))) (.act 5 false (.act 4 false (.act 6 true (.act 7 true .done)))))) (.both (.act 4 false (.both (.act 3 false (.act 5 false (.act 6 true (.act 7 true .done)))) (.act 5 false (.act 3 false (.act 6 true (.act 7 true .done)))))) (.act 5 false (.both (.act 3 false (.act 4 false (.act 6 true (.act 7 true .done)))) (.act 4 false (.act 3 false (.act 6 true (.act 7 true .done))))))))) (.both (.act 4 false (.both (.act 1 false (.both (.act 3 false (.act 5 false (.act 6 true (.act 7 true .done)))) (.act 5 false (.act 3 false (.act 6 true (.act 7 true .done)))))) (.act 5 false (.act 1 false (.act 3 false (.act 6 true (.act 7 true .done))))))) (.act 5 false (.both (.act 1 false (.both (.act 3 false (.act 4 false (.act 6 true (.act 7 true .done)))) (.act 4 false (.act 3 false (.act 6 true (.act 7 true .done)))))) (.act 4 false (.act 1 false (.act 3 false (.act 6 true (.act 7 true .done)))))))))) (by kernel_rfl) (fun ρ W => AllEq [3, 12, 15] ρ r14 ∧ (Ext P13 W ∧ ∃ q1 q2 A8 n8 c8 A9 n9 c9, ρ 16 = .pointer (some ⟨q1, 0, none⟩) ∧ ρ 17 = .pointer (some ⟨q2, 0, none⟩) ∧ W.cell? ⟨q1, 0, none⟩ = some (.slice A8 n8 c8) ∧ W.cell? ⟨q2, 0, none⟩ = some (.slice A9 n9 c9) ∧ IntsB W w.heap.size (.slice A8 n8 c8) (s.md c).last ∧ IntsB W w.heap.size (.slice A9 n9 c9) (s.md d).last)) (fun K' gd hK hg => ?_) ?_
          · skip
            clear hg
            simp only [pickT, nth, List.map_cons, List.map_nil]
            apply Mtree.reads
            · intro w' hE'
              have hC' := hE'.cellsS
              go_simp
              with_reducible rfl
            refine Mtree.two ?_ ?_
            · skip
              refine Mtree.step fun K1 hK1 => ?_
              go_simp
              refine Wcall (.inl rfl) (last_c _ (s.md c) _ ((hM.ext XE).made (hW.ext XE)) hmk) ?_
              rintro v w6 ⟨hQa, hE6⟩
              first | have z6 : P13.heap.size ≤ w6.heap.size := (Below.size hE6 : P13.drew.heap.size ≤ w6.heap.size) | have z6 := Below.size hE6
              obtain ⟨A8, n8, c8, rfl⟩ : ∃ A n c, v = .slice A n c := by obtain ⟨A, c, e⟩ := hQa.slice; exact ⟨A, _, c, e⟩
              go_simp
              refine hK1 _ _ XR ?_
              clear hK1 K1
              refine Mtree.two ?_ ?_
              · skip
                refine Mtree.step fun K1 hK1 => ?_
                go_simp
                refine Wcall (.inl rfl) (last_c _ (s.md d) _ ((hN.ext XE).made (hX.ext XE)) hmk2) ?_
                rintro v w7 ⟨hQb, hE7⟩
                first | have z7 : P13.heap.size ≤ w7.heap.size := (Below.size hE7 : P13.drew.heap.size ≤ w7.heap.size) | have z7 := Below.size hE7
                obtain ⟨A9, n9, c9, rfl⟩ : ∃ A n c, v = .slice A n c := by obtain ⟨A, c, e⟩ := hQb.slice; exact ⟨A, _, c, e⟩
                go_simp
                refine hK1 _ _ XR ?_
                clear hK1 K1
                refine Mtree.two ?_ ?_
                · skip
                  refine Mtree.step fun K1 hK1 => ?_
                  go_simp
                  refine hK1 _ _ XA ?_
                  clear hK1 K1
                  first | refine Mtree.abs fun V15 hV15 sV15 hVc hVf => ?_ | refine Mtree.absD fun V15 hV15 sV15 hVc hVf => ?_
                  have cV15_0 := hVc 0 _ rfl
                  have fV15_0 := hVf 0
                  clear hVc hVf
                  refine Mtree.step fun K1 hK1 => ?_
                  go_simp
                  refine hK1 _ _ XA ?_
                  clear hK1 K1
                  first | refine Mtree.abs fun V16 hV16 sV16 hVc hVf => ?_ | refine Mtree.absD fun V16 hV16 sV16 hVc hVf => ?_
                  have cV16_0 := hVc 0 _ rfl
                  have fV16_0 := hVf 0
                  clear hVc hVf
                  have fc17 := (Ext.frozen hV16 cV15_0).trans fV15_0
                  have c17 := Ext.cell hV16 cV15_0
                  refine Mtree.stepT fun K1 hK1 => ?_
                  go_simp
                  refine hK1 _ _ ?_
                  clear hK1 K1
                  refine Mtree.stepT fun K1 hK1 => ?_
                  go_simp
                  refine hK1 _ _ ?_
                  clear hK1 K1
                  refine Mtree.fin ?_
                  refine hK _ _ ⟨by simp [AllEq, go_sem], ?_⟩
                  refine ⟨XS, ?_⟩
                  exact ⟨_, _, A8, n8, c8, A9, n9, c9, rfl, rfl, by go_simp, by go_simp, (hQa.two XE (by omega) (by omega)).less (by first | omega | (show w.heap.size ≤ P13.heap.size; omega)), (hQb.two XE (by omega) (by omega)).less (by first | omega | (show w.heap.size ≤ P13.heap.size; omega))⟩
                · skip
                  refine Mtree.step fun K1 hK1 => ?_
                  go_simp
                  refine hK1 _ _ XA ?_
                  clear hK1 K1
                  first | refine Mtree.abs fun V18 hV18 sV18 hVc hVf => ?_ | refine Mtree.absD fun V18 hV18 sV18 hVc hVf => ?_
                  have cV18_0 := hVc 0 _ rfl
                  have fV18_0 := hVf 0
                  clear hVc hVf
                  refine Mtree.step fun K1 hK1 => ?_
                  go_simp
                  refine hK1 _ _ XA ?_
                  clear hK1 K1
                  first | refine Mtree.abs fun V19 hV19 sV19 hVc hVf => ?_ | refine Mtree.absD fun V19 hV19 sV19 hVc hVf => ?_
                  have cV19_0 := hVc 0 _ rfl
                  have fV19_0 := hVf 0
                  clear hVc hVf
                  have fc20 := (Ext.frozen hV19 cV18_0).trans fV18_0
                  have c20 := Ext.cell hV19 cV18_0
                  refine Mtree.stepT fun K1 hK1 => ?_
                  go_simp
                  refine hK1 _ _ ?_
                  clear hK1 K1
                  refine Mtree.stepT fun K1 hK1 => ?_
                  go_simp
                  refine hK1 _ _ ?_
                  clear hK1 K1
                  refine Mtree.fin ?_
                  refine hK _ _ ⟨by simp [AllEq, go_sem], ?_⟩
                  refine ⟨XS, ?_⟩
                  exact ⟨_, _, A8, n8, c8, A9, n9, c9, rfl, rfl, by go_simp, by go_simp, (hQa.two XE (by omega) (by omega)).less (by first | omega | (show w.heap.size ≤ P13.heap.size; omega)), (hQb.two XE (by omega) (by omega)).less (by first | omega | (show w.heap.size ≤ P13.heap.size; omega))⟩
              · skip
                refine Mtree.two ?_ ?_
                · skip
                  refine Mtree.step fun K1 hK1 => ?_
                  go_simp
                  refine hK1 _ _ XA ?_
                  clear hK1 K1
                  first | refine Mtree.abs fun V21 hV21 sV21 hVc hVf => ?_ | refine Mtree.absD fun V21 hV21 sV21 hVc hVf => ?_
                  have cV21_0 := hVc 0 _ rfl
                  have fV21_0 := hVf 0
                  clear hVc hVf
                  refine Mtree.two ?_ ?_
                  · skip
                    refine Mtree.step fun K1 hK1 => ?_
                    go_simp
                    refine Wcall (.inl rfl) (last_c _ (s.md d) _ ((hN.ext XE).made (hX.ext XE)) hmk2) ?_
                    rintro v w7 ⟨hQb, hE7⟩
                    first | have z7 : P13.heap.size ≤ w7.heap.size := (Below.size hE7 : P13.drew.heap.size ≤ w7.heap.size) | have z7 := Below.size hE7
                    obtain ⟨A9, n9, c9, rfl⟩ : ∃ A n c, v = .slice A n c := by obtain ⟨A, c, e⟩ := hQb.slice; exact ⟨A, _, c, e⟩
                    go_simp
                    refine hK1 _ _ XR ?_
                    clear hK1 K1
                    have fc22 := (Ext.frozen hE7 cV21_0).trans fV21_0
                    have c22 := Ext.cell hE7 cV21_0
                    refine Mtree.step fun K1 hK1 => ?_
                    go_simp
                    refine hK1 _ _ XA ?_
                    clear hK1 K1
                    first | refine Mtree.abs fun V23 hV23 sV23 hVc hVf => ?_ | refine Mtree.absD fun V23 hV23 sV23 hVc hVf => ?_
                    have cV23_0 := hVc 0 _ rfl
                    have fV23_0 := hVf 0
                    clear hVc hVf
                    have fc24 := (Ext.frozen hV23 c22).trans fc22
                    have c24 := Ext.cell hV23 c22
                    refine Mtree.stepT fun K1 hK1 => ?_
                    go_simp
                    refine hK1 _ _ ?_
                    clear hK1 K1
                    refine Mtree.stepT fun K1 hK1 => ?_
                    go_simp
                    refine hK1 _ _ ?_
                    clear hK1 K1
                    refine Mtree.fin ?_
                    refine hK _ _ ⟨by simp [AllEq, go_sem], ?_⟩
                    refine ⟨XS, ?_⟩
                    exact ⟨_, _, A8, n8, c8, A9, n9, c9, rfl, rfl, by go_simp, by go_simp, (hQa.two XE (by omega) (by omega)).less (by first | omega | (show w.heap.size ≤ P13.heap.size; omega)), (hQb.two XE (by omega) (by omega)).less (by first | omega | (show w.heap.size ≤ P13.heap.size; omega))⟩
                  · skip
                    refine Mtree.step fun K1 hK1 => ?_
                    go_simp
                    refine hK1 _ _ XA ?_
                    clear hK1 K1
                    first | refine Mtree.abs fun V25 hV25 sV25 hVc hVf => ?_ | refine Mtree.absD fun V25 hV25 sV25 hVc hVf => ?_
                    have cV25_0 := hVc 0 _ rfl
                    have fV25_0 := hVf 0
                    clear hVc hVf
                    have fc26 := (Ext.frozen hV25 cV21_0).trans fV21_0
                    have c26 := Ext.cell hV25 cV21_0
                    refine Mtree.step fun K1 hK1 => ?_
                    go_simp
                    refine Wcall (.inl rfl) (last_c _ (s.md d) _ ((hN.ext XE).made (hX.ext XE)) hmk2) ?_
                    rintro v w7 ⟨hQb, hE7⟩
                    first | have z7 : P13.heap.size ≤ w7.heap.size := (Below.size hE7 : P13.drew.heap.size ≤ w7.heap.size) | have z7 := Below.size hE7
                    obtain ⟨A9, n9, c9, rfl⟩ : ∃ A n c, v = .slice A n c := by obtain ⟨A, c, e⟩ := hQb.slice; exact ⟨A, _, c, e⟩
                    go_simp
                    refine hK1 _ _ XR ?_
                    clear hK1 K1
                    have fc27 := (Ext.frozen hE7 c26).trans fc26
                    have c27 := Ext.cell hE7 c26
                    have fc28 := (Ext.frozen hE7 cV25_0).trans fV25_0
                    have c28 := Ext.cell hE7 cV25_0
                    refine Mtree.stepT fun K1 hK1 => ?_
                    go_simp
                    refine hK1 _ _ ?_
                    clear hK1 K1
                    refine Mtree.stepT fun K1 hK1 => ?_
                    go_simp
                    refine hK1 _ _ ?_
                    clear hK1 K1
                    refine Mtree.fin ?_
                    refine hK _ _ ⟨by simp [AllEq, go_sem], ?_⟩
                    refine ⟨XS, ?_⟩
                    exact ⟨_, _, A8, n8, c8, A9, n9, c9, rfl, rfl, by go_simp, by go_simp, (hQa.two XE (by omega) (by omega)).less (by first | omega | (show w.heap.size ≤ P13.heap.size; omega)), (hQb.two XE (by omega) (by omega)).less (by first | omega | (show w.heap.size ≤ P13.heap.size; omega))⟩
                · skip
                  refine Mtree.step fun K1 hK1 => ?_
                  go_simp
                  refine hK1 _ _ XA ?_
                  clear hK1 K1
                  first | refine Mtree.abs fun V29 hV29 sV29 hVc hVf => ?_ | refine Mtree.absD fun V29 hV29 sV29 hVc hVf => ?_
                  have cV29_0 := hVc 0 _ rfl
                  have fV29_0 := hVf 0
                  clear hVc hVf
                  refine Mtree.two ?_ ?_
                  · skip
                    refine Mtree.step fun K1 hK1 => ?_
                    go_simp
                    refine Wcall (.inl rfl) (last_c _ (s.md d) _ ((hN.ext XE).made (hX.ext XE)) hmk2) ?_
                    rintro v w7 ⟨hQb, hE7⟩
                    first | have z7 : P13.heap.size ≤ w7.heap.size := (Below.size hE7 : P13.drew.heap.size ≤ w7.heap.size) | have z7 := Below.size hE7
                    obtain ⟨A9, n9, c9, rfl⟩ : ∃ A n c, v = .slice A n c := by obtain ⟨A, c, e⟩ := hQb.slice; exact ⟨A, _, c, e⟩
                    go_simp
                    refine hK1 _ _ XR ?_
                    clear hK1 K1
                    have fc30 := (Ext.frozen hE7 cV29_0).trans fV29_0
                    have c30 := Ext.cell hE7 cV29_0
                    refine Mtree.step fun K1 hK1 => ?_
                    go_simp
                    refine hK1 _ _ XA ?_
                    clear hK1 K1
                    first | refine Mtree.abs fun V31 hV31 sV31 hVc hVf => ?_ | refine Mtree.absD fun V31 hV31 sV31 hVc hVf => ?_
                    have cV31_0 := hVc 0 _ rfl
                    have fV31_0 := hVf 0
                    clear hVc hVf
                    have fc32 := (Ext.frozen hV31 c30).trans fc30
                    have c32 := Ext.cell hV31 c30
                    refine Mtree.stepT fun K1 hK1 => ?_
                    go_simp
                    refine hK1 _ _ ?_
                    clear hK1 K1
                    refine Mtree.stepT fun K1 hK1 => ?_
                    go_simp
                    refine hK1 _ _ ?_
                    clear hK1 K1
                    refine Mtree.fin ?_
                    refine hK _ _ ⟨by simp [AllEq, go_sem], ?_⟩
                    refine ⟨XS, ?_⟩
                    exact ⟨_, _, A8, n8, c8, A9, n9, c9, rfl, rfl, by go_simp, by go_simp, (hQa.two XE (by omega) (by omega)).less (by first | omega | (show w.heap.size ≤ P13.heap.size; omega)), (hQb.two XE (by omega) (by omega)).less (by first | omega | (show w.heap.size ≤ P13.heap.size; omega))⟩
                  · skip
                    refine Mtree.step fun K1 hK1 => ?_
                    go_simp
                    refine hK1 _ _ XA ?_
                    clear hK1 K1
                    first | refine Mtree.abs fun V33 hV33 sV33 hVc hVf => ?_ | refine Mtree.absD fun V33 hV33 sV33 hVc hVf => ?_
                    have cV33_0 := hVc 0 _ rfl
                    have fV33_0 := hVf 0
                    clear hVc hVf
                    have fc34 := (Ext.frozen hV33 cV29_0).trans fV29_0
                    have c34 := Ext.cell hV33 cV29_0
                    refine Mtree.step fun K1 hK1 => ?_
                    go_simp
                    refine Wcall (.inl rfl) (last_c _ (s.md d) _ ((hN.ext XE).made (hX.ext XE)) hmk2) ?_
                    rintro v w7 ⟨hQb, hE7⟩
                    first | have z7 : P13.heap.size ≤ w7.heap.size := (Below.size hE7 : P13.drew.heap.size ≤ w7.heap.size) | have z7 := Below.size hE7
                    obtain ⟨A9, n9, c9, rfl⟩ : ∃ A n c, v = .slice A n c := by obtain ⟨A, c, e⟩ := hQb.slice; exact ⟨A, _, c, e⟩
                    go_simp
                    refine hK1 _ _ XR ?_
                    clear hK1 K1
                    have fc35 := (Ext.frozen hE7 c34).trans fc34
                    have c35 := Ext.cell hE7 c34
                    have fc36 := (Ext.frozen hE7 cV33_0).trans fV33_0
                    have c36 := Ext.cell hE7 cV33_0
                    refine Mtree.stepT fun K1 hK1 => ?_
                    go_simp
                    refine hK1 _ _ ?_
                    clear hK1 K1
                    refine Mtree.stepT fun K1 hK1 => ?_
                    go_simp
                    refine hK1 _ _ ?_
                    clear hK1 K1
                    refine Mtree.fin ?_
                    refine hK _ _ ⟨by simp [AllEq, go_sem], ?_⟩
                    refine ⟨XS, ?_⟩
                    exact ⟨_, _, A8, n8, c8, A9, n9, c9, rfl, rfl, by go_simp, by go_simp, (hQa.two XE (by omega) (by omega)).less (by first | omega | (show w.heap.size ≤ P13.heap.size; omega)), (hQb.two XE (by omega) (by omega)).less (by first | omega | (show w.heap.size ≤ P13.heap.size; omega))⟩
            · skip
              refine Mtree.two ?_ ?_
              · skip
                refine Mtree.step fun K1 hK1 => ?_
                go_simp
                refine hK1 _ _ XA ?_
                clear hK1 K1
                first | refine Mtree.abs fun V37 hV37 sV37 hVc hVf => ?_ | refine Mtree.absD fun V37 hV37 sV37 hVc hVf => ?_
                have cV37_0 := hVc 0 _ rfl
                have fV37_0 := hVf 0
                clear hVc hVf
                refine Mtree.two ?_ ?_
                · skip
                  refine Mtree.step fun K1 hK1 => ?_
                  go_simp
                  refine Wcall (.inl rfl) (last_c _ (s.md c) _ ((hM.ext XE).made (hW.ext XE)) hmk) ?_
                  rintro v w6 ⟨hQa, hE6⟩
                  first | have z6 : P13.heap.size ≤ w6.heap.size := (Below.size hE6 : P13.drew.heap.size ≤ w6.heap.size) | have z6 := Below.size hE6
                  obtain ⟨A8, n8, c8, rfl⟩ : ∃ A n c, v = .slice A n c := by obtain ⟨A, c, e⟩ := hQa.slice; exact ⟨A, _, c, e⟩
                  go_simp
                  refine hK1 _ _ XR ?_
                  clear hK1 K1
                  have fc38 := (Ext.frozen hE6 cV37_0).trans fV37_0
                  have c38 := Ext.cell hE6 cV37_0
                  refine Mtree.two ?_ ?_
                  · skip
                    refine Mtree.step fun K1 hK1 => ?_
                    go_simp
                    refine Wcall (.inl rfl) (last_c _ (s.md d) _ ((hN.ext XE).made (hX.ext XE)) hmk2) ?_
                    rintro v w7 ⟨hQb, hE7⟩
                    first | have z7 : P13.heap.size ≤ w7.heap.size := (Below.size hE7 : P13.drew.heap.size ≤ w7.heap.size) | have z7 := Below.size hE7
                    obtain ⟨A9, n9, c9, rfl⟩ : ∃ A n c, v = .slice A n c := by obtain ⟨A, c, e⟩ := hQb.slice; exact ⟨A, _, c, e⟩
                    go_simp
                    refine hK1 _ _ XR ?_
                    clear hK1 K1
                    have fc39 := (Ext.frozen hE7 c38).trans fc38
                    have c39 := Ext.cell hE7 c38
                    refine Mtree.step fun K1 hK1 => ?_
                    go_simp
                    refine hK1 _ _ XA ?_
                    clear hK1 K1
                    first | refine Mtree.abs fun V40 hV40 sV40 hVc hVf => ?_ | refine Mtree.absD fun V40 hV40 sV40 hVc hVf => ?_
                    have cV40_0 := hVc 0 _ rfl
                    have fV40_0 := hVf 0
                    clear hVc hVf
                    have fc41 := (Ext.frozen hV40 c39).trans fc39
                    have c41 := Ext.cell hV40 c39
                    refine Mtree.stepT fun K1 hK1 => ?_
                    go_simp
                    refine hK1 _ _ ?_
                    clear hK1 K1
                    refine Mtree.stepT fun K1 hK1 => ?_
                    go_simp
                    refine hK1 _ _ ?_
                    clear hK1 K1
                    refine Mtree.fin ?_
                    refine hK _ _ ⟨by simp [AllEq, go_sem], ?_⟩
                    refine ⟨XS, ?_⟩
                    exact ⟨_, _, A8, n8, c8, A9, n9, c9, rfl, rfl, by go_simp, by go_simp, (hQa.two XE (by omega) (by omega)).less (by first | omega | (show w.heap.size ≤ P13.heap.size; omega)), (hQb.two XE (by omega) (by omega)).less (by first | omega | (show w.heap.size ≤ P13.heap.size; omega))⟩
                  · skip
                    refine Mtree.step fun K1 hK1 => ?_
                    go_simp
                    refine hK1 _ _ XA ?_
                    clear hK1 K1
                    first | refine Mtree.abs fun V42 hV42 sV42 hVc hVf => ?_ | refine Mtree.absD fun V42 hV42 sV42 hVc hVf => ?_
                    have cV42_0 := hVc 0 _ rfl
                    have fV42_0 := hVf 0
                    clear hVc hVf
                    have fc43 := (Ext.frozen hV42 c38).trans fc38
                    have c43 := Ext.cell hV42 c38
                    refine Mtree.step fun K1 hK1 => ?_
                    go_simp
                    refine Wcall (.inl rfl) (last_c _ (s.md d) _ ((hN.ext XE).made (hX.ext XE)) hmk2) ?_
                    rintro v w7 ⟨hQb, hE7⟩
                    first | have z7 : P13.heap.size ≤ w7.heap.size := (Below.size hE7 : P13.drew.heap.size ≤ w7.heap.size) | have z7 := Below.size hE7
                    obtain ⟨A9, n9, c9, rfl⟩ : ∃ A n c, v = .slice A n c := by obtain ⟨A, c, e⟩ := hQb.slice; exact ⟨A, _, c, e⟩
                    go_simp
                    refine hK1 _ _ XR ?_
                    clear hK1 K1
                    have fc44 := (Ext.frozen hE7 c43).trans fc43
                    have c44 := Ext.cell hE7 c43
                    have fc45 := (Ext.frozen hE7 cV42_0).trans fV42_0
                    have c45 := Ext.cell hE7 cV42_0
                    refine Mtree.stepT fun K1 hK1 => ?_
                    go_simp
                    refine hK1 _ _ ?_
                    clear hK1 K1
                    refine Mtree.stepT fun K1 hK1 => ?_
                    go_simp
                    refine hK1 _ _ ?_
                    clear hK1 K1
                    refine Mtree.fin ?_
                    refine hK _ _ ⟨by simp [AllEq, go_sem], ?_⟩
                    refine ⟨XS, ?_⟩
                    exact ⟨_, _, A8, n8, c8, A9, n9, c9, rfl, rfl, by go_simp, by go_simp, (hQa.two XE (by omega) (by omega)).less (by first | omega | (show w.heap.size ≤ P13.heap.size; omega)), (hQb.two XE (by omega) (by omega)).less (by first | omega | (show w.heap.size ≤ P13.heap.size; omega))⟩
                · skip
                  refine Mtree.step fun K1 hK1 => ?_
                  go_simp
                  refine hK1 _ _ XA ?_
                  clear hK1 K1
                  first | refine Mtree.abs fun V46 hV46 sV46 hVc hVf => ?_ | refine Mtree.absD fun V46 hV46 sV46 hVc hVf => ?_
                  have cV46_0 := hVc 0 _ rfl
                  have fV46_0 := hVf 0
                  clear hVc hVf
                  have fc47 := (Ext.frozen hV46 cV37_0).trans fV37_0
                  have c47 := Ext.cell hV46 cV37_0
                  refine Mtree.step fun K1 hK1 => ?_
                  go_simp
                  refine Wcall (.inl rfl) (last_c _ (s.md c) _ ((hM.ext XE).made (hW.ext XE)) hmk) ?_
                  rintro v w6 ⟨hQa, hE6⟩
                  first | have z6 : P13.heap.size ≤ w6.heap.size := (Below.size hE6 : P13.drew.heap.size ≤ w6.heap.size) | have z6 := Below.size hE6
                  obtain ⟨A8, n8, c8, rfl⟩ : ∃ A n c, v = .slice A n c := by obtain ⟨A, c, e⟩ := hQa.slice; exact ⟨A, _, c, e⟩
                  go_simp
                  refine hK1 _ _ XR ?_
                  clear hK1 K1
                  have fc48 := (Ext.frozen hE6 c47).trans fc47
                  have c48 := Ext.cell hE6 c47
                  have fc49 := (Ext.frozen hE6 cV46_0).trans fV46_0
                  have c49 := Ext.cell hE6 cV46_0
                  refine Mtree.step fun K1 hK1 => ?_
                  go_simp
                  refine Wcall (.inl rfl) (last_c _ (s.md d) _ ((hN.ext XE).made (hX.ext XE)) hmk2) ?_
                  rintro v w7 ⟨hQb, hE7⟩
                  first | have z7 : P13.heap.size ≤ w7.heap.size := (Below.size hE7 : P13.drew.heap.size ≤ w7.heap.size) | have z7 := Below.size hE7
                  obtain ⟨A9, n9, c9, rfl⟩ : ∃ A n c, v = .slice A n c := by obtain ⟨A, c, e⟩ := hQb.slice; exact ⟨A, _, c, e⟩
                  go_simp
                  refine hK1 _ _ XR ?_
                  clear hK1 K1
                  have fc50 := (Ext.frozen hE7 c48).trans fc48
                  have c50 := Ext.cell hE7 c48
                  have fc51 := (Ext.frozen hE7 c49).trans fc49
                  have c51 := Ext.cell hE7 c49
                  refine Mtree.stepT fun K1 hK1 => ?_
                  go_simp
                  refine hK1 _ _ ?_
                  clear hK1 K1
                  refine Mtree.stepT fun K1 hK1 => ?_
                  go_simp
                  refine hK1 _ _ ?_
                  clear hK1 K1
                  refine Mtree.fin ?_
                  refine hK _ _ ⟨by simp [AllEq, go_sem], ?_⟩
                  refine ⟨XS, ?_⟩
                  exact ⟨_, _, A8, n8, c8, A9, n9, c9, rfl, rfl, by go_simp, by go_simp, (hQa.two XE (by omega) (by omega)).less (by first | omega | (show w.heap.size ≤ P13.heap.size; omega)), (hQb.two XE (by omega) (by omega)).less (by first | omega | (show w.heap.size ≤ P13.heap.size; omega))⟩
              · skip
                refine Mtree.step fun K1 hK1 => ?_
                go_simp
                refine hK1 _ _ XA ?_
                clear hK1 K1
                first | refine Mtree.abs fun V52 hV52 sV52 hVc hVf => ?_ | refine Mtree.absD fun V52 hV52 sV52 hVc hVf => ?_
                have cV52_0 := hVc 0 _ rfl
                have fV52_0 := hVf 0
                clear hVc hVf
                refine Mtree.two ?_ ?_
                · skip
                  refine Mtree.step fun K1 hK1 => ?_
                  go_simp
                  refine Wcall (.inl rfl) (last_c _ (s.md c) _ ((hM.ext XE).made (hW.ext XE)) hmk) ?_
                  rintro v w6 ⟨hQa, hE6⟩
                  first | have z6 : P13.heap.size ≤ w6.heap.size := (Below.size hE6 : P13.drew.heap.size ≤ w6.heap.size) | have z6 := Below.size hE6
                  obtain ⟨A8, n8, c8, rfl⟩ : ∃ A n c, v = .slice A n c := by obtain ⟨A, c, e⟩ := hQa.slice; exact ⟨A, _, c, e⟩
                  go_simp
                  refine hK1 _ _ XR ?_
                  clear hK1 K1
                  have fc53 := (Ext.frozen hE6 cV52_0).trans fV52_0
                  have c53 := Ext.cell hE6 cV52_0
                  refine Mtree.two ?_ ?_
                  · skip
                    refine Mtree.step fun K1 hK1 => ?_
                    go_simp
                    refine Wcall (.inl rfl) (last_c _ (s.md d) _ ((hN.ext XE).made (hX.ext XE)) hmk2) ?_
                    rintro v w7 ⟨hQb, hE7⟩
                    first | have z7 : P13.heap.size ≤ w7.heap.size := (Below.size hE7 : P13.drew.heap.size ≤ w7.heap.size) | have z7 := Below.size hE7
                    obtain ⟨A9, n9, c9, rfl⟩ : ∃ A n c, v = .slice A n c := by obtain ⟨A, c, e⟩ := hQb.slice; exact ⟨A, _, c, e⟩
                    go_simp
                    refine hK1 _ _ XR ?_
                    clear hK1 K1
                    have fc54 := (Ext.frozen hE7 c53).trans fc53
                    have c54 := Ext.cell hE7 c53
                    refine Mtree.step fun K1 hK1 => ?_
                    go_simp
                    refine hK1 _ _ XA ?_
                    clear hK1 K1
                    first | refine Mtree.abs fun V55 hV55 sV55 hVc hVf => ?_ | refine Mtree.absD fun V55 hV55 sV55 hVc hVf => ?_
                    have cV55_0 := hVc 0 _ rfl
                    have fV55_0 := hVf 0
                    clear hVc hVf
                    have fc56 := (Ext.frozen hV55 c54).trans fc54
                    have c56 := Ext.cell hV55 c54
                    refine Mtree.stepT fun K1 hK1 => ?_
                    go_simp
                    refine hK1 _ _ ?_
                    clear hK1 K1
                    refine Mtree.stepT fun K1 hK1 => ?_
                    go_simp
                    refine hK1 _ _ ?_
                    clear hK1 K1
                    refine Mtree.fin ?_
                    refine hK _ _ ⟨by simp [AllEq, go_sem], ?_⟩
                    refine ⟨XS, ?_⟩
                    exact ⟨_, _, A8, n8, c8, A9, n9, c9, rfl, rfl, by go_simp, by go_simp, (hQa.two XE (by omega) (by omega)).less (by first | omega | (show w.heap.size ≤ P13.heap.size; omega)), (hQb.two XE (by omega) (by omega)).less (by first | omega | (show w.heap.size ≤ P13.heap.size; omega))⟩
                  · skip
                    refine Mtree.step fun K1 hK1 => ?_
                    go_simp
                    refine hK1 _ _ XA ?_
                    clear hK1 K1
                    first | refine Mtree.abs fun V57 hV57 sV57 hVc hVf => ?_ | refine Mtree.absD fun V57 hV57 sV57 hVc hVf => ?_
                    have cV57_0 := hVc 0 _ rfl
                    have fV57_0 := hVf 0
                    clear hVc hVf
                    have fc58 := (Ext.frozen hV57 c53).trans fc53
                    have c58 := Ext.cell hV57 c53
                    refine Mtree.step fun K1 hK1 => ?_
                    go_simp
                    refine Wcall (.inl rfl) (last_c _ (s.md d) _ ((hN.ext XE).made (hX.ext XE)) hmk2) ?_
                    rintro v w7 ⟨hQb, hE7⟩
                    first | have z7 : P13.heap.size ≤ w7.heap.size := (Below.size hE7 : P13.drew.heap.size ≤ w7.heap.size) | have z7 := Below.size hE7
                    obtain ⟨A9, n9, c9, rfl⟩ : ∃ A n c, v = .slice A n c := by obtain ⟨A, c, e⟩ := hQb.slice; exact ⟨A, _, c, e⟩
                    go_simp
                    refine hK1 _ _ XR ?_
                    clear hK1 K1
                    have fc59 := (Ext.frozen hE7 c58).trans fc58
                    have c59 := Ext.cell hE7 c58
                    have fc60 := (Ext.frozen hE7 cV57_0).trans fV57_0
                    have c60 := Ext.cell hE7 cV57_0
                    refine Mtree.stepT fun K1 hK1 => ?_
                    go_simp
                    refine hK1 _ _ ?_
                    clear hK1 K1
                    refine Mtree.stepT fun K1 hK1 => ?_
                    go_simp
                    refine hK1 _ _ ?_
                    clear hK1 K1
                    refine Mtree.fin ?_
                    refine hK _ _ ⟨by simp [AllEq, go_sem], ?_⟩
                    refine ⟨XS, ?_⟩
                    exact ⟨_, _, A8, n8, c8, A9, n9, c9, rfl, rfl, by go_simp, by go_simp, (hQa.two XE (by omega) (by omega)).less (by first | omega | (show w.heap.size ≤ P13.heap.size; omega)), (hQb.two XE (by omega) (by omega)).less (by first | omega | (show w.heap.size ≤ P13.heap.size; omega))⟩
                · skip
                  refine Mtree.step fun K1 hK1 => ?_
                  go_simp
                  refine hK1 _ _ XA ?_
                  clear hK1 K1
                  first | refine Mtree.abs fun V61 hV61 sV61 hVc hVf => ?_ | refine Mtree.absD fun V61 hV61 sV61 hVc hVf => ?_
                  have cV61_0 := hVc 0 _ rfl
                  have fV61_0 := hVf 0
                  clear hVc hVf
                  have fc62 := (Ext.frozen hV61 cV52_0).trans fV52_0
                  have c62 := Ext.cell hV61 cV52_0
                  refine Mtree.step fun K1 hK1 => ?_
                  go_simp
                  refine Wcall (.inl rfl) (last_c _ (s.md c) _ ((hM.ext XE).made (hW.ext XE)) hmk) ?_
                  rintro v w6 ⟨hQa, hE6⟩
                  first | have z6 : P13.heap.size ≤ w6.heap.size := (Below.size hE6 : P13.drew.heap.size ≤ w6.heap.size) | have z6 := Below.size hE6
                  obtain ⟨A8, n8, c8, rfl⟩ : ∃ A n c, v = .slice A n c := by obtain ⟨A, c, e⟩ := hQa.slice; exact ⟨A, _, c, e⟩
                  go_simp
                  refine hK1 _ _ XR ?_
                  clear hK1 K1
                  have fc63 := (Ext.frozen hE6 c62).trans fc62
                  have c63 := Ext.cell hE6 c62
                  have fc64 := (Ext.frozen hE6 cV61_0).trans fV61_0
                  have c64 := Ext.cell hE6 cV61_0
                  refine Mtree.step fun K1 hK1 => ?_
                  go_simp
                  refine Wcall (.inl rfl) (last_c _ (s.md d) _ ((hN.ext XE).made (hX.ext XE)) hmk2) ?_
                  rintro v w7 ⟨hQb, hE7⟩
                  first | have z7 : P13.heap.size ≤ w7.heap.size := (Below.size hE7 : P13.drew.heap.size ≤ w7.heap.size) | have z7 := Below.size hE7
                  obtain ⟨A9, n9, c9, rfl⟩ : ∃ A n c, v = .slice A n c := by obtain ⟨A, c, e⟩ := hQb.slice; exact ⟨A, _, c, e⟩
                  go_simp
                  refine hK1 _ _ XR ?_
                  clear hK1 K1
                  have fc65 := (Ext.frozen hE7 c63).trans fc63
                  have c65 := Ext.cell hE7 c63
                  have fc66 := (Ext.frozen hE7 c64).trans fc64
                  have c66 := Ext.cell hE7 c64
                  refine Mtree.stepT fun K1 hK1 => ?_
                  go_simp
                  refine hK1 _ _ ?_
                  clear hK1 K1
                  refine Mtree.stepT fun K1 hK1 => ?_
                  go_simp
                  refine hK1 _ _ ?_
                  clear hK1 K1
                  refine Mtree.fin ?_
                  refine hK _ _ ⟨by simp [AllEq, go_sem], ?_⟩
                  refine ⟨XS, ?_⟩
                  exact ⟨_, _, A8, n8, c8, A9, n9, c9, rfl, rfl, by go_simp, by go_simp, (hQa.two XE (by omega) (by omega)).less (by first | omega | (show w.heap.size ≤ P13.heap.size; omega)), (hQb.two XE (by omega) (by omega)).less (by first | omega | (show w.heap.size ≤ P13.heap.size; omega))⟩
          · rintro r67 W ⟨hA, hT14, q1, q2, A8, n8, c8, A9, n9, c9, e16, e17, m1, m2, hQa, hQb⟩
            obtain ⟨e3_67, e12_67, e15_67, -⟩ := hA
            rw [e3_14] at e3_67
            rw [e12_14] at e12_67
            rw [e15_14] at e15_67
            clear e3_14 e11_14 e12_14 e13_14 e14_14 e15_14 e50_14
            have zhT14 := Below.size hT14
            replace f3 := Ext.fz hT14 c3_0 f3
            replace f4 := Ext.fz hT14 c4_0 f4
            replace f5 := Ext.fz hT14 c5_0 f5
            replace f11 := Ext.fz hT14 c11_0 f11
            replace f12 := Ext.fz hT14 c12_0 f12
            replace f14 := Ext.fz hT14 c14_0 f14
            replace f15 := Ext.fz hT14 c15_0 f15
            replace xw := Ext.trans xw hT14
            replace xc := Ext.trans xc hT14
            replace xd := Ext.trans xd hT14
            replace c3_0 := Ext.cell hT14 c3_0
            replace c3_1 := Ext.cell hT14 c3_1
            replace c4_0 := Ext.cell hT14 c4_0
            replace c4_1 := Ext.cell hT14 c4_1
            replace c4_2 := Ext.cell hT14 c4_2
            replace c4_3 := Ext.cell hT14 c4_3
            replace c5_0 := Ext.cell hT14 c5_0
            replace c5_1 := Ext.cell hT14 c5_1
            replace c5_2 := Ext.cell hT14 c5_2
            replace c5_3 := Ext.cell hT14 c5_3
            replace c11_0 := Ext.cell hT14 c11_0
            replace c11_1 := Ext.cell hT14 c11_1
            replace c11_2 := Ext.cell hT14 c11_2
            replace c11_3 := Ext.cell hT14 c11_3
            replace c11_4 := Ext.cell hT14 c11_4
            replace c12_0 := Ext.cell hT14 c12_0
            replace c14_0 := Ext.cell hT14 c14_0
            replace c14_1 := Ext.cell hT14 c14_1
            replace c14_2 := Ext.cell hT14 c14_2
            replace c14_3 := Ext.cell hT14 c14_3
            replace c14_4 := Ext.cell hT14 c14_4
            replace c15_0 := Ext.cell hT14 c15_0
            refine Wp.seqRegion (.inl rfl) (by kernel_rfl) fun K' gd hK hg => ?_
            clear hg
            refine Wops.cut 3 fun K1 hK1 => ?_
            simp only [List.take_succ_cons, List.take_zero]
            go_simp
            refine Wcall (.inl rfl) (ids_c _ s (betP (s.md d).first (s.md c).last) 104 #[.pointer (some ⟨n15, 0, none⟩), .pointer (some ⟨q1, 0, none⟩)] _ (hV.ext xw) (hal hb0.choose_spec) (enters_of Try.func104 (by kernel_rfl) rfl) (fun a ha W hW => bet1_c a n15 q1 _ _ _ _ W (hW.cell c15_0) (hW.cell m1) (hJ.ext (xd.trans hW)).ints (hQa.ext hW).ints (by rw [hls.choose_spec.2.2.1]; exact htu a ha) (by obtain ⟨q1, q2, q3, q4⟩ := hls.choose_spec; omega))) ?_
            rintro v w8 ⟨hY, hE⟩
            go_simp
            refine hK1 _ _ ?_
            clear hK1 K1
            simp only [List.drop_succ_cons, List.drop_zero]
            have z68 := Below.size hE
            replace f3 := Ext.fz hE c3_0 f3
            replace f4 := Ext.fz hE c4_0 f4
            replace f5 := Ext.fz hE c5_0 f5
            replace f11 := Ext.fz hE c11_0 f11
            replace f12 := Ext.fz hE c12_0 f12
            replace f14 := Ext.fz hE c14_0 f14
            replace f15 := Ext.fz hE c15_0 f15
            replace hQa := hQa.ext hE
            replace hQb := hQb.ext hE
            replace xw := Ext.trans xw hE
            replace xc := Ext.trans xc hE
            replace xd := Ext.trans xd hE
            replace c3_0 := Ext.cell hE c3_0
            replace c3_1 := Ext.cell hE c3_1
            replace c4_0 := Ext.cell hE c4_0
            replace c4_1 := Ext.cell hE c4_1
            replace c4_2 := Ext.cell hE c4_2
            replace c4_3 := Ext.cell hE c4_3
            replace c5_0 := Ext.cell hE c5_0
            replace c5_1 := Ext.cell hE c5_1
            replace c5_2 := Ext.cell hE c5_2
            replace c5_3 := Ext.cell hE c5_3
            replace c11_0 := Ext.cell hE c11_0
            replace c11_1 := Ext.cell hE c11_1
            replace c11_2 := Ext.cell hE c11_2
            replace c11_3 := Ext.cell hE c11_3
            replace c11_4 := Ext.cell hE c11_4
            replace c12_0 := Ext.cell hE c12_0
            replace c14_0 := Ext.cell hE c14_0
            replace c14_1 := Ext.cell hE c14_1
            replace c14_2 := Ext.cell hE c14_2
            replace c14_3 := Ext.cell hE c14_3
            replace c14_4 := Ext.cell hE c14_4
            replace c15_0 := Ext.cell hE c15_0
            replace m1 := Ext.cell hE m1
            replace m2 := Ext.cell hE m2
            clear hE
            go_simp
            refine hK _ _ ?_
            clear hK K' gd
            refine Wp.keep [3, 12, 17, 18] fun r69 hkeep => ?_
            obtain ⟨e3_69, e12_69, e17_69, e18_69, -⟩ := hkeep
            simp [go_sem, e3_67, e12_67, e15_67, e16, e17] at e3_69 e12_69 e17_69 e18_69
            clear e3_67 e12_67 e15_67 e16 e17
            refine Wp.seqRegion (.inl rfl) (by kernel_rfl) fun K' gd hK hg => ?_
            clear hg
            refine Wops.cut 3 fun K1 hK1 => ?_
            simp only [List.take_succ_cons, List.take_zero]
            go_simp
            refine Wcall (.inl rfl) (ids_c _ s (betP (s.md d).last (s.md c).first) 105 #[.pointer (some ⟨q2, 0, none⟩), .pointer (some ⟨n12, 0, none⟩)] _ (hV.ext xw) (hal hb0.choose_spec) (enters_of Try.func105 (by kernel_rfl) rfl) (fun a ha W hW => bet2_c a q2 n12 _ _ _ _ W (hW.cell m2) (hW.cell c12_0) (hQb.ext hW).ints (hI.ext (xc.trans hW)).ints (by rw [hls.choose_spec.2.2.2]; exact htu a ha) (by obtain ⟨q1, q2, q3, q4⟩ := hls.choose_spec; omega))) ?_
            rintro v w9 ⟨hZ, hE⟩
            go_simp
            refine hK1 _ _ ?_
            clear hK1 K1
            simp only [List.drop_succ_cons, List.drop_zero]
            have z70 := Below.size hE
            replace f3 := Ext.fz hE c3_0 f3
            replace f4 := Ext.fz hE c4_0 f4
            replace f5 := Ext.fz hE c5_0 f5
            replace f11 := Ext.fz hE c11_0 f11
            replace f12 := Ext.fz hE c12_0 f12
            replace f14 := Ext.fz hE c14_0 f14
            replace f15 := Ext.fz hE c15_0 f15
            replace hQa := hQa.ext hE
            replace hQb := hQb.ext hE
            replace hY := hY.ext hE
            replace xw := Ext.trans xw hE
            replace xc := Ext.trans xc hE
            replace xd := Ext.trans xd hE
            replace c3_0 := Ext.cell hE c3_0
            replace c3_1 := Ext.cell hE c3_1
            replace c4_0 := Ext.cell hE c4_0
            replace c4_1 := Ext.cell hE c4_1
            replace c4_2 := Ext.cell hE c4_2
            replace c4_3 := Ext.cell hE c4_3
            replace c5_0 := Ext.cell hE c5_0
            replace c5_1 := Ext.cell hE c5_1
            replace c5_2 := Ext.cell hE c5_2
            replace c5_3 := Ext.cell hE c5_3
            replace c11_0 := Ext.cell hE c11_0
            replace c11_1 := Ext.cell hE c11_1
            replace c11_2 := Ext.cell hE c11_2
            replace c11_3 := Ext.cell hE c11_3
            replace c11_4 := Ext.cell hE c11_4
            replace c12_0 := Ext.cell hE c12_0
            replace c14_0 := Ext.cell hE c14_0
            replace c14_1 := Ext.cell hE c14_1
            replace c14_2 := Ext.cell hE c14_2
            replace c14_3 := Ext.cell hE c14_3
            replace c14_4 := Ext.cell hE c14_4
            replace c15_0 := Ext.cell hE c15_0
            replace m1 := Ext.cell hE m1
            replace m2 := Ext.cell hE m2
            clear hE
            go_simp
            refine hK _ _ ?_
            clear hK K' gd
            refine Wp.keep [18, 19] fun r71 hkeep => ?_
            obtain ⟨e18_71, e19_71, -⟩ := hkeep
            simp [go_sem, e3_69, e12_69, e17_69, e18_69] at e18_71 e19_71
            clear e3_69 e12_69 e17_69 e18_69
            refine Wp.seqRegion (.inl rfl) (by kernel_rfl) fun K' gd hK hg => ?_
            clear hg
            go_simp
            refine hK _ _ ?_
            clear hK K' gd
            refine Wp.keep [6, 7, 8] fun r72 hkeep => ?_
            obtain ⟨e6_72, e7_72, e8_72, -⟩ := hkeep
            simp [go_sem, e18_71, e19_71] at e6_72 e7_72 e8_72
            clear e18_71 e19_71
            refine Wp.ret ?_
            refine endK_tmp3 Try.results50 (by decide) (by decide) (by decide) ?_
            rw [e6_72, e7_72, e8_72]
            have e := hb0.choose_spec
            exact ⟨_, _, by rw [e], by rw [if_pos e]; exact hY.less (by omega), by rw [if_pos e]; exact hZ.less (by omega), xw⟩
        · skip
          refine Wp.seq ?_
          refine Wp.seqRegion (.inl rfl) (by kernel_rfl) fun K' gd hK hg => ?_
          clear hg
          go_simp
          refine hK _ _ ?_
          clear hK K' gd
          refine Wp.keep [3, 11, 12, 13, 14, 15, 50] fun r73 hkeep => ?_
          obtain ⟨e3_73, e11_73, e12_73, e13_73, e14_73, e15_73, e50_73, -⟩ := hkeep
          simp [go_sem, e3_13, e11_13, e12_13, e13_13, e14_13, e15_13] at e3_73 e11_73 e12_73 e13_73 e14_73 e15_73 e50_73
          clear e3_13 e11_13 e12_13 e13_13 e14_13 e15_13
          refine Wp.condT (by go_simp) ?_
          refine Wp.seqRegion (.inl rfl) (by kernel_rfl) fun K' gd hK hg => ?_
          clear hg
          go_simp
          refine hK _ _ ?_
          clear hK K' gd
          refine Wp.keep [6, 7, 8] fun r74 hkeep => ?_
          obtain ⟨e6_74, e7_74, e8_74, -⟩ := hkeep
          simp [go_sem, e3_73, e11_73, e12_73, e13_73, e14_73, e15_73, e50_73] at e6_74 e7_74 e8_74
          clear e3_73 e11_73 e12_73 e13_73 e14_73 e15_73 e50_73
          refine Wp.ret ?_
          refine thenK_ret ?_
          refine endK_tmp3 Try.results50 (by decide) (by decide) (by decide) ?_
          rw [e6_74, e7_74, e8_74]
          have e : befE s c d = begE s d := by unfold befE; rw [if_pos k1, if_pos k2, if_pos k3]
          exact ⟨_, _, by rw [e], by rw [if_neg (by rw [e]; exact k4)]; exact IntsB.nil _ _, by rw [if_neg (by rw [e]; exact k4)]; exact IntsB.nil _ _, xw⟩
      · skip
        refine Wp.seq ?_
        refine Wp.seqRegion (.inl rfl) (by kernel_rfl) fun K' gd hK hg => ?_
        clear hg
        go_simp
        refine hK _ _ ?_
        clear hK K' gd
        refine Wp.keep [3, 5, 11, 12, 13, 40] fun r75 hkeep => ?_
        obtain ⟨e3_75, e5_75, e11_75, e12_75, e13_75, e40_75, -⟩ := hkeep
        simp [go_sem, e3_10, e5_10, e11_10, e12_10, e13_10] at e3_75 e5_75 e11_75 e12_75 e13_75 e40_75
        clear e3_10 e5_10 e11_10 e12_10 e13_10
        refine Wp.condT (by go_simp) ?_
        refine Wp.seqRegion (.inl rfl) (by kernel_rfl) fun K' gd hK hg => ?_
        clear hg
        go_simp
        refine hK _ _ ?_
        clear hK K' gd
        refine Wp.keep [6, 7, 8] fun r76 hkeep => ?_
        obtain ⟨e6_76, e7_76, e8_76, -⟩ := hkeep
        simp [go_sem, e3_75, e5_75, e11_75, e12_75, e13_75, e40_75] at e6_76 e7_76 e8_76
        clear e3_75 e5_75 e11_75 e12_75 e13_75 e40_75
        refine Wp.ret ?_
        refine thenK_ret ?_
        refine endK_tmp3 Try.results50 (by decide) (by decide) (by decide) ?_
        rw [e6_76, e7_76, e8_76]
        have e : befE s c d = begE s c := by unfold befE; rw [if_pos k1, if_pos k2, if_neg k3]
        exact ⟨_, _, by rw [e], by rw [if_neg (by rw [e]; exact k3)]; exact IntsB.nil _ _, by rw [if_neg (by rw [e]; exact k3)]; exact IntsB.nil _ _, xw⟩
    · skip
      refine Wp.seqRegion (.inl rfl) (by kernel_rfl) fun K' gd hK hg => ?_
      clear hg
      go_simp
      refine hK _ _ ?_
      clear hK K' gd
      refine Wp.keep [3, 4, 5, 10, 30] fun r77 hkeep => ?_
      obtain ⟨e3_77, e4_77, e5_77, e10_77, e30_77, -⟩ := hkeep
      simp [go_sem, e3_7, e4_7, e5_7, e10_7] at e3_77 e4_77 e5_77 e10_77 e30_77
      clear e3_7 e4_7 e5_7 e10_7
      refine Wp.condT (by go_simp) ?_
      refine Wp.seqRegion (.inl rfl) (by kernel_rfl) fun K' gd hK hg => ?_
      clear hg
      go_simp
      refine hK _ _ ?_
      clear hK K' gd
      refine Wp.keep [6, 7, 8] fun r78 hkeep => ?_
      obtain ⟨e6_78, e7_78, e8_78, -⟩ := hkeep
      simp [go_sem, e3_77, e4_77, e5_77, e10_77, e30_77] at e6_78 e7_78 e8_78
      clear e3_77 e4_77 e5_77 e10_77 e30_77
      refine Wp.ret ?_
      refine thenK_ret ?_
      refine endK_tmp3 Try.results50 (by decide) (by decide) (by decide) ?_
      rw [e6_78, e7_78, e8_78]
      have e : befE s c d = copyS s d := by unfold befE; rw [if_pos k1, if_neg k2]
      exact ⟨_, _, by rw [e], by rw [if_neg (by rw [e]; exact k2)]; exact IntsB.nil _ _, by rw [if_neg (by rw [e]; exact k2)]; exact IntsB.nil _ _, xw⟩
  · skip
    refine Wp.seqRegion (.inl rfl) (by kernel_rfl) fun K' gd hK hg => ?_
    clear hg
    go_simp
    refine hK _ _ ?_
    clear hK K' gd
    refine Wp.keep [3, 4, 5, 9, 24] fun r79 hkeep => ?_
    obtain ⟨e3_79, e4_79, e5_79, e9_79, e24_79, -⟩ := hkeep
    simp [go_sem, e3_4, e4_4, e5_4, e9_4] at e3_79 e4_79 e5_79 e9_79 e24_79
    clear e3_4 e4_4 e5_4 e9_4
    refine Wp.condT (by go_simp) ?_
    refine Wp.seqRegion (.inl rfl) (by kernel_rfl) fun K' gd hK hg => ?_
    clear hg
    go_simp
    refine hK _ _ ?_
    clear hK K' gd
    refine Wp.keep [6, 7, 8] fun r80 hkeep => ?_
    obtain ⟨e6_80, e7_80, e8_80, -⟩ := hkeep
    simp [go_sem, e3_79, e4_79, e5_79, e9_79, e24_79] at e6_80 e7_80 e8_80
    clear e3_79 e4_79 e5_79 e9_79 e24_79
    refine Wp.ret ?_
    refine thenK_ret ?_
    refine endK_tmp3 Try.results50 (by decide) (by decide) (by decide) ?_
    rw [e6_80, e7_80, e8_80]
    have e : befE s c d = copyS s c := by unfold befE; rw [if_neg k1]
    exact ⟨_, _, by rw [e], by rw [if_neg (by rw [e]; exact k1)]; exact IntsB.nil _ _, by rw [if_neg (by rw [e]; exact k1)]; exact IntsB.nil _ _, xw⟩
end Go.Proofs.Ytnjajbkkgfohaaa
namespace Go.Proofs.Ytnjajbkkgfohaaa
open Go.RowKit Go.Wk Go.Proofs
attribute [local irreducible] Go.Wk.Wops Go.Wk.Wp Go.Wk.Mtree Go.Wk.Mops
set_option maxHeartbeats 8000000
set_option maxRecDepth 20000

theorem has_T {x : Value} {xs : List Int} {d : Int} (h : d ∈ xs) (w : World) (hx : IntsV w w.heap.size x xs) (hl : xs.length ≤ 1000000000000000) :
    CallsV Try.prog 35 #[x, .int .i64 d] w fun v w' => v = .bool true ∧ Ext w w' :=
  (has_c x xs d w hx hl).mono fun v w' ⟨h1, h2⟩ => ⟨by rw [h1, decide_eq_true h], h2⟩
theorem has_F {x : Value} {xs : List Int} {d : Int} (h : ¬ d ∈ xs) (w : World) (hx : IntsV w w.heap.size x xs) (hl : xs.length ≤ 1000000000000000) :
    CallsV Try.prog 35 #[x, .int .i64 d] w fun v w' => v = .bool false ∧ Ext w w' :=
  (has_c x xs d w hx hl).mono fun v w' ⟨h1, h2⟩ => ⟨by rw [h1, decide_eq_false h], h2⟩
theorem follows_know {s : Sh} {c d : Cp} (b1 : begE s c = 0) (b2 : begE s d = 0) {a : Alt} (ha : a ∈ s.alts) (hi : a.id ∈ idsS s (betP (s.md d).first (s.md c).last)) :
    gI (s.md c).last a.tu.toNat < gI (s.md d).first a.tu.toNat ∧ a.id ∈ idsS s (betP (s.md d).last (s.md c).first) ∧ a.id ∈ idsS s (seenP (s.md d).first) ∧ ¬ a.id ∈ idsS s (seenP (s.md c).first) ∧
      ∀ b ∈ s.alts, b.tu = a.tu → ¬ b.id ∈ idsS s (betP (s.md c).first (s.md d).last) := by
  have hid := (beg_know b1).1.ids
  obtain ⟨r1, r2, r3, r4, r5⟩ := bet_sure b1 b2 ha ((ids_mem hid ha _).1 hi)
  refine ⟨r1, (ids_mem hid ha _).2 r2, (ids_mem hid ha _).2 r3, fun q => ?_, fun b hb e q => ?_⟩
  · have := (ids_mem hid ha _).1 q
    rw [r4] at this; cases this
  · have h1 := r5 b hb e
    have h2 := (ids_mem hid hb _).1 q
    rw [h1] at h2; cases h2
theorem follows_c (v u x : Value) (s : Sh) (c d : Cp) (w : World) (hV : SheetV w w.heap.size v s) (hU : CopyV w w.heap.size u c) (hT : CopyV w w.heap.size x d) (hf : FitS s) (hg : FitC c) (hh : FitC d) :
    CallsV Try.prog 12 #[v, u, x] w fun v w' => v = .bool true ∧ Ext w w' := by
  obtain ⟨wv, av, rfl, ⟨A, c1, rfl, -, -⟩, hAl⟩ := id hV
  obtain ⟨A3, c3, rfl, -, -⟩ := id hAl
  obtain ⟨wu, rfl, hW⟩ := id hU
  obtain ⟨A2, c2, rfl, -, -⟩ := id hW
  obtain ⟨wt, rfl, hX⟩ := id hT
  obtain ⟨A4, c4, rfl, -, -⟩ := id hX
  have hfa := hf.2
  refine Wp.fn Try.func12 rfl Try.ntmps12 (by simp) ?_
  have xw := Ext.refl w
  refine Wp.keep [0, 1, 2] fun r1 hkeep => ?_
  obtain ⟨e0_1, e1_1, e2_1, -⟩ := hkeep
  simp [go_sem] at e0_1 e1_1 e2_1
  refine Wp.seqRegion (.inl rfl) (by kernel_rfl) fun K' gd hK hg => ?_
  clear hg
  refine Wops.cut 1 fun K1 hK1 => ?_
  simp only [List.take_succ_cons, List.take_zero]
  go_simp
  refine hK1 _ _ ?_
  clear hK1 K1
  simp only [List.drop_succ_cons, List.drop_zero]
  refine Wops.absA fun V3_1 n3 hV3_1 => ?_
  obtain ⟨q3, hV3_1, s3, kV3_1, f3, r3⟩ := hV3_1
  try simp only [q3] at kV3_1 f3 r3 ⊢
  replace xw := Ext.trans xw hV3_1
  have c3_0 := kV3_1 0 _ rfl
  have c3_1 := kV3_1 1 _ rfl
  clear kV3_1 hV3_1
  clear r3
  refine Wops.cut 1 fun K1 hK1 => ?_
  simp only [List.take_succ_cons, List.take_zero]
  go_simp
  refine hK1 _ _ ?_
  clear hK1 K1
  simp only [List.drop_succ_cons, List.drop_zero]
  refine Wops.absA fun V4_2 n4 hV4_2 => ?_
  obtain ⟨q4, hV4_2, s4, kV4_2, f4, r4⟩ := hV4_2
  try simp only [q4] at kV4_2 f4 r4 ⊢
  replace f3 := Ext.fz hV4_2 c3_0 f3
  replace xw := Ext.trans xw hV4_2
  replace c3_0 := Ext.cell hV4_2 c3_0
  replace c3_1 := Ext.cell hV4_2 c3_1
  have c4_0 := kV4_2 0 _ rfl
  have c4_1 := kV4_2 1 _ rfl
  have c4_2 := kV4_2 2 _ rfl
  have c4_3 := kV4_2 3 _ rfl
  clear kV4_2 hV4_2
  clear r4
  refine Wops.cut 1 fun K1 hK1 => ?_
  simp only [List.take_succ_cons, List.take_zero]
  go_simp
  refine hK1 _ _ ?_
  clear hK1 K1
  simp only [List.drop_succ_cons, List.drop_zero]
  refine Wops.absA fun V5_3 n5 hV5_3 => ?_
  obtain ⟨q5, hV5_3, s5, kV5_3, f5, r5⟩ := hV5_3
  try simp only [q5] at kV5_3 f5 r5 ⊢
  replace f3 := Ext.fz hV5_3 c3_0 f3
  replace f4 := Ext.fz hV5_3 c4_0 f4
  replace xw := Ext.trans xw hV5_3
  replace c3_0 := Ext.cell hV5_3 c3_0
  replace c3_1 := Ext.cell hV5_3 c3_1
  replace c4_0 := Ext.cell hV5_3 c4_0
  replace c4_1 := Ext.cell hV5_3 c4_1
  replace c4_2 := Ext.cell hV5_3 c4_2
  replace c4_3 := Ext.cell hV5_3 c4_3
  have c5_0 := kV5_3 0 _ rfl
  have c5_1 := kV5_3 1 _ rfl
  have c5_2 := kV5_3 2 _ rfl
  have c5_3 := kV5_3 3 _ rfl
  clear kV5_3 hV5_3
  clear r5
  go_simp
  refine hK _ _ ?_
  clear hK K' gd
  refine Wp.keep [3, 4, 5] fun r2 hkeep => ?_
  obtain ⟨e3_2, e4_2, e5_2, -⟩ := hkeep
  simp [go_sem, e0_1, e1_1, e2_1] at e3_2 e4_2 e5_2
  clear e0_1 e1_1 e2_1
  refine Wp.seqRegion (.inl rfl) (by kernel_rfl) fun K' gd hK hg => ?_
  clear hg
  refine Wops.cut 1 fun K1 hK1 => ?_
  simp only [List.take_succ_cons, List.take_zero]
  go_simp
  refine Wcall (.inl rfl) (head_c _) ?_
  rintro v w2 ⟨rfl, hE⟩
  go_simp
  refine hK1 _ _ ?_
  clear hK1 K1
  simp only [List.drop_succ_cons, List.drop_zero]
  have z3 := Below.size hE
  replace f3 := Ext.fz hE c3_0 f3
  replace f4 := Ext.fz hE c4_0 f4
  replace f5 := Ext.fz hE c5_0 f5
  replace xw := Ext.trans xw hE
  replace c3_0 := Ext.cell hE c3_0
  replace c3_1 := Ext.cell hE c3_1
  replace c4_0 := Ext.cell hE c4_0
  replace c4_1 := Ext.cell hE c4_1
  replace c4_2 := Ext.cell hE c4_2
  replace c4_3 := Ext.cell hE c4_3
  replace c5_0 := Ext.cell hE c5_0
  replace c5_1 := Ext.cell hE c5_1
  replace c5_2 := Ext.cell hE c5_2
  replace c5_3 := Ext.cell hE c5_3
  clear hE
  go_simp
  refine hK _ _ ?_
  clear hK K' gd
  refine Wp.keep [3, 4, 5, 7] fun r4 hkeep => ?_
  obtain ⟨e3_4, e4_4, e5_4, e7_4, -⟩ := hkeep
  simp [go_sem, e3_2, e4_2, e5_2] at e3_4 e4_4 e5_4 e7_4
  clear e3_2 e4_2 e5_2
  by_cases hfw : fewS s
  · skip
    by_cases hbr : c.words.length ≤ 50
    · skip
      by_cases hbd : d.words.length ≤ 50
      · skip
        refine Wp.seq ?_
        refine Wp.seqRegion (.inl rfl) (by kernel_rfl) fun K' gd hK hg => ?_
        have g3 : gd 3 = some 31 := hg 3
        have g8 : gd 8 = some 36 := hg 8
        clear hg
        refine Wops.cut 2 fun K1 hK1 => ?_
        simp only [List.take_succ_cons, List.take_zero]
        go_simp
        refine Wcall (.inl rfl) (few_c _ s _ (hV.ext xw)) ?_
        rintro v w3 ⟨rfl, hE⟩
        go_simp
        refine hK1 _ _ ?_
        clear hK1 K1
        simp only [List.drop_succ_cons, List.drop_zero]
        have z5 := Below.size hE
        replace f3 := Ext.fz hE c3_0 f3
        replace f4 := Ext.fz hE c4_0 f4
        replace f5 := Ext.fz hE c5_0 f5
        replace xw := Ext.trans xw hE
        replace c3_0 := Ext.cell hE c3_0
        replace c3_1 := Ext.cell hE c3_1
        replace c4_0 := Ext.cell hE c4_0
        replace c4_1 := Ext.cell hE c4_1
        replace c4_2 := Ext.cell hE c4_2
        replace c4_3 := Ext.cell hE c4_3
        replace c5_0 := Ext.cell hE c5_0
        replace c5_1 := Ext.cell hE c5_1
        replace c5_2 := Ext.cell hE c5_2
        replace c5_3 := Ext.cell hE c5_3
        clear hE
        refine Wops.cut 4 fun K1 hK1 => ?_
        simp only [List.take_succ_cons, List.take_zero]
        go_simp
        refine Wcall (.inl rfl) (brief_c _ c _ (hU.ext xw)) ?_
        rintro v w4 ⟨rfl, hE⟩
        go_simp
        refine hK1 _ _ ?_
        clear hK1 K1
        simp only [List.drop_succ_cons, List.drop_zero]
        have z6 := Below.size hE
        replace f3 := Ext.fz hE c3_0 f3
        replace f4 := Ext.fz hE c4_0 f4
        replace f5 := Ext.fz hE c5_0 f5
        replace xw := Ext.trans xw hE
        replace c3_0 := Ext.cell hE c3_0
        replace c3_1 := Ext.cell hE c3_1
        replace c4_0 := Ext.cell hE c4_0
        replace c4_1 := Ext.cell hE c4_1
        replace c4_2 := Ext.cell hE c4_2
        replace c4_3 := Ext.cell hE c4_3
        replace c5_0 := Ext.cell hE c5_0
        replace c5_1 := Ext.cell hE c5_1
        replace c5_2 := Ext.cell hE c5_2
        replace c5_3 := Ext.cell hE c5_3
        clear hE
        refine Wops.cut 5 fun K1 hK1 => ?_
        simp only [List.take_succ_cons, List.take_zero]
        go_simp
        refine Wcall (.inl rfl) (brief_c _ d _ (hT.ext xw)) ?_
        rintro v w5 ⟨rfl, hE⟩
        go_simp
        refine hK1 _ _ ?_
        clear hK1 K1
        simp only [List.drop_succ_cons, List.drop_zero]
        have z7 := Below.size hE
        replace f3 := Ext.fz hE c3_0 f3
        replace f4 := Ext.fz hE c4_0 f4
        replace f5 := Ext.fz hE c5_0 f5
        replace xw := Ext.trans xw hE
        replace c3_0 := Ext.cell hE c3_0
        replace c3_1 := Ext.cell hE c3_1
        replace c4_0 := Ext.cell hE c4_0
        replace c4_1 := Ext.cell hE c4_1
        replace c4_2 := Ext.cell hE c4_2
        replace c4_3 := Ext.cell hE c4_3
        replace c5_0 := Ext.cell hE c5_0
        replace c5_1 := Ext.cell hE c5_1
        replace c5_2 := Ext.cell hE c5_2
        replace c5_3 := Ext.cell hE c5_3
        clear hE
        go_simp
        refine hK _ _ ?_
        clear hK K' gd g3 g8
        refine Wp.keep [3, 4, 5, 7, 40] fun r8 hkeep => ?_
        obtain ⟨e3_8, e4_8, e5_8, e7_8, e40_8, -⟩ := hkeep
        simp [go_sem, e3_4, e4_4, e5_4, e7_4] at e3_8 e4_8 e5_8 e7_8 e40_8
        clear e3_4 e4_4 e5_4 e7_4
        refine Wp.condF (by go_simp) ?_
        refine Wp.skip ?_
        refine thenK_normal ?_
        refine Wp.seqRegion (.inl rfl) (by kernel_rfl) fun K' gd hK hg => ?_
        clear hg
        refine Wops.cut 4 fun K1 hK1 => ?_
        simp only [List.take_succ_cons, List.take_zero]
        go_simp
        refine Wcall (.inl rfl) (Between_c _ _ _ s c d _ (hV.ext xw) (hU.ext xw) (hT.ext xw) hf hg hh (fun h => beg_alts hfw (befE_zero.1 h).1)) ?_
        rintro v w6 ⟨s1, s2, rfl, i1, i2, hE⟩
        go_simp
        refine hK1 _ _ ?_
        clear hK1 K1
        simp only [List.drop_succ_cons, List.drop_zero]
        have z9 := Below.size hE
        replace f3 := Ext.fz hE c3_0 f3
        replace f4 := Ext.fz hE c4_0 f4
        replace f5 := Ext.fz hE c5_0 f5
        replace xw := Ext.trans xw hE
        replace c3_0 := Ext.cell hE c3_0
        replace c3_1 := Ext.cell hE c3_1
        replace c4_0 := Ext.cell hE c4_0
        replace c4_1 := Ext.cell hE c4_1
        replace c4_2 := Ext.cell hE c4_2
        replace c4_3 := Ext.cell hE c4_3
        replace c5_0 := Ext.cell hE c5_0
        replace c5_1 := Ext.cell hE c5_1
        replace c5_2 := Ext.cell hE c5_2
        replace c5_3 := Ext.cell hE c5_3
        clear hE
        go_simp
        refine hK _ _ ?_
        clear hK K' gd
        refine Wp.keep [3, 4, 5, 7, 8, 9, 10] fun r10 hkeep => ?_
        obtain ⟨e3_10, e4_10, e5_10, e7_10, e8_10, e9_10, e10_10, -⟩ := hkeep
        simp [go_sem, e3_8, e4_8, e5_8, e7_8, e40_8] at e3_10 e4_10 e5_10 e7_10 e8_10 e9_10 e10_10
        clear e3_8 e4_8 e5_8 e7_8 e40_8
        refine Wp.seqRegion (.inl rfl) (by kernel_rfl) fun K' gd hK hg => ?_
        clear hg
        refine Wops.cut 4 fun K1 hK1 => ?_
        simp only [List.take_succ_cons, List.take_zero]
        go_simp
        refine Wcall (.inl rfl) (Between_c _ _ _ s d c _ (hV.ext xw) (hT.ext xw) (hU.ext xw) hf hh hg (fun h => beg_alts hfw (befE_zero.1 h).1)) ?_
        rintro v w7 ⟨s3, s4, rfl, i3, -, hE⟩
        go_simp
        refine hK1 _ _ ?_
        clear hK1 K1
        simp only [List.drop_succ_cons, List.drop_zero]
        have z11 := Below.size hE
        replace f3 := Ext.fz hE c3_0 f3
        replace f4 := Ext.fz hE c4_0 f4
        replace f5 := Ext.fz hE c5_0 f5
        replace i1 := i1.ext hE
        replace i2 := i2.ext hE
        replace xw := Ext.trans xw hE
        replace c3_0 := Ext.cell hE c3_0
        replace c3_1 := Ext.cell hE c3_1
        replace c4_0 := Ext.cell hE c4_0
        replace c4_1 := Ext.cell hE c4_1
        replace c4_2 := Ext.cell hE c4_2
        replace c4_3 := Ext.cell hE c4_3
        replace c5_0 := Ext.cell hE c5_0
        replace c5_1 := Ext.cell hE c5_1
        replace c5_2 := Ext.cell hE c5_2
        replace c5_3 := Ext.cell hE c5_3
        clear hE
        go_simp
        refine hK _ _ ?_
        clear hK K' gd
        refine Wp.keep [3, 4, 5, 7, 8, 9, 10, 11, 13] fun r12 hkeep => ?_
        obtain ⟨e3_12, e4_12, e5_12, e7_12, e8_12, e9_12, e10_12, e11_12, e13_12, -⟩ := hkeep
        simp [go_sem, e3_10, e4_10, e5_10, e7_10, e8_10, e9_10, e10_10] at e3_12 e4_12 e5_12 e7_12 e8_12 e9_12 e10_12 e11_12 e13_12
        clear e3_10 e4_10 e5_10 e7_10 e8_10 e9_10 e10_10
        by_cases e0 : befE s c d = 0
        · skip
          obtain ⟨b1, b2⟩ := befE_zero.1 e0
          have e1 : befE s d c = 0 := befE_zero.2 ⟨b2, b1⟩
          rw [if_pos e0] at i1 i2
          rw [if_pos e1] at i3
          obtain ⟨hgd, hmk, hok, hl1, hl2, hn1, hn40⟩ := beg_know b1
          obtain ⟨-, hmk2, hok2, hl3, hl4, -, -⟩ := beg_know b2
          have htu := (ends_of b1).tu
          have hm40 := hgd.m2
          have know : ∀ a ∈ s.alts, a.id ∈ idsS s (betP (s.md d).first (s.md c).last) → gI (s.md c).last a.tu.toNat < gI (s.md d).first a.tu.toNat ∧ a.id ∈ idsS s (betP (s.md d).last (s.md c).first) ∧ a.id ∈ idsS s (seenP (s.md d).first) ∧ ¬ a.id ∈ idsS s (seenP (s.md c).first) ∧ ∀ b ∈ s.alts, b.tu = a.tu → ¬ b.id ∈ idsS s (betP (s.md c).first (s.md d).last) := fun a ha hi => follows_know b1 b2 ha hi
          obtain ⟨F, hF⟩ : ∃ F, ∃ _u : Unit, (s.md d).first = F ∧ F.length = s.words.length := ⟨_, (), rfl, hl3⟩
          obtain ⟨G, hG⟩ : ∃ G, ∃ _u : Unit, (s.md c).last = G ∧ G.length = s.words.length := ⟨_, (), rfl, hl2⟩
          clear hl1 hl2 hl3 hl4
          obtain ⟨l1, hl1⟩ : ∃ l, ∃ _u : Unit, idsS s (betP (s.md d).first (s.md c).last) = l ∧ l.length ≤ 1000000000000000 := ⟨_, (), rfl, Nat.le_trans ids_len hfa⟩
          obtain ⟨l2, hl2⟩ : ∃ l, ∃ _u : Unit, idsS s (betP (s.md d).last (s.md c).first) = l ∧ l.length ≤ 1000000000000000 := ⟨_, (), rfl, Nat.le_trans ids_len hfa⟩
          obtain ⟨l3, hl3⟩ : ∃ l, ∃ _u : Unit, idsS s (betP (s.md c).first (s.md d).last) = l ∧ l.length ≤ 1000000000000000 := ⟨_, (), rfl, Nat.le_trans ids_len hfa⟩
          obtain ⟨l4, hl4⟩ : ∃ l, ∃ _u : Unit, idsS s (seenP (s.md d).first) = l ∧ l.length ≤ 1000000000000000 := ⟨_, (), rfl, Nat.le_trans ids_len hfa⟩
          obtain ⟨l5, hl5⟩ : ∃ l, ∃ _u : Unit, idsS s (seenP (s.md c).first) = l ∧ l.length ≤ 1000000000000000 := ⟨_, (), rfl, Nat.le_trans ids_len hfa⟩
          rw [hl1.choose_spec.1] at i1 know
          rw [hl2.choose_spec.1] at i2 know
          rw [hl3.choose_spec.1] at i3 know
          rw [hl4.choose_spec.1, hl5.choose_spec.1, hF.choose_spec.1, hG.choose_spec.1] at know
          refine Wp.seq ?_
          refine Wp.seqRegion (.inl rfl) (by kernel_rfl) fun K' gd hK hg => ?_
          have g2 : gd 2 = some 60 := hg 2
          clear hg
          go_simp
          refine hK _ _ ?_
          clear hK K' gd g2
          refine Wp.keep [3, 4, 5, 7, 8, 9, 10, 11, 13, 63] fun r13 hkeep => ?_
          obtain ⟨e3_13, e4_13, e5_13, e7_13, e8_13, e9_13, e10_13, e11_13, e13_13, e63_13, -⟩ := hkeep
          simp [go_sem, e3_12, e4_12, e5_12, e7_12, e8_12, e9_12, e10_12, e11_12, e13_12] at e3_13 e4_13 e5_13 e7_13 e8_13 e9_13 e10_13 e11_13 e13_13 e63_13
          clear e3_12 e4_12 e5_12 e7_12 e8_12 e9_12 e10_12 e11_12 e13_12
          refine Wp.condF (by go_simp) ?_
          refine Wp.skip ?_
          refine thenK_normal ?_
          refine Wp.seqRegion (.inl rfl) (by kernel_rfl) fun K' gd hK hg => ?_
          clear hg
          refine Wops.cut 3 fun K1 hK1 => ?_
          simp only [List.take_succ_cons, List.take_zero]
          go_simp
          refine Wcall (.inl rfl) (Last_c _ _ s c _ (hV.ext xw) (hU.ext xw) hf hg) ?_
          rintro v w8 ⟨t14, hv8, hJ, hE⟩
          rw [b1] at hv8
          subst hv8
          rw [if_pos b1, hG.choose_spec.1] at hJ
          have xj := Ext.refl w8
          obtain ⟨E7, m7, r7, rfl⟩ : ∃ A n c, t14 = .slice A n c := by obtain ⟨A, c, e⟩ := hJ.slice; exact ⟨A, _, c, e⟩
          go_simp
          refine hK1 _ _ ?_
          clear hK1 K1
          simp only [List.drop_succ_cons, List.drop_zero]
          have z14 := Below.size hE
          replace f3 := Ext.fz hE c3_0 f3
          replace f4 := Ext.fz hE c4_0 f4
          replace f5 := Ext.fz hE c5_0 f5
          replace i1 := i1.ext hE
          replace i2 := i2.ext hE
          replace i3 := i3.ext hE
          replace xw := Ext.trans xw hE
          replace c3_0 := Ext.cell hE c3_0
          replace c3_1 := Ext.cell hE c3_1
          replace c4_0 := Ext.cell hE c4_0
          replace c4_1 := Ext.cell hE c4_1
          replace c4_2 := Ext.cell hE c4_2
          replace c4_3 := Ext.cell hE c4_3
          replace c5_0 := Ext.cell hE c5_0
          replace c5_1 := Ext.cell hE c5_1
          replace c5_2 := Ext.cell hE c5_2
          replace c5_3 := Ext.cell hE c5_3
          clear hE
          go_simp
          refine hK _ _ ?_
          clear hK K' gd
          refine Wp.keep [3, 4, 5, 7, 8, 9, 11, 14, 15] fun r15 hkeep => ?_
          obtain ⟨e3_15, e4_15, e5_15, e7_15, e8_15, e9_15, e11_15, e14_15, e15_15, -⟩ := hkeep
          simp [go_sem, e3_13, e4_13, e5_13, e7_13, e8_13, e9_13, e10_13, e11_13, e13_13, e63_13] at e3_15 e4_15 e5_15 e7_15 e8_15 e9_15 e11_15 e14_15 e15_15
          clear e3_13 e4_13 e5_13 e7_13 e8_13 e9_13 e10_13 e11_13 e13_13 e63_13
          refine Wp.seqRegion (.inl rfl) (by kernel_rfl) fun K' gd hK hg => ?_
          clear hg
          refine Wops.cut 3 fun K1 hK1 => ?_
          simp only [List.take_succ_cons, List.take_zero]
          go_simp
          refine Wcall (.inl rfl) (First_c _ _ s d _ (hV.ext xw) (hT.ext xw) hf hh) ?_
          rintro v w9 ⟨t16, hv9, hI, hE⟩
          rw [b2] at hv9
          subst hv9
          rw [if_pos b2, hF.choose_spec.1] at hI
          have xi := Ext.refl w9
          obtain ⟨E8, m8, r8, rfl⟩ : ∃ A n c, t16 = .slice A n c := by obtain ⟨A, c, e⟩ := hI.slice; exact ⟨A, _, c, e⟩
          go_simp
          refine hK1 _ _ ?_
          clear hK1 K1
          simp only [List.drop_succ_cons, List.drop_zero]
          have z16 := Below.size hE
          replace f3 := Ext.fz hE c3_0 f3
          replace f4 := Ext.fz hE c4_0 f4
          replace f5 := Ext.fz hE c5_0 f5
          replace i1 := i1.ext hE
          replace i2 := i2.ext hE
          replace i3 := i3.ext hE
          replace xw := Ext.trans xw hE
          replace xj := Ext.trans xj hE
          replace c3_0 := Ext.cell hE c3_0
          replace c3_1 := Ext.cell hE c3_1
          replace c4_0 := Ext.cell hE c4_0
          replace c4_1 := Ext.cell hE c4_1
          replace c4_2 := Ext.cell hE c4_2
          replace c4_3 := Ext.cell hE c4_3
          replace c5_0 := Ext.cell hE c5_0
          replace c5_1 := Ext.cell hE c5_1
          replace c5_2 := Ext.cell hE c5_2
          replace c5_3 := Ext.cell hE c5_3
          clear hE
          go_simp
          refine hK _ _ ?_
          clear hK K' gd
          refine Wp.keep [3, 4, 5, 7, 8, 9, 11, 14, 15, 16, 17] fun r17 hkeep => ?_
          obtain ⟨e3_17, e4_17, e5_17, e7_17, e8_17, e9_17, e11_17, e14_17, e15_17, e16_17, e17_17, -⟩ := hkeep
          simp [go_sem, e3_15, e4_15, e5_15, e7_15, e8_15, e9_15, e11_15, e14_15, e15_15] at e3_17 e4_17 e5_17 e7_17 e8_17 e9_17 e11_17 e14_17 e15_17 e16_17 e17_17
          clear e3_15 e4_15 e5_15 e7_15 e8_15 e9_15 e11_15 e14_15 e15_15
          refine Wp.seqRegion (.inl rfl) (by kernel_rfl) fun K' gd hK hg => ?_
          clear hg
          refine Wops.cut 3 fun K1 hK1 => ?_
          simp only [List.take_succ_cons, List.take_zero]
          go_simp
          refine Wcall (.inl rfl) (Seen_c _ _ s d _ (hV.ext xw) (hT.ext xw) hf hh (beg_alts hfw)) ?_
          rintro v w10 ⟨s5, s6, hv10, i4, -, hE⟩
          rw [b2] at hv10
          subst hv10
          rw [if_pos b2, hl4.choose_spec.1] at i4
          go_simp
          refine hK1 _ _ ?_
          clear hK1 K1
          simp only [List.drop_succ_cons, List.drop_zero]
          have z18 := Below.size hE
          replace f3 := Ext.fz hE c3_0 f3
          replace f4 := Ext.fz hE c4_0 f4
          replace f5 := Ext.fz hE c5_0 f5
          replace i1 := i1.ext hE
          replace i2 := i2.ext hE
          replace i3 := i3.ext hE
          replace xw := Ext.trans xw hE
          replace xj := Ext.trans xj hE
          replace xi := Ext.trans xi hE
          replace c3_0 := Ext.cell hE c3_0
          replace c3_1 := Ext.cell hE c3_1
          replace c4_0 := Ext.cell hE c4_0
          replace c4_1 := Ext.cell hE c4_1
          replace c4_2 := Ext.cell hE c4_2
          replace c4_3 := Ext.cell hE c4_3
          replace c5_0 := Ext.cell hE c5_0
          replace c5_1 := Ext.cell hE c5_1
          replace c5_2 := Ext.cell hE c5_2
          replace c5_3 := Ext.cell hE c5_3
          clear hE
          go_simp
          refine hK _ _ ?_
          clear hK K' gd
          refine Wp.keep [3, 4, 7, 8, 9, 11, 14, 15, 16, 17, 18, 20] fun r19 hkeep => ?_
          obtain ⟨e3_19, e4_19, e7_19, e8_19, e9_19, e11_19, e14_19, e15_19, e16_19, e17_19, e18_19, e20_19, -⟩ := hkeep
          simp [go_sem, e3_17, e4_17, e5_17, e7_17, e8_17, e9_17, e11_17, e14_17, e15_17, e16_17, e17_17] at e3_19 e4_19 e7_19 e8_19 e9_19 e11_19 e14_19 e15_19 e16_19 e17_19 e18_19 e20_19
          clear e3_17 e4_17 e5_17 e7_17 e8_17 e9_17 e11_17 e14_17 e15_17 e16_17 e17_17
          refine Wp.seqRegion (.inl rfl) (by kernel_rfl) fun K' gd hK hg => ?_
          clear hg
          refine Wops.cut 3 fun K1 hK1 => ?_
          simp only [List.take_succ_cons, List.take_zero]
          go_simp
          refine Wcall (.inl rfl) (Seen_c _ _ s c _ (hV.ext xw) (hU.ext xw) hf hg (beg_alts hfw)) ?_
          rintro v w11 ⟨s7, s8, hv11, i5, -, hE⟩
          rw [b1] at hv11
          subst hv11
          rw [if_pos b1, hl5.choose_spec.1] at i5
          go_simp
          refine hK1 _ _ ?_
          clear hK1 K1
          simp only [List.drop_succ_cons, List.drop_zero]
          have z20 := Below.size hE
          replace f3 := Ext.fz hE c3_0 f3
          replace f4 := Ext.fz hE c4_0 f4
          replace f5 := Ext.fz hE c5_0 f5
          replace i1 := i1.ext hE
          replace i2 := i2.ext hE
          replace i3 := i3.ext hE
          replace i4 := i4.ext hE
          replace xw := Ext.trans xw hE
          replace xj := Ext.trans xj hE
          replace xi := Ext.trans xi hE
          replace c3_0 := Ext.cell hE c3_0
          replace c3_1 := Ext.cell hE c3_1
          replace c4_0 := Ext.cell hE c4_0
          replace c4_1 := Ext.cell hE c4_1
          replace c4_2 := Ext.cell hE c4_2
          replace c4_3 := Ext.cell hE c4_3
          replace c5_0 := Ext.cell hE c5_0
          replace c5_1 := Ext.cell hE c5_1
          replace c5_2 := Ext.cell hE c5_2
          replace c5_3 := Ext.cell hE c5_3
          clear hE
          go_simp
          refine hK _ _ ?_
          clear hK K' gd
          refine Wp.keep [3, 7, 8, 9, 11, 14, 15, 16, 17, 18, 20, 21, 23] fun r21 hkeep => ?_
          obtain ⟨e3_21, e7_21, e8_21, e9_21, e11_21, e14_21, e15_21, e16_21, e17_21, e18_21, e20_21, e21_21, e23_21, -⟩ := hkeep
          simp [go_sem, e3_19, e4_19, e7_19, e8_19, e9_19, e11_19, e14_19, e15_19, e16_19, e17_19, e18_19, e20_19] at e3_21 e7_21 e8_21 e9_21 e11_21 e14_21 e15_21 e16_21 e17_21 e18_21 e20_21 e21_21 e23_21
          clear e3_19 e4_19 e7_19 e8_19 e9_19 e11_19 e14_19 e15_19 e16_19 e17_19 e18_19 e20_19
          refine Wp.seq ?_
          refine Wp.seqRegion (.inl rfl) (by kernel_rfl) fun K' gd hK hg => ?_
          have g2 : gd 2 = some 100 := hg 2
          have g6 : gd 6 = some 104 := hg 6
          have g10 : gd 10 = some 108 := hg 10
          clear hg
          go_simp
          refine hK _ _ ?_
          clear hK K' gd g2 g6 g10
          refine Wp.keep [3, 7, 8, 9, 11, 14, 16, 18, 21, 111] fun r22 hkeep => ?_
          obtain ⟨e3_22, e7_22, e8_22, e9_22, e11_22, e14_22, e16_22, e18_22, e21_22, e111_22, -⟩ := hkeep
          simp [go_sem, e3_21, e7_21, e8_21, e9_21, e11_21, e14_21, e15_21, e16_21, e17_21, e18_21, e20_21, e21_21, e23_21] at e3_22 e7_22 e8_22 e9_22 e11_22 e14_22 e16_22 e18_22 e21_22 e111_22
          clear e3_21 e7_21 e8_21 e9_21 e11_21 e14_21 e15_21 e16_21 e17_21 e18_21 e20_21 e21_21 e23_21
          refine Wp.condF (by go_simp) ?_
          refine Wp.skip ?_
          refine thenK_normal ?_
          refine Wp.seq ?_
          refine Wp.seqRegion (.inl rfl) (by kernel_rfl) fun K' gd hK hg => ?_
          clear hg
          go_simp
          refine hK _ _ ?_
          clear hK K' gd
          refine Wp.keep [3, 7, 8, 9, 11, 14, 16, 18, 21, 24] fun r23 hkeep => ?_
          obtain ⟨e3_23, e7_23, e8_23, e9_23, e11_23, e14_23, e16_23, e18_23, e21_23, e24_23, -⟩ := hkeep
          simp [go_sem, e3_22, e7_22, e8_22, e9_22, e11_22, e14_22, e16_22, e18_22, e21_22, e111_22] at e3_23 e7_23 e8_23 e9_23 e11_23 e14_23 e16_23 e18_23 e21_23 e24_23
          clear e3_22 e7_22 e8_22 e9_22 e11_22 e14_22 e16_22 e18_22 e21_22 e111_22
          refine Wp.block ?_
          refine Wp.loop (fun k ρ ds wk => AllEq [3, 7, 8, 9, 11, 14, 16, 18, 21] ρ r23 ∧ ds = [] ∧ (Ext w11 wk) ∧ (ρ 24 = .int .i64 (k : Int))) (s.alts.length) ?_ ?_
          · refine ⟨AllEq.refl _ _, rfl, Ext.refl _, ?_⟩
            rw [e24_23]; rfl
          · rintro k r24 _ wk hk ⟨hA, rfl, xl6, e24⟩
            obtain ⟨e3_24, e7_24, e8_24, e9_24, e11_24, e14_24, e16_24, e18_24, e21_24, -⟩ := hA
            rw [e3_23] at e3_24
            rw [e7_23] at e7_24
            rw [e8_23] at e8_24
            rw [e9_23] at e9_24
            rw [e11_23] at e11_24
            rw [e14_23] at e14_24
            rw [e16_23] at e16_24
            rw [e18_23] at e18_24
            rw [e21_23] at e21_24
            have zxl6 := Below.size xl6
            replace f3 := Ext.fz xl6 c3_0 f3
            replace f4 := Ext.fz xl6 c4_0 f4
            replace f5 := Ext.fz xl6 c5_0 f5
            replace i1 := i1.ext xl6
            replace i2 := i2.ext xl6
            replace i3 := i3.ext xl6
            replace i4 := i4.ext xl6
            replace i5 := i5.ext xl6
            replace xw := Ext.trans xw xl6
            replace xj := Ext.trans xj xl6
            replace xi := Ext.trans xi xl6
            replace c3_0 := Ext.cell xl6 c3_0
            replace c3_1 := Ext.cell xl6 c3_1
            replace c4_0 := Ext.cell xl6 c4_0
            replace c4_1 := Ext.cell xl6 c4_1
            replace c4_2 := Ext.cell xl6 c4_2
            replace c4_3 := Ext.cell xl6 c4_3
            replace c5_0 := Ext.cell xl6 c5_0
            replace c5_1 := Ext.cell xl6 c5_1
            replace c5_2 := Ext.cell xl6 c5_2
            replace c5_3 := Ext.cell xl6 c5_3
            refine Wp.seq ?_
            refine Wp.seqRegion (.inl rfl) (by kernel_rfl) fun K' gd hK hg => ?_
            clear hg
            go_simp
            refine hK _ _ ?_
            clear hK K' gd
            refine Wp.keep [3, 7, 8, 9, 11, 14, 16, 18, 21, 24, 116] fun r25 hkeep => ?_
            obtain ⟨e3_25, e7_25, e8_25, e9_25, e11_25, e14_25, e16_25, e18_25, e21_25, e24_25, e116_25, -⟩ := hkeep
            simp [go_sem, e3_24, e7_24, e8_24, e9_24, e11_24, e14_24, e16_24, e18_24, e21_24, e24] at e3_25 e7_25 e8_25 e9_25 e11_25 e14_25 e16_25 e18_25 e21_25 e24_25 e116_25
            clear e3_24 e7_24 e8_24 e9_24 e11_24 e14_24 e16_24 e18_24 e21_24 e24
            by_cases h : k < s.alts.length
            · refine Wp.condT (by go_simp) ?_
              obtain ⟨b, o, rfl, hb, y0, y1, y2, y3, y4, y5⟩ := AltsV.six hAl h
              replace y0 := xw.cell y0
              replace y1 := xw.cell y1
              replace y2 := xw.cell y2
              replace y3 := xw.cell y3
              replace y4 := xw.cell y4
              replace y5 := xw.cell y5
              obtain ⟨t1, t2⟩ := htu _ (List.getElem_mem h)
              obtain ⟨t, ht⟩ : ∃ t : Nat, ∃ _u : Unit, s.alts[k].tu = (t : Int) := ⟨s.alts[k].tu.toNat, (), by omega⟩
              have htw : t < s.words.length := by have := ht.choose_spec; omega
              have kn := know _ (List.getElem_mem h)
              rw [ht.choose_spec, Int.toNat_natCast] at kn
              rw [ht.choose_spec] at y4
              clear t1 t2
              by_cases hs : s.alts[k].id ∈ l1
              · skip
                obtain ⟨r1, r2, r3, r4, r5⟩ := kn hs
                have hFl := hF.choose_spec.2
                have hGl := hG.choose_spec.2
                obtain ⟨g1, o1, c5, e1, -, -, hc1⟩ := (hI.ext xi).get (k := t) (by omega)
                injection e1 with q1 q2 q3
                subst q1
                subst q2
                subst q3
                have z1 := hc1 t (by omega)
                obtain ⟨g2, o2, c5, e2, -, -, hc2⟩ := (hJ.ext xj).get (k := t) (by omega)
                injection e2 with q1 q2 q3
                subst q1
                subst q2
                subst q3
                have z2 := hc2 t (by omega)
                have j1 : (t : Int) < (F.length : Int) := by omega
                have j2 : (t : Int) < (G.length : Int) := by omega
                have j3 : ¬ (F.length : Int) ≤ (t : Int) := by omega
                have j4 : ¬ (G.length : Int) ≤ (t : Int) := by omega
                have j5 : ¬ (t : Int) < 0 := by omega
                have j6 : ¬ gI F t ≤ gI G t := by omega
                clear hFl hGl hc1 hc2 r1
                refine Wp.skip ?_
                refine thenK_normal ?_
                refine Wp.seq ?_
                refine Wp.block ?_
                refine Wp.seqRegion (.inl rfl) (by kernel_rfl) fun K' gd hK hg => ?_
                clear hg
                refine Wops.cut 7 fun K1 hK1 => ?_
                simp only [List.take_succ_cons, List.take_zero]
                go_simp
                refine hK1 _ _ ?_
                clear hK1 K1
                simp only [List.drop_succ_cons, List.drop_zero]
                refine Wops.absA fun V25_7 n25 hV25_7 => ?_
                obtain ⟨q25, hV25_7, s25, kV25_7, f25, r25⟩ := hV25_7
                try simp only [q25] at kV25_7 f25 r25 ⊢
                replace f3 := Ext.fz hV25_7 c3_0 f3
                replace f4 := Ext.fz hV25_7 c4_0 f4
                replace f5 := Ext.fz hV25_7 c5_0 f5
                replace i1 := i1.ext hV25_7
                replace i2 := i2.ext hV25_7
                replace i3 := i3.ext hV25_7
                replace i4 := i4.ext hV25_7
                replace i5 := i5.ext hV25_7
                replace xw := Ext.trans xw hV25_7
                replace xj := Ext.trans xj hV25_7
                replace xi := Ext.trans xi hV25_7
                replace xl6 := Ext.trans xl6 hV25_7
                replace c3_0 := Ext.cell hV25_7 c3_0
                replace c3_1 := Ext.cell hV25_7 c3_1
                replace c4_0 := Ext.cell hV25_7 c4_0
                replace c4_1 := Ext.cell hV25_7 c4_1
                replace c4_2 := Ext.cell hV25_7 c4_2
                replace c4_3 := Ext.cell hV25_7 c4_3
                replace c5_0 := Ext.cell hV25_7 c5_0
                replace c5_1 := Ext.cell hV25_7 c5_1
                replace c5_2 := Ext.cell hV25_7 c5_2
                replace c5_3 := Ext.cell hV25_7 c5_3
                replace y0 := Ext.cell hV25_7 y0
                replace y1 := Ext.cell hV25_7 y1
                replace y2 := Ext.cell hV25_7 y2
                replace y3 := Ext.cell hV25_7 y3
                replace y4 := Ext.cell hV25_7 y4
                replace y5 := Ext.cell hV25_7 y5
                replace z1 := Ext.cell hV25_7 z1
                replace z2 := Ext.cell hV25_7 z2
                have c25_0 := kV25_7 0 _ rfl
                have c25_1 := kV25_7 1 _ rfl
                have c25_2 := kV25_7 2 _ rfl
                have c25_3 := kV25_7 3 _ rfl
                have c25_4 := kV25_7 4 _ rfl
                have c25_5 := kV25_7 5 _ rfl
                clear kV25_7 hV25_7
                clear r25
                try simp only [Wops_nil, updO_some, updO_none]
                refine hK _ _ ?_
                clear hK K' gd
                refine Wp.keep [3, 7, 8, 9, 11, 14, 16, 18, 21, 24, 25] fun r26 hkeep => ?_
                obtain ⟨e3_26, e7_26, e8_26, e9_26, e11_26, e14_26, e16_26, e18_26, e21_26, e24_26, e25_26, -⟩ := hkeep
                simp [go_sem, e3_25, e7_25, e8_25, e9_25, e11_25, e14_25, e16_25, e18_25, e21_25, e24_25, e116_25] at e3_26 e7_26 e8_26 e9_26 e11_26 e14_26 e16_26 e18_26 e21_26 e24_26 e25_26
                clear e3_25 e7_25 e8_25 e9_25 e11_25 e14_25 e16_25 e18_25 e21_25 e24_25 e116_25
                refine Wp.seq ?_
                refine Wp.seqRegion (.inl rfl) (by kernel_rfl) fun K' gd hK hg => ?_
                clear hg
                refine Wops.cut 4 fun K1 hK1 => ?_
                simp only [List.take_succ_cons, List.take_zero]
                go_simp
                refine Wcall (.inl rfl) (has_T hs _ i1.ints hl1.choose_spec.2) ?_
                rintro v w12 ⟨rfl, hE⟩
                go_simp
                refine hK1 _ _ ?_
                clear hK1 K1
                simp only [List.drop_succ_cons, List.drop_zero]
                have z27 := Below.size hE
                replace f3 := Ext.fz hE c3_0 f3
                replace f4 := Ext.fz hE c4_0 f4
                replace f5 := Ext.fz hE c5_0 f5
                replace f25 := Ext.fz hE c25_0 f25
                replace i1 := i1.ext hE
                replace i2 := i2.ext hE
                replace i3 := i3.ext hE
                replace i4 := i4.ext hE
                replace i5 := i5.ext hE
                replace xw := Ext.trans xw hE
                replace xj := Ext.trans xj hE
                replace xi := Ext.trans xi hE
                replace xl6 := Ext.trans xl6 hE
                replace c3_0 := Ext.cell hE c3_0
                replace c3_1 := Ext.cell hE c3_1
                replace c4_0 := Ext.cell hE c4_0
                replace c4_1 := Ext.cell hE c4_1
                replace c4_2 := Ext.cell hE c4_2
                replace c4_3 := Ext.cell hE c4_3
                replace c5_0 := Ext.cell hE c5_0
                replace c5_1 := Ext.cell hE c5_1
                replace c5_2 := Ext.cell hE c5_2
                replace c5_3 := Ext.cell hE c5_3
                replace y0 := Ext.cell hE y0
                replace y1 := Ext.cell hE y1
                replace y2 := Ext.cell hE y2
                replace y3 := Ext.cell hE y3
                replace y4 := Ext.cell hE y4
                replace y5 := Ext.cell hE y5
                replace z1 := Ext.cell hE z1
                replace z2 := Ext.cell hE z2
                replace c25_0 := Ext.cell hE c25_0
                replace c25_1 := Ext.cell hE c25_1
                replace c25_2 := Ext.cell hE c25_2
                replace c25_3 := Ext.cell hE c25_3
                replace c25_4 := Ext.cell hE c25_4
                replace c25_5 := Ext.cell hE c25_5
                clear hE
                go_simp
                refine hK _ _ ?_
                clear hK K' gd
                refine Wp.keep [3, 7, 8, 9, 11, 14, 16, 18, 21, 24, 25, 128] fun r28 hkeep => ?_
                obtain ⟨e3_28, e7_28, e8_28, e9_28, e11_28, e14_28, e16_28, e18_28, e21_28, e24_28, e25_28, e128_28, -⟩ := hkeep
                simp [go_sem, e3_26, e7_26, e8_26, e9_26, e11_26, e14_26, e16_26, e18_26, e21_26, e24_26, e25_26] at e3_28 e7_28 e8_28 e9_28 e11_28 e14_28 e16_28 e18_28 e21_28 e24_28 e25_28 e128_28
                clear e3_26 e7_26 e8_26 e9_26 e11_26 e14_26 e16_26 e18_26 e21_26 e24_26 e25_26
                refine Wp.condF (by go_simp) ?_
                refine Wp.skip ?_
                refine thenK_normal ?_
                refine Wp.seq ?_
                refine Wp.seqDraw (.inl rfl) mixed [([0, 1, 2, 3], none), ([4, 5, 6, 7, 8], none), ([9, 10], none), ([11, 12, 13, 14, 15], none), ([16, 17], none), ([18, 19, 20, 21, 22], none), ([23, 24, 25, 26, 27], none), ([28, 29, 30], none), ([31, 32, 33], some (34, false)), ([35, 36, 37], none), ([38, 39, 40], some (41, false)), ([42, 43, 44], none), ([45, 46, 47], some (48, false)), ([49], none)] (by kernel_rfl) fun K' gd hK hg => ?_
                have g3 : gd 3 = some 132 := hg 3
                have g10 : gd 10 = some 139 := hg 10
                have g17 : gd 17 = some 146 := hg 17
                have g30 : gd 30 = some 159 := hg 30
                have g37 : gd 37 = some 166 := hg 37
                have g44 : gd 44 = some 173 := hg 44
                clear hg
                simp only [pick, nth, List.map_cons, List.map_nil, Option.map_none, Option.map_some]
                refine Mops.absD fun D8 hD8 zD8 => ?_
                replace f3 := Ext.fz hD8 c3_0 f3
                replace f4 := Ext.fz hD8 c4_0 f4
                replace f5 := Ext.fz hD8 c5_0 f5
                replace f25 := Ext.fz hD8 c25_0 f25
                replace i1 := i1.ext hD8
                replace i2 := i2.ext hD8
                replace i3 := i3.ext hD8
                replace i4 := i4.ext hD8
                replace i5 := i5.ext hD8
                replace xw := Ext.trans xw hD8
                replace xj := Ext.trans xj hD8
                replace xi := Ext.trans xi hD8
                replace xl6 := Ext.trans xl6 hD8
                replace c3_0 := Ext.cell hD8 c3_0
                replace c3_1 := Ext.cell hD8 c3_1
                replace c4_0 := Ext.cell hD8 c4_0
                replace c4_1 := Ext.cell hD8 c4_1
                replace c4_2 := Ext.cell hD8 c4_2
                replace c4_3 := Ext.cell hD8 c4_3
                replace c5_0 := Ext.cell hD8 c5_0
                replace c5_1 := Ext.cell hD8 c5_1
                replace c5_2 := Ext.cell hD8 c5_2
                replace c5_3 := Ext.cell hD8 c5_3
                replace y0 := Ext.cell hD8 y0
                replace y1 := Ext.cell hD8 y1
                replace y2 := Ext.cell hD8 y2
                replace y3 := Ext.cell hD8 y3
                replace y4 := Ext.cell hD8 y4
                replace y5 := Ext.cell hD8 y5
                replace z1 := Ext.cell hD8 z1
                replace z2 := Ext.cell hD8 z2
                replace c25_0 := Ext.cell hD8 c25_0
                replace c25_1 := Ext.cell hD8 c25_1
                replace c25_2 := Ext.cell hD8 c25_2
                replace c25_3 := Ext.cell hD8 c25_3
                replace c25_4 := Ext.cell hD8 c25_4
                replace c25_5 := Ext.cell hD8 c25_5
                clear hD8
                apply Mops.none
                · intro w' hE'
                  have hC' := hE'.cellsS
                  go_simp
                  with_reducible rfl
                apply Mops.none
                · intro w' hE'
                  have hC' := hE'.cellsS
                  go_simp
                  with_reducible rfl
                apply Mops.none
                · intro w' hE'
                  have hC' := hE'.cellsS
                  go_simp
                  with_reducible rfl
                apply Mops.none
                · intro w' hE'
                  have hC' := hE'.cellsS
                  go_simp
                  with_reducible rfl
                apply Mops.none
                · intro w' hE'
                  have hC' := hE'.cellsS
                  go_simp
                  with_reducible rfl
                apply Mops.none
                · intro w' hE'
                  have hC' := hE'.cellsS
                  go_simp
                  with_reducible rfl
                apply Mops.none
                · intro w' hE'
                  have hC' := hE'.cellsS
                  go_simp
                  with_reducible rfl
                apply Mops.none
                · intro w' hE'
                  have hC' := hE'.cellsS
                  go_simp
                  with_reducible rfl
                apply Mops.act
                · intro w' hE'
                  have hC' := hE'.cellsS
                  go_simp
                  with_reducible rfl
                intro K1 hK1
                go_simp
                refine Wcall (.inl rfl) (has_T r2 _ i2.ints hl2.choose_spec.2) ?_
                rintro v w13 ⟨rfl, hE⟩
                go_simp
                refine hK1 _ _ (by assumption) ?_
                clear hK1 K1
                have z29 := Below.size hE
                replace f3 := Ext.fz hE c3_0 f3
                replace f4 := Ext.fz hE c4_0 f4
                replace f5 := Ext.fz hE c5_0 f5
                replace f25 := Ext.fz hE c25_0 f25
                replace i1 := i1.ext hE
                replace i2 := i2.ext hE
                replace i3 := i3.ext hE
                replace i4 := i4.ext hE
                replace i5 := i5.ext hE
                replace xw := Ext.trans xw hE
                replace xj := Ext.trans xj hE
                replace xi := Ext.trans xi hE
                replace xl6 := Ext.trans xl6 hE
                replace c3_0 := Ext.cell hE c3_0
                replace c3_1 := Ext.cell hE c3_1
                replace c4_0 := Ext.cell hE c4_0
                replace c4_1 := Ext.cell hE c4_1
                replace c4_2 := Ext.cell hE c4_2
                replace c4_3 := Ext.cell hE c4_3
                replace c5_0 := Ext.cell hE c5_0
                replace c5_1 := Ext.cell hE c5_1
                replace c5_2 := Ext.cell hE c5_2
                replace c5_3 := Ext.cell hE c5_3
                replace y0 := Ext.cell hE y0
                replace y1 := Ext.cell hE y1
                replace y2 := Ext.cell hE y2
                replace y3 := Ext.cell hE y3
                replace y4 := Ext.cell hE y4
                replace y5 := Ext.cell hE y5
                replace z1 := Ext.cell hE z1
                replace z2 := Ext.cell hE z2
                replace c25_0 := Ext.cell hE c25_0
                replace c25_1 := Ext.cell hE c25_1
                replace c25_2 := Ext.cell hE c25_2
                replace c25_3 := Ext.cell hE c25_3
                replace c25_4 := Ext.cell hE c25_4
                replace c25_5 := Ext.cell hE c25_5
                clear hE
                apply Mops.none
                · intro w' hE'
                  have hC' := hE'.cellsS
                  go_simp
                  with_reducible rfl
                apply Mops.act
                · intro w' hE'
                  have hC' := hE'.cellsS
                  go_simp
                  with_reducible rfl
                intro K1 hK1
                go_simp
                refine Wcall (.inl rfl) (has_T r3 _ i4.ints hl4.choose_spec.2) ?_
                rintro v w14 ⟨rfl, hE⟩
                go_simp
                refine hK1 _ _ (by assumption) ?_
                clear hK1 K1
                have z30 := Below.size hE
                replace f3 := Ext.fz hE c3_0 f3
                replace f4 := Ext.fz hE c4_0 f4
                replace f5 := Ext.fz hE c5_0 f5
                replace f25 := Ext.fz hE c25_0 f25
                replace i1 := i1.ext hE
                replace i2 := i2.ext hE
                replace i3 := i3.ext hE
                replace i4 := i4.ext hE
                replace i5 := i5.ext hE
                replace xw := Ext.trans xw hE
                replace xj := Ext.trans xj hE
                replace xi := Ext.trans xi hE
                replace xl6 := Ext.trans xl6 hE
                replace c3_0 := Ext.cell hE c3_0
                replace c3_1 := Ext.cell hE c3_1
                replace c4_0 := Ext.cell hE c4_0
                replace c4_1 := Ext.cell hE c4_1
                replace c4_2 := Ext.cell hE c4_2
                replace c4_3 := Ext.cell hE c4_3
                replace c5_0 := Ext.cell hE c5_0
                replace c5_1 := Ext.cell hE c5_1
                replace c5_2 := Ext.cell hE c5_2
                replace c5_3 := Ext.cell hE c5_3
                replace y0 := Ext.cell hE y0
                replace y1 := Ext.cell hE y1
                replace y2 := Ext.cell hE y2
                replace y3 := Ext.cell hE y3
                replace y4 := Ext.cell hE y4
                replace y5 := Ext.cell hE y5
                replace z1 := Ext.cell hE z1
                replace z2 := Ext.cell hE z2
                replace c25_0 := Ext.cell hE c25_0
                replace c25_1 := Ext.cell hE c25_1
                replace c25_2 := Ext.cell hE c25_2
                replace c25_3 := Ext.cell hE c25_3
                replace c25_4 := Ext.cell hE c25_4
                replace c25_5 := Ext.cell hE c25_5
                clear hE
                apply Mops.none
                · intro w' hE'
                  have hC' := hE'.cellsS
                  go_simp
                  with_reducible rfl
                apply Mops.act
                · intro w' hE'
                  have hC' := hE'.cellsS
                  go_simp
                  with_reducible rfl
                intro K1 hK1
                go_simp
                refine Wcall (.inl rfl) (has_F r4 _ i5.ints hl5.choose_spec.2) ?_
                rintro v w15 ⟨rfl, hE⟩
                go_simp
                refine hK1 _ _ (by assumption) ?_
                clear hK1 K1
                have z31 := Below.size hE
                replace f3 := Ext.fz hE c3_0 f3
                replace f4 := Ext.fz hE c4_0 f4
                replace f5 := Ext.fz hE c5_0 f5
                replace f25 := Ext.fz hE c25_0 f25
                replace i1 := i1.ext hE
                replace i2 := i2.ext hE
                replace i3 := i3.ext hE
                replace i4 := i4.ext hE
                replace i5 := i5.ext hE
                replace xw := Ext.trans xw hE
                replace xj := Ext.trans xj hE
                replace xi := Ext.trans xi hE
                replace xl6 := Ext.trans xl6 hE
                replace c3_0 := Ext.cell hE c3_0
                replace c3_1 := Ext.cell hE c3_1
                replace c4_0 := Ext.cell hE c4_0
                replace c4_1 := Ext.cell hE c4_1
                replace c4_2 := Ext.cell hE c4_2
                replace c4_3 := Ext.cell hE c4_3
                replace c5_0 := Ext.cell hE c5_0
                replace c5_1 := Ext.cell hE c5_1
                replace c5_2 := Ext.cell hE c5_2
                replace c5_3 := Ext.cell hE c5_3
                replace y0 := Ext.cell hE y0
                replace y1 := Ext.cell hE y1
                replace y2 := Ext.cell hE y2
                replace y3 := Ext.cell hE y3
                replace y4 := Ext.cell hE y4
                replace y5 := Ext.cell hE y5
                replace z1 := Ext.cell hE z1
                replace z2 := Ext.cell hE z2
                replace c25_0 := Ext.cell hE c25_0
                replace c25_1 := Ext.cell hE c25_1
                replace c25_2 := Ext.cell hE c25_2
                replace c25_3 := Ext.cell hE c25_3
                replace c25_4 := Ext.cell hE c25_4
                replace c25_5 := Ext.cell hE c25_5
                clear hE
                apply Mops.none
                · intro w' hE'
                  have hC' := hE'.cellsS
                  go_simp
                  with_reducible rfl
                refine Mops.done ?_
                refine hK _ _ ?_
                clear hK K' gd g3 g10 g17 g30 g37 g44
                refine Wp.keep [3, 7, 8, 9, 11, 14, 16, 18, 21, 24, 25, 178] fun r32 hkeep => ?_
                obtain ⟨e3_32, e7_32, e8_32, e9_32, e11_32, e14_32, e16_32, e18_32, e21_32, e24_32, e25_32, e178_32, -⟩ := hkeep
                simp [go_sem, e3_28, e7_28, e8_28, e9_28, e11_28, e14_28, e16_28, e18_28, e21_28, e24_28, e25_28, e128_28] at e3_32 e7_32 e8_32 e9_32 e11_32 e14_32 e16_32 e18_32 e21_32 e24_32 e25_32 e178_32
                clear e3_28 e7_28 e8_28 e9_28 e11_28 e14_28 e16_28 e18_28 e21_28 e24_28 e25_28 e128_28
                refine Wp.condF (by go_simp) ?_
                refine Wp.skip ?_
                refine thenK_normal ?_
                refine Wp.seqRegion (.inl rfl) (by kernel_rfl) fun K' gd hK hg => ?_
                clear hg
                go_simp
                refine hK _ _ ?_
                clear hK K' gd
                refine Wp.keep [3, 7, 8, 9, 11, 14, 16, 18, 21, 24, 25, 26] fun r33 hkeep => ?_
                obtain ⟨e3_33, e7_33, e8_33, e9_33, e11_33, e14_33, e16_33, e18_33, e21_33, e24_33, e25_33, e26_33, -⟩ := hkeep
                simp [go_sem, e3_32, e7_32, e8_32, e9_32, e11_32, e14_32, e16_32, e18_32, e21_32, e24_32, e25_32, e178_32] at e3_33 e7_33 e8_33 e9_33 e11_33 e14_33 e16_33 e18_33 e21_33 e24_33 e25_33 e26_33
                clear e3_32 e7_32 e8_32 e9_32 e11_32 e14_32 e16_32 e18_32 e21_32 e24_32 e25_32 e178_32
                refine Wp.block ?_
                refine Wp.loop (fun m ρ ds wm => AllEq [3, 7, 8, 9, 11, 14, 16, 18, 21, 24, 25] ρ r33 ∧ ds = [] ∧ (Ext w15 wm) ∧ (ρ 26 = .int .i64 (m : Int))) (s.alts.length) ?_ ?_
                · refine ⟨AllEq.refl _ _, rfl, Ext.refl _, ?_⟩
                  rw [e26_33]; rfl
                · rintro m r34 _ wm hm ⟨hA, rfl, xl9, e26⟩
                  obtain ⟨e3_34, e7_34, e8_34, e9_34, e11_34, e14_34, e16_34, e18_34, e21_34, e24_34, e25_34, -⟩ := hA
                  rw [e3_33] at e3_34
                  rw [e7_33] at e7_34
                  rw [e8_33] at e8_34
                  rw [e9_33] at e9_34
                  rw [e11_33] at e11_34
                  rw [e14_33] at e14_34
                  rw [e16_33] at e16_34
                  rw [e18_33] at e18_34
                  rw [e21_33] at e21_34
                  rw [e24_33] at e24_34
                  rw [e25_33] at e25_34
                  have zxl9 := Below.size xl9
                  replace f3 := Ext.fz xl9 c3_0 f3
                  replace f4 := Ext.fz xl9 c4_0 f4
                  replace f5 := Ext.fz xl9 c5_0 f5
                  replace f25 := Ext.fz xl9 c25_0 f25
                  replace i1 := i1.ext xl9
                  replace i2 := i2.ext xl9
                  replace i3 := i3.ext xl9
                  replace i4 := i4.ext xl9
                  replace i5 := i5.ext xl9
                  replace xw := Ext.trans xw xl9
                  replace xj := Ext.trans xj xl9
                  replace xi := Ext.trans xi xl9
                  replace xl6 := Ext.trans xl6 xl9
                  replace c3_0 := Ext.cell xl9 c3_0
                  replace c3_1 := Ext.cell xl9 c3_1
                  replace c4_0 := Ext.cell xl9 c4_0
                  replace c4_1 := Ext.cell xl9 c4_1
                  replace c4_2 := Ext.cell xl9 c4_2
                  replace c4_3 := Ext.cell xl9 c4_3
                  replace c5_0 := Ext.cell xl9 c5_0
                  replace c5_1 := Ext.cell xl9 c5_1
                  replace c5_2 := Ext.cell xl9 c5_2
                  replace c5_3 := Ext.cell xl9 c5_3
                  replace y0 := Ext.cell xl9 y0
                  replace y1 := Ext.cell xl9 y1
                  replace y2 := Ext.cell xl9 y2
                  replace y3 := Ext.cell xl9 y3
                  replace y4 := Ext.cell xl9 y4
                  replace y5 := Ext.cell xl9 y5
                  replace z1 := Ext.cell xl9 z1
                  replace z2 := Ext.cell xl9 z2
                  replace c25_0 := Ext.cell xl9 c25_0
                  replace c25_1 := Ext.cell xl9 c25_1
                  replace c25_2 := Ext.cell xl9 c25_2
                  replace c25_3 := Ext.cell xl9 c25_3
                  replace c25_4 := Ext.cell xl9 c25_4
                  replace c25_5 := Ext.cell xl9 c25_5
                  refine Wp.seq ?_
                  refine Wp.seqRegion (.inl rfl) (by kernel_rfl) fun K' gd hK hg => ?_
                  clear hg
                  go_simp
                  refine hK _ _ ?_
                  clear hK K' gd
                  refine Wp.keep [3, 7, 8, 9, 11, 14, 16, 18, 21, 24, 25, 26, 183] fun r35 hkeep => ?_
                  obtain ⟨e3_35, e7_35, e8_35, e9_35, e11_35, e14_35, e16_35, e18_35, e21_35, e24_35, e25_35, e26_35, e183_35, -⟩ := hkeep
                  simp [go_sem, e3_34, e7_34, e8_34, e9_34, e11_34, e14_34, e16_34, e18_34, e21_34, e24_34, e25_34, e26] at e3_35 e7_35 e8_35 e9_35 e11_35 e14_35 e16_35 e18_35 e21_35 e24_35 e25_35 e26_35 e183_35
                  clear e3_34 e7_34 e8_34 e9_34 e11_34 e14_34 e16_34 e18_34 e21_34 e24_34 e25_34 e26
                  by_cases hm : m < s.alts.length
                  · refine Wp.condT (by go_simp) ?_
                    obtain ⟨b9, o9, f9, hb9, x0, x1, x2, x3, x4, x5⟩ := AltsV.six hAl hm
                    injection f9 with f9
                    injection f9 with f1 f2
                    subst f1
                    subst f2
                    replace x0 := xw.cell x0
                    replace x4 := xw.cell x4
                    have r6 := r5 _ (List.getElem_mem hm)
                    clear x1 x2 x3 x5
                    by_cases hq : s.alts[m].tu = (t : Int)
                    · skip
                      have r7 := r6 hq
                      rw [hq] at x4
                      refine Wp.skip ?_
                      refine thenK_normal ?_
                      refine Wp.seq ?_
                      refine Wp.block ?_
                      refine Wp.seqDraw (.inl rfl) mixed [([0, 1, 2, 3, 4], none), ([5, 6, 7, 8, 9], none), ([10, 11, 12, 13, 14], none), ([15, 16], some (17, false)), ([18], none)] (by kernel_rfl) fun K' gd hK hg => ?_
                      have g9 : gd 9 = some 195 := hg 9
                      clear hg
                      simp only [pick, nth, List.map_cons, List.map_nil, Option.map_none, Option.map_some]
                      refine Mops.absD fun D10 hD10 zD10 => ?_
                      replace f3 := Ext.fz hD10 c3_0 f3
                      replace f4 := Ext.fz hD10 c4_0 f4
                      replace f5 := Ext.fz hD10 c5_0 f5
                      replace f25 := Ext.fz hD10 c25_0 f25
                      replace i1 := i1.ext hD10
                      replace i2 := i2.ext hD10
                      replace i3 := i3.ext hD10
                      replace i4 := i4.ext hD10
                      replace i5 := i5.ext hD10
                      replace xw := Ext.trans xw hD10
                      replace xj := Ext.trans xj hD10
                      replace xi := Ext.trans xi hD10
                      replace xl6 := Ext.trans xl6 hD10
                      replace xl9 := Ext.trans xl9 hD10
                      replace c3_0 := Ext.cell hD10 c3_0
                      replace c3_1 := Ext.cell hD10 c3_1
                      replace c4_0 := Ext.cell hD10 c4_0
                      replace c4_1 := Ext.cell hD10 c4_1
                      replace c4_2 := Ext.cell hD10 c4_2
                      replace c4_3 := Ext.cell hD10 c4_3
                      replace c5_0 := Ext.cell hD10 c5_0
                      replace c5_1 := Ext.cell hD10 c5_1
                      replace c5_2 := Ext.cell hD10 c5_2
                      replace c5_3 := Ext.cell hD10 c5_3
                      replace y0 := Ext.cell hD10 y0
                      replace y1 := Ext.cell hD10 y1
                      replace y2 := Ext.cell hD10 y2
                      replace y3 := Ext.cell hD10 y3
                      replace y4 := Ext.cell hD10 y4
                      replace y5 := Ext.cell hD10 y5
                      replace z1 := Ext.cell hD10 z1
                      replace z2 := Ext.cell hD10 z2
                      replace c25_0 := Ext.cell hD10 c25_0
                      replace c25_1 := Ext.cell hD10 c25_1
                      replace c25_2 := Ext.cell hD10 c25_2
                      replace c25_3 := Ext.cell hD10 c25_3
                      replace c25_4 := Ext.cell hD10 c25_4
                      replace c25_5 := Ext.cell hD10 c25_5
                      replace x0 := Ext.cell hD10 x0
                      replace x4 := Ext.cell hD10 x4
                      clear hD10
                      apply Mops.none
                      · intro w' hE'
                        have hC' := hE'.cellsS
                        go_simp
                        with_reducible rfl
                      apply Mops.none
                      · intro w' hE'
                        have hC' := hE'.cellsS
                        go_simp
                        with_reducible rfl
                      apply Mops.none
                      · intro w' hE'
                        have hC' := hE'.cellsS
                        go_simp
                        with_reducible rfl
                      apply Mops.act
                      · intro w' hE'
                        have hC' := hE'.cellsS
                        go_simp
                        with_reducible rfl
                      intro K1 hK1
                      go_simp
                      refine Wcall (.inl rfl) (has_F r7 _ i3.ints hl3.choose_spec.2) ?_
                      rintro v w16 ⟨rfl, hE⟩
                      go_simp
                      refine hK1 _ _ (by assumption) ?_
                      clear hK1 K1
                      have z36 := Below.size hE
                      replace f3 := Ext.fz hE c3_0 f3
                      replace f4 := Ext.fz hE c4_0 f4
                      replace f5 := Ext.fz hE c5_0 f5
                      replace f25 := Ext.fz hE c25_0 f25
                      replace i1 := i1.ext hE
                      replace i2 := i2.ext hE
                      replace i3 := i3.ext hE
                      replace i4 := i4.ext hE
                      replace i5 := i5.ext hE
                      replace xw := Ext.trans xw hE
                      replace xj := Ext.trans xj hE
                      replace xi := Ext.trans xi hE
                      replace xl6 := Ext.trans xl6 hE
                      replace xl9 := Ext.trans xl9 hE
                      replace c3_0 := Ext.cell hE c3_0
                      replace c3_1 := Ext.cell hE c3_1
                      replace c4_0 := Ext.cell hE c4_0
                      replace c4_1 := Ext.cell hE c4_1
                      replace c4_2 := Ext.cell hE c4_2
                      replace c4_3 := Ext.cell hE c4_3
                      replace c5_0 := Ext.cell hE c5_0
                      replace c5_1 := Ext.cell hE c5_1
                      replace c5_2 := Ext.cell hE c5_2
                      replace c5_3 := Ext.cell hE c5_3
                      replace y0 := Ext.cell hE y0
                      replace y1 := Ext.cell hE y1
                      replace y2 := Ext.cell hE y2
                      replace y3 := Ext.cell hE y3
                      replace y4 := Ext.cell hE y4
                      replace y5 := Ext.cell hE y5
                      replace z1 := Ext.cell hE z1
                      replace z2 := Ext.cell hE z2
                      replace c25_0 := Ext.cell hE c25_0
                      replace c25_1 := Ext.cell hE c25_1
                      replace c25_2 := Ext.cell hE c25_2
                      replace c25_3 := Ext.cell hE c25_3
                      replace c25_4 := Ext.cell hE c25_4
                      replace c25_5 := Ext.cell hE c25_5
                      replace x0 := Ext.cell hE x0
                      replace x4 := Ext.cell hE x4
                      clear hE
                      apply Mops.none
                      · intro w' hE'
                        have hC' := hE'.cellsS
                        go_simp
                        with_reducible rfl
                      refine Mops.done ?_
                      refine hK _ _ ?_
                      clear hK K' gd g9
                      refine Wp.keep [3, 7, 8, 9, 11, 14, 16, 18, 21, 24, 25, 26, 204] fun r37 hkeep => ?_
                      obtain ⟨e3_37, e7_37, e8_37, e9_37, e11_37, e14_37, e16_37, e18_37, e21_37, e24_37, e25_37, e26_37, e204_37, -⟩ := hkeep
                      simp [go_sem, e3_35, e7_35, e8_35, e9_35, e11_35, e14_35, e16_35, e18_35, e21_35, e24_35, e25_35, e26_35, e183_35] at e3_37 e7_37 e8_37 e9_37 e11_37 e14_37 e16_37 e18_37 e21_37 e24_37 e25_37 e26_37 e204_37
                      clear e3_35 e7_35 e8_35 e9_35 e11_35 e14_35 e16_35 e18_35 e21_35 e24_35 e25_35 e26_35 e183_35
                      refine Wp.condF (by go_simp) ?_
                      refine Wp.skip ?_
                      refine blockK_normal ?_
                      refine thenK_normal ?_
                      refine Wp.loneRegion (.inl rfl) (by kernel_rfl) fun K' gd hK hg => ?_
                      clear hg
                      go_simp
                      refine hK _ _ ?_
                      clear hK K' gd
                      refine Ends.keep [3, 7, 8, 9, 11, 14, 16, 18, 21, 24, 25, 26] fun r38 hkeep => ?_
                      obtain ⟨e3_38, e7_38, e8_38, e9_38, e11_38, e14_38, e16_38, e18_38, e21_38, e24_38, e25_38, e26_38, -⟩ := hkeep
                      simp [go_sem, e3_37, e7_37, e8_37, e9_37, e11_37, e14_37, e16_37, e18_37, e21_37, e24_37, e25_37, e26_37, e204_37] at e3_38 e7_38 e8_38 e9_38 e11_38 e14_38 e16_38 e18_38 e21_38 e24_38 e25_38 e26_38
                      clear e3_37 e7_37 e8_37 e9_37 e11_37 e14_37 e16_37 e18_37 e21_37 e24_37 e25_37 e26_37 e204_37
                      refine Ends.mk ?_
                      refine thenK_normal ⟨by omega, ⟨by rw [e3_38, e3_33], by rw [e7_38, e7_33], by rw [e8_38, e8_33], by rw [e9_38, e9_33], by rw [e11_38, e11_33], by rw [e14_38, e14_33], by rw [e16_38, e16_33], by rw [e18_38, e18_33], by rw [e21_38, e21_33], by rw [e24_38, e24_33], by rw [e25_38, e25_33], trivial⟩, rfl, xl9, ?_⟩
                      rw [e26_38, IntWalk.i64_in _ (by omega)]; rfl
                    · skip
                      refine Wp.skip ?_
                      refine thenK_normal ?_
                      refine Wp.seq ?_
                      refine Wp.block ?_
                      refine Wp.seqDraw (.inl rfl) mixed [([0, 1, 2, 3, 4], none), ([5, 6, 7, 8, 9], none), ([10, 11, 12, 13, 14], none), ([15, 16], some (17, false)), ([18], none)] (by kernel_rfl) fun K' gd hK hg => ?_
                      have g9 : gd 9 = some 195 := hg 9
                      clear hg
                      simp only [pick, nth, List.map_cons, List.map_nil, Option.map_none, Option.map_some]
                      refine Mops.absD fun D11 hD11 zD11 => ?_
                      replace f3 := Ext.fz hD11 c3_0 f3
                      replace f4 := Ext.fz hD11 c4_0 f4
                      replace f5 := Ext.fz hD11 c5_0 f5
                      replace f25 := Ext.fz hD11 c25_0 f25
                      replace i1 := i1.ext hD11
                      replace i2 := i2.ext hD11
                      replace i3 := i3.ext hD11
                      replace i4 := i4.ext hD11
                      replace i5 := i5.ext hD11
                      replace xw := Ext.trans xw hD11
                      replace xj := Ext.trans xj hD11
                      replace xi := Ext.trans xi hD11
                      replace xl6 := Ext.trans xl6 hD11
                      replace xl9 := Ext.trans xl9 hD11
                      replace c3_0 := Ext.cell hD11 c3_0
                      replace c3_1 := Ext.cell hD11 c3_1
                      replace c4_0 := Ext.cell hD11 c4_0
                      replace c4_1 := Ext.cell hD11 c4_1
                      replace c4_2 := Ext.cell hD11 c4_2
                      replace c4_3 := Ext.cell hD11 c4_3
                      replace c5_0 := Ext.cell hD11 c5_0
                      replace c5_1 := Ext.cell hD11 c5_1
                      replace c5_2 := Ext.cell hD11 c5_2
                      replace c5_3 := Ext.cell hD11 c5_3
                      replace y0 := Ext.cell hD11 y0
                      replace y1 := Ext.cell hD11 y1
                      replace y2 := Ext.cell hD11 y2
                      replace y3 := Ext.cell hD11 y3
                      replace y4 := Ext.cell hD11 y4
                      replace y5 := Ext.cell hD11 y5
                      replace z1 := Ext.cell hD11 z1
                      replace z2 := Ext.cell hD11 z2
                      replace c25_0 := Ext.cell hD11 c25_0
                      replace c25_1 := Ext.cell hD11 c25_1
                      replace c25_2 := Ext.cell hD11 c25_2
                      replace c25_3 := Ext.cell hD11 c25_3
                      replace c25_4 := Ext.cell hD11 c25_4
                      replace c25_5 := Ext.cell hD11 c25_5
                      replace x0 := Ext.cell hD11 x0
                      replace x4 := Ext.cell hD11 x4
                      clear hD11
                      apply Mops.none
                      · intro w' hE'
                        have hC' := hE'.cellsS
                        go_simp
                        with_reducible rfl
                      apply Mops.none
                      · intro w' hE'
                        have hC' := hE'.cellsS
                        go_simp
                        with_reducible rfl
                      apply Mops.none
                      · intro w' hE'
                        have hC' := hE'.cellsS
                        go_simp
                        with_reducible rfl
                      apply Mops.act
                      · intro w' hE'
                        have hC' := hE'.cellsS
                        go_simp
                        with_reducible rfl
                      intro K1 hK1
                      go_simp
                      refine hK1 _ _ (Ext.refl _) ?_
                      clear hK1 K1
                      apply Mops.none
                      · intro w' hE'
                        have hC' := hE'.cellsS
                        go_simp
                        with_reducible rfl
                      refine Mops.done ?_
                      refine hK _ _ ?_
                      clear hK K' gd g9
                      refine Wp.keep [3, 7, 8, 9, 11, 14, 16, 18, 21, 24, 25, 26, 204] fun r39 hkeep => ?_
                      obtain ⟨e3_39, e7_39, e8_39, e9_39, e11_39, e14_39, e16_39, e18_39, e21_39, e24_39, e25_39, e26_39, e204_39, -⟩ := hkeep
                      simp [go_sem, e3_35, e7_35, e8_35, e9_35, e11_35, e14_35, e16_35, e18_35, e21_35, e24_35, e25_35, e26_35, e183_35] at e3_39 e7_39 e8_39 e9_39 e11_39 e14_39 e16_39 e18_39 e21_39 e24_39 e25_39 e26_39 e204_39
                      clear e3_35 e7_35 e8_35 e9_35 e11_35 e14_35 e16_35 e18_35 e21_35 e24_35 e25_35 e26_35 e183_35
                      refine Wp.condF (by go_simp) ?_
                      refine Wp.skip ?_
                      refine blockK_normal ?_
                      refine thenK_normal ?_
                      refine Wp.loneRegion (.inl rfl) (by kernel_rfl) fun K' gd hK hg => ?_
                      clear hg
                      go_simp
                      refine hK _ _ ?_
                      clear hK K' gd
                      refine Ends.keep [3, 7, 8, 9, 11, 14, 16, 18, 21, 24, 25, 26] fun r40 hkeep => ?_
                      obtain ⟨e3_40, e7_40, e8_40, e9_40, e11_40, e14_40, e16_40, e18_40, e21_40, e24_40, e25_40, e26_40, -⟩ := hkeep
                      simp [go_sem, e3_39, e7_39, e8_39, e9_39, e11_39, e14_39, e16_39, e18_39, e21_39, e24_39, e25_39, e26_39, e204_39] at e3_40 e7_40 e8_40 e9_40 e11_40 e14_40 e16_40 e18_40 e21_40 e24_40 e25_40 e26_40
                      clear e3_39 e7_39 e8_39 e9_39 e11_39 e14_39 e16_39 e18_39 e21_39 e24_39 e25_39 e26_39 e204_39
                      refine Ends.mk ?_
                      refine thenK_normal ⟨by omega, ⟨by rw [e3_40, e3_33], by rw [e7_40, e7_33], by rw [e8_40, e8_33], by rw [e9_40, e9_33], by rw [e11_40, e11_33], by rw [e14_40, e14_33], by rw [e16_40, e16_33], by rw [e18_40, e18_33], by rw [e21_40, e21_33], by rw [e24_40, e24_33], by rw [e25_40, e25_33], trivial⟩, rfl, xl9, ?_⟩
                      rw [e26_40, IntWalk.i64_in _ (by omega)]; rfl
                  · refine Wp.condF (by go_simp) ?_
                    refine Wp.exit ?_
                    refine thenK_exit ?_
                    refine thenK_exit ?_
                    refine blockK_here ?_
                    refine blockK_normal ?_
                    refine thenK_normal ?_
                    refine Wp.loneRegion (.inl rfl) (by kernel_rfl) fun K' gd hK hg => ?_
                    clear hg
                    go_simp
                    refine hK _ _ ?_
                    clear hK K' gd
                    refine Ends.keep [3, 7, 8, 9, 11, 14, 16, 18, 21, 24] fun r41 hkeep => ?_
                    obtain ⟨e3_41, e7_41, e8_41, e9_41, e11_41, e14_41, e16_41, e18_41, e21_41, e24_41, -⟩ := hkeep
                    simp [go_sem, e3_35, e7_35, e8_35, e9_35, e11_35, e14_35, e16_35, e18_35, e21_35, e24_35, e25_35, e26_35, e183_35] at e3_41 e7_41 e8_41 e9_41 e11_41 e14_41 e16_41 e18_41 e21_41 e24_41
                    clear e3_35 e7_35 e8_35 e9_35 e11_35 e14_35 e16_35 e18_35 e21_35 e24_35 e25_35 e26_35 e183_35
                    refine Ends.mk ?_
                    refine thenK_normal ⟨by omega, ⟨by rw [e3_41, e3_23], by rw [e7_41, e7_23], by rw [e8_41, e8_23], by rw [e9_41, e9_23], by rw [e11_41, e11_23], by rw [e14_41, e14_23], by rw [e16_41, e16_23], by rw [e18_41, e18_23], by rw [e21_41, e21_23], trivial⟩, rfl, xl6, ?_⟩
                    rw [e24_41, IntWalk.i64_in _ (by omega)]; rfl
              · skip
                refine Wp.skip ?_
                refine thenK_normal ?_
                refine Wp.seq ?_
                refine Wp.block ?_
                refine Wp.seqRegion (.inl rfl) (by kernel_rfl) fun K' gd hK hg => ?_
                clear hg
                refine Wops.cut 7 fun K1 hK1 => ?_
                simp only [List.take_succ_cons, List.take_zero]
                go_simp
                refine hK1 _ _ ?_
                clear hK1 K1
                simp only [List.drop_succ_cons, List.drop_zero]
                refine Wops.absA fun V25_12 n25 hV25_12 => ?_
                obtain ⟨q25, hV25_12, s25, kV25_12, f25, r25⟩ := hV25_12
                try simp only [q25] at kV25_12 f25 r25 ⊢
                replace f3 := Ext.fz hV25_12 c3_0 f3
                replace f4 := Ext.fz hV25_12 c4_0 f4
                replace f5 := Ext.fz hV25_12 c5_0 f5
                replace i1 := i1.ext hV25_12
                replace i2 := i2.ext hV25_12
                replace i3 := i3.ext hV25_12
                replace i4 := i4.ext hV25_12
                replace i5 := i5.ext hV25_12
                replace xw := Ext.trans xw hV25_12
                replace xj := Ext.trans xj hV25_12
                replace xi := Ext.trans xi hV25_12
                replace xl6 := Ext.trans xl6 hV25_12
                replace c3_0 := Ext.cell hV25_12 c3_0
                replace c3_1 := Ext.cell hV25_12 c3_1
                replace c4_0 := Ext.cell hV25_12 c4_0
                replace c4_1 := Ext.cell hV25_12 c4_1
                replace c4_2 := Ext.cell hV25_12 c4_2
                replace c4_3 := Ext.cell hV25_12 c4_3
                replace c5_0 := Ext.cell hV25_12 c5_0
                replace c5_1 := Ext.cell hV25_12 c5_1
                replace c5_2 := Ext.cell hV25_12 c5_2
                replace c5_3 := Ext.cell hV25_12 c5_3
                replace y0 := Ext.cell hV25_12 y0
                replace y1 := Ext.cell hV25_12 y1
                replace y2 := Ext.cell hV25_12 y2
                replace y3 := Ext.cell hV25_12 y3
                replace y4 := Ext.cell hV25_12 y4
                replace y5 := Ext.cell hV25_12 y5
                have c25_0 := kV25_12 0 _ rfl
                have c25_1 := kV25_12 1 _ rfl
                have c25_2 := kV25_12 2 _ rfl
                have c25_3 := kV25_12 3 _ rfl
                have c25_4 := kV25_12 4 _ rfl
                have c25_5 := kV25_12 5 _ rfl
                clear kV25_12 hV25_12
                clear r25
                try simp only [Wops_nil, updO_some, updO_none]
                refine hK _ _ ?_
                clear hK K' gd
                refine Wp.keep [3, 7, 8, 9, 11, 14, 16, 18, 21, 24, 25] fun r42 hkeep => ?_
                obtain ⟨e3_42, e7_42, e8_42, e9_42, e11_42, e14_42, e16_42, e18_42, e21_42, e24_42, e25_42, -⟩ := hkeep
                simp [go_sem, e3_25, e7_25, e8_25, e9_25, e11_25, e14_25, e16_25, e18_25, e21_25, e24_25, e116_25] at e3_42 e7_42 e8_42 e9_42 e11_42 e14_42 e16_42 e18_42 e21_42 e24_42 e25_42
                clear e3_25 e7_25 e8_25 e9_25 e11_25 e14_25 e16_25 e18_25 e21_25 e24_25 e116_25
                refine Wp.seq ?_
                refine Wp.seqRegion (.inl rfl) (by kernel_rfl) fun K' gd hK hg => ?_
                clear hg
                refine Wops.cut 4 fun K1 hK1 => ?_
                simp only [List.take_succ_cons, List.take_zero]
                go_simp
                refine Wcall (.inl rfl) (has_F hs _ i1.ints hl1.choose_spec.2) ?_
                rintro v w12 ⟨rfl, hE⟩
                go_simp
                refine hK1 _ _ ?_
                clear hK1 K1
                simp only [List.drop_succ_cons, List.drop_zero]
                have z43 := Below.size hE
                replace f3 := Ext.fz hE c3_0 f3
                replace f4 := Ext.fz hE c4_0 f4
                replace f5 := Ext.fz hE c5_0 f5
                replace f25 := Ext.fz hE c25_0 f25
                replace i1 := i1.ext hE
                replace i2 := i2.ext hE
                replace i3 := i3.ext hE
                replace i4 := i4.ext hE
                replace i5 := i5.ext hE
                replace xw := Ext.trans xw hE
                replace xj := Ext.trans xj hE
                replace xi := Ext.trans xi hE
                replace xl6 := Ext.trans xl6 hE
                replace c3_0 := Ext.cell hE c3_0
                replace c3_1 := Ext.cell hE c3_1
                replace c4_0 := Ext.cell hE c4_0
                replace c4_1 := Ext.cell hE c4_1
                replace c4_2 := Ext.cell hE c4_2
                replace c4_3 := Ext.cell hE c4_3
                replace c5_0 := Ext.cell hE c5_0
                replace c5_1 := Ext.cell hE c5_1
                replace c5_2 := Ext.cell hE c5_2
                replace c5_3 := Ext.cell hE c5_3
                replace y0 := Ext.cell hE y0
                replace y1 := Ext.cell hE y1
                replace y2 := Ext.cell hE y2
                replace y3 := Ext.cell hE y3
                replace y4 := Ext.cell hE y4
                replace y5 := Ext.cell hE y5
                replace c25_0 := Ext.cell hE c25_0
                replace c25_1 := Ext.cell hE c25_1
                replace c25_2 := Ext.cell hE c25_2
                replace c25_3 := Ext.cell hE c25_3
                replace c25_4 := Ext.cell hE c25_4
                replace c25_5 := Ext.cell hE c25_5
                clear hE
                go_simp
                refine hK _ _ ?_
                clear hK K' gd
                refine Wp.keep [3, 7, 8, 9, 11, 14, 16, 18, 21, 24, 25, 128] fun r44 hkeep => ?_
                obtain ⟨e3_44, e7_44, e8_44, e9_44, e11_44, e14_44, e16_44, e18_44, e21_44, e24_44, e25_44, e128_44, -⟩ := hkeep
                simp [go_sem, e3_42, e7_42, e8_42, e9_42, e11_42, e14_42, e16_42, e18_42, e21_42, e24_42, e25_42] at e3_44 e7_44 e8_44 e9_44 e11_44 e14_44 e16_44 e18_44 e21_44 e24_44 e25_44 e128_44
                clear e3_42 e7_42 e8_42 e9_42 e11_42 e14_42 e16_42 e18_42 e21_42 e24_42 e25_42
                refine Wp.condT (by go_simp) ?_
                refine Wp.exit ?_
                refine thenK_exit ?_
                refine blockK_here ?_
                refine thenK_normal ?_
                refine Wp.loneRegion (.inl rfl) (by kernel_rfl) fun K' gd hK hg => ?_
                clear hg
                go_simp
                refine hK _ _ ?_
                clear hK K' gd
                refine Ends.keep [3, 7, 8, 9, 11, 14, 16, 18, 21, 24] fun r45 hkeep => ?_
                obtain ⟨e3_45, e7_45, e8_45, e9_45, e11_45, e14_45, e16_45, e18_45, e21_45, e24_45, -⟩ := hkeep
                simp [go_sem, e3_44, e7_44, e8_44, e9_44, e11_44, e14_44, e16_44, e18_44, e21_44, e24_44, e25_44, e128_44] at e3_45 e7_45 e8_45 e9_45 e11_45 e14_45 e16_45 e18_45 e21_45 e24_45
                clear e3_44 e7_44 e8_44 e9_44 e11_44 e14_44 e16_44 e18_44 e21_44 e24_44 e25_44 e128_44
                refine Ends.mk ?_
                refine thenK_normal ⟨by omega, ⟨by rw [e3_45, e3_23], by rw [e7_45, e7_23], by rw [e8_45, e8_23], by rw [e9_45, e9_23], by rw [e11_45, e11_23], by rw [e14_45, e14_23], by rw [e16_45, e16_23], by rw [e18_45, e18_23], by rw [e21_45, e21_23], trivial⟩, rfl, xl6, ?_⟩
                rw [e24_45, IntWalk.i64_in _ (by omega)]; rfl
            · refine Wp.condF (by go_simp) ?_
              refine Wp.exit ?_
              refine thenK_exit ?_
              refine thenK_exit ?_
              refine blockK_here ?_
              refine thenK_normal ?_
              refine Wp.seqRegion (.inl rfl) (by kernel_rfl) fun K' gd hK hg => ?_
              clear hg
              go_simp
              refine hK _ _ ?_
              clear hK K' gd
              refine Wp.keep [6] fun r46 hkeep => ?_
              obtain ⟨e6_46, -⟩ := hkeep
              simp [go_sem, e3_25, e7_25, e8_25, e9_25, e11_25, e14_25, e16_25, e18_25, e21_25, e24_25, e116_25] at e6_46
              clear e3_25 e7_25 e8_25 e9_25 e11_25 e14_25 e16_25 e18_25 e21_25 e24_25 e116_25
              refine Wp.ret ?_
              refine endK_tmp Try.results12 (by decide) ?_
              rw [e6_46]
              exact ⟨rfl, xw⟩
        · skip
          have e1 : ¬ befE s d c = 0 := fun q => e0 (befE_zero.2 ⟨(befE_zero.1 q).2, (befE_zero.1 q).1⟩)
          have k1 : (befE s c d == 0) = false := by simpa using e0
          have k2 : (befE s d c == 0) = false := by simpa using e1
          refine Wp.seq ?_
          refine Wp.seqRegion (.inl rfl) (by kernel_rfl) fun K' gd hK hg => ?_
          have g2 : gd 2 = some 60 := hg 2
          clear hg
          go_simp
          refine hK _ _ ?_
          clear hK K' gd g2
          refine Wp.keep [3, 4, 5, 7, 8, 9, 10, 11, 13, 63] fun r47 hkeep => ?_
          obtain ⟨e3_47, e4_47, e5_47, e7_47, e8_47, e9_47, e10_47, e11_47, e13_47, e63_47, -⟩ := hkeep
          simp [go_sem, e3_12, e4_12, e5_12, e7_12, e8_12, e9_12, e10_12, e11_12, e13_12] at e3_47 e4_47 e5_47 e7_47 e8_47 e9_47 e10_47 e11_47 e13_47 e63_47
          clear e3_12 e4_12 e5_12 e7_12 e8_12 e9_12 e10_12 e11_12 e13_12
          refine Wp.condT (by go_simp) ?_
          refine Wp.seqRegion (.inl rfl) (by kernel_rfl) fun K' gd hK hg => ?_
          have g1 : gd 1 = some 65 := hg 1
          clear hg
          go_simp
          refine hK _ _ ?_
          clear hK K' gd g1
          refine Wp.keep [6] fun r48 hkeep => ?_
          obtain ⟨e6_48, -⟩ := hkeep
          simp [go_sem, e3_47, e4_47, e5_47, e7_47, e8_47, e9_47, e10_47, e11_47, e13_47, e63_47] at e6_48
          clear e3_47 e4_47 e5_47 e7_47 e8_47 e9_47 e10_47 e11_47 e13_47 e63_47
          refine Wp.ret ?_
          refine thenK_ret ?_
          refine endK_tmp Try.results12 (by decide) ?_
          rw [e6_48]
          exact ⟨by first | rfl | go_simp, xw⟩
      · skip
        refine Wp.seq ?_
        refine Wp.seqRegion (.inl rfl) (by kernel_rfl) fun K' gd hK hg => ?_
        have g3 : gd 3 = some 31 := hg 3
        have g8 : gd 8 = some 36 := hg 8
        clear hg
        refine Wops.cut 2 fun K1 hK1 => ?_
        simp only [List.take_succ_cons, List.take_zero]
        go_simp
        refine Wcall (.inl rfl) (few_c _ s _ (hV.ext xw)) ?_
        rintro v w3 ⟨rfl, hE⟩
        go_simp
        refine hK1 _ _ ?_
        clear hK1 K1
        simp only [List.drop_succ_cons, List.drop_zero]
        have z49 := Below.size hE
        replace f3 := Ext.fz hE c3_0 f3
        replace f4 := Ext.fz hE c4_0 f4
        replace f5 := Ext.fz hE c5_0 f5
        replace xw := Ext.trans xw hE
        replace c3_0 := Ext.cell hE c3_0
        replace c3_1 := Ext.cell hE c3_1
        replace c4_0 := Ext.cell hE c4_0
        replace c4_1 := Ext.cell hE c4_1
        replace c4_2 := Ext.cell hE c4_2
        replace c4_3 := Ext.cell hE c4_3
        replace c5_0 := Ext.cell hE c5_0
        replace c5_1 := Ext.cell hE c5_1
        replace c5_2 := Ext.cell hE c5_2
        replace c5_3 := Ext.cell hE c5_3
        clear hE
        refine Wops.cut 4 fun K1 hK1 => ?_
        simp only [List.take_succ_cons, List.take_zero]
        go_simp
        refine Wcall (.inl rfl) (brief_c _ c _ (hU.ext xw)) ?_
        rintro v w4 ⟨rfl, hE⟩
        go_simp
        refine hK1 _ _ ?_
        clear hK1 K1
        simp only [List.drop_succ_cons, List.drop_zero]
        have z50 := Below.size hE
        replace f3 := Ext.fz hE c3_0 f3
        replace f4 := Ext.fz hE c4_0 f4
        replace f5 := Ext.fz hE c5_0 f5
        replace xw := Ext.trans xw hE
        replace c3_0 := Ext.cell hE c3_0
        replace c3_1 := Ext.cell hE c3_1
        replace c4_0 := Ext.cell hE c4_0
        replace c4_1 := Ext.cell hE c4_1
        replace c4_2 := Ext.cell hE c4_2
        replace c4_3 := Ext.cell hE c4_3
        replace c5_0 := Ext.cell hE c5_0
        replace c5_1 := Ext.cell hE c5_1
        replace c5_2 := Ext.cell hE c5_2
        replace c5_3 := Ext.cell hE c5_3
        clear hE
        refine Wops.cut 5 fun K1 hK1 => ?_
        simp only [List.take_succ_cons, List.take_zero]
        go_simp
        refine Wcall (.inl rfl) (brief_c _ d _ (hT.ext xw)) ?_
        rintro v w5 ⟨rfl, hE⟩
        go_simp
        refine hK1 _ _ ?_
        clear hK1 K1
        simp only [List.drop_succ_cons, List.drop_zero]
        have z51 := Below.size hE
        replace f3 := Ext.fz hE c3_0 f3
        replace f4 := Ext.fz hE c4_0 f4
        replace f5 := Ext.fz hE c5_0 f5
        replace xw := Ext.trans xw hE
        replace c3_0 := Ext.cell hE c3_0
        replace c3_1 := Ext.cell hE c3_1
        replace c4_0 := Ext.cell hE c4_0
        replace c4_1 := Ext.cell hE c4_1
        replace c4_2 := Ext.cell hE c4_2
        replace c4_3 := Ext.cell hE c4_3
        replace c5_0 := Ext.cell hE c5_0
        replace c5_1 := Ext.cell hE c5_1
        replace c5_2 := Ext.cell hE c5_2
        replace c5_3 := Ext.cell hE c5_3
        clear hE
        go_simp
        refine hK _ _ ?_
        clear hK K' gd g3 g8
        refine Wp.keep [3, 4, 5, 7, 40] fun r52 hkeep => ?_
        obtain ⟨e3_52, e4_52, e5_52, e7_52, e40_52, -⟩ := hkeep
        simp [go_sem, e3_4, e4_4, e5_4, e7_4] at e3_52 e4_52 e5_52 e7_52 e40_52
        clear e3_4 e4_4 e5_4 e7_4
        refine Wp.condT (by go_simp) ?_
        refine Wp.seqRegion (.inl rfl) (by kernel_rfl) fun K' gd hK hg => ?_
        clear hg
        go_simp
        refine hK _ _ ?_
        clear hK K' gd
        refine Wp.keep [6] fun r53 hkeep => ?_
        obtain ⟨e6_53, -⟩ := hkeep
        simp [go_sem, e3_52, e4_52, e5_52, e7_52, e40_52] at e6_53
        clear e3_52 e4_52 e5_52 e7_52 e40_52
        refine Wp.ret ?_
        refine thenK_ret ?_
        refine endK_tmp Try.results12 (by decide) ?_
        rw [e6_53]
        exact ⟨rfl, xw⟩
    · skip
      refine Wp.seq ?_
      refine Wp.seqRegion (.inl rfl) (by kernel_rfl) fun K' gd hK hg => ?_
      have g3 : gd 3 = some 31 := hg 3
      have g8 : gd 8 = some 36 := hg 8
      clear hg
      refine Wops.cut 2 fun K1 hK1 => ?_
      simp only [List.take_succ_cons, List.take_zero]
      go_simp
      refine Wcall (.inl rfl) (few_c _ s _ (hV.ext xw)) ?_
      rintro v w3 ⟨rfl, hE⟩
      go_simp
      refine hK1 _ _ ?_
      clear hK1 K1
      simp only [List.drop_succ_cons, List.drop_zero]
      have z54 := Below.size hE
      replace f3 := Ext.fz hE c3_0 f3
      replace f4 := Ext.fz hE c4_0 f4
      replace f5 := Ext.fz hE c5_0 f5
      replace xw := Ext.trans xw hE
      replace c3_0 := Ext.cell hE c3_0
      replace c3_1 := Ext.cell hE c3_1
      replace c4_0 := Ext.cell hE c4_0
      replace c4_1 := Ext.cell hE c4_1
      replace c4_2 := Ext.cell hE c4_2
      replace c4_3 := Ext.cell hE c4_3
      replace c5_0 := Ext.cell hE c5_0
      replace c5_1 := Ext.cell hE c5_1
      replace c5_2 := Ext.cell hE c5_2
      replace c5_3 := Ext.cell hE c5_3
      clear hE
      refine Wops.cut 4 fun K1 hK1 => ?_
      simp only [List.take_succ_cons, List.take_zero]
      go_simp
      refine Wcall (.inl rfl) (brief_c _ c _ (hU.ext xw)) ?_
      rintro v w4 ⟨rfl, hE⟩
      go_simp
      refine hK1 _ _ ?_
      clear hK1 K1
      simp only [List.drop_succ_cons, List.drop_zero]
      have z55 := Below.size hE
      replace f3 := Ext.fz hE c3_0 f3
      replace f4 := Ext.fz hE c4_0 f4
      replace f5 := Ext.fz hE c5_0 f5
      replace xw := Ext.trans xw hE
      replace c3_0 := Ext.cell hE c3_0
      replace c3_1 := Ext.cell hE c3_1
      replace c4_0 := Ext.cell hE c4_0
      replace c4_1 := Ext.cell hE c4_1
      replace c4_2 := Ext.cell hE c4_2
      replace c4_3 := Ext.cell hE c4_3
      replace c5_0 := Ext.cell hE c5_0
      replace c5_1 := Ext.cell hE c5_1
      replace c5_2 := Ext.cell hE c5_2
      replace c5_3 := Ext.cell hE c5_3
      clear hE
      refine Wops.cut 5 fun K1 hK1 => ?_
      simp only [List.take_succ_cons, List.take_zero]
      go_simp
      refine hK1 _ _ ?_
      clear hK1 K1
      simp only [List.drop_succ_cons, List.drop_zero]
      go_simp
      refine hK _ _ ?_
      clear hK K' gd g3 g8
      refine Wp.keep [3, 4, 5, 7, 40] fun r56 hkeep => ?_
      obtain ⟨e3_56, e4_56, e5_56, e7_56, e40_56, -⟩ := hkeep
      simp [go_sem, e3_4, e4_4, e5_4, e7_4] at e3_56 e4_56 e5_56 e7_56 e40_56
      clear e3_4 e4_4 e5_4 e7_4
      refine Wp.condT (by go_simp) ?_
      refine Wp.seqRegion (.inl rfl) (by kernel_rfl) fun K' gd hK hg => ?_
      clear hg
      go_simp
      refine hK _ _ ?_
      clear hK K' gd
      refine Wp.keep [6] fun r57 hkeep => ?_
      obtain ⟨e6_57, -⟩ := hkeep
      simp [go_sem, e3_56, e4_56, e5_56, e7_56, e40_56] at e6_57
      clear e3_56 e4_56 e5_56 e7_56 e40_56
      refine Wp.ret ?_
      refine thenK_ret ?_
      refine endK_tmp Try.results12 (by decide) ?_
      rw [e6_57]
      exact ⟨rfl, xw⟩
  · skip
    refine Wp.seq ?_
    refine Wp.seqRegion (.inl rfl) (by kernel_rfl) fun K' gd hK hg => ?_
    have g3 : gd 3 = some 31 := hg 3
    have g8 : gd 8 = some 36 := hg 8
    clear hg
    refine Wops.cut 2 fun K1 hK1 => ?_
    simp only [List.take_succ_cons, List.take_zero]
    go_simp
    refine Wcall (.inl rfl) (few_c _ s _ (hV.ext xw)) ?_
    rintro v w3 ⟨rfl, hE⟩
    go_simp
    refine hK1 _ _ ?_
    clear hK1 K1
    simp only [List.drop_succ_cons, List.drop_zero]
    have z58 := Below.size hE
    replace f3 := Ext.fz hE c3_0 f3
    replace f4 := Ext.fz hE c4_0 f4
    replace f5 := Ext.fz hE c5_0 f5
    replace xw := Ext.trans xw hE
    replace c3_0 := Ext.cell hE c3_0
    replace c3_1 := Ext.cell hE c3_1
    replace c4_0 := Ext.cell hE c4_0
    replace c4_1 := Ext.cell hE c4_1
    replace c4_2 := Ext.cell hE c4_2
    replace c4_3 := Ext.cell hE c4_3
    replace c5_0 := Ext.cell hE c5_0
    replace c5_1 := Ext.cell hE c5_1
    replace c5_2 := Ext.cell hE c5_2
    replace c5_3 := Ext.cell hE c5_3
    clear hE
    refine Wops.cut 4 fun K1 hK1 => ?_
    simp only [List.take_succ_cons, List.take_zero]
    go_simp
    refine hK1 _ _ ?_
    clear hK1 K1
    simp only [List.drop_succ_cons, List.drop_zero]
    refine Wops.cut 5 fun K1 hK1 => ?_
    simp only [List.take_succ_cons, List.take_zero]
    go_simp
    refine hK1 _ _ ?_
    clear hK1 K1
    simp only [List.drop_succ_cons, List.drop_zero]
    go_simp
    refine hK _ _ ?_
    clear hK K' gd g3 g8
    refine Wp.keep [3, 4, 5, 7, 40] fun r59 hkeep => ?_
    obtain ⟨e3_59, e4_59, e5_59, e7_59, e40_59, -⟩ := hkeep
    simp [go_sem, e3_4, e4_4, e5_4, e7_4] at e3_59 e4_59 e5_59 e7_59 e40_59
    clear e3_4 e4_4 e5_4 e7_4
    refine Wp.condT (by go_simp) ?_
    refine Wp.seqRegion (.inl rfl) (by kernel_rfl) fun K' gd hK hg => ?_
    clear hg
    go_simp
    refine hK _ _ ?_
    clear hK K' gd
    refine Wp.keep [6] fun r60 hkeep => ?_
    obtain ⟨e6_60, -⟩ := hkeep
    simp [go_sem, e3_59, e4_59, e5_59, e7_59, e40_59] at e6_60
    clear e3_59 e4_59 e5_59 e7_59 e40_59
    refine Wp.ret ?_
    refine thenK_ret ?_
    refine endK_tmp Try.results12 (by decide) ?_
    rw [e6_60]
    exact ⟨rfl, xw⟩
end Go.Proofs.Ytnjajbkkgfohaaa
