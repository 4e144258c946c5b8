/- Between. StateOrders. -/
import Derived.Test.YtnjajbkkgfohaaaQ12
set_option linter.all false
namespace Go.Proofs.Ytnjajbkkgfohaaa
open Go.RowKit Go.Wk Go.Proofs
attribute [local irreducible] Go.Wk.Wops Go.Wk.Wp Go.Wk.Mtree Go.Wk.Mops
set_option maxHeartbeats 8000000
set_option maxRecDepth 20000

theorem IntsB.two {w X : World} {base p q : Nat} {a b v : Value} {xs : List Int} (h : IntsB w base v xs) (hE : Ext w X) (hp : p < base ∨ w.heap.size ≤ p) (hq : q < base ∨ w.heap.size ≤ q) : IntsB ((X.setCell ⟨p, 0, none⟩ a).setCell ⟨q, 0, none⟩ b) base v xs := by
  obtain ⟨A, c, rfl, hx, hl⟩ := h
  have hC : Chg [p, q] X ((X.setCell ⟨p, 0, none⟩ a).setCell ⟨q, 0, none⟩ b) := ((Chg.refl [p, q] X).setC (by simp)).setC (by simp)
  refine ⟨A, c, rfl, fun hne => ?_, hl⟩
  obtain ⟨g, o, h1, h2, h3, h4⟩ := hx hne
  have hs := Below.size hE
  have hs2 := hC.size
  exact ⟨g, o, h1, h2, by omega, fun k hk => Chg.cell hC (hE.cell (h4 k hk)) (by intro hm; simp at hm; omega)⟩
theorem bet1_c (a : Alt) (q r : Nat) (fv gv : Value) (f b : List Int) (w : World) (hq : w.cell? ⟨q, 0, none⟩ = some fv) (hr : w.cell? ⟨r, 0, none⟩ = some gv) (hl : IntsV w w.heap.size fv f) (hm : IntsV w w.heap.size gv b) (ha : 0 ≤ a.tu ∧ a.tu < (f.length : Int)) (hfb : f.length = b.length) :
    CallsV Try.prog 104 (#[altV a] ++ #[.pointer (some ⟨q, 0, none⟩), .pointer (some ⟨r, 0, none⟩)]) w fun v w' => v = .bool (betP f b a) ∧ Ext w w' := by
  show CallsV _ _ #[.agg #[.int .i64 a.id, .int .i64 a.kind, .int .i64 a.day, .int .i64 a.frm, .int .i64 a.tu, .int .i64 a.word], .pointer (some ⟨q, 0, none⟩), .pointer (some ⟨r, 0, none⟩)] _ _
  obtain ⟨n, hn⟩ : ∃ n : Nat, a.tu = (n : Int) := ⟨a.tu.toNat, by omega⟩
  have hs : ∃ _u : Unit, betP f b a = (decide (a.day ≤ gI f n) && decide (gI b n < a.day)) := ⟨(), by unfold betP; rw [hn]; rfl⟩
  rw [hn]
  have hnl : n < f.length := by omega
  have hnb : n < b.length := by omega
  obtain ⟨g, o, c, rfl, hb, hc⟩ := hl.get hnl
  obtain ⟨g2, o2, c2, rfl, hb2, hc2⟩ := hm.get hnb
  have y0 := hc n hnl
  have y1 := hc2 n hnb
  have i1 : (n : Int) < (f.length : Int) := by omega
  have i2 : (n : Int) < (b.length : Int) := by omega
  clear hc hc2 hn hfb ha
  refine Wp.fn Try.func104 rfl Try.ntmps104 (by simp) ?_
  have xw := Ext.refl w
  refine Wp.keep [0, 1, 2] fun r1 hkeep => ?_
  obtain ⟨e0_1, e1_1, e2_1, -⟩ := hkeep
  simp [go_sem] at e0_1 e1_1 e2_1
  by_cases h1 : a.day ≤ gI f n
  · skip
    refine Wp.seqRegion (.inl rfl) (by kernel_rfl) fun K' gd hK hg => ?_
    clear hg
    refine Wops.cut 1 fun K1 hK1 => ?_
    simp only [List.take_succ_cons, List.take_zero]
    go_simp
    refine hK1 _ _ ?_
    clear hK1 K1
    simp only [List.drop_succ_cons, List.drop_zero]
    refine Wops.absA fun V3_1 n3 hV3_1 => ?_
    obtain ⟨q3, hV3_1, s3, kV3_1, f3, r3⟩ := hV3_1
    try simp only [q3] at kV3_1 f3 r3 ⊢
    replace xw := Ext.trans xw hV3_1
    replace hq := Ext.cell hV3_1 hq
    replace hr := Ext.cell hV3_1 hr
    replace y0 := Ext.cell hV3_1 y0
    replace y1 := Ext.cell hV3_1 y1
    have c3_0 := kV3_1 0 _ rfl
    have c3_1 := kV3_1 1 _ rfl
    have c3_2 := kV3_1 2 _ rfl
    have c3_3 := kV3_1 3 _ rfl
    have c3_4 := kV3_1 4 _ rfl
    have c3_5 := kV3_1 5 _ rfl
    clear kV3_1 hV3_1
    clear r3
    go_simp
    refine hK _ _ ?_
    clear hK K' gd
    refine Wp.keep [1, 2, 3] fun r2 hkeep => ?_
    obtain ⟨e1_2, e2_2, e3_2, -⟩ := hkeep
    simp [go_sem, e0_1, e1_1, e2_1] at e1_2 e2_2 e3_2
    clear e0_1 e1_1 e2_1
    refine Wp.seqDraw (.inl rfl) mixed [([0, 1, 2, 3, 4], none), ([5, 6, 7, 8], none), ([9, 10, 11, 12, 13], none), ([14, 15, 16, 17, 18], none)] (by kernel_rfl) fun K' gd hK hg => ?_
    have g8 : gd 8 = some 13 := hg 8
    clear hg
    simp only [pick, nth, List.map_cons, List.map_nil, Option.map_none, Option.map_some]
    refine Mops.absD fun D2 hD2 zD2 => ?_
    replace f3 := Ext.fz hD2 c3_0 f3
    replace xw := Ext.trans xw hD2
    replace hq := Ext.cell hD2 hq
    replace hr := Ext.cell hD2 hr
    replace y0 := Ext.cell hD2 y0
    replace y1 := Ext.cell hD2 y1
    replace c3_0 := Ext.cell hD2 c3_0
    replace c3_1 := Ext.cell hD2 c3_1
    replace c3_2 := Ext.cell hD2 c3_2
    replace c3_3 := Ext.cell hD2 c3_3
    replace c3_4 := Ext.cell hD2 c3_4
    replace c3_5 := Ext.cell hD2 c3_5
    clear hD2
    apply Mops.none
    · intro w' hE'
      have hC' := hE'.cellsS
      go_simp
      with_reducible rfl
    apply Mops.none
    · intro w' hE'
      have hC' := hE'.cellsS
      go_simp
      with_reducible rfl
    apply Mops.none
    · intro w' hE'
      have hC' := hE'.cellsS
      go_simp
      with_reducible rfl
    apply Mops.none
    · intro w' hE'
      have hC' := hE'.cellsS
      go_simp
      with_reducible rfl
    refine Mops.done ?_
    refine hK _ _ ?_
    clear hK K' gd g8
    refine Wp.keep [4] fun r3 hkeep => ?_
    obtain ⟨e4_3, -⟩ := hkeep
    simp [go_sem, e1_2, e2_2, e3_2] at e4_3
    clear e1_2 e2_2 e3_2
    refine Wp.ret ?_
    refine endK_tmp Try.results104 (by decide) ?_
    rw [e4_3]
    exact ⟨by rw [hs.choose_spec, decide_eq_true h1]; rfl, xw⟩
  · skip
    refine Wp.seqRegion (.inl rfl) (by kernel_rfl) fun K' gd hK hg => ?_
    clear hg
    refine Wops.cut 1 fun K1 hK1 => ?_
    simp only [List.take_succ_cons, List.take_zero]
    go_simp
    refine hK1 _ _ ?_
    clear hK1 K1
    simp only [List.drop_succ_cons, List.drop_zero]
    refine Wops.absA fun V3_3 n3 hV3_3 => ?_
    obtain ⟨q3, hV3_3, s3, kV3_3, f3, r3⟩ := hV3_3
    try simp only [q3] at kV3_3 f3 r3 ⊢
    replace xw := Ext.trans xw hV3_3
    replace hq := Ext.cell hV3_3 hq
    replace hr := Ext.cell hV3_3 hr
    replace y0 := Ext.cell hV3_3 y0
    replace y1 := Ext.cell hV3_3 y1
    have c3_0 := kV3_3 0 _ rfl
    have c3_1 := kV3_3 1 _ rfl
    have c3_2 := kV3_3 2 _ rfl
    have c3_3 := kV3_3 3 _ rfl
    have c3_4 := kV3_3 4 _ rfl
    have c3_5 := kV3_3 5 _ rfl
    clear kV3_3 hV3_3
    clear r3
    go_simp
    refine hK _ _ ?_
    clear hK K' gd
    refine Wp.keep [1, 2, 3] fun r4 hkeep => ?_
    obtain ⟨e1_4, e2_4, e3_4, -⟩ := hkeep
    simp [go_sem, e0_1, e1_1, e2_1] at e1_4 e2_4 e3_4
    clear e0_1 e1_1 e2_1
    refine Wp.seqDraw (.inl rfl) mixed [([0, 1, 2, 3, 4], none), ([5, 6, 7, 8], none), ([9, 10, 11, 12, 13], none), ([14, 15, 16, 17, 18], none)] (by kernel_rfl) fun K' gd hK hg => ?_
    have g8 : gd 8 = some 13 := hg 8
    clear hg
    simp only [pick, nth, List.map_cons, List.map_nil, Option.map_none, Option.map_some]
    refine Mops.absD fun D4 hD4 zD4 => ?_
    replace f3 := Ext.fz hD4 c3_0 f3
    replace xw := Ext.trans xw hD4
    replace hq := Ext.cell hD4 hq
    replace hr := Ext.cell hD4 hr
    replace y0 := Ext.cell hD4 y0
    replace y1 := Ext.cell hD4 y1
    replace c3_0 := Ext.cell hD4 c3_0
    replace c3_1 := Ext.cell hD4 c3_1
    replace c3_2 := Ext.cell hD4 c3_2
    replace c3_3 := Ext.cell hD4 c3_3
    replace c3_4 := Ext.cell hD4 c3_4
    replace c3_5 := Ext.cell hD4 c3_5
    clear hD4
    apply Mops.none
    · intro w' hE'
      have hC' := hE'.cellsS
      go_simp
      with_reducible rfl
    apply Mops.none
    · intro w' hE'
      have hC' := hE'.cellsS
      go_simp
      with_reducible rfl
    apply Mops.none
    · intro w' hE'
      have hC' := hE'.cellsS
      go_simp
      with_reducible rfl
    apply Mops.none
    · intro w' hE'
      have hC' := hE'.cellsS
      go_simp
      with_reducible rfl
    refine Mops.done ?_
    refine hK _ _ ?_
    clear hK K' gd g8
    refine Wp.keep [4] fun r5 hkeep => ?_
    obtain ⟨e4_5, -⟩ := hkeep
    simp [go_sem, e1_4, e2_4, e3_4] at e4_5
    clear e1_4 e2_4 e3_4
    refine Wp.ret ?_
    refine endK_tmp Try.results104 (by decide) ?_
    rw [e4_5]
    exact ⟨by rw [hs.choose_spec, decide_eq_false h1]; rfl, xw⟩
theorem bet2_c (a : Alt) (q r : Nat) (fv gv : Value) (f b : List Int) (w : World) (hq : w.cell? ⟨q, 0, none⟩ = some fv) (hr : w.cell? ⟨r, 0, none⟩ = some gv) (hl : IntsV w w.heap.size fv f) (hm : IntsV w w.heap.size gv b) (ha : 0 ≤ a.tu ∧ a.tu < (f.length : Int)) (hfb : f.length = b.length) :
    CallsV Try.prog 105 (#[altV a] ++ #[.pointer (some ⟨q, 0, none⟩), .pointer (some ⟨r, 0, none⟩)]) w fun v w' => v = .bool (betP f b a) ∧ Ext w w' := by
  show CallsV _ _ #[.agg #[.int .i64 a.id, .int .i64 a.kind, .int .i64 a.day, .int .i64 a.frm, .int .i64 a.tu, .int .i64 a.word], .pointer (some ⟨q, 0, none⟩), .pointer (some ⟨r, 0, none⟩)] _ _
  obtain ⟨n, hn⟩ : ∃ n : Nat, a.tu = (n : Int) := ⟨a.tu.toNat, by omega⟩
  have hs : ∃ _u : Unit, betP f b a = (decide (a.day ≤ gI f n) && decide (gI b n < a.day)) := ⟨(), by unfold betP; rw [hn]; rfl⟩
  rw [hn]
  have hnl : n < f.length := by omega
  have hnb : n < b.length := by omega
  obtain ⟨g, o, c, rfl, hb, hc⟩ := hl.get hnl
  obtain ⟨g2, o2, c2, rfl, hb2, hc2⟩ := hm.get hnb
  have y0 := hc n hnl
  have y1 := hc2 n hnb
  have i1 : (n : Int) < (f.length : Int) := by omega
  have i2 : (n : Int) < (b.length : Int) := by omega
  clear hc hc2 hn hfb ha
  refine Wp.fn Try.func105 rfl Try.ntmps105 (by simp) ?_
  have xw := Ext.refl w
  refine Wp.keep [0, 1, 2] fun r1 hkeep => ?_
  obtain ⟨e0_1, e1_1, e2_1, -⟩ := hkeep
  simp [go_sem] at e0_1 e1_1 e2_1
  by_cases h1 : a.day ≤ gI f n
  · skip
    refine Wp.seqRegion (.inl rfl) (by kernel_rfl) fun K' gd hK hg => ?_
    clear hg
    refine Wops.cut 1 fun K1 hK1 => ?_
    simp only [List.take_succ_cons, List.take_zero]
    go_simp
    refine hK1 _ _ ?_
    clear hK1 K1
    simp only [List.drop_succ_cons, List.drop_zero]
    refine Wops.absA fun V3_1 n3 hV3_1 => ?_
    obtain ⟨q3, hV3_1, s3, kV3_1, f3, r3⟩ := hV3_1
    try simp only [q3] at kV3_1 f3 r3 ⊢
    replace xw := Ext.trans xw hV3_1
    replace hq := Ext.cell hV3_1 hq
    replace hr := Ext.cell hV3_1 hr
    replace y0 := Ext.cell hV3_1 y0
    replace y1 := Ext.cell hV3_1 y1
    have c3_0 := kV3_1 0 _ rfl
    have c3_1 := kV3_1 1 _ rfl
    have c3_2 := kV3_1 2 _ rfl
    have c3_3 := kV3_1 3 _ rfl
    have c3_4 := kV3_1 4 _ rfl
    have c3_5 := kV3_1 5 _ rfl
    clear kV3_1 hV3_1
    clear r3
    go_simp
    refine hK _ _ ?_
    clear hK K' gd
    refine Wp.keep [1, 2, 3] fun r2 hkeep => ?_
    obtain ⟨e1_2, e2_2, e3_2, -⟩ := hkeep
    simp [go_sem, e0_1, e1_1, e2_1] at e1_2 e2_2 e3_2
    clear e0_1 e1_1 e2_1
    refine Wp.seqDraw (.inl rfl) mixed [([0, 1, 2, 3, 4], none), ([5, 6, 7, 8], none), ([9, 10, 11, 12, 13], none), ([14, 15, 16, 17, 18], none)] (by kernel_rfl) fun K' gd hK hg => ?_
    have g8 : gd 8 = some 13 := hg 8
    clear hg
    simp only [pick, nth, List.map_cons, List.map_nil, Option.map_none, Option.map_some]
    refine Mops.absD fun D2 hD2 zD2 => ?_
    replace f3 := Ext.fz hD2 c3_0 f3
    replace xw := Ext.trans xw hD2
    replace hq := Ext.cell hD2 hq
    replace hr := Ext.cell hD2 hr
    replace y0 := Ext.cell hD2 y0
    replace y1 := Ext.cell hD2 y1
    replace c3_0 := Ext.cell hD2 c3_0
    replace c3_1 := Ext.cell hD2 c3_1
    replace c3_2 := Ext.cell hD2 c3_2
    replace c3_3 := Ext.cell hD2 c3_3
    replace c3_4 := Ext.cell hD2 c3_4
    replace c3_5 := Ext.cell hD2 c3_5
    clear hD2
    apply Mops.none
    · intro w' hE'
      have hC' := hE'.cellsS
      go_simp
      with_reducible rfl
    apply Mops.none
    · intro w' hE'
      have hC' := hE'.cellsS
      go_simp
      with_reducible rfl
    apply Mops.none
    · intro w' hE'
      have hC' := hE'.cellsS
      go_simp
      with_reducible rfl
    apply Mops.none
    · intro w' hE'
      have hC' := hE'.cellsS
      go_simp
      with_reducible rfl
    refine Mops.done ?_
    refine hK _ _ ?_
    clear hK K' gd g8
    refine Wp.keep [4] fun r3 hkeep => ?_
    obtain ⟨e4_3, -⟩ := hkeep
    simp [go_sem, e1_2, e2_2, e3_2] at e4_3
    clear e1_2 e2_2 e3_2
    refine Wp.ret ?_
    refine endK_tmp Try.results105 (by decide) ?_
    rw [e4_3]
    exact ⟨by rw [hs.choose_spec, decide_eq_true h1]; rfl, xw⟩
  · skip
    refine Wp.seqRegion (.inl rfl) (by kernel_rfl) fun K' gd hK hg => ?_
    clear hg
    refine Wops.cut 1 fun K1 hK1 => ?_
    simp only [List.take_succ_cons, List.take_zero]
    go_simp
    refine hK1 _ _ ?_
    clear hK1 K1
    simp only [List.drop_succ_cons, List.drop_zero]
    refine Wops.absA fun V3_3 n3 hV3_3 => ?_
    obtain ⟨q3, hV3_3, s3, kV3_3, f3, r3⟩ := hV3_3
    try simp only [q3] at kV3_3 f3 r3 ⊢
    replace xw := Ext.trans xw hV3_3
    replace hq := Ext.cell hV3_3 hq
    replace hr := Ext.cell hV3_3 hr
    replace y0 := Ext.cell hV3_3 y0
    replace y1 := Ext.cell hV3_3 y1
    have c3_0 := kV3_3 0 _ rfl
    have c3_1 := kV3_3 1 _ rfl
    have c3_2 := kV3_3 2 _ rfl
    have c3_3 := kV3_3 3 _ rfl
    have c3_4 := kV3_3 4 _ rfl
    have c3_5 := kV3_3 5 _ rfl
    clear kV3_3 hV3_3
    clear r3
    go_simp
    refine hK _ _ ?_
    clear hK K' gd
    refine Wp.keep [1, 2, 3] fun r4 hkeep => ?_
    obtain ⟨e1_4, e2_4, e3_4, -⟩ := hkeep
    simp [go_sem, e0_1, e1_1, e2_1] at e1_4 e2_4 e3_4
    clear e0_1 e1_1 e2_1
    refine Wp.seqDraw (.inl rfl) mixed [([0, 1, 2, 3, 4], none), ([5, 6, 7, 8], none), ([9, 10, 11, 12, 13], none), ([14, 15, 16, 17, 18], none)] (by kernel_rfl) fun K' gd hK hg => ?_
    have g8 : gd 8 = some 13 := hg 8
    clear hg
    simp only [pick, nth, List.map_cons, List.map_nil, Option.map_none, Option.map_some]
    refine Mops.absD fun D4 hD4 zD4 => ?_
    replace f3 := Ext.fz hD4 c3_0 f3
    replace xw := Ext.trans xw hD4
    replace hq := Ext.cell hD4 hq
    replace hr := Ext.cell hD4 hr
    replace y0 := Ext.cell hD4 y0
    replace y1 := Ext.cell hD4 y1
    replace c3_0 := Ext.cell hD4 c3_0
    replace c3_1 := Ext.cell hD4 c3_1
    replace c3_2 := Ext.cell hD4 c3_2
    replace c3_3 := Ext.cell hD4 c3_3
    replace c3_4 := Ext.cell hD4 c3_4
    replace c3_5 := Ext.cell hD4 c3_5
    clear hD4
    apply Mops.none
    · intro w' hE'
      have hC' := hE'.cellsS
      go_simp
      with_reducible rfl
    apply Mops.none
    · intro w' hE'
      have hC' := hE'.cellsS
      go_simp
      with_reducible rfl
    apply Mops.none
    · intro w' hE'
      have hC' := hE'.cellsS
      go_simp
      with_reducible rfl
    apply Mops.none
    · intro w' hE'
      have hC' := hE'.cellsS
      go_simp
      with_reducible rfl
    refine Mops.done ?_
    refine hK _ _ ?_
    clear hK K' gd g8
    refine Wp.keep [4] fun r5 hkeep => ?_
    obtain ⟨e4_5, -⟩ := hkeep
    simp [go_sem, e1_4, e2_4, e3_4] at e4_5
    clear e1_4 e2_4 e3_4
    refine Wp.ret ?_
    refine endK_tmp Try.results105 (by decide) ?_
    rw [e4_5]
    exact ⟨by rw [hs.choose_spec, decide_eq_false h1]; rfl, xw⟩
theorem Between_c (v u t : Value) (s : Sh) (c d : Cp) (w : World) (hV : SheetV w w.heap.size v s) (hU : CopyV w w.heap.size u c) (hT : CopyV w w.heap.size t d) (hf : FitS s) (hg : FitC c) (hh : FitC d) (hal : befE s c d = 0 → s.alts.length ≤ 12) :
    CallsV Try.prog 50 #[v, u, t] w fun v w' => ∃ x y, v = .tuple #[x, y, .int .i64 (befE s c d)] ∧ IntsB w' w.heap.size x (if befE s c d = 0 then idsS s (betP (s.md d).first (s.md c).last) else []) ∧
      IntsB w' w.heap.size y (if befE s c d = 0 then idsS s (betP (s.md d).last (s.md c).first) else []) ∧ Ext w w' := by
  obtain ⟨wv, av, rfl, ⟨A, c1, rfl, -, -⟩, ⟨A3, c3, rfl, -, -⟩⟩ := id hV
  obtain ⟨wu, rfl, hW⟩ := id hU
  obtain ⟨A2, c2, rfl, -, -⟩ := id hW
  obtain ⟨wt, rfl, hX⟩ := id hT
  obtain ⟨A4, c4, rfl, -, -⟩ := id hX
  refine Wp.fn Try.func50 rfl Try.ntmps50 (by simp) ?_
  have xw := Ext.refl w
  refine Wp.keep [0, 1, 2] fun r1 hkeep => ?_
  obtain ⟨e0_1, e1_1, e2_1, -⟩ := hkeep
  simp [go_sem] at e0_1 e1_1 e2_1
  refine Wp.seqRegion (.inl rfl) (by kernel_rfl) fun K' gd hK hg => ?_
  clear hg
  refine Wops.cut 1 fun K1 hK1 => ?_
  simp only [List.take_succ_cons, List.take_zero]
  go_simp
  refine hK1 _ _ ?_
  clear hK1 K1
  simp only [List.drop_succ_cons, List.drop_zero]
  refine Wops.absA fun V3_1 n3 hV3_1 => ?_
  obtain ⟨q3, hV3_1, s3, kV3_1, f3, r3⟩ := hV3_1
  try simp only [q3] at kV3_1 f3 r3 ⊢
  replace xw := Ext.trans xw hV3_1
  have c3_0 := kV3_1 0 _ rfl
  have c3_1 := kV3_1 1 _ rfl
  clear kV3_1 hV3_1
  clear r3
  refine Wops.cut 1 fun K1 hK1 => ?_
  simp only [List.take_succ_cons, List.take_zero]
  go_simp
  refine hK1 _ _ ?_
  clear hK1 K1
  simp only [List.drop_succ_cons, List.drop_zero]
  refine Wops.absA fun V4_2 n4 hV4_2 => ?_
  obtain ⟨q4, hV4_2, s4, kV4_2, f4, r4⟩ := hV4_2
  try simp only [q4] at kV4_2 f4 r4 ⊢
  replace f3 := Ext.fz hV4_2 c3_0 f3
  replace xw := Ext.trans xw hV4_2
  replace c3_0 := Ext.cell hV4_2 c3_0
  replace c3_1 := Ext.cell hV4_2 c3_1
  have c4_0 := kV4_2 0 _ rfl
  have c4_1 := kV4_2 1 _ rfl
  have c4_2 := kV4_2 2 _ rfl
  have c4_3 := kV4_2 3 _ rfl
  clear kV4_2 hV4_2
  clear r4
  refine Wops.cut 1 fun K1 hK1 => ?_
  simp only [List.take_succ_cons, List.take_zero]
  go_simp
  refine hK1 _ _ ?_
  clear hK1 K1
  simp only [List.drop_succ_cons, List.drop_zero]
  refine Wops.absA fun V5_3 n5 hV5_3 => ?_
  obtain ⟨q5, hV5_3, s5, kV5_3, f5, r5⟩ := hV5_3
  try simp only [q5] at kV5_3 f5 r5 ⊢
  replace f3 := Ext.fz hV5_3 c3_0 f3
  replace f4 := Ext.fz hV5_3 c4_0 f4
  replace xw := Ext.trans xw hV5_3
  replace c3_0 := Ext.cell hV5_3 c3_0
  replace c3_1 := Ext.cell hV5_3 c3_1
  replace c4_0 := Ext.cell hV5_3 c4_0
  replace c4_1 := Ext.cell hV5_3 c4_1
  replace c4_2 := Ext.cell hV5_3 c4_2
  replace c4_3 := Ext.cell hV5_3 c4_3
  have c5_0 := kV5_3 0 _ rfl
  have c5_1 := kV5_3 1 _ rfl
  have c5_2 := kV5_3 2 _ rfl
  have c5_3 := kV5_3 3 _ rfl
  clear kV5_3 hV5_3
  clear r5
  go_simp
  refine hK _ _ ?_
  clear hK K' gd
  refine Wp.keep [3, 4, 5] fun r2 hkeep => ?_
  obtain ⟨e3_2, e4_2, e5_2, -⟩ := hkeep
  simp [go_sem, e0_1, e1_1, e2_1] at e3_2 e4_2 e5_2
  clear e0_1 e1_1 e2_1
  refine Wp.seq ?_
  refine Wp.seqRegion (.inl rfl) (by kernel_rfl) fun K' gd hK hg => ?_
  clear hg
  refine Wops.cut 3 fun K1 hK1 => ?_
  simp only [List.take_succ_cons, List.take_zero]
  go_simp
  refine Wcall (.inl rfl) (copy_c _ _ s c _ (hV.ext xw) (hU.ext xw) hf hg) ?_
  rintro v w2 ⟨rfl, hE⟩
  go_simp
  refine hK1 _ _ ?_
  clear hK1 K1
  simp only [List.drop_succ_cons, List.drop_zero]
  have z3 := Below.size hE
  replace f3 := Ext.fz hE c3_0 f3
  replace f4 := Ext.fz hE c4_0 f4
  replace f5 := Ext.fz hE c5_0 f5
  replace xw := Ext.trans xw hE
  replace c3_0 := Ext.cell hE c3_0
  replace c3_1 := Ext.cell hE c3_1
  replace c4_0 := Ext.cell hE c4_0
  replace c4_1 := Ext.cell hE c4_1
  replace c4_2 := Ext.cell hE c4_2
  replace c4_3 := Ext.cell hE c4_3
  replace c5_0 := Ext.cell hE c5_0
  replace c5_1 := Ext.cell hE c5_1
  replace c5_2 := Ext.cell hE c5_2
  replace c5_3 := Ext.cell hE c5_3
  clear hE
  go_simp
  refine hK _ _ ?_
  clear hK K' gd
  refine Wp.keep [3, 4, 5, 9] fun r4 hkeep => ?_
  obtain ⟨e3_4, e4_4, e5_4, e9_4, -⟩ := hkeep
  simp [go_sem, e3_2, e4_2, e5_2] at e3_4 e4_4 e5_4 e9_4
  clear e3_2 e4_2 e5_2
  by_cases k1 : copyS s c = 0
  · skip
    refine Wp.seqRegion (.inl rfl) (by kernel_rfl) fun K' gd hK hg => ?_
    clear hg
    go_simp
    refine hK _ _ ?_
    clear hK K' gd
    refine Wp.keep [3, 4, 5, 9, 24] fun r5 hkeep => ?_
    obtain ⟨e3_5, e4_5, e5_5, e9_5, e24_5, -⟩ := hkeep
    simp [go_sem, e3_4, e4_4, e5_4, e9_4] at e3_5 e4_5 e5_5 e9_5 e24_5
    clear e3_4 e4_4 e5_4 e9_4
    refine Wp.condF (by go_simp) ?_
    refine Wp.skip ?_
    refine thenK_normal ?_
    refine Wp.seq ?_
    refine Wp.seqRegion (.inl rfl) (by kernel_rfl) fun K' gd hK hg => ?_
    clear hg
    refine Wops.cut 3 fun K1 hK1 => ?_
    simp only [List.take_succ_cons, List.take_zero]
    go_simp
    refine Wcall (.inl rfl) (copy_c _ _ s d _ (hV.ext xw) (hT.ext xw) hf hh) ?_
    rintro v w3 ⟨rfl, hE⟩
    go_simp
    refine hK1 _ _ ?_
    clear hK1 K1
    simp only [List.drop_succ_cons, List.drop_zero]
    have z6 := Below.size hE
    replace f3 := Ext.fz hE c3_0 f3
    replace f4 := Ext.fz hE c4_0 f4
    replace f5 := Ext.fz hE c5_0 f5
    replace xw := Ext.trans xw hE
    replace c3_0 := Ext.cell hE c3_0
    replace c3_1 := Ext.cell hE c3_1
    replace c4_0 := Ext.cell hE c4_0
    replace c4_1 := Ext.cell hE c4_1
    replace c4_2 := Ext.cell hE c4_2
    replace c4_3 := Ext.cell hE c4_3
    replace c5_0 := Ext.cell hE c5_0
    replace c5_1 := Ext.cell hE c5_1
    replace c5_2 := Ext.cell hE c5_2
    replace c5_3 := Ext.cell hE c5_3
    clear hE
    go_simp
    refine hK _ _ ?_
    clear hK K' gd
    refine Wp.keep [3, 4, 5, 10] fun r7 hkeep => ?_
    obtain ⟨e3_7, e4_7, e5_7, e10_7, -⟩ := hkeep
    simp [go_sem, e3_5, e4_5, e5_5, e9_5, e24_5] at e3_7 e4_7 e5_7 e10_7
    clear e3_5 e4_5 e5_5 e9_5 e24_5
    by_cases k2 : copyS s d = 0
    · skip
      refine Wp.seqRegion (.inl rfl) (by kernel_rfl) fun K' gd hK hg => ?_
      clear hg
      go_simp
      refine hK _ _ ?_
      clear hK K' gd
      refine Wp.keep [3, 4, 5, 10, 30] fun r8 hkeep => ?_
      obtain ⟨e3_8, e4_8, e5_8, e10_8, e30_8, -⟩ := hkeep
      simp [go_sem, e3_7, e4_7, e5_7, e10_7] at e3_8 e4_8 e5_8 e10_8 e30_8
      clear e3_7 e4_7 e5_7 e10_7
      refine Wp.condF (by go_simp) ?_
      refine Wp.skip ?_
      refine thenK_normal ?_
      refine Wp.seqRegion (.inl rfl) (by kernel_rfl) fun K' gd hK hg => ?_
      clear hg
      refine Wops.cut 3 fun K1 hK1 => ?_
      simp only [List.take_succ_cons, List.take_zero]
      go_simp
      refine Wcall (.inl rfl) (begun_c _ _ s c _ (hV.ext xw) (hU.ext xw) hf hg) ?_
      rintro v w4 ⟨B1, b2, b3, b4, b5, b6, B2, b7, b8, dv, rfl, hM, hI, hE⟩
      have xc := Ext.refl w4
      obtain ⟨A6, n6, c6, rfl⟩ : ∃ A n c, dv = .slice A n c := by obtain ⟨A, c, e⟩ := hI.slice; exact ⟨A, _, c, e⟩
      go_simp
      refine hK1 _ _ ?_
      clear hK1 K1
      simp only [List.drop_succ_cons, List.drop_zero]
      have z9 := Below.size hE
      replace f3 := Ext.fz hE c3_0 f3
      replace f4 := Ext.fz hE c4_0 f4
      replace f5 := Ext.fz hE c5_0 f5
      replace xw := Ext.trans xw hE
      replace c3_0 := Ext.cell hE c3_0
      replace c3_1 := Ext.cell hE c3_1
      replace c4_0 := Ext.cell hE c4_0
      replace c4_1 := Ext.cell hE c4_1
      replace c4_2 := Ext.cell hE c4_2
      replace c4_3 := Ext.cell hE c4_3
      replace c5_0 := Ext.cell hE c5_0
      replace c5_1 := Ext.cell hE c5_1
      replace c5_2 := Ext.cell hE c5_2
      replace c5_3 := Ext.cell hE c5_3
      clear hE
      refine Wops.cut 5 fun K1 hK1 => ?_
      simp only [List.take_succ_cons, List.take_zero]
      go_simp
      refine hK1 _ _ ?_
      clear hK1 K1
      simp only [List.drop_succ_cons, List.drop_zero]
      refine Wops.absA fun V11_5 n11 hV11_5 => ?_
      obtain ⟨q11, hV11_5, s11, kV11_5, f11, r11⟩ := hV11_5
      try simp only [q11] at kV11_5 f11 r11 ⊢
      replace f3 := Ext.fz hV11_5 c3_0 f3
      replace f4 := Ext.fz hV11_5 c4_0 f4
      replace f5 := Ext.fz hV11_5 c5_0 f5
      replace xw := Ext.trans xw hV11_5
      replace xc := Ext.trans xc hV11_5
      replace c3_0 := Ext.cell hV11_5 c3_0
      replace c3_1 := Ext.cell hV11_5 c3_1
      replace c4_0 := Ext.cell hV11_5 c4_0
      replace c4_1 := Ext.cell hV11_5 c4_1
      replace c4_2 := Ext.cell hV11_5 c4_2
      replace c4_3 := Ext.cell hV11_5 c4_3
      replace c5_0 := Ext.cell hV11_5 c5_0
      replace c5_1 := Ext.cell hV11_5 c5_1
      replace c5_2 := Ext.cell hV11_5 c5_2
      replace c5_3 := Ext.cell hV11_5 c5_3
      have c11_0 := kV11_5 0 _ rfl
      have c11_1 := kV11_5 1 _ rfl
      have c11_2 := kV11_5 2 _ rfl
      have c11_3 := kV11_5 3 _ rfl
      have c11_4 := kV11_5 4 _ rfl
      clear kV11_5 hV11_5
      clear r11
      refine Wops.cut 1 fun K1 hK1 => ?_
      simp only [List.take_succ_cons, List.take_zero]
      go_simp
      refine hK1 _ _ ?_
      clear hK1 K1
      simp only [List.drop_succ_cons, List.drop_zero]
      refine Wops.absA fun V12_6 n12 hV12_6 => ?_
      obtain ⟨q12, hV12_6, s12, kV12_6, f12, r12⟩ := hV12_6
      try simp only [q12] at kV12_6 f12 r12 ⊢
      replace f3 := Ext.fz hV12_6 c3_0 f3
      replace f4 := Ext.fz hV12_6 c4_0 f4
      replace f5 := Ext.fz hV12_6 c5_0 f5
      replace f11 := Ext.fz hV12_6 c11_0 f11
      replace xw := Ext.trans xw hV12_6
      replace xc := Ext.trans xc hV12_6
      replace c3_0 := Ext.cell hV12_6 c3_0
      replace c3_1 := Ext.cell hV12_6 c3_1
      replace c4_0 := Ext.cell hV12_6 c4_0
      replace c4_1 := Ext.cell hV12_6 c4_1
      replace c4_2 := Ext.cell hV12_6 c4_2
      replace c4_3 := Ext.cell hV12_6 c4_3
      replace c5_0 := Ext.cell hV12_6 c5_0
      replace c5_1 := Ext.cell hV12_6 c5_1
      replace c5_2 := Ext.cell hV12_6 c5_2
      replace c5_3 := Ext.cell hV12_6 c5_3
      replace c11_0 := Ext.cell hV12_6 c11_0
      replace c11_1 := Ext.cell hV12_6 c11_1
      replace c11_2 := Ext.cell hV12_6 c11_2
      replace c11_3 := Ext.cell hV12_6 c11_3
      replace c11_4 := Ext.cell hV12_6 c11_4
      have c12_0 := kV12_6 0 _ rfl
      clear kV12_6 hV12_6
      clear r12
      refine Wops.cut 1 fun K1 hK1 => ?_
      simp only [List.take_succ_cons, List.take_zero]
      go_simp
      refine hK1 _ _ ?_
      clear hK1 K1
      simp only [List.drop_succ_cons, List.drop_zero]
      refine Wops.absS (b := n11) (i := 0) [_, _, _, _, _] (somes [cellVal c11_0, cellVal c11_1, cellVal c11_2, cellVal c11_3, cellVal c11_4] (by simp) (by intro j v hj; match j, hj with | 0, hj => (simp at hj; subst hj; exact c11_0) | 1, hj => (simp at hj; subst hj; exact c11_1) | 2, hj => (simp at hj; subst hj; exact c11_2) | 3, hj => (simp at hj; subst hj; exact c11_3) | 4, hj => (simp at hj; subst hj; exact c11_4))) fun P7 hP7 => ?_
      have zP7 := hP7.same
      replace f3 := Put.frz hP7 f3
      replace f4 := Put.frz hP7 f4
      replace f5 := Put.frz hP7 f5
      replace f11 := Put.frz hP7 f11
      replace f12 := Put.frz hP7 f12
      replace xw := Put.to xw hP7 (by omega)
      replace xc := Put.to xc hP7 (by omega)
      replace c3_0 := Put.cell hP7 c3_0 (by omega)
      replace c3_1 := Put.cell hP7 c3_1 (by omega)
      replace c4_0 := Put.cell hP7 c4_0 (by omega)
      replace c4_1 := Put.cell hP7 c4_1 (by omega)
      replace c4_2 := Put.cell hP7 c4_2 (by omega)
      replace c4_3 := Put.cell hP7 c4_3 (by omega)
      replace c5_0 := Put.cell hP7 c5_0 (by omega)
      replace c5_1 := Put.cell hP7 c5_1 (by omega)
      replace c5_2 := Put.cell hP7 c5_2 (by omega)
      replace c5_3 := Put.cell hP7 c5_3 (by omega)
      clear c11_0
      clear c11_1
      clear c11_2
      clear c11_3
      clear c11_4
      replace c12_0 := Put.cell hP7 c12_0 (by omega)
      have c11_0 := hP7.new 0 _ rfl
      try simp only [Nat.reduceAdd, Nat.zero_add, Nat.add_zero] at c11_0
      have c11_1 := hP7.new 1 _ rfl
      try simp only [Nat.reduceAdd, Nat.zero_add, Nat.add_zero] at c11_1
      have c11_2 := hP7.new 2 _ rfl
      try simp only [Nat.reduceAdd, Nat.zero_add, Nat.add_zero] at c11_2
      have c11_3 := hP7.new 3 _ rfl
      try simp only [Nat.reduceAdd, Nat.zero_add, Nat.add_zero] at c11_3
      have c11_4 := hP7.new 4 _ rfl
      try simp only [Nat.reduceAdd, Nat.zero_add, Nat.add_zero] at c11_4
      clear hP7
      refine Wops.cut 1 fun K1 hK1 => ?_
      simp only [List.take_succ_cons, List.take_zero]
      go_simp
      refine hK1 _ _ ?_
      clear hK1 K1
      simp only [List.drop_succ_cons, List.drop_zero]
      refine Wops.absS (b := n12) (i := 0) [_] (somes [cellVal c12_0] (by simp) (by intro j v hj; match j, hj with | 0, hj => (simp at hj; subst hj; exact c12_0))) fun P8 hP8 => ?_
      have zP8 := hP8.same
      replace f3 := Put.frz hP8 f3
      replace f4 := Put.frz hP8 f4
      replace f5 := Put.frz hP8 f5
      replace f11 := Put.frz hP8 f11
      replace f12 := Put.frz hP8 f12
      replace xw := Put.to xw hP8 (by omega)
      replace xc := Put.to xc hP8 (by omega)
      replace c3_0 := Put.cell hP8 c3_0 (by omega)
      replace c3_1 := Put.cell hP8 c3_1 (by omega)
      replace c4_0 := Put.cell hP8 c4_0 (by omega)
      replace c4_1 := Put.cell hP8 c4_1 (by omega)
      replace c4_2 := Put.cell hP8 c4_2 (by omega)
      replace c4_3 := Put.cell hP8 c4_3 (by omega)
      replace c5_0 := Put.cell hP8 c5_0 (by omega)
      replace c5_1 := Put.cell hP8 c5_1 (by omega)
      replace c5_2 := Put.cell hP8 c5_2 (by omega)
      replace c5_3 := Put.cell hP8 c5_3 (by omega)
      clear c12_0
      replace c11_0 := Put.cell hP8 c11_0 (by omega)
      replace c11_1 := Put.cell hP8 c11_1 (by omega)
      replace c11_2 := Put.cell hP8 c11_2 (by omega)
      replace c11_3 := Put.cell hP8 c11_3 (by omega)
      replace c11_4 := Put.cell hP8 c11_4 (by omega)
      have c12_0 := hP8.new 0 _ rfl
      try simp only [Nat.reduceAdd, Nat.zero_add, Nat.add_zero] at c12_0
      clear hP8
      go_simp
      refine hK _ _ ?_
      clear hK K' gd
      refine Wp.keep [3, 5, 11, 12, 13] fun r10 hkeep => ?_
      obtain ⟨e3_10, e5_10, e11_10, e12_10, e13_10, -⟩ := hkeep
      simp [go_sem, e3_8, e4_8, e5_8, e10_8, e30_8] at e3_10 e5_10 e11_10 e12_10 e13_10
      clear e3_8 e4_8 e5_8 e10_8 e30_8
      by_cases k3 : begE s c = 0
      · skip
        rw [if_pos k3] at hI
        refine Wp.seq ?_
        refine Wp.seqRegion (.inl rfl) (by kernel_rfl) fun K' gd hK hg => ?_
        clear hg
        go_simp
        refine hK _ _ ?_
        clear hK K' gd
        refine Wp.keep [3, 5, 11, 12, 13, 40] fun r11 hkeep => ?_
        obtain ⟨e3_11, e5_11, e11_11, e12_11, e13_11, e40_11, -⟩ := hkeep
        simp [go_sem, e3_10, e5_10, e11_10, e12_10, e13_10] at e3_11 e5_11 e11_11 e12_11 e13_11 e40_11
        clear e3_10 e5_10 e11_10 e12_10 e13_10
        refine Wp.condF (by go_simp) ?_
        refine Wp.skip ?_
        refine thenK_normal ?_
        refine Wp.seqRegion (.inl rfl) (by kernel_rfl) fun K' gd hK hg => ?_
        clear hg
        refine Wops.cut 3 fun K1 hK1 => ?_
        simp only [List.take_succ_cons, List.take_zero]
        go_simp
        refine Wcall (.inl rfl) (begun_c _ _ s d _ (hV.ext xw) (hT.ext xw) hf hh) ?_
        rintro v w5 ⟨D1, d2, d3, d4, d5, d6, D2, d7, d8, ev, rfl, hN, hJ, hE⟩
        have xd := Ext.refl w5
        obtain ⟨A7, n7, c7, rfl⟩ : ∃ A n c, ev = .slice A n c := by obtain ⟨A, c, e⟩ := hJ.slice; exact ⟨A, _, c, e⟩
        go_simp
        refine hK1 _ _ ?_
        clear hK1 K1
        simp only [List.drop_succ_cons, List.drop_zero]
        have z12 := Below.size hE
        replace f3 := Ext.fz hE c3_0 f3
        replace f4 := Ext.fz hE c4_0 f4
        replace f5 := Ext.fz hE c5_0 f5
        replace f11 := Ext.fz hE c11_0 f11
        replace f12 := Ext.fz hE c12_0 f12
        replace xw := Ext.trans xw hE
        replace xc := Ext.trans xc hE
        replace c3_0 := Ext.cell hE c3_0
        replace c3_1 := Ext.cell hE c3_1
        replace c4_0 := Ext.cell hE c4_0
        replace c4_1 := Ext.cell hE c4_1
        replace c4_2 := Ext.cell hE c4_2
        replace c4_3 := Ext.cell hE c4_3
        replace c5_0 := Ext.cell hE c5_0
        replace c5_1 := Ext.cell hE c5_1
        replace c5_2 := Ext.cell hE c5_2
        replace c5_3 := Ext.cell hE c5_3
        replace c11_0 := Ext.cell hE c11_0
        replace c11_1 := Ext.cell hE c11_1
        replace c11_2 := Ext.cell hE c11_2
        replace c11_3 := Ext.cell hE c11_3
        replace c11_4 := Ext.cell hE c11_4
        replace c12_0 := Ext.cell hE c12_0
        clear hE
        refine Wops.cut 5 fun K1 hK1 => ?_
        simp only [List.take_succ_cons, List.take_zero]
        go_simp
        refine hK1 _ _ ?_
        clear hK1 K1
        simp only [List.drop_succ_cons, List.drop_zero]
        refine Wops.absA fun V14_10 n14 hV14_10 => ?_
        obtain ⟨q14, hV14_10, s14, kV14_10, f14, r14⟩ := hV14_10
        try simp only [q14] at kV14_10 f14 r14 ⊢
        replace f3 := Ext.fz hV14_10 c3_0 f3
        replace f4 := Ext.fz hV14_10 c4_0 f4
        replace f5 := Ext.fz hV14_10 c5_0 f5
        replace f11 := Ext.fz hV14_10 c11_0 f11
        replace f12 := Ext.fz hV14_10 c12_0 f12
        replace xw := Ext.trans xw hV14_10
        replace xc := Ext.trans xc hV14_10
        replace xd := Ext.trans xd hV14_10
        replace c3_0 := Ext.cell hV14_10 c3_0
        replace c3_1 := Ext.cell hV14_10 c3_1
        replace c4_0 := Ext.cell hV14_10 c4_0
        replace c4_1 := Ext.cell hV14_10 c4_1
        replace c4_2 := Ext.cell hV14_10 c4_2
        replace c4_3 := Ext.cell hV14_10 c4_3
        replace c5_0 := Ext.cell hV14_10 c5_0
        replace c5_1 := Ext.cell hV14_10 c5_1
        replace c5_2 := Ext.cell hV14_10 c5_2
        replace c5_3 := Ext.cell hV14_10 c5_3
        replace c11_0 := Ext.cell hV14_10 c11_0
        replace c11_1 := Ext.cell hV14_10 c11_1
        replace c11_2 := Ext.cell hV14_10 c11_2
        replace c11_3 := Ext.cell hV14_10 c11_3
        replace c11_4 := Ext.cell hV14_10 c11_4
        replace c12_0 := Ext.cell hV14_10 c12_0
        have c14_0 := kV14_10 0 _ rfl
        have c14_1 := kV14_10 1 _ rfl
        have c14_2 := kV14_10 2 _ rfl
        have c14_3 := kV14_10 3 _ rfl
        have c14_4 := kV14_10 4 _ rfl
        clear kV14_10 hV14_10
        clear r14
        refine Wops.cut 1 fun K1 hK1 => ?_
        simp only [List.take_succ_cons, List.take_zero]
        go_simp
        refine hK1 _ _ ?_
        clear hK1 K1
        simp only [List.drop_succ_cons, List.drop_zero]
        refine Wops.absA fun V15_11 n15 hV15_11 => ?_
        obtain ⟨q15, hV15_11, s15, kV15_11, f15, r15⟩ := hV15_11
        try simp only [q15] at kV15_11 f15 r15 ⊢
        replace f3 := Ext.fz hV15_11 c3_0 f3
        replace f4 := Ext.fz hV15_11 c4_0 f4
        replace f5 := Ext.fz hV15_11 c5_0 f5
        replace f11 := Ext.fz hV15_11 c11_0 f11
        replace f12 := Ext.fz hV15_11 c12_0 f12
        replace f14 := Ext.fz hV15_11 c14_0 f14
        replace xw := Ext.trans xw hV15_11
        replace xc := Ext.trans xc hV15_11
        replace xd := Ext.trans xd hV15_11
        replace c3_0 := Ext.cell hV15_11 c3_0
        replace c3_1 := Ext.cell hV15_11 c3_1
        replace c4_0 := Ext.cell hV15_11 c4_0
        replace c4_1 := Ext.cell hV15_11 c4_1
        replace c4_2 := Ext.cell hV15_11 c4_2
        replace c4_3 := Ext.cell hV15_11 c4_3
        replace c5_0 := Ext.cell hV15_11 c5_0
        replace c5_1 := Ext.cell hV15_11 c5_1
        replace c5_2 := Ext.cell hV15_11 c5_2
        replace c5_3 := Ext.cell hV15_11 c5_3
        replace c11_0 := Ext.cell hV15_11 c11_0
        replace c11_1 := Ext.cell hV15_11 c11_1
        replace c11_2 := Ext.cell hV15_11 c11_2
        replace c11_3 := Ext.cell hV15_11 c11_3
        replace c11_4 := Ext.cell hV15_11 c11_4
        replace c12_0 := Ext.cell hV15_11 c12_0
        replace c14_0 := Ext.cell hV15_11 c14_0
        replace c14_1 := Ext.cell hV15_11 c14_1
        replace c14_2 := Ext.cell hV15_11 c14_2
        replace c14_3 := Ext.cell hV15_11 c14_3
        replace c14_4 := Ext.cell hV15_11 c14_4
        have c15_0 := kV15_11 0 _ rfl
        clear kV15_11 hV15_11
        clear r15
        refine Wops.cut 1 fun K1 hK1 => ?_
        simp only [List.take_succ_cons, List.take_zero]
        go_simp
        refine hK1 _ _ ?_
        clear hK1 K1
        simp only [List.drop_succ_cons, List.drop_zero]
        refine Wops.absS (b := n14) (i := 0) [_, _, _, _, _] (somes [cellVal c14_0, cellVal c14_1, cellVal c14_2, cellVal c14_3, cellVal c14_4] (by simp) (by intro j v hj; match j, hj with | 0, hj => (simp at hj; subst hj; exact c14_0) | 1, hj => (simp at hj; subst hj; exact c14_1) | 2, hj => (simp at hj; subst hj; exact c14_2) | 3, hj => (simp at hj; subst hj; exact c14_3) | 4, hj => (simp at hj; subst hj; exact c14_4))) fun P12 hP12 => ?_
        have zP12 := hP12.same
        replace f3 := Put.frz hP12 f3
        replace f4 := Put.frz hP12 f4
        replace f5 := Put.frz hP12 f5
        replace f11 := Put.frz hP12 f11
        replace f12 := Put.frz hP12 f12
        replace f14 := Put.frz hP12 f14
        replace f15 := Put.frz hP12 f15
        replace xw := Put.to xw hP12 (by omega)
        replace xc := Put.to xc hP12 (by omega)
        replace xd := Put.to xd hP12 (by omega)
        replace c3_0 := Put.cell hP12 c3_0 (by omega)
        replace c3_1 := Put.cell hP12 c3_1 (by omega)
        replace c4_0 := Put.cell hP12 c4_0 (by omega)
        replace c4_1 := Put.cell hP12 c4_1 (by omega)
        replace c4_2 := Put.cell hP12 c4_2 (by omega)
        replace c4_3 := Put.cell hP12 c4_3 (by omega)
        replace c5_0 := Put.cell hP12 c5_0 (by omega)
        replace c5_1 := Put.cell hP12 c5_1 (by omega)
        replace c5_2 := Put.cell hP12 c5_2 (by omega)
        replace c5_3 := Put.cell hP12 c5_3 (by omega)
        replace c11_0 := Put.cell hP12 c11_0 (by omega)
        replace c11_1 := Put.cell hP12 c11_1 (by omega)
        replace c11_2 := Put.cell hP12 c11_2 (by omega)
        replace c11_3 := Put.cell hP12 c11_3 (by omega)
        replace c11_4 := Put.cell hP12 c11_4 (by omega)
        replace c12_0 := Put.cell hP12 c12_0 (by omega)
        clear c14_0
        clear c14_1
        clear c14_2
        clear c14_3
        clear c14_4
        replace c15_0 := Put.cell hP12 c15_0 (by omega)
        have c14_0 := hP12.new 0 _ rfl
        try simp only [Nat.reduceAdd, Nat.zero_add, Nat.add_zero] at c14_0
        have c14_1 := hP12.new 1 _ rfl
        try simp only [Nat.reduceAdd, Nat.zero_add, Nat.add_zero] at c14_1
        have c14_2 := hP12.new 2 _ rfl
        try simp only [Nat.reduceAdd, Nat.zero_add, Nat.add_zero] at c14_2
        have c14_3 := hP12.new 3 _ rfl
        try simp only [Nat.reduceAdd, Nat.zero_add, Nat.add_zero] at c14_3
        have c14_4 := hP12.new 4 _ rfl
        try simp only [Nat.reduceAdd, Nat.zero_add, Nat.add_zero] at c14_4
        clear hP12
        refine Wops.cut 1 fun K1 hK1 => ?_
        simp only [List.take_succ_cons, List.take_zero]
        go_simp
        refine hK1 _ _ ?_
        clear hK1 K1
        simp only [List.drop_succ_cons, List.drop_zero]
        refine Wops.absS (b := n15) (i := 0) [_] (somes [cellVal c15_0] (by simp) (by intro j v hj; match j, hj with | 0, hj => (simp at hj; subst hj; exact c15_0))) fun P13 hP13 => ?_
        have zP13 := hP13.same
        replace f3 := Put.frz hP13 f3
        replace f4 := Put.frz hP13 f4
        replace f5 := Put.frz hP13 f5
        replace f11 := Put.frz hP13 f11
        replace f12 := Put.frz hP13 f12
        replace f14 := Put.frz hP13 f14
        replace f15 := Put.frz hP13 f15
        replace xw := Put.to xw hP13 (by omega)
        replace xc := Put.to xc hP13 (by omega)
        replace xd := Put.to xd hP13 (by omega)
        replace c3_0 := Put.cell hP13 c3_0 (by omega)
        replace c3_1 := Put.cell hP13 c3_1 (by omega)
        replace c4_0 := Put.cell hP13 c4_0 (by omega)
        replace c4_1 := Put.cell hP13 c4_1 (by omega)
        replace c4_2 := Put.cell hP13 c4_2 (by omega)
        replace c4_3 := Put.cell hP13 c4_3 (by omega)
        replace c5_0 := Put.cell hP13 c5_0 (by omega)
        replace c5_1 := Put.cell hP13 c5_1 (by omega)
        replace c5_2 := Put.cell hP13 c5_2 (by omega)
        replace c5_3 := Put.cell hP13 c5_3 (by omega)
        replace c11_0 := Put.cell hP13 c11_0 (by omega)
        replace c11_1 := Put.cell hP13 c11_1 (by omega)
        replace c11_2 := Put.cell hP13 c11_2 (by omega)
        replace c11_3 := Put.cell hP13 c11_3 (by omega)
        replace c11_4 := Put.cell hP13 c11_4 (by omega)
        replace c12_0 := Put.cell hP13 c12_0 (by omega)
        clear c15_0
        replace c14_0 := Put.cell hP13 c14_0 (by omega)
        replace c14_1 := Put.cell hP13 c14_1 (by omega)
        replace c14_2 := Put.cell hP13 c14_2 (by omega)
        replace c14_3 := Put.cell hP13 c14_3 (by omega)
        replace c14_4 := Put.cell hP13 c14_4 (by omega)
        have c15_0 := hP13.new 0 _ rfl
        try simp only [Nat.reduceAdd, Nat.zero_add, Nat.add_zero] at c15_0
        clear hP13
        go_simp
        refine hK _ _ ?_
        clear hK K' gd
        refine Wp.keep [3, 11, 12, 13, 14, 15] fun r13 hkeep => ?_
        obtain ⟨e3_13, e11_13, e12_13, e13_13, e14_13, e15_13, -⟩ := hkeep
        simp [go_sem, e3_11, e5_11, e11_11, e12_11, e13_11, e40_11] at e3_13 e11_13 e12_13 e13_13 e14_13 e15_13
        clear e3_11 e5_11 e11_11 e12_11 e13_11 e40_11
        by_cases k4 : begE s d = 0
        · skip
          rw [if_pos k4] at hJ
          obtain ⟨wu, hwu, hM⟩ := hM k3
          injection hwu with hwu
          simp at hwu
          subst hwu
          obtain ⟨wt, hwt, hN⟩ := hN k4
          injection hwt with hwt
          simp at hwt
          subst hwt
          obtain ⟨hgd, hmk, hok, hl1, hl2, hn1, hn40⟩ := beg_know k3
          obtain ⟨-, hmk2, hok2, hl3, hl4, -, -⟩ := beg_know k4
          have htu : ∀ a ∈ s.alts, 0 ≤ a.tu ∧ a.tu < (s.words.length : Int) := fun a ha => by obtain ⟨q1, q2⟩ := (ends_of k3).tu a ha; omega
          have hls : ∃ _u : Unit, (s.md c).first.length = s.words.length ∧ (s.md c).last.length = s.words.length ∧ (s.md d).first.length = s.words.length ∧ (s.md d).last.length = s.words.length := ⟨(), hl1, hl2, hl3, hl4⟩
          clear hl1 hl2 hl3 hl4
          have hb0 : ∃ _u : Unit, befE s c d = 0 := ⟨(), befE_zero.2 ⟨k3, k4⟩⟩
          refine Wp.seq ?_
          refine Wp.seqRegion (.inl rfl) (by kernel_rfl) fun K' gd hK hg => ?_
          clear hg
          go_simp
          refine hK _ _ ?_
          clear hK K' gd
          refine Wp.keep [3, 11, 12, 13, 14, 15, 50] fun r14 hkeep => ?_
          obtain ⟨e3_14, e11_14, e12_14, e13_14, e14_14, e15_14, e50_14, -⟩ := hkeep
          simp [go_sem, e3_13, e11_13, e12_13, e13_13, e14_13, e15_13] at e3_14 e11_14 e12_14 e13_14 e14_14 e15_14 e50_14
          clear e3_13 e11_13 e12_13 e13_13 e14_13 e15_13
          refine Wp.condF (by go_simp) ?_
          refine Wp.skip ?_
          refine thenK_normal ?_
          refine Wp.seqDrawT (.inl rfl) mixed (.rd [0, 2] (.both (.act 1 false (.both (.act 3 false (.both (.act 4 false (.act 5 false (.act 6 true (.act 7 true .done)))) (.act 5 false (.act 4 false (.act 6 true (.act 7 true .done)))))) (.both (.act 4 false (.both (.act 3 false (.act 5 false (.act 6 true (.act 7 true .done)))) (.act 5 false (.act 3 false (.act 6 true (.act 7 true .done)))))) (.act 5 false (.both (.act 3 false (.act 4 false (.act 6 true (.act 7 true .done)))) (.act 4 false (.act 3 false (.act 6 true (.act 7 true .done))))))))) (.both (.act 4 false (.both (.act 1 false (.both (.act 3 false (.act 5 false (.act 6 true (.act 7 true .done)))) (.act 5 false (.act 3 false (.act 6 true (.act 7 true .done)))))) (.act 5 false (.act 1 false (.act 3 false (.act 6 true (.act 7 true .done))))))) (.act 5 false (.both (.act 1 false (.both (.act 3 false (.act 4 false (.act 6 true (.act 7 true .done)))) (.act 4 false (.act 3 false (.act 6 true (.act 7 true .done)))))) (.act 4 false (.act 1 false (.act 3 false (.act 6 true (.act 7 true .done)))))))))) (by kernel_rfl) (fun ρ W => AllEq [3, 12, 15] ρ r14 ∧ (Ext P13 W ∧ ∃ q1 q2 A8 n8 c8 A9 n9 c9, ρ 16 = .pointer (some ⟨q1, 0, none⟩) ∧ ρ 17 = .pointer (some ⟨q2, 0, none⟩) ∧ W.cell? ⟨q1, 0, none⟩ = some (.slice A8 n8 c8) ∧ W.cell? ⟨q2, 0, none⟩ = some (.slice A9 n9 c9) ∧ IntsB W w.heap.size (.slice A8 n8 c8) (s.md c).last ∧ IntsB W w.heap.size (.slice A9 n9 c9) (s.md d).last)) (fun K' gd hK hg => ?_) ?_
          · skip
            clear hg
            simp only [pickT, nth, List.map_cons, List.map_nil]
            apply Mtree.reads
            · intro w' hE'
              have hC' := hE'.cellsS
              go_simp
              with_reducible rfl
            refine Mtree.two ?_ ?_
            · skip
              refine Mtree.step fun K1 hK1 => ?_
              go_simp
              refine Wcall (.inl rfl) (last_c _ (s.md c) _ ((hM.ext XE).made (hW.ext XE)) hmk) ?_
              rintro v w6 ⟨hQa, hE6⟩
              first | have z6 : P13.heap.size ≤ w6.heap.size := (Below.size hE6 : P13.drew.heap.size ≤ w6.heap.size) | have z6 := Below.size hE6
              obtain ⟨A8, n8, c8, rfl⟩ : ∃ A n c, v = .slice A n c := by obtain ⟨A, c, e⟩ := hQa.slice; exact ⟨A, _, c, e⟩
              go_simp
              refine hK1 _ _ XR ?_
              clear hK1 K1
              refine Mtree.two ?_ ?_
              · skip
                refine Mtree.step fun K1 hK1 => ?_
                go_simp
                refine Wcall (.inl rfl) (last_c _ (s.md d) _ ((hN.ext XE).made (hX.ext XE)) hmk2) ?_
                rintro v w7 ⟨hQb, hE7⟩
                first | have z7 : P13.heap.size ≤ w7.heap.size := (Below.size hE7 : P13.drew.heap.size ≤ w7.heap.size) | have z7 := Below.size hE7
                obtain ⟨A9, n9, c9, rfl⟩ : ∃ A n c, v = .slice A n c := by obtain ⟨A, c, e⟩ := hQb.slice; exact ⟨A, _, c, e⟩
                go_simp
                refine hK1 _ _ XR ?_
                clear hK1 K1
                refine Mtree.two ?_ ?_
                · skip
                  refine Mtree.step fun K1 hK1 => ?_
                  go_simp
                  refine hK1 _ _ XA ?_
                  clear hK1 K1
                  first | refine Mtree.abs fun V15 hV15 sV15 hVc hVf => ?_ | refine Mtree.absD fun V15 hV15 sV15 hVc hVf => ?_
                  have cV15_0 := hVc 0 _ rfl
                  have fV15_0 := hVf 0
                  clear hVc hVf
                  refine Mtree.step fun K1 hK1 => ?_
                  go_simp
                  refine hK1 _ _ XA ?_
                  clear hK1 K1
                  first | refine Mtree.abs fun V16 hV16 sV16 hVc hVf => ?_ | refine Mtree.absD fun V16 hV16 sV16 hVc hVf => ?_
                  have cV16_0 := hVc 0 _ rfl
                  have fV16_0 := hVf 0
                  clear hVc hVf
                  have fc17 := (Ext.frozen hV16 cV15_0).trans fV15_0
                  have c17 := Ext.cell hV16 cV15_0
                  refine Mtree.stepT fun K1 hK1 => ?_
                  go_simp
                  refine hK1 _ _ ?_
                  clear hK1 K1
                  refine Mtree.stepT fun K1 hK1 => ?_
                  go_simp
                  refine hK1 _ _ ?_
                  clear hK1 K1
                  refine Mtree.fin ?_
                  refine hK _ _ ⟨by simp [AllEq, go_sem], ?_⟩
                  refine ⟨XS, ?_⟩
                  exact ⟨_, _, A8, n8, c8, A9, n9, c9, rfl, rfl, by go_simp, by go_simp, (hQa.two XE (by omega) (by omega)).less (by first | omega | (show w.heap.size ≤ P13.heap.size; omega)), (hQb.two XE (by omega) (by omega)).less (by first | omega | (show w.heap.size ≤ P13.heap.size; omega))⟩
                · skip
                  refine Mtree.step fun K1 hK1 => ?_
                  go_simp
                  refine hK1 _ _ XA ?_
                  clear hK1 K1
                  first | refine Mtree.abs fun V18 hV18 sV18 hVc hVf => ?_ | refine Mtree.absD fun V18 hV18 sV18 hVc hVf => ?_
                  have cV18_0 := hVc 0 _ rfl
                  have fV18_0 := hVf 0
                  clear hVc hVf
                  refine Mtree.step fun K1 hK1 => ?_
                  go_simp
                  refine hK1 _ _ XA ?_
                  clear hK1 K1
                  first | refine Mtree.abs fun V19 hV19 sV19 hVc hVf => ?_ | refine Mtree.absD fun V19 hV19 sV19 hVc hVf => ?_
                  have cV19_0 := hVc 0 _ rfl
                  have fV19_0 := hVf 0
                  clear hVc hVf
                  have fc20 := (Ext.frozen hV19 cV18_0).trans fV18_0
                  have c20 := Ext.cell hV19 cV18_0
                  refine Mtree.stepT fun K1 hK1 => ?_
                  go_simp
                  refine hK1 _ _ ?_
                  clear hK1 K1
                  refine Mtree.stepT fun K1 hK1 => ?_
                  go_simp
                  refine hK1 _ _ ?_
                  clear hK1 K1
                  refine Mtree.fin ?_
                  refine hK _ _ ⟨by simp [AllEq, go_sem], ?_⟩
                  refine ⟨XS, ?_⟩
                  exact ⟨_, _, A8, n8, c8, A9, n9, c9, rfl, rfl, by go_simp, by go_simp, (hQa.two XE (by omega) (by omega)).less (by first | omega | (show w.heap.size ≤ P13.heap.size; omega)), (hQb.two XE (by omega) (by omega)).less (by first | omega | (show w.heap.size ≤ P13.heap.size; omega))⟩
              · skip
                refine Mtree.two ?_ ?_
                · skip
                  refine Mtree.step fun K1 hK1 => ?_
                  go_simp
                  refine hK1 _ _ XA ?_
                  clear hK1 K1
                  first | refine Mtree.abs fun V21 hV21 sV21 hVc hVf => ?_ | refine Mtree.absD fun V21 hV21 sV21 hVc hVf => ?_
                  have cV21_0 := hVc 0 _ rfl
                  have fV21_0 := hVf 0
                  clear hVc hVf
                  refine Mtree.two ?_ ?_
                  · skip
                    refine Mtree.step fun K1 hK1 => ?_
                    go_simp
                    refine Wcall (.inl rfl) (last_c _ (s.md d) _ ((hN.ext XE).made (hX.ext XE)) hmk2) ?_
                    rintro v w7 ⟨hQb, hE7⟩
                    first | have z7 : P13.heap.size ≤ w7.heap.size := (Below.size hE7 : P13.drew.heap.size ≤ w7.heap.size) | have z7 := Below.size hE7
                    obtain ⟨A9, n9, c9, rfl⟩ : ∃ A n c, v = .slice A n c := by obtain ⟨A, c, e⟩ := hQb.slice; exact ⟨A, _, c, e⟩
                    go_simp
                    refine hK1 _ _ XR ?_
                    clear hK1 K1
                    have fc22 := (Ext.frozen hE7 cV21_0).trans fV21_0
                    have c22 := Ext.cell hE7 cV21_0
                    refine Mtree.step fun K1 hK1 => ?_
                    go_simp
                    refine hK1 _ _ XA ?_
                    clear hK1 K1
                    first | refine Mtree.abs fun V23 hV23 sV23 hVc hVf => ?_ | refine Mtree.absD fun V23 hV23 sV23 hVc hVf => ?_
                    have cV23_0 := hVc 0 _ rfl
                    have fV23_0 := hVf 0
                    clear hVc hVf
                    have fc24 := (Ext.frozen hV23 c22).trans fc22
                    have c24 := Ext.cell hV23 c22
                    refine Mtree.stepT fun K1 hK1 => ?_
                    go_simp
                    refine hK1 _ _ ?_
                    clear hK1 K1
                    refine Mtree.stepT fun K1 hK1 => ?_
                    go_simp
                    refine hK1 _ _ ?_
                    clear hK1 K1
                    refine Mtree.fin ?_
                    refine hK _ _ ⟨by simp [AllEq, go_sem], ?_⟩
                    refine ⟨XS, ?_⟩
                    exact ⟨_, _, A8, n8, c8, A9, n9, c9, rfl, rfl, by go_simp, by go_simp, (hQa.two XE (by omega) (by omega)).less (by first | omega | (show w.heap.size ≤ P13.heap.size; omega)), (hQb.two XE (by omega) (by omega)).less (by first | omega | (show w.heap.size ≤ P13.heap.size; omega))⟩
                  · skip
                    refine Mtree.step fun K1 hK1 => ?_
                    go_simp
                    refine hK1 _ _ XA ?_
                    clear hK1 K1
                    first | refine Mtree.abs fun V25 hV25 sV25 hVc hVf => ?_ | refine Mtree.absD fun V25 hV25 sV25 hVc hVf => ?_
                    have cV25_0 := hVc 0 _ rfl
                    have fV25_0 := hVf 0
                    clear hVc hVf
                    have fc26 := (Ext.frozen hV25 cV21_0).trans fV21_0
                    have c26 := Ext.cell hV25 cV21_0
                    refine Mtree.step fun K1 hK1 => ?_
                    go_simp
                    refine Wcall (.inl rfl) (last_c _ (s.md d) _ ((hN.ext XE).made (hX.ext XE)) hmk2) ?_
                    rintro v w7 ⟨hQb, hE7⟩
                    first | have z7 : P13.heap.size ≤ w7.heap.size := (Below.size hE7 : P13.drew.heap.size ≤ w7.heap.size) | have z7 := Below.size hE7
                    obtain ⟨A9, n9, c9, rfl⟩ : ∃ A n c, v = .slice A n c := by obtain ⟨A, c, e⟩ := hQb.slice; exact ⟨A, _, c, e⟩
                    go_simp
                    refine hK1 _ _ XR ?_
                    clear hK1 K1
                    have fc27 := (Ext.frozen hE7 c26).trans fc26
                    have c27 := Ext.cell hE7 c26
                    have fc28 := (Ext.frozen hE7 cV25_0).trans fV25_0
                    have c28 := Ext.cell hE7 cV25_0
                    refine Mtree.stepT fun K1 hK1 => ?_
                    go_simp
                    refine hK1 _ _ ?_
                    clear hK1 K1
                    refine Mtree.stepT fun K1 hK1 => ?_
                    go_simp
                    refine hK1 _ _ ?_
                    clear hK1 K1
                    refine Mtree.fin ?_
                    refine hK _ _ ⟨by simp [AllEq, go_sem], ?_⟩
                    refine ⟨XS, ?_⟩
                    exact ⟨_, _, A8, n8, c8, A9, n9, c9, rfl, rfl, by go_simp, by go_simp, (hQa.two XE (by omega) (by omega)).less (by first | omega | (show w.heap.size ≤ P13.heap.size; omega)), (hQb.two XE (by omega) (by omega)).less (by first | omega | (show w.heap.size ≤ P13.heap.size; omega))⟩
                · skip
                  refine Mtree.step fun K1 hK1 => ?_
                  go_simp
                  refine hK1 _ _ XA ?_
                  clear hK1 K1
                  first | refine Mtree.abs fun V29 hV29 sV29 hVc hVf => ?_ | refine Mtree.absD fun V29 hV29 sV29 hVc hVf => ?_
                  have cV29_0 := hVc 0 _ rfl
                  have fV29_0 := hVf 0
                  clear hVc hVf
                  refine Mtree.two ?_ ?_
                  · skip
                    refine Mtree.step fun K1 hK1 => ?_
                    go_simp
                    refine Wcall (.inl rfl) (last_c _ (s.md d) _ ((hN.ext XE).made (hX.ext XE)) hmk2) ?_
                    rintro v w7 ⟨hQb, hE7⟩
                    first | have z7 : P13.heap.size ≤ w7.heap.size := (Below.size hE7 : P13.drew.heap.size ≤ w7.heap.size) | have z7 := Below.size hE7
                    obtain ⟨A9, n9, c9, rfl⟩ : ∃ A n c, v = .slice A n c := by obtain ⟨A, c, e⟩ := hQb.slice; exact ⟨A, _, c, e⟩
                    go_simp
                    refine hK1 _ _ XR ?_
                    clear hK1 K1
                    have fc30 := (Ext.frozen hE7 cV29_0).trans fV29_0
                    have c30 := Ext.cell hE7 cV29_0
                    refine Mtree.step fun K1 hK1 => ?_
                    go_simp
                    refine hK1 _ _ XA ?_
                    clear hK1 K1
                    first | refine Mtree.abs fun V31 hV31 sV31 hVc hVf => ?_ | refine Mtree.absD fun V31 hV31 sV31 hVc hVf => ?_
                    have cV31_0 := hVc 0 _ rfl
                    have fV31_0 := hVf 0
                    clear hVc hVf
                    have fc32 := (Ext.frozen hV31 c30).trans fc30
                    have c32 := Ext.cell hV31 c30
                    refine Mtree.stepT fun K1 hK1 => ?_
                    go_simp
                    refine hK1 _ _ ?_
                    clear hK1 K1
                    refine Mtree.stepT fun K1 hK1 => ?_
                    go_simp
                    refine hK1 _ _ ?_
                    clear hK1 K1
                    refine Mtree.fin ?_
                    refine hK _ _ ⟨by simp [AllEq, go_sem], ?_⟩
                    refine ⟨XS, ?_⟩
                    exact ⟨_, _, A8, n8, c8, A9, n9, c9, rfl, rfl, by go_simp, by go_simp, (hQa.two XE (by omega) (by omega)).less (by first | omega | (show w.heap.size ≤ P13.heap.size; omega)), (hQb.two XE (by omega) (by omega)).less (by first | omega | (show w.heap.size ≤ P13.heap.size; omega))⟩
                  · skip
                    refine Mtree.step fun K1 hK1 => ?_
                    go_simp
                    refine hK1 _ _ XA ?_
                    clear hK1 K1
                    first | refine Mtree.abs fun V33 hV33 sV33 hVc hVf => ?_ | refine Mtree.absD fun V33 hV33 sV33 hVc hVf => ?_
                    have cV33_0 := hVc 0 _ rfl
                    have fV33_0 := hVf 0
                    clear hVc hVf
                    have fc34 := (Ext.frozen hV33 cV29_0).trans fV29_0
                    have c34 := Ext.cell hV33 cV29_0
                    refine Mtree.step fun K1 hK1 => ?_
                    go_simp
                    refine Wcall (.inl rfl) (last_c _ (s.md d) _ ((hN.ext XE).made (hX.ext XE)) hmk2) ?_
                    rintro v w7 ⟨hQb, hE7⟩
                    first | have z7 : P13.heap.size ≤ w7.heap.size := (Below.size hE7 : P13.drew.heap.size ≤ w7.heap.size) | have z7 := Below.size hE7
                    obtain ⟨A9, n9, c9, rfl⟩ : ∃ A n c, v = .slice A n c := by obtain ⟨A, c, e⟩ := hQb.slice; exact ⟨A, _, c, e⟩
                    go_simp
                    refine hK1 _ _ XR ?_
                    clear hK1 K1
                    have fc35 := (Ext.frozen hE7 c34).trans fc34
                    have c35 := Ext.cell hE7 c34
                    have fc36 := (Ext.frozen hE7 cV33_0).trans fV33_0
                    have c36 := Ext.cell hE7 cV33_0
                    refine Mtree.stepT fun K1 hK1 => ?_
                    go_simp
                    refine hK1 _ _ ?_
                    clear hK1 K1
                    refine Mtree.stepT fun K1 hK1 => ?_
                    go_simp
                    refine hK1 _ _ ?_
                    clear hK1 K1
                    refine Mtree.fin ?_
                    refine hK _ _ ⟨by simp [AllEq, go_sem], ?_⟩
                    refine ⟨XS, ?_⟩
                    exact ⟨_, _, A8, n8, c8, A9, n9, c9, rfl, rfl, by go_simp, by go_simp, (hQa.two XE (by omega) (by omega)).less (by first | omega | (show w.heap.size ≤ P13.heap.size; omega)), (hQb.two XE (by omega) (by omega)).less (by first | omega | (show w.heap.size ≤ P13.heap.size; omega))⟩
            · skip
              refine Mtree.two ?_ ?_
              · skip
                refine Mtree.step fun K1 hK1 => ?_
                go_simp
                refine hK1 _ _ XA ?_
                clear hK1 K1
                first | refine Mtree.abs fun V37 hV37 sV37 hVc hVf => ?_ | refine Mtree.absD fun V37 hV37 sV37 hVc hVf => ?_
                have cV37_0 := hVc 0 _ rfl
                have fV37_0 := hVf 0
                clear hVc hVf
                refine Mtree.two ?_ ?_
                · skip
                  refine Mtree.step fun K1 hK1 => ?_
                  go_simp
                  refine Wcall (.inl rfl) (last_c _ (s.md c) _ ((hM.ext XE).made (hW.ext XE)) hmk) ?_
                  rintro v w6 ⟨hQa, hE6⟩
                  first | have z6 : P13.heap.size ≤ w6.heap.size := (Below.size hE6 : P13.drew.heap.size ≤ w6.heap.size) | have z6 := Below.size hE6
                  obtain ⟨A8, n8, c8, rfl⟩ : ∃ A n c, v = .slice A n c := by obtain ⟨A, c, e⟩ := hQa.slice; exact ⟨A, _, c, e⟩
                  go_simp
                  refine hK1 _ _ XR ?_
                  clear hK1 K1
                  have fc38 := (Ext.frozen hE6 cV37_0).trans fV37_0
                  have c38 := Ext.cell hE6 cV37_0
                  refine Mtree.two ?_ ?_
                  · skip
                    refine Mtree.step fun K1 hK1 => ?_
                    go_simp
                    refine Wcall (.inl rfl) (last_c _ (s.md d) _ ((hN.ext XE).made (hX.ext XE)) hmk2) ?_
                    rintro v w7 ⟨hQb, hE7⟩
                    first | have z7 : P13.heap.size ≤ w7.heap.size := (Below.size hE7 : P13.drew.heap.size ≤ w7.heap.size) | have z7 := Below.size hE7
                    obtain ⟨A9, n9, c9, rfl⟩ : ∃ A n c, v = .slice A n c := by obtain ⟨A, c, e⟩ := hQb.slice; exact ⟨A, _, c, e⟩
                    go_simp
                    refine hK1 _ _ XR ?_
                    clear hK1 K1
                    have fc39 := (Ext.frozen hE7 c38).trans fc38
                    have c39 := Ext.cell hE7 c38
                    refine Mtree.step fun K1 hK1 => ?_
                    go_simp
                    refine hK1 _ _ XA ?_
                    clear hK1 K1
                    first | refine Mtree.abs fun V40 hV40 sV40 hVc hVf => ?_ | refine Mtree.absD fun V40 hV40 sV40 hVc hVf => ?_
                    have cV40_0 := hVc 0 _ rfl
                    have fV40_0 := hVf 0
                    clear hVc hVf
                    have fc41 := (Ext.frozen hV40 c39).trans fc39
                    have c41 := Ext.cell hV40 c39
                    refine Mtree.stepT fun K1 hK1 => ?_
                    go_simp
                    refine hK1 _ _ ?_
                    clear hK1 K1
                    refine Mtree.stepT fun K1 hK1 => ?_
                    go_simp
                    refine hK1 _ _ ?_
                    clear hK1 K1
                    refine Mtree.fin ?_
                    refine hK _ _ ⟨by simp [AllEq, go_sem], ?_⟩
                    refine ⟨XS, ?_⟩
                    exact ⟨_, _, A8, n8, c8, A9, n9, c9, rfl, rfl, by go_simp, by go_simp, (hQa.two XE (by omega) (by omega)).less (by first | omega | (show w.heap.size ≤ P13.heap.size; omega)), (hQb.two XE (by omega) (by omega)).less (by first | omega | (show w.heap.size ≤ P13.heap.size; omega))⟩
                  · skip
                    refine Mtree.step fun K1 hK1 => ?_
                    go_simp
                    refine hK1 _ _ XA ?_
                    clear hK1 K1
                    first | refine Mtree.abs fun V42 hV42 sV42 hVc hVf => ?_ | refine Mtree.absD fun V42 hV42 sV42 hVc hVf => ?_
                    have cV42_0 := hVc 0 _ rfl
                    have fV42_0 := hVf 0
                    clear hVc hVf
                    have fc43 := (Ext.frozen hV42 c38).trans fc38
                    have c43 := Ext.cell hV42 c38
                    refine Mtree.step fun K1 hK1 => ?_
                    go_simp
                    refine Wcall (.inl rfl) (last_c _ (s.md d) _ ((hN.ext XE).made (hX.ext XE)) hmk2) ?_
                    rintro v w7 ⟨hQb, hE7⟩
                    first | have z7 : P13.heap.size ≤ w7.heap.size := (Below.size hE7 : P13.drew.heap.size ≤ w7.heap.size) | have z7 := Below.size hE7
                    obtain ⟨A9, n9, c9, rfl⟩ : ∃ A n c, v = .slice A n c := by obtain ⟨A, c, e⟩ := hQb.slice; exact ⟨A, _, c, e⟩
                    go_simp
                    refine hK1 _ _ XR ?_
                    clear hK1 K1
                    have fc44 := (Ext.frozen hE7 c43).trans fc43
                    have c44 := Ext.cell hE7 c43
                    have fc45 := (Ext.frozen hE7 cV42_0).trans fV42_0
                    have c45 := Ext.cell hE7 cV42_0
                    refine Mtree.stepT fun K1 hK1 => ?_
                    go_simp
                    refine hK1 _ _ ?_
                    clear hK1 K1
                    refine Mtree.stepT fun K1 hK1 => ?_
                    go_simp
                    refine hK1 _ _ ?_
                    clear hK1 K1
                    refine Mtree.fin ?_
                    refine hK _ _ ⟨by simp [AllEq, go_sem], ?_⟩
                    refine ⟨XS, ?_⟩
                    exact ⟨_, _, A8, n8, c8, A9, n9, c9, rfl, rfl, by go_simp, by go_simp, (hQa.two XE (by omega) (by omega)).less (by first | omega | (show w.heap.size ≤ P13.heap.size; omega)), (hQb.two XE (by omega) (by omega)).less (by first | omega | (show w.heap.size ≤ P13.heap.size; omega))⟩
                · skip
                  refine Mtree.step fun K1 hK1 => ?_
                  go_simp
                  refine hK1 _ _ XA ?_
                  clear hK1 K1
                  first | refine Mtree.abs fun V46 hV46 sV46 hVc hVf => ?_ | refine Mtree.absD fun V46 hV46 sV46 hVc hVf => ?_
                  have cV46_0 := hVc 0 _ rfl
                  have fV46_0 := hVf 0
                  clear hVc hVf
                  have fc47 := (Ext.frozen hV46 cV37_0).trans fV37_0
                  have c47 := Ext.cell hV46 cV37_0
                  refine Mtree.step fun K1 hK1 => ?_
                  go_simp
                  refine Wcall (.inl rfl) (last_c _ (s.md c) _ ((hM.ext XE).made (hW.ext XE)) hmk) ?_
                  rintro v w6 ⟨hQa, hE6⟩
                  first | have z6 : P13.heap.size ≤ w6.heap.size := (Below.size hE6 : P13.drew.heap.size ≤ w6.heap.size) | have z6 := Below.size hE6
                  obtain ⟨A8, n8, c8, rfl⟩ : ∃ A n c, v = .slice A n c := by obtain ⟨A, c, e⟩ := hQa.slice; exact ⟨A, _, c, e⟩
                  go_simp
                  refine hK1 _ _ XR ?_
                  clear hK1 K1
                  have fc48 := (Ext.frozen hE6 c47).trans fc47
                  have c48 := Ext.cell hE6 c47
                  have fc49 := (Ext.frozen hE6 cV46_0).trans fV46_0
                  have c49 := Ext.cell hE6 cV46_0
                  refine Mtree.step fun K1 hK1 => ?_
                  go_simp
                  refine Wcall (.inl rfl) (last_c _ (s.md d) _ ((hN.ext XE).made (hX.ext XE)) hmk2) ?_
                  rintro v w7 ⟨hQb, hE7⟩
                  first | have z7 : P13.heap.size ≤ w7.heap.size := (Below.size hE7 : P13.drew.heap.size ≤ w7.heap.size) | have z7 := Below.size hE7
                  obtain ⟨A9, n9, c9, rfl⟩ : ∃ A n c, v = .slice A n c := by obtain ⟨A, c, e⟩ := hQb.slice; exact ⟨A, _, c, e⟩
                  go_simp
                  refine hK1 _ _ XR ?_
                  clear hK1 K1
                  have fc50 := (Ext.frozen hE7 c48).trans fc48
                  have c50 := Ext.cell hE7 c48
                  have fc51 := (Ext.frozen hE7 c49).trans fc49
                  have c51 := Ext.cell hE7 c49
                  refine Mtree.stepT fun K1 hK1 => ?_
                  go_simp
                  refine hK1 _ _ ?_
                  clear hK1 K1
                  refine Mtree.stepT fun K1 hK1 => ?_
                  go_simp
                  refine hK1 _ _ ?_
                  clear hK1 K1
                  refine Mtree.fin ?_
                  refine hK _ _ ⟨by simp [AllEq, go_sem], ?_⟩
                  refine ⟨XS, ?_⟩
                  exact ⟨_, _, A8, n8, c8, A9, n9, c9, rfl, rfl, by go_simp, by go_simp, (hQa.two XE (by omega) (by omega)).less (by first | omega | (show w.heap.size ≤ P13.heap.size; omega)), (hQb.two XE (by omega) (by omega)).less (by first | omega | (show w.heap.size ≤ P13.heap.size; omega))⟩
              · skip
                refine Mtree.step fun K1 hK1 => ?_
                go_simp
                refine hK1 _ _ XA ?_
                clear hK1 K1
                first | refine Mtree.abs fun V52 hV52 sV52 hVc hVf => ?_ | refine Mtree.absD fun V52 hV52 sV52 hVc hVf => ?_
                have cV52_0 := hVc 0 _ rfl
                have fV52_0 := hVf 0
                clear hVc hVf
                refine Mtree.two ?_ ?_
                · skip
                  refine Mtree.step fun K1 hK1 => ?_
                  go_simp
                  refine Wcall (.inl rfl) (last_c _ (s.md c) _ ((hM.ext XE).made (hW.ext XE)) hmk) ?_
                  rintro v w6 ⟨hQa, hE6⟩
                  first | have z6 : P13.heap.size ≤ w6.heap.size := (Below.size hE6 : P13.drew.heap.size ≤ w6.heap.size) | have z6 := Below.size hE6
                  obtain ⟨A8, n8, c8, rfl⟩ : ∃ A n c, v = .slice A n c := by obtain ⟨A, c, e⟩ := hQa.slice; exact ⟨A, _, c, e⟩
                  go_simp
                  refine hK1 _ _ XR ?_
                  clear hK1 K1
                  have fc53 := (Ext.frozen hE6 cV52_0).trans fV52_0
                  have c53 := Ext.cell hE6 cV52_0
                  refine Mtree.two ?_ ?_
                  · skip
                    refine Mtree.step fun K1 hK1 => ?_
                    go_simp
                    refine Wcall (.inl rfl) (last_c _ (s.md d) _ ((hN.ext XE).made (hX.ext XE)) hmk2) ?_
                    rintro v w7 ⟨hQb, hE7⟩
                    first | have z7 : P13.heap.size ≤ w7.heap.size := (Below.size hE7 : P13.drew.heap.size ≤ w7.heap.size) | have z7 := Below.size hE7
                    obtain ⟨A9, n9, c9, rfl⟩ : ∃ A n c, v = .slice A n c := by obtain ⟨A, c, e⟩ := hQb.slice; exact ⟨A, _, c, e⟩
                    go_simp
                    refine hK1 _ _ XR ?_
                    clear hK1 K1
                    have fc54 := (Ext.frozen hE7 c53).trans fc53
                    have c54 := Ext.cell hE7 c53
                    refine Mtree.step fun K1 hK1 => ?_
                    go_simp
                    refine hK1 _ _ XA ?_
                    clear hK1 K1
                    first | refine Mtree.abs fun V55 hV55 sV55 hVc hVf => ?_ | refine Mtree.absD fun V55 hV55 sV55 hVc hVf => ?_
                    have cV55_0 := hVc 0 _ rfl
                    have fV55_0 := hVf 0
                    clear hVc hVf
                    have fc56 := (Ext.frozen hV55 c54).trans fc54
                    have c56 := Ext.cell hV55 c54
                    refine Mtree.stepT fun K1 hK1 => ?_
                    go_simp
                    refine hK1 _ _ ?_
                    clear hK1 K1
                    refine Mtree.stepT fun K1 hK1 => ?_
                    go_simp
                    refine hK1 _ _ ?_
                    clear hK1 K1
                    refine Mtree.fin ?_
                    refine hK _ _ ⟨by simp [AllEq, go_sem], ?_⟩
                    refine ⟨XS, ?_⟩
                    exact ⟨_, _, A8, n8, c8, A9, n9, c9, rfl, rfl, by go_simp, by go_simp, (hQa.two XE (by omega) (by omega)).less (by first | omega | (show w.heap.size ≤ P13.heap.size; omega)), (hQb.two XE (by omega) (by omega)).less (by first | omega | (show w.heap.size ≤ P13.heap.size; omega))⟩
                  · skip
                    refine Mtree.step fun K1 hK1 => ?_
                    go_simp
                    refine hK1 _ _ XA ?_
                    clear hK1 K1
                    first | refine Mtree.abs fun V57 hV57 sV57 hVc hVf => ?_ | refine Mtree.absD fun V57 hV57 sV57 hVc hVf => ?_
                    have cV57_0 := hVc 0 _ rfl
                    have fV57_0 := hVf 0
                    clear hVc hVf
                    have fc58 := (Ext.frozen hV57 c53).trans fc53
                    have c58 := Ext.cell hV57 c53
                    refine Mtree.step fun K1 hK1 => ?_
                    go_simp
                    refine Wcall (.inl rfl) (last_c _ (s.md d) _ ((hN.ext XE).made (hX.ext XE)) hmk2) ?_
                    rintro v w7 ⟨hQb, hE7⟩
                    first | have z7 : P13.heap.size ≤ w7.heap.size := (Below.size hE7 : P13.drew.heap.size ≤ w7.heap.size) | have z7 := Below.size hE7
                    obtain ⟨A9, n9, c9, rfl⟩ : ∃ A n c, v = .slice A n c := by obtain ⟨A, c, e⟩ := hQb.slice; exact ⟨A, _, c, e⟩
                    go_simp
                    refine hK1 _ _ XR ?_
                    clear hK1 K1
                    have fc59 := (Ext.frozen hE7 c58).trans fc58
                    have c59 := Ext.cell hE7 c58
                    have fc60 := (Ext.frozen hE7 cV57_0).trans fV57_0
                    have c60 := Ext.cell hE7 cV57_0
                    refine Mtree.stepT fun K1 hK1 => ?_
                    go_simp
                    refine hK1 _ _ ?_
                    clear hK1 K1
                    refine Mtree.stepT fun K1 hK1 => ?_
                    go_simp
                    refine hK1 _ _ ?_
                    clear hK1 K1
                    refine Mtree.fin ?_
                    refine hK _ _ ⟨by simp [AllEq, go_sem], ?_⟩
                    refine ⟨XS, ?_⟩
                    exact ⟨_, _, A8, n8, c8, A9, n9, c9, rfl, rfl, by go_simp, by go_simp, (hQa.two XE (by omega) (by omega)).less (by first | omega | (show w.heap.size ≤ P13.heap.size; omega)), (hQb.two XE (by omega) (by omega)).less (by first | omega | (show w.heap.size ≤ P13.heap.size; omega))⟩
                · skip
                  refine Mtree.step fun K1 hK1 => ?_
                  go_simp
                  refine hK1 _ _ XA ?_
                  clear hK1 K1
                  first | refine Mtree.abs fun V61 hV61 sV61 hVc hVf => ?_ | refine Mtree.absD fun V61 hV61 sV61 hVc hVf => ?_
                  have cV61_0 := hVc 0 _ rfl
                  have fV61_0 := hVf 0
                  clear hVc hVf
                  have fc62 := (Ext.frozen hV61 cV52_0).trans fV52_0
                  have c62 := Ext.cell hV61 cV52_0
                  refine Mtree.step fun K1 hK1 => ?_
                  go_simp
                  refine Wcall (.inl rfl) (last_c _ (s.md c) _ ((hM.ext XE).made (hW.ext XE)) hmk) ?_
                  rintro v w6 ⟨hQa, hE6⟩
                  first | have z6 : P13.heap.size ≤ w6.heap.size := (Below.size hE6 : P13.drew.heap.size ≤ w6.heap.size) | have z6 := Below.size hE6
                  obtain ⟨A8, n8, c8, rfl⟩ : ∃ A n c, v = .slice A n c := by obtain ⟨A, c, e⟩ := hQa.slice; exact ⟨A, _, c, e⟩
                  go_simp
                  refine hK1 _ _ XR ?_
                  clear hK1 K1
                  have fc63 := (Ext.frozen hE6 c62).trans fc62
                  have c63 := Ext.cell hE6 c62
                  have fc64 := (Ext.frozen hE6 cV61_0).trans fV61_0
                  have c64 := Ext.cell hE6 cV61_0
                  refine Mtree.step fun K1 hK1 => ?_
                  go_simp
                  refine Wcall (.inl rfl) (last_c _ (s.md d) _ ((hN.ext XE).made (hX.ext XE)) hmk2) ?_
                  rintro v w7 ⟨hQb, hE7⟩
                  first | have z7 : P13.heap.size ≤ w7.heap.size := (Below.size hE7 : P13.drew.heap.size ≤ w7.heap.size) | have z7 := Below.size hE7
                  obtain ⟨A9, n9, c9, rfl⟩ : ∃ A n c, v = .slice A n c := by obtain ⟨A, c, e⟩ := hQb.slice; exact ⟨A, _, c, e⟩
                  go_simp
                  refine hK1 _ _ XR ?_
                  clear hK1 K1
                  have fc65 := (Ext.frozen hE7 c63).trans fc63
                  have c65 := Ext.cell hE7 c63
                  have fc66 := (Ext.frozen hE7 c64).trans fc64
                  have c66 := Ext.cell hE7 c64
                  refine Mtree.stepT fun K1 hK1 => ?_
                  go_simp
                  refine hK1 _ _ ?_
                  clear hK1 K1
                  refine Mtree.stepT fun K1 hK1 => ?_
                  go_simp
                  refine hK1 _ _ ?_
                  clear hK1 K1
                  refine Mtree.fin ?_
                  refine hK _ _ ⟨by simp [AllEq, go_sem], ?_⟩
                  refine ⟨XS, ?_⟩
                  exact ⟨_, _, A8, n8, c8, A9, n9, c9, rfl, rfl, by go_simp, by go_simp, (hQa.two XE (by omega) (by omega)).less (by first | omega | (show w.heap.size ≤ P13.heap.size; omega)), (hQb.two XE (by omega) (by omega)).less (by first | omega | (show w.heap.size ≤ P13.heap.size; omega))⟩
          · rintro r67 W ⟨hA, hT14, q1, q2, A8, n8, c8, A9, n9, c9, e16, e17, m1, m2, hQa, hQb⟩
            obtain ⟨e3_67, e12_67, e15_67, -⟩ := hA
            rw [e3_14] at e3_67
            rw [e12_14] at e12_67
            rw [e15_14] at e15_67
            clear e3_14 e11_14 e12_14 e13_14 e14_14 e15_14 e50_14
            have zhT14 := Below.size hT14
            replace f3 := Ext.fz hT14 c3_0 f3
            replace f4 := Ext.fz hT14 c4_0 f4
            replace f5 := Ext.fz hT14 c5_0 f5
            replace f11 := Ext.fz hT14 c11_0 f11
            replace f12 := Ext.fz hT14 c12_0 f12
            replace f14 := Ext.fz hT14 c14_0 f14
            replace f15 := Ext.fz hT14 c15_0 f15
            replace xw := Ext.trans xw hT14
            replace xc := Ext.trans xc hT14
            replace xd := Ext.trans xd hT14
            replace c3_0 := Ext.cell hT14 c3_0
            replace c3_1 := Ext.cell hT14 c3_1
            replace c4_0 := Ext.cell hT14 c4_0
            replace c4_1 := Ext.cell hT14 c4_1
            replace c4_2 := Ext.cell hT14 c4_2
            replace c4_3 := Ext.cell hT14 c4_3
            replace c5_0 := Ext.cell hT14 c5_0
            replace c5_1 := Ext.cell hT14 c5_1
            replace c5_2 := Ext.cell hT14 c5_2
            replace c5_3 := Ext.cell hT14 c5_3
            replace c11_0 := Ext.cell hT14 c11_0
            replace c11_1 := Ext.cell hT14 c11_1
            replace c11_2 := Ext.cell hT14 c11_2
            replace c11_3 := Ext.cell hT14 c11_3
            replace c11_4 := Ext.cell hT14 c11_4
            replace c12_0 := Ext.cell hT14 c12_0
            replace c14_0 := Ext.cell hT14 c14_0
            replace c14_1 := Ext.cell hT14 c14_1
            replace c14_2 := Ext.cell hT14 c14_2
            replace c14_3 := Ext.cell hT14 c14_3
            replace c14_4 := Ext.cell hT14 c14_4
            replace c15_0 := Ext.cell hT14 c15_0
            refine Wp.seqRegion (.inl rfl) (by kernel_rfl) fun K' gd hK hg => ?_
            clear hg
            refine Wops.cut 3 fun K1 hK1 => ?_
            simp only [List.take_succ_cons, List.take_zero]
            go_simp
            refine Wcall (.inl rfl) (ids_c _ s (betP (s.md d).first (s.md c).last) 104 #[.pointer (some ⟨n15, 0, none⟩), .pointer (some ⟨q1, 0, none⟩)] _ (hV.ext xw) (hal hb0.choose_spec) (enters_of Try.func104 (by kernel_rfl) rfl) (fun a ha W hW => bet1_c a n15 q1 _ _ _ _ W (hW.cell c15_0) (hW.cell m1) (hJ.ext (xd.trans hW)).ints (hQa.ext hW).ints (by rw [hls.choose_spec.2.2.1]; exact htu a ha) (by obtain ⟨q1, q2, q3, q4⟩ := hls.choose_spec; omega))) ?_
            rintro v w8 ⟨hY, hE⟩
            go_simp
            refine hK1 _ _ ?_
            clear hK1 K1
            simp only [List.drop_succ_cons, List.drop_zero]
            have z68 := Below.size hE
            replace f3 := Ext.fz hE c3_0 f3
            replace f4 := Ext.fz hE c4_0 f4
            replace f5 := Ext.fz hE c5_0 f5
            replace f11 := Ext.fz hE c11_0 f11
            replace f12 := Ext.fz hE c12_0 f12
            replace f14 := Ext.fz hE c14_0 f14
            replace f15 := Ext.fz hE c15_0 f15
            replace hQa := hQa.ext hE
            replace hQb := hQb.ext hE
            replace xw := Ext.trans xw hE
            replace xc := Ext.trans xc hE
            replace xd := Ext.trans xd hE
            replace c3_0 := Ext.cell hE c3_0
            replace c3_1 := Ext.cell hE c3_1
            replace c4_0 := Ext.cell hE c4_0
            replace c4_1 := Ext.cell hE c4_1
            replace c4_2 := Ext.cell hE c4_2
            replace c4_3 := Ext.cell hE c4_3
            replace c5_0 := Ext.cell hE c5_0
            replace c5_1 := Ext.cell hE c5_1
            replace c5_2 := Ext.cell hE c5_2
            replace c5_3 := Ext.cell hE c5_3
            replace c11_0 := Ext.cell hE c11_0
            replace c11_1 := Ext.cell hE c11_1
            replace c11_2 := Ext.cell hE c11_2
            replace c11_3 := Ext.cell hE c11_3
            replace c11_4 := Ext.cell hE c11_4
            replace c12_0 := Ext.cell hE c12_0
            replace c14_0 := Ext.cell hE c14_0
            replace c14_1 := Ext.cell hE c14_1
            replace c14_2 := Ext.cell hE c14_2
            replace c14_3 := Ext.cell hE c14_3
            replace c14_4 := Ext.cell hE c14_4
            replace c15_0 := Ext.cell hE c15_0
            replace m1 := Ext.cell hE m1
            replace m2 := Ext.cell hE m2
            clear hE
            go_simp
            refine hK _ _ ?_
            clear hK K' gd
            refine Wp.keep [3, 12, 17, 18] fun r69 hkeep => ?_
            obtain ⟨e3_69, e12_69, e17_69, e18_69, -⟩ := hkeep
            simp [go_sem, e3_67, e12_67, e15_67, e16, e17] at e3_69 e12_69 e17_69 e18_69
            clear e3_67 e12_67 e15_67 e16 e17
            refine Wp.seqRegion (.inl rfl) (by kernel_rfl) fun K' gd hK hg => ?_
            clear hg
            refine Wops.cut 3 fun K1 hK1 => ?_
            simp only [List.take_succ_cons, List.take_zero]
            go_simp
            refine Wcall (.inl rfl) (ids_c _ s (betP (s.md d).last (s.md c).first) 105 #[.pointer (some ⟨q2, 0, none⟩), .pointer (some ⟨n12, 0, none⟩)] _ (hV.ext xw) (hal hb0.choose_spec) (enters_of Try.func105 (by kernel_rfl) rfl) (fun a ha W hW => bet2_c a q2 n12 _ _ _ _ W (hW.cell m2) (hW.cell c12_0) (hQb.ext hW).ints (hI.ext (xc.trans hW)).ints (by rw [hls.choose_spec.2.2.2]; exact htu a ha) (by obtain ⟨q1, q2, q3, q4⟩ := hls.choose_spec; omega))) ?_
            rintro v w9 ⟨hZ, hE⟩
            go_simp
            refine hK1 _ _ ?_
            clear hK1 K1
            simp only [List.drop_succ_cons, List.drop_zero]
            have z70 := Below.size hE
            replace f3 := Ext.fz hE c3_0 f3
            replace f4 := Ext.fz hE c4_0 f4
            replace f5 := Ext.fz hE c5_0 f5
            replace f11 := Ext.fz hE c11_0 f11
            replace f12 := Ext.fz hE c12_0 f12
            replace f14 := Ext.fz hE c14_0 f14
            replace f15 := Ext.fz hE c15_0 f15
            replace hQa := hQa.ext hE
            replace hQb := hQb.ext hE
            replace hY := hY.ext hE
            replace xw := Ext.trans xw hE
            replace xc := Ext.trans xc hE
            replace xd := Ext.trans xd hE
            replace c3_0 := Ext.cell hE c3_0
            replace c3_1 := Ext.cell hE c3_1
            replace c4_0 := Ext.cell hE c4_0
            replace c4_1 := Ext.cell hE c4_1
            replace c4_2 := Ext.cell hE c4_2
            replace c4_3 := Ext.cell hE c4_3
            replace c5_0 := Ext.cell hE c5_0
            replace c5_1 := Ext.cell hE c5_1
            replace c5_2 := Ext.cell hE c5_2
            replace c5_3 := Ext.cell hE c5_3
            replace c11_0 := Ext.cell hE c11_0
            replace c11_1 := Ext.cell hE c11_1
            replace c11_2 := Ext.cell hE c11_2
            replace c11_3 := Ext.cell hE c11_3
            replace c11_4 := Ext.cell hE c11_4
            replace c12_0 := Ext.cell hE c12_0
            replace c14_0 := Ext.cell hE c14_0
            replace c14_1 := Ext.cell hE c14_1
            replace c14_2 := Ext.cell hE c14_2
            replace c14_3 := Ext.cell hE c14_3
            replace c14_4 := Ext.cell hE c14_4
            replace c15_0 := Ext.cell hE c15_0
            replace m1 := Ext.cell hE m1
            replace m2 := Ext.cell hE m2
            clear hE
            go_simp
            refine hK _ _ ?_
            clear hK K' gd
            refine Wp.keep [18, 19] fun r71 hkeep => ?_
            obtain ⟨e18_71, e19_71, -⟩ := hkeep
            simp [go_sem, e3_69, e12_69, e17_69, e18_69] at e18_71 e19_71
            clear e3_69 e12_69 e17_69 e18_69
            refine Wp.seqRegion (.inl rfl) (by kernel_rfl) fun K' gd hK hg => ?_
            clear hg
            go_simp
            refine hK _ _ ?_
            clear hK K' gd
            refine Wp.keep [6, 7, 8] fun r72 hkeep => ?_
            obtain ⟨e6_72, e7_72, e8_72, -⟩ := hkeep
            simp [go_sem, e18_71, e19_71] at e6_72 e7_72 e8_72
            clear e18_71 e19_71
            refine Wp.ret ?_
            refine endK_tmp3 Try.results50 (by decide) (by decide) (by decide) ?_
            rw [e6_72, e7_72, e8_72]
            have e := hb0.choose_spec
            exact ⟨_, _, by rw [e], by rw [if_pos e]; exact hY.less (by omega), by rw [if_pos e]; exact hZ.less (by omega), xw⟩
        · skip
          refine Wp.seq ?_
          refine Wp.seqRegion (.inl rfl) (by kernel_rfl) fun K' gd hK hg => ?_
          clear hg
          go_simp
          refine hK _ _ ?_
          clear hK K' gd
          refine Wp.keep [3, 11, 12, 13, 14, 15, 50] fun r73 hkeep => ?_
          obtain ⟨e3_73, e11_73, e12_73, e13_73, e14_73, e15_73, e50_73, -⟩ := hkeep
          simp [go_sem, e3_13, e11_13, e12_13, e13_13, e14_13, e15_13] at e3_73 e11_73 e12_73 e13_73 e14_73 e15_73 e50_73
          clear e3_13 e11_13 e12_13 e13_13 e14_13 e15_13
          refine Wp.condT (by go_simp) ?_
          refine Wp.seqRegion (.inl rfl) (by kernel_rfl) fun K' gd hK hg => ?_
          clear hg
          go_simp
          refine hK _ _ ?_
          clear hK K' gd
          refine Wp.keep [6, 7, 8] fun r74 hkeep => ?_
          obtain ⟨e6_74, e7_74, e8_74, -⟩ := hkeep
          simp [go_sem, e3_73, e11_73, e12_73, e13_73, e14_73, e15_73, e50_73] at e6_74 e7_74 e8_74
          clear e3_73 e11_73 e12_73 e13_73 e14_73 e15_73 e50_73
          refine Wp.ret ?_
          refine thenK_ret ?_
          refine endK_tmp3 Try.results50 (by decide) (by decide) (by decide) ?_
          rw [e6_74, e7_74, e8_74]
          have e : befE s c d = begE s d := by unfold befE; rw [if_pos k1, if_pos k2, if_pos k3]
          exact ⟨_, _, by rw [e], by rw [if_neg (by rw [e]; exact k4)]; exact IntsB.nil _ _, by rw [if_neg (by rw [e]; exact k4)]; exact IntsB.nil _ _, xw⟩
      · skip
        refine Wp.seq ?_
        refine Wp.seqRegion (.inl rfl) (by kernel_rfl) fun K' gd hK hg => ?_
        clear hg
        go_simp
        refine hK _ _ ?_
        clear hK K' gd
        refine Wp.keep [3, 5, 11, 12, 13, 40] fun r75 hkeep => ?_
        obtain ⟨e3_75, e5_75, e11_75, e12_75, e13_75, e40_75, -⟩ := hkeep
        simp [go_sem, e3_10, e5_10, e11_10, e12_10, e13_10] at e3_75 e5_75 e11_75 e12_75 e13_75 e40_75
        clear e3_10 e5_10 e11_10 e12_10 e13_10
        refine Wp.condT (by go_simp) ?_
        refine Wp.seqRegion (.inl rfl) (by kernel_rfl) fun K' gd hK hg => ?_
        clear hg
        go_simp
        refine hK _ _ ?_
        clear hK K' gd
        refine Wp.keep [6, 7, 8] fun r76 hkeep => ?_
        obtain ⟨e6_76, e7_76, e8_76, -⟩ := hkeep
        simp [go_sem, e3_75, e5_75, e11_75, e12_75, e13_75, e40_75] at e6_76 e7_76 e8_76
        clear e3_75 e5_75 e11_75 e12_75 e13_75 e40_75
        refine Wp.ret ?_
        refine thenK_ret ?_
        refine endK_tmp3 Try.results50 (by decide) (by decide) (by decide) ?_
        rw [e6_76, e7_76, e8_76]
        have e : befE s c d = begE s c := by unfold befE; rw [if_pos k1, if_pos k2, if_neg k3]
        exact ⟨_, _, by rw [e], by rw [if_neg (by rw [e]; exact k3)]; exact IntsB.nil _ _, by rw [if_neg (by rw [e]; exact k3)]; exact IntsB.nil _ _, xw⟩
    · skip
      refine Wp.seqRegion (.inl rfl) (by kernel_rfl) fun K' gd hK hg => ?_
      clear hg
      go_simp
      refine hK _ _ ?_
      clear hK K' gd
      refine Wp.keep [3, 4, 5, 10, 30] fun r77 hkeep => ?_
      obtain ⟨e3_77, e4_77, e5_77, e10_77, e30_77, -⟩ := hkeep
      simp [go_sem, e3_7, e4_7, e5_7, e10_7] at e3_77 e4_77 e5_77 e10_77 e30_77
      clear e3_7 e4_7 e5_7 e10_7
      refine Wp.condT (by go_simp) ?_
      refine Wp.seqRegion (.inl rfl) (by kernel_rfl) fun K' gd hK hg => ?_
      clear hg
      go_simp
      refine hK _ _ ?_
      clear hK K' gd
      refine Wp.keep [6, 7, 8] fun r78 hkeep => ?_
      obtain ⟨e6_78, e7_78, e8_78, -⟩ := hkeep
      simp [go_sem, e3_77, e4_77, e5_77, e10_77, e30_77] at e6_78 e7_78 e8_78
      clear e3_77 e4_77 e5_77 e10_77 e30_77
      refine Wp.ret ?_
      refine thenK_ret ?_
      refine endK_tmp3 Try.results50 (by decide) (by decide) (by decide) ?_
      rw [e6_78, e7_78, e8_78]
      have e : befE s c d = copyS s d := by unfold befE; rw [if_pos k1, if_neg k2]
      exact ⟨_, _, by rw [e], by rw [if_neg (by rw [e]; exact k2)]; exact IntsB.nil _ _, by rw [if_neg (by rw [e]; exact k2)]; exact IntsB.nil _ _, xw⟩
  · skip
    refine Wp.seqRegion (.inl rfl) (by kernel_rfl) fun K' gd hK hg => ?_
    clear hg
    go_simp
    refine hK _ _ ?_
    clear hK K' gd
    refine Wp.keep [3, 4, 5, 9, 24] fun r79 hkeep => ?_
    obtain ⟨e3_79, e4_79, e5_79, e9_79, e24_79, -⟩ := hkeep
    simp [go_sem, e3_4, e4_4, e5_4, e9_4] at e3_79 e4_79 e5_79 e9_79 e24_79
    clear e3_4 e4_4 e5_4 e9_4
    refine Wp.condT (by go_simp) ?_
    refine Wp.seqRegion (.inl rfl) (by kernel_rfl) fun K' gd hK hg => ?_
    clear hg
    go_simp
    refine hK _ _ ?_
    clear hK K' gd
    refine Wp.keep [6, 7, 8] fun r80 hkeep => ?_
    obtain ⟨e6_80, e7_80, e8_80, -⟩ := hkeep
    simp [go_sem, e3_79, e4_79, e5_79, e9_79, e24_79] at e6_80 e7_80 e8_80
    clear e3_79 e4_79 e5_79 e9_79 e24_79
    refine Wp.ret ?_
    refine thenK_ret ?_
    refine endK_tmp3 Try.results50 (by decide) (by decide) (by decide) ?_
    rw [e6_80, e7_80, e8_80]
    have e : befE s c d = copyS s c := by unfold befE; rw [if_neg k1]
    exact ⟨_, _, by rw [e], by rw [if_neg (by rw [e]; exact k1)]; exact IntsB.nil _ _, by rw [if_neg (by rw [e]; exact k1)]; exact IntsB.nil _ _, xw⟩
end Go.Proofs.Ytnjajbkkgfohaaa
namespace Go.Proofs.Ytnjajbkkgfohaaa
open Go.RowKit Go.Wk Go.Proofs
attribute [local irreducible] Go.Wk.Wops Go.Wk.Wp Go.Wk.Mtree Go.Wk.Mops
set_option maxHeartbeats 8000000
set_option maxRecDepth 20000

theorem befE_comm {s : Sh} {c d : Cp} (h : befE s c d = 0) : befE s d c = 0 := by obtain ⟨h1, h2⟩ := befE_zero.1 h; exact befE_zero.2 ⟨h2, h1⟩
theorem orders_c (v u t xv yv : Value) (s : Sh) (c d : Cp) (x y : List Int) (w : World) (hV : SheetV w w.heap.size v s) (hU : CopyV w w.heap.size u c) (hT : CopyV w w.heap.size t d) (hX : IntsV w w.heap.size xv x) (hY : IntsV w w.heap.size yv y) (hf : FitS s) (hg : FitC c) (hh : FitC d) {fx fy : Nat} (_hxl : x.length ≤ fx) (_hyl : y.length ≤ fy) :
    CallsV Try.prog 16 #[v, u, t, xv, yv] w fun v w' => v = .bool true ∧ Ext w w' := by
  obtain ⟨wv, av, rfl, ⟨A, c1, rfl, -, -⟩, ⟨A3, c3, rfl, -, -⟩⟩ := id hV
  obtain ⟨wu, rfl, hW⟩ := id hU
  obtain ⟨A2, c2, rfl, -, -⟩ := id hW
  obtain ⟨wt, rfl, hZ⟩ := id hT
  obtain ⟨A4, c4, rfl, -, -⟩ := id hZ
  obtain ⟨A5, c5, rfl, hx, -⟩ := id hX
  obtain ⟨A6, c6, rfl, hy, -⟩ := id hY
  clear _hxl _hyl
  refine Wp.fn Try.func16 rfl Try.ntmps16 (by simp) ?_
  have xw := Ext.refl w
  refine Wp.keep [0, 1, 2, 3, 4] fun r1 hkeep => ?_
  obtain ⟨e0_1, e1_1, e2_1, e3_1, e4_1, -⟩ := hkeep
  simp [go_sem] at e0_1 e1_1 e2_1 e3_1 e4_1
  refine Wp.seqRegion (.inl rfl) (by kernel_rfl) fun K' gd hK hg => ?_
  clear hg
  refine Wops.cut 1 fun K1 hK1 => ?_
  simp only [List.take_succ_cons, List.take_zero]
  go_simp
  refine hK1 _ _ ?_
  clear hK1 K1
  simp only [List.drop_succ_cons, List.drop_zero]
  refine Wops.absA fun V5_1 n5 hV5_1 => ?_
  obtain ⟨q5, hV5_1, s5, kV5_1, f5, r5⟩ := hV5_1
  try simp only [q5] at kV5_1 f5 r5 ⊢
  replace xw := Ext.trans xw hV5_1
  have c5_0 := kV5_1 0 _ rfl
  have c5_1 := kV5_1 1 _ rfl
  clear kV5_1 hV5_1
  clear r5
  refine Wops.cut 1 fun K1 hK1 => ?_
  simp only [List.take_succ_cons, List.take_zero]
  go_simp
  refine hK1 _ _ ?_
  clear hK1 K1
  simp only [List.drop_succ_cons, List.drop_zero]
  refine Wops.absA fun V6_2 n6 hV6_2 => ?_
  obtain ⟨q6, hV6_2, s6, kV6_2, f6, r6⟩ := hV6_2
  try simp only [q6] at kV6_2 f6 r6 ⊢
  replace f5 := Ext.fz hV6_2 c5_0 f5
  replace xw := Ext.trans xw hV6_2
  replace c5_0 := Ext.cell hV6_2 c5_0
  replace c5_1 := Ext.cell hV6_2 c5_1
  have c6_0 := kV6_2 0 _ rfl
  have c6_1 := kV6_2 1 _ rfl
  have c6_2 := kV6_2 2 _ rfl
  have c6_3 := kV6_2 3 _ rfl
  clear kV6_2 hV6_2
  clear r6
  refine Wops.cut 1 fun K1 hK1 => ?_
  simp only [List.take_succ_cons, List.take_zero]
  go_simp
  refine hK1 _ _ ?_
  clear hK1 K1
  simp only [List.drop_succ_cons, List.drop_zero]
  refine Wops.absA fun V7_3 n7 hV7_3 => ?_
  obtain ⟨q7, hV7_3, s7, kV7_3, f7, r7⟩ := hV7_3
  try simp only [q7] at kV7_3 f7 r7 ⊢
  replace f5 := Ext.fz hV7_3 c5_0 f5
  replace f6 := Ext.fz hV7_3 c6_0 f6
  replace xw := Ext.trans xw hV7_3
  replace c5_0 := Ext.cell hV7_3 c5_0
  replace c5_1 := Ext.cell hV7_3 c5_1
  replace c6_0 := Ext.cell hV7_3 c6_0
  replace c6_1 := Ext.cell hV7_3 c6_1
  replace c6_2 := Ext.cell hV7_3 c6_2
  replace c6_3 := Ext.cell hV7_3 c6_3
  have c7_0 := kV7_3 0 _ rfl
  have c7_1 := kV7_3 1 _ rfl
  have c7_2 := kV7_3 2 _ rfl
  have c7_3 := kV7_3 3 _ rfl
  clear kV7_3 hV7_3
  clear r7
  go_simp
  refine hK _ _ ?_
  clear hK K' gd
  refine Wp.keep [3, 4, 5, 6, 7] fun r2 hkeep => ?_
  obtain ⟨e3_2, e4_2, e5_2, e6_2, e7_2, -⟩ := hkeep
  simp [go_sem, e0_1, e1_1, e2_1, e3_1, e4_1] at e3_2 e4_2 e5_2 e6_2 e7_2
  clear e0_1 e1_1 e2_1 e3_1 e4_1
  refine Wp.seqRegion (.inl rfl) (by kernel_rfl) fun K' gd hK hg => ?_
  clear hg
  refine Wops.cut 1 fun K1 hK1 => ?_
  simp only [List.take_succ_cons, List.take_zero]
  go_simp
  refine Wcall (.inl rfl) (head_c _) ?_
  rintro v w2 ⟨rfl, hE⟩
  go_simp
  refine hK1 _ _ ?_
  clear hK1 K1
  simp only [List.drop_succ_cons, List.drop_zero]
  have z3 := Below.size hE
  replace f5 := Ext.fz hE c5_0 f5
  replace f6 := Ext.fz hE c6_0 f6
  replace f7 := Ext.fz hE c7_0 f7
  replace xw := Ext.trans xw hE
  replace c5_0 := Ext.cell hE c5_0
  replace c5_1 := Ext.cell hE c5_1
  replace c6_0 := Ext.cell hE c6_0
  replace c6_1 := Ext.cell hE c6_1
  replace c6_2 := Ext.cell hE c6_2
  replace c6_3 := Ext.cell hE c6_3
  replace c7_0 := Ext.cell hE c7_0
  replace c7_1 := Ext.cell hE c7_1
  replace c7_2 := Ext.cell hE c7_2
  replace c7_3 := Ext.cell hE c7_3
  clear hE
  go_simp
  refine hK _ _ ?_
  clear hK K' gd
  refine Wp.keep [3, 4, 5, 6, 7, 11] fun r4 hkeep => ?_
  obtain ⟨e3_4, e4_4, e5_4, e6_4, e7_4, e11_4, -⟩ := hkeep
  simp [go_sem, e3_2, e4_2, e5_2, e6_2, e7_2] at e3_4 e4_4 e5_4 e6_4 e7_4 e11_4
  clear e3_2 e4_2 e5_2 e6_2 e7_2
  by_cases hfw : fewS s
  · skip
    by_cases hbr : c.words.length ≤ 50
    · skip
      by_cases hbd : d.words.length ≤ 50
      · skip
        by_cases hxn : (60 : Int) < (x.length : Int)
        · skip
          refine Wp.seq ?_
          refine Wp.seqRegion (.inl rfl) (by kernel_rfl) fun K' gd hK hg => ?_
          have g3 : gd 3 = some 32 := hg 3
          have g8 : gd 8 = some 37 := hg 8
          have g13 : gd 13 = some 42 := hg 13
          have g18 : gd 18 = some 47 := hg 18
          clear hg
          refine Wops.cut 2 fun K1 hK1 => ?_
          simp only [List.take_succ_cons, List.take_zero]
          go_simp
          refine Wcall (.inl rfl) (few_c _ s _ (hV.ext xw)) ?_
          rintro v w3 ⟨rfl, hE⟩
          go_simp
          refine hK1 _ _ ?_
          clear hK1 K1
          simp only [List.drop_succ_cons, List.drop_zero]
          have z5 := Below.size hE
          replace f5 := Ext.fz hE c5_0 f5
          replace f6 := Ext.fz hE c6_0 f6
          replace f7 := Ext.fz hE c7_0 f7
          replace xw := Ext.trans xw hE
          replace c5_0 := Ext.cell hE c5_0
          replace c5_1 := Ext.cell hE c5_1
          replace c6_0 := Ext.cell hE c6_0
          replace c6_1 := Ext.cell hE c6_1
          replace c6_2 := Ext.cell hE c6_2
          replace c6_3 := Ext.cell hE c6_3
          replace c7_0 := Ext.cell hE c7_0
          replace c7_1 := Ext.cell hE c7_1
          replace c7_2 := Ext.cell hE c7_2
          replace c7_3 := Ext.cell hE c7_3
          clear hE
          refine Wops.cut 4 fun K1 hK1 => ?_
          simp only [List.take_succ_cons, List.take_zero]
          go_simp
          refine Wcall (.inl rfl) (brief_c _ c _ (hU.ext xw)) ?_
          rintro v w4 ⟨rfl, hE⟩
          go_simp
          refine hK1 _ _ ?_
          clear hK1 K1
          simp only [List.drop_succ_cons, List.drop_zero]
          have z6 := Below.size hE
          replace f5 := Ext.fz hE c5_0 f5
          replace f6 := Ext.fz hE c6_0 f6
          replace f7 := Ext.fz hE c7_0 f7
          replace xw := Ext.trans xw hE
          replace c5_0 := Ext.cell hE c5_0
          replace c5_1 := Ext.cell hE c5_1
          replace c6_0 := Ext.cell hE c6_0
          replace c6_1 := Ext.cell hE c6_1
          replace c6_2 := Ext.cell hE c6_2
          replace c6_3 := Ext.cell hE c6_3
          replace c7_0 := Ext.cell hE c7_0
          replace c7_1 := Ext.cell hE c7_1
          replace c7_2 := Ext.cell hE c7_2
          replace c7_3 := Ext.cell hE c7_3
          clear hE
          refine Wops.cut 5 fun K1 hK1 => ?_
          simp only [List.take_succ_cons, List.take_zero]
          go_simp
          refine Wcall (.inl rfl) (brief_c _ d _ (hT.ext xw)) ?_
          rintro v w5 ⟨rfl, hE⟩
          go_simp
          refine hK1 _ _ ?_
          clear hK1 K1
          simp only [List.drop_succ_cons, List.drop_zero]
          have z7 := Below.size hE
          replace f5 := Ext.fz hE c5_0 f5
          replace f6 := Ext.fz hE c6_0 f6
          replace f7 := Ext.fz hE c7_0 f7
          replace xw := Ext.trans xw hE
          replace c5_0 := Ext.cell hE c5_0
          replace c5_1 := Ext.cell hE c5_1
          replace c6_0 := Ext.cell hE c6_0
          replace c6_1 := Ext.cell hE c6_1
          replace c6_2 := Ext.cell hE c6_2
          replace c6_3 := Ext.cell hE c6_3
          replace c7_0 := Ext.cell hE c7_0
          replace c7_1 := Ext.cell hE c7_1
          replace c7_2 := Ext.cell hE c7_2
          replace c7_3 := Ext.cell hE c7_3
          clear hE
          go_simp
          refine hK _ _ ?_
          clear hK K' gd g3 g8 g13 g18
          refine Wp.keep [3, 4, 5, 6, 7, 11, 51] fun r8 hkeep => ?_
          obtain ⟨e3_8, e4_8, e5_8, e6_8, e7_8, e11_8, e51_8, -⟩ := hkeep
          simp [go_sem, e3_4, e4_4, e5_4, e6_4, e7_4, e11_4] at e3_8 e4_8 e5_8 e6_8 e7_8 e11_8 e51_8
          clear e3_4 e4_4 e5_4 e6_4 e7_4 e11_4
          refine Wp.condT (by go_simp) ?_
          refine Wp.seqRegion (.inl rfl) (by kernel_rfl) fun K' gd hK hg => ?_
          clear hg
          go_simp
          refine hK _ _ ?_
          clear hK K' gd
          refine Wp.keep [10] fun r9 hkeep => ?_
          obtain ⟨e10_9, -⟩ := hkeep
          simp [go_sem, e3_8, e4_8, e5_8, e6_8, e7_8, e11_8, e51_8] at e10_9
          clear e3_8 e4_8 e5_8 e6_8 e7_8 e11_8 e51_8
          refine Wp.ret ?_
          refine thenK_ret ?_
          refine endK_tmp Try.results16 (by decide) ?_
          rw [e10_9]
          exact ⟨rfl, xw⟩
        · skip
          by_cases hyn : (60 : Int) < (y.length : Int)
          · skip
            refine Wp.seq ?_
            refine Wp.seqRegion (.inl rfl) (by kernel_rfl) fun K' gd hK hg => ?_
            have g3 : gd 3 = some 32 := hg 3
            have g8 : gd 8 = some 37 := hg 8
            have g13 : gd 13 = some 42 := hg 13
            have g18 : gd 18 = some 47 := hg 18
            clear hg
            refine Wops.cut 2 fun K1 hK1 => ?_
            simp only [List.take_succ_cons, List.take_zero]
            go_simp
            refine Wcall (.inl rfl) (few_c _ s _ (hV.ext xw)) ?_
            rintro v w3 ⟨rfl, hE⟩
            go_simp
            refine hK1 _ _ ?_
            clear hK1 K1
            simp only [List.drop_succ_cons, List.drop_zero]
            have z10 := Below.size hE
            replace f5 := Ext.fz hE c5_0 f5
            replace f6 := Ext.fz hE c6_0 f6
            replace f7 := Ext.fz hE c7_0 f7
            replace xw := Ext.trans xw hE
            replace c5_0 := Ext.cell hE c5_0
            replace c5_1 := Ext.cell hE c5_1
            replace c6_0 := Ext.cell hE c6_0
            replace c6_1 := Ext.cell hE c6_1
            replace c6_2 := Ext.cell hE c6_2
            replace c6_3 := Ext.cell hE c6_3
            replace c7_0 := Ext.cell hE c7_0
            replace c7_1 := Ext.cell hE c7_1
            replace c7_2 := Ext.cell hE c7_2
            replace c7_3 := Ext.cell hE c7_3
            clear hE
            refine Wops.cut 4 fun K1 hK1 => ?_
            simp only [List.take_succ_cons, List.take_zero]
            go_simp
            refine Wcall (.inl rfl) (brief_c _ c _ (hU.ext xw)) ?_
            rintro v w4 ⟨rfl, hE⟩
            go_simp
            refine hK1 _ _ ?_
            clear hK1 K1
            simp only [List.drop_succ_cons, List.drop_zero]
            have z11 := Below.size hE
            replace f5 := Ext.fz hE c5_0 f5
            replace f6 := Ext.fz hE c6_0 f6
            replace f7 := Ext.fz hE c7_0 f7
            replace xw := Ext.trans xw hE
            replace c5_0 := Ext.cell hE c5_0
            replace c5_1 := Ext.cell hE c5_1
            replace c6_0 := Ext.cell hE c6_0
            replace c6_1 := Ext.cell hE c6_1
            replace c6_2 := Ext.cell hE c6_2
            replace c6_3 := Ext.cell hE c6_3
            replace c7_0 := Ext.cell hE c7_0
            replace c7_1 := Ext.cell hE c7_1
            replace c7_2 := Ext.cell hE c7_2
            replace c7_3 := Ext.cell hE c7_3
            clear hE
            refine Wops.cut 5 fun K1 hK1 => ?_
            simp only [List.take_succ_cons, List.take_zero]
            go_simp
            refine Wcall (.inl rfl) (brief_c _ d _ (hT.ext xw)) ?_
            rintro v w5 ⟨rfl, hE⟩
            go_simp
            refine hK1 _ _ ?_
            clear hK1 K1
            simp only [List.drop_succ_cons, List.drop_zero]
            have z12 := Below.size hE
            replace f5 := Ext.fz hE c5_0 f5
            replace f6 := Ext.fz hE c6_0 f6
            replace f7 := Ext.fz hE c7_0 f7
            replace xw := Ext.trans xw hE
            replace c5_0 := Ext.cell hE c5_0
            replace c5_1 := Ext.cell hE c5_1
            replace c6_0 := Ext.cell hE c6_0
            replace c6_1 := Ext.cell hE c6_1
            replace c6_2 := Ext.cell hE c6_2
            replace c6_3 := Ext.cell hE c6_3
            replace c7_0 := Ext.cell hE c7_0
            replace c7_1 := Ext.cell hE c7_1
            replace c7_2 := Ext.cell hE c7_2
            replace c7_3 := Ext.cell hE c7_3
            clear hE
            go_simp
            refine hK _ _ ?_
            clear hK K' gd g3 g8 g13 g18
            refine Wp.keep [3, 4, 5, 6, 7, 11, 51] fun r13 hkeep => ?_
            obtain ⟨e3_13, e4_13, e5_13, e6_13, e7_13, e11_13, e51_13, -⟩ := hkeep
            simp [go_sem, e3_4, e4_4, e5_4, e6_4, e7_4, e11_4] at e3_13 e4_13 e5_13 e6_13 e7_13 e11_13 e51_13
            clear e3_4 e4_4 e5_4 e6_4 e7_4 e11_4
            refine Wp.condT (by go_simp) ?_
            refine Wp.seqRegion (.inl rfl) (by kernel_rfl) fun K' gd hK hg => ?_
            clear hg
            go_simp
            refine hK _ _ ?_
            clear hK K' gd
            refine Wp.keep [10] fun r14 hkeep => ?_
            obtain ⟨e10_14, -⟩ := hkeep
            simp [go_sem, e3_13, e4_13, e5_13, e6_13, e7_13, e11_13, e51_13] at e10_14
            clear e3_13 e4_13 e5_13 e6_13 e7_13 e11_13 e51_13
            refine Wp.ret ?_
            refine thenK_ret ?_
            refine endK_tmp Try.results16 (by decide) ?_
            rw [e10_14]
            exact ⟨rfl, xw⟩
          · skip
            have hx6 : x.length ≤ 60 := by omega
            have hy6 : y.length ≤ 60 := by omega
            refine Wp.seq ?_
            refine Wp.seqRegion (.inl rfl) (by kernel_rfl) fun K' gd hK hg => ?_
            have g3 : gd 3 = some 32 := hg 3
            have g8 : gd 8 = some 37 := hg 8
            have g13 : gd 13 = some 42 := hg 13
            have g18 : gd 18 = some 47 := hg 18
            clear hg
            refine Wops.cut 2 fun K1 hK1 => ?_
            simp only [List.take_succ_cons, List.take_zero]
            go_simp
            refine Wcall (.inl rfl) (few_c _ s _ (hV.ext xw)) ?_
            rintro v w3 ⟨rfl, hE⟩
            go_simp
            refine hK1 _ _ ?_
            clear hK1 K1
            simp only [List.drop_succ_cons, List.drop_zero]
            have z15 := Below.size hE
            replace f5 := Ext.fz hE c5_0 f5
            replace f6 := Ext.fz hE c6_0 f6
            replace f7 := Ext.fz hE c7_0 f7
            replace xw := Ext.trans xw hE
            replace c5_0 := Ext.cell hE c5_0
            replace c5_1 := Ext.cell hE c5_1
            replace c6_0 := Ext.cell hE c6_0
            replace c6_1 := Ext.cell hE c6_1
            replace c6_2 := Ext.cell hE c6_2
            replace c6_3 := Ext.cell hE c6_3
            replace c7_0 := Ext.cell hE c7_0
            replace c7_1 := Ext.cell hE c7_1
            replace c7_2 := Ext.cell hE c7_2
            replace c7_3 := Ext.cell hE c7_3
            clear hE
            refine Wops.cut 4 fun K1 hK1 => ?_
            simp only [List.take_succ_cons, List.take_zero]
            go_simp
            refine Wcall (.inl rfl) (brief_c _ c _ (hU.ext xw)) ?_
            rintro v w4 ⟨rfl, hE⟩
            go_simp
            refine hK1 _ _ ?_
            clear hK1 K1
            simp only [List.drop_succ_cons, List.drop_zero]
            have z16 := Below.size hE
            replace f5 := Ext.fz hE c5_0 f5
            replace f6 := Ext.fz hE c6_0 f6
            replace f7 := Ext.fz hE c7_0 f7
            replace xw := Ext.trans xw hE
            replace c5_0 := Ext.cell hE c5_0
            replace c5_1 := Ext.cell hE c5_1
            replace c6_0 := Ext.cell hE c6_0
            replace c6_1 := Ext.cell hE c6_1
            replace c6_2 := Ext.cell hE c6_2
            replace c6_3 := Ext.cell hE c6_3
            replace c7_0 := Ext.cell hE c7_0
            replace c7_1 := Ext.cell hE c7_1
            replace c7_2 := Ext.cell hE c7_2
            replace c7_3 := Ext.cell hE c7_3
            clear hE
            refine Wops.cut 5 fun K1 hK1 => ?_
            simp only [List.take_succ_cons, List.take_zero]
            go_simp
            refine Wcall (.inl rfl) (brief_c _ d _ (hT.ext xw)) ?_
            rintro v w5 ⟨rfl, hE⟩
            go_simp
            refine hK1 _ _ ?_
            clear hK1 K1
            simp only [List.drop_succ_cons, List.drop_zero]
            have z17 := Below.size hE
            replace f5 := Ext.fz hE c5_0 f5
            replace f6 := Ext.fz hE c6_0 f6
            replace f7 := Ext.fz hE c7_0 f7
            replace xw := Ext.trans xw hE
            replace c5_0 := Ext.cell hE c5_0
            replace c5_1 := Ext.cell hE c5_1
            replace c6_0 := Ext.cell hE c6_0
            replace c6_1 := Ext.cell hE c6_1
            replace c6_2 := Ext.cell hE c6_2
            replace c6_3 := Ext.cell hE c6_3
            replace c7_0 := Ext.cell hE c7_0
            replace c7_1 := Ext.cell hE c7_1
            replace c7_2 := Ext.cell hE c7_2
            replace c7_3 := Ext.cell hE c7_3
            clear hE
            go_simp
            refine hK _ _ ?_
            clear hK K' gd g3 g8 g13 g18
            refine Wp.keep [3, 4, 5, 6, 7, 11, 51] fun r18 hkeep => ?_
            obtain ⟨e3_18, e4_18, e5_18, e6_18, e7_18, e11_18, e51_18, -⟩ := hkeep
            simp [go_sem, e3_4, e4_4, e5_4, e6_4, e7_4, e11_4] at e3_18 e4_18 e5_18 e6_18 e7_18 e11_18 e51_18
            clear e3_4 e4_4 e5_4 e6_4 e7_4 e11_4
            refine Wp.condF (by go_simp) ?_
            refine Wp.skip ?_
            refine thenK_normal ?_
            refine Wp.seqRegion (.inl rfl) (by kernel_rfl) fun K' gd hK hg => ?_
            clear hg
            refine Wops.cut 4 fun K1 hK1 => ?_
            simp only [List.take_succ_cons, List.take_zero]
            go_simp
            refine Wcall (.inl rfl) (Before_c _ _ _ s c d _ (hV.ext xw) (hU.ext xw) (hT.ext xw) hf hg hh) ?_
            rintro v w6 ⟨rfl, hE⟩
            go_simp
            refine hK1 _ _ ?_
            clear hK1 K1
            simp only [List.drop_succ_cons, List.drop_zero]
            have z19 := Below.size hE
            replace f5 := Ext.fz hE c5_0 f5
            replace f6 := Ext.fz hE c6_0 f6
            replace f7 := Ext.fz hE c7_0 f7
            replace xw := Ext.trans xw hE
            replace c5_0 := Ext.cell hE c5_0
            replace c5_1 := Ext.cell hE c5_1
            replace c6_0 := Ext.cell hE c6_0
            replace c6_1 := Ext.cell hE c6_1
            replace c6_2 := Ext.cell hE c6_2
            replace c6_3 := Ext.cell hE c6_3
            replace c7_0 := Ext.cell hE c7_0
            replace c7_1 := Ext.cell hE c7_1
            replace c7_2 := Ext.cell hE c7_2
            replace c7_3 := Ext.cell hE c7_3
            clear hE
            go_simp
            refine hK _ _ ?_
            clear hK K' gd
            refine Wp.keep [3, 4, 5, 6, 7, 11, 12, 13, 14] fun r20 hkeep => ?_
            obtain ⟨e3_20, e4_20, e5_20, e6_20, e7_20, e11_20, e12_20, e13_20, e14_20, -⟩ := hkeep
            simp [go_sem, e3_18, e4_18, e5_18, e6_18, e7_18, e11_18, e51_18] at e3_20 e4_20 e5_20 e6_20 e7_20 e11_20 e12_20 e13_20 e14_20
            clear e3_18 e4_18 e5_18 e6_18 e7_18 e11_18 e51_18
            refine Wp.seqRegion (.inl rfl) (by kernel_rfl) fun K' gd hK hg => ?_
            clear hg
            refine Wops.cut 4 fun K1 hK1 => ?_
            simp only [List.take_succ_cons, List.take_zero]
            go_simp
            refine Wcall (.inl rfl) (Before_c _ _ _ s d c _ (hV.ext xw) (hT.ext xw) (hU.ext xw) hf hh hg) ?_
            rintro v w7 ⟨rfl, hE⟩
            go_simp
            refine hK1 _ _ ?_
            clear hK1 K1
            simp only [List.drop_succ_cons, List.drop_zero]
            have z21 := Below.size hE
            replace f5 := Ext.fz hE c5_0 f5
            replace f6 := Ext.fz hE c6_0 f6
            replace f7 := Ext.fz hE c7_0 f7
            replace xw := Ext.trans xw hE
            replace c5_0 := Ext.cell hE c5_0
            replace c5_1 := Ext.cell hE c5_1
            replace c6_0 := Ext.cell hE c6_0
            replace c6_1 := Ext.cell hE c6_1
            replace c6_2 := Ext.cell hE c6_2
            replace c6_3 := Ext.cell hE c6_3
            replace c7_0 := Ext.cell hE c7_0
            replace c7_1 := Ext.cell hE c7_1
            replace c7_2 := Ext.cell hE c7_2
            replace c7_3 := Ext.cell hE c7_3
            clear hE
            go_simp
            refine hK _ _ ?_
            clear hK K' gd
            refine Wp.keep [3, 4, 5, 6, 7, 11, 12, 13, 14, 15, 17] fun r22 hkeep => ?_
            obtain ⟨e3_22, e4_22, e5_22, e6_22, e7_22, e11_22, e12_22, e13_22, e14_22, e15_22, e17_22, -⟩ := hkeep
            simp [go_sem, e3_20, e4_20, e5_20, e6_20, e7_20, e11_20, e12_20, e13_20, e14_20] at e3_22 e4_22 e5_22 e6_22 e7_22 e11_22 e12_22 e13_22 e14_22 e15_22 e17_22
            clear e3_20 e4_20 e5_20 e6_20 e7_20 e11_20 e12_20 e13_20 e14_20
            by_cases e0 : befE s c d = 0
            · skip
              have e1 := befE_comm e0
              refine Wp.seq ?_
              refine Wp.seqRegion (.inl rfl) (by kernel_rfl) fun K' gd hK hg => ?_
              have g2 : gd 2 = some 71 := hg 2
              clear hg
              go_simp
              refine hK _ _ ?_
              clear hK K' gd g2
              refine Wp.keep [3, 4, 5, 6, 7, 11, 12, 13, 14, 15, 17, 74] fun r23 hkeep => ?_
              obtain ⟨e3_23, e4_23, e5_23, e6_23, e7_23, e11_23, e12_23, e13_23, e14_23, e15_23, e17_23, e74_23, -⟩ := hkeep
              simp [go_sem, e3_22, e4_22, e5_22, e6_22, e7_22, e11_22, e12_22, e13_22, e14_22, e15_22, e17_22] at e3_23 e4_23 e5_23 e6_23 e7_23 e11_23 e12_23 e13_23 e14_23 e15_23 e17_23 e74_23
              clear e3_22 e4_22 e5_22 e6_22 e7_22 e11_22 e12_22 e13_22 e14_22 e15_22 e17_22
              refine Wp.condF (by go_simp) ?_
              have hsm : befA s c d = true → befB s c d = true ∧ befA s d c = false ∧ idsS s (betP (s.md c).first (s.md d).last) = [] := sure_may
              have hfx : fitE s c x = 0 → (fitR s c x).2 = true → fitE s d y = 0 → (fitR s d y).2 = true → x.length = s.words.length ∧ y.length = s.words.length ∧ (befA s c d = true → gI x (s.words.length - 1) < gI y 0) ∧ (gI x (s.words.length - 1) < gI y 0 → befB s c d = true) := fun a b a2 b2 => by obtain ⟨-, q1, q2⟩ := fitR_true.1 ⟨a, b⟩; obtain ⟨-, q3, q4⟩ := fitR_true.1 ⟨a2, b2⟩; exact ⟨q1, q3, bef_days e0 q2 q4⟩
              obtain ⟨-, -, -, -, -, hn1, hn40⟩ := beg_know (befE_zero.1 e0).1
              refine Wp.skip ?_
              refine thenK_normal ?_
              refine Wp.seq ?_
              refine Wp.cut (fun ρ ds W => AllEq [3, 4, 5, 6, 7, 11, 12, 13] ρ r23 ∧ ds = [] ∧ (Ext w7 W) ∧ (befA s c d = true → befB s c d = true ∧ befA s d c = false)) ?_ ?_
              · have xq4 := Ext.refl w7
                by_cases a1 : befA s c d = true
                · skip
                  obtain ⟨a2, a3, -⟩ := hsm a1
                  refine Wp.seqRegion (.inl rfl) (by kernel_rfl) fun K' gd hK hg => ?_
                  have g1 : gd 1 = some 92 := hg 1
                  have g5 : gd 5 = some 96 := hg 5
                  have g7 : gd 7 = some 98 := hg 7
                  clear hg
                  go_simp
                  refine hK _ _ ?_
                  clear hK K' gd g1 g5 g7
                  refine Wp.keep [3, 4, 5, 6, 7, 11, 12, 13, 101] fun r24 hkeep => ?_
                  obtain ⟨e3_24, e4_24, e5_24, e6_24, e7_24, e11_24, e12_24, e13_24, e101_24, -⟩ := hkeep
                  simp [go_sem, e3_23, e4_23, e5_23, e6_23, e7_23, e11_23, e12_23, e13_23, e14_23, e15_23, e17_23, e74_23] at e3_24 e4_24 e5_24 e6_24 e7_24 e11_24 e12_24 e13_24 e101_24
                  clear e14_23 e15_23 e17_23 e74_23
                  refine Wp.condF (by go_simp) ?_
                  refine Wp.skip ?_
                  refine cutK_normal ⟨⟨by rw [e3_24, e3_23], by rw [e4_24, e4_23], by rw [e5_24, e5_23], by rw [e6_24, e6_23], by rw [e7_24, e7_23], by rw [e11_24, e11_23], by rw [e12_24, e12_23], by rw [e13_24, e13_23], trivial⟩, rfl, xq4, ?_⟩
                  exact fun _ => ⟨a2, a3⟩
                · skip
                  refine Wp.seqRegion (.inl rfl) (by kernel_rfl) fun K' gd hK hg => ?_
                  have g1 : gd 1 = some 92 := hg 1
                  have g5 : gd 5 = some 96 := hg 5
                  have g7 : gd 7 = some 98 := hg 7
                  clear hg
                  go_simp
                  refine hK _ _ ?_
                  clear hK K' gd g1 g5 g7
                  refine Wp.keep [3, 4, 5, 6, 7, 11, 12, 13, 101] fun r25 hkeep => ?_
                  obtain ⟨e3_25, e4_25, e5_25, e6_25, e7_25, e11_25, e12_25, e13_25, e101_25, -⟩ := hkeep
                  simp [go_sem, e3_23, e4_23, e5_23, e6_23, e7_23, e11_23, e12_23, e13_23, e14_23, e15_23, e17_23, e74_23] at e3_25 e4_25 e5_25 e6_25 e7_25 e11_25 e12_25 e13_25 e101_25
                  clear e14_23 e15_23 e17_23 e74_23
                  refine Wp.condF (by go_simp) ?_
                  refine Wp.skip ?_
                  refine cutK_normal ⟨⟨by rw [e3_25, e3_23], by rw [e4_25, e4_23], by rw [e5_25, e5_23], by rw [e6_25, e6_23], by rw [e7_25, e7_23], by rw [e11_25, e11_23], by rw [e12_25, e12_23], by rw [e13_25, e13_23], trivial⟩, rfl, xq4, ?_⟩
                  exact fun q => absurd q a1
              · rintro r26 _ W4 ⟨hA, rfl, xq4, hsm2⟩
                obtain ⟨e3_26, e4_26, e5_26, e6_26, e7_26, e11_26, e12_26, e13_26, -⟩ := hA
                rw [e3_23] at e3_26
                rw [e4_23] at e4_26
                rw [e5_23] at e5_26
                rw [e6_23] at e6_26
                rw [e7_23] at e7_26
                rw [e11_23] at e11_26
                rw [e12_23] at e12_26
                rw [e13_23] at e13_26
                clear e3_23 e4_23 e5_23 e6_23 e7_23 e11_23 e12_23 e13_23 e14_23 e15_23 e17_23 e74_23
                have zxq4 := Below.size xq4
                replace f5 := Ext.fz xq4 c5_0 f5
                replace f6 := Ext.fz xq4 c6_0 f6
                replace f7 := Ext.fz xq4 c7_0 f7
                replace xw := Ext.trans xw xq4
                replace c5_0 := Ext.cell xq4 c5_0
                replace c5_1 := Ext.cell xq4 c5_1
                replace c6_0 := Ext.cell xq4 c6_0
                replace c6_1 := Ext.cell xq4 c6_1
                replace c6_2 := Ext.cell xq4 c6_2
                replace c6_3 := Ext.cell xq4 c6_3
                replace c7_0 := Ext.cell xq4 c7_0
                replace c7_1 := Ext.cell xq4 c7_1
                replace c7_2 := Ext.cell xq4 c7_2
                replace c7_3 := Ext.cell xq4 c7_3
                refine thenK_normal ?_
                refine Wp.seqRegion (.inl rfl) (by kernel_rfl) fun K' gd hK hg => ?_
                clear hg
                refine Wops.cut 4 fun K1 hK1 => ?_
                simp only [List.take_succ_cons, List.take_zero]
                go_simp
                refine Wcall (.inl rfl) (Between_c _ _ _ s d c _ (hV.ext xw) (hT.ext xw) (hU.ext xw) hf hh hg (fun h => beg_alts hfw (befE_zero.1 h).1)) ?_
                rintro v w8 ⟨s5, s6, rfl, i5, -, hE⟩
                rw [if_pos e1] at i5
                go_simp
                refine hK1 _ _ ?_
                clear hK1 K1
                simp only [List.drop_succ_cons, List.drop_zero]
                have z27 := Below.size hE
                replace f5 := Ext.fz hE c5_0 f5
                replace f6 := Ext.fz hE c6_0 f6
                replace f7 := Ext.fz hE c7_0 f7
                replace xw := Ext.trans xw hE
                replace c5_0 := Ext.cell hE c5_0
                replace c5_1 := Ext.cell hE c5_1
                replace c6_0 := Ext.cell hE c6_0
                replace c6_1 := Ext.cell hE c6_1
                replace c6_2 := Ext.cell hE c6_2
                replace c6_3 := Ext.cell hE c6_3
                replace c7_0 := Ext.cell hE c7_0
                replace c7_1 := Ext.cell hE c7_1
                replace c7_2 := Ext.cell hE c7_2
                replace c7_3 := Ext.cell hE c7_3
                clear hE
                go_simp
                refine hK _ _ ?_
                clear hK K' gd
                refine Wp.keep [3, 4, 5, 6, 7, 11, 12, 13, 18, 20] fun r28 hkeep => ?_
                obtain ⟨e3_28, e4_28, e5_28, e6_28, e7_28, e11_28, e12_28, e13_28, e18_28, e20_28, -⟩ := hkeep
                simp [go_sem, e3_26, e4_26, e5_26, e6_26, e7_26, e11_26, e12_26, e13_26] at e3_28 e4_28 e5_28 e6_28 e7_28 e11_28 e12_28 e13_28 e18_28 e20_28
                clear e3_26 e4_26 e5_26 e6_26 e7_26 e11_26 e12_26 e13_26
                obtain ⟨lc, hlc⟩ : ∃ la, ∃ _u : Unit, idsS s (betP (s.md c).first (s.md d).last) = la := ⟨_, (), rfl⟩
                rw [hlc.choose_spec] at i5 hsm
                obtain ⟨A7, c7, rfl⟩ := i5.slice
                refine Wp.seq ?_
                refine Wp.cut (fun ρ ds W => AllEq [3, 4, 5, 6, 7, 11, 12, 13] ρ r28 ∧ ds = [] ∧ (Ext w8 W) ∧ (True)) ?_ ?_
                · have xq5 := Ext.refl w8
                  by_cases a1 : befA s c d = true
                  · skip
                    have a4 : lc.length = 0 := by rw [(hsm a1).2.2]; rfl
                    refine Wp.seqRegion (.inl rfl) (by kernel_rfl) fun K' gd hK hg => ?_
                    have g2 : gd 2 = some 112 := hg 2
                    have g4 : gd 4 = some 114 := hg 4
                    clear hg
                    go_simp
                    refine hK _ _ ?_
                    clear hK K' gd g2 g4
                    refine Wp.keep [3, 4, 5, 6, 7, 11, 12, 13, 119] fun r29 hkeep => ?_
                    obtain ⟨e3_29, e4_29, e5_29, e6_29, e7_29, e11_29, e12_29, e13_29, e119_29, -⟩ := hkeep
                    simp [go_sem, e3_28, e4_28, e5_28, e6_28, e7_28, e11_28, e12_28, e13_28, e18_28, e20_28] at e3_29 e4_29 e5_29 e6_29 e7_29 e11_29 e12_29 e13_29 e119_29
                    clear e18_28 e20_28
                    refine Wp.condF (by go_simp) ?_
                    refine Wp.skip ?_
                    refine cutK_normal ⟨⟨by rw [e3_29, e3_28], by rw [e4_29, e4_28], by rw [e5_29, e5_28], by rw [e6_29, e6_28], by rw [e7_29, e7_28], by rw [e11_29, e11_28], by rw [e12_29, e12_28], by rw [e13_29, e13_28], trivial⟩, rfl, xq5, ?_⟩
                    trivial
                  · skip
                    refine Wp.seqRegion (.inl rfl) (by kernel_rfl) fun K' gd hK hg => ?_
                    have g2 : gd 2 = some 112 := hg 2
                    have g4 : gd 4 = some 114 := hg 4
                    clear hg
                    go_simp
                    refine hK _ _ ?_
                    clear hK K' gd g2 g4
                    refine Wp.keep [3, 4, 5, 6, 7, 11, 12, 13, 119] fun r30 hkeep => ?_
                    obtain ⟨e3_30, e4_30, e5_30, e6_30, e7_30, e11_30, e12_30, e13_30, e119_30, -⟩ := hkeep
                    simp [go_sem, e3_28, e4_28, e5_28, e6_28, e7_28, e11_28, e12_28, e13_28, e18_28, e20_28] at e3_30 e4_30 e5_30 e6_30 e7_30 e11_30 e12_30 e13_30 e119_30
                    clear e18_28 e20_28
                    refine Wp.condF (by go_simp) ?_
                    refine Wp.skip ?_
                    refine cutK_normal ⟨⟨by rw [e3_30, e3_28], by rw [e4_30, e4_28], by rw [e5_30, e5_28], by rw [e6_30, e6_28], by rw [e7_30, e7_28], by rw [e11_30, e11_28], by rw [e12_30, e12_28], by rw [e13_30, e13_28], trivial⟩, rfl, xq5, ?_⟩
                    trivial
                · rintro r31 _ W5 ⟨hA, rfl, xq5, -⟩
                  obtain ⟨e3_31, e4_31, e5_31, e6_31, e7_31, e11_31, e12_31, e13_31, -⟩ := hA
                  rw [e3_28] at e3_31
                  rw [e4_28] at e4_31
                  rw [e5_28] at e5_31
                  rw [e6_28] at e6_31
                  rw [e7_28] at e7_31
                  rw [e11_28] at e11_31
                  rw [e12_28] at e12_31
                  rw [e13_28] at e13_31
                  clear e3_28 e4_28 e5_28 e6_28 e7_28 e11_28 e12_28 e13_28 e18_28 e20_28
                  have zxq5 := Below.size xq5
                  replace f5 := Ext.fz xq5 c5_0 f5
                  replace f6 := Ext.fz xq5 c6_0 f6
                  replace f7 := Ext.fz xq5 c7_0 f7
                  replace i5 := i5.ext xq5
                  replace xw := Ext.trans xw xq5
                  replace c5_0 := Ext.cell xq5 c5_0
                  replace c5_1 := Ext.cell xq5 c5_1
                  replace c6_0 := Ext.cell xq5 c6_0
                  replace c6_1 := Ext.cell xq5 c6_1
                  replace c6_2 := Ext.cell xq5 c6_2
                  replace c6_3 := Ext.cell xq5 c6_3
                  replace c7_0 := Ext.cell xq5 c7_0
                  replace c7_1 := Ext.cell xq5 c7_1
                  replace c7_2 := Ext.cell xq5 c7_2
                  replace c7_3 := Ext.cell xq5 c7_3
                  refine thenK_normal ?_
                  refine Wp.seqRegion (.inl rfl) (by kernel_rfl) fun K' gd hK hg => ?_
                  clear hg
                  refine Wops.cut 4 fun K1 hK1 => ?_
                  simp only [List.take_succ_cons, List.take_zero]
                  go_simp
                  refine Wcall (.inl rfl) (Fits_c _ _ _ s c x _ (hV.ext xw) (hU.ext xw) (hX.ext xw) hf hg (by omega)) ?_
                  rintro v w9 ⟨rfl, hE⟩
                  go_simp
                  refine hK1 _ _ ?_
                  clear hK1 K1
                  simp only [List.drop_succ_cons, List.drop_zero]
                  have z32 := Below.size hE
                  replace f5 := Ext.fz hE c5_0 f5
                  replace f6 := Ext.fz hE c6_0 f6
                  replace f7 := Ext.fz hE c7_0 f7
                  replace i5 := i5.ext hE
                  replace xw := Ext.trans xw hE
                  replace c5_0 := Ext.cell hE c5_0
                  replace c5_1 := Ext.cell hE c5_1
                  replace c6_0 := Ext.cell hE c6_0
                  replace c6_1 := Ext.cell hE c6_1
                  replace c6_2 := Ext.cell hE c6_2
                  replace c6_3 := Ext.cell hE c6_3
                  replace c7_0 := Ext.cell hE c7_0
                  replace c7_1 := Ext.cell hE c7_1
                  replace c7_2 := Ext.cell hE c7_2
                  replace c7_3 := Ext.cell hE c7_3
                  clear hE
                  go_simp
                  refine hK _ _ ?_
                  clear hK K' gd
                  refine Wp.keep [3, 4, 5, 7, 11, 12, 13, 22, 23] fun r33 hkeep => ?_
                  obtain ⟨e3_33, e4_33, e5_33, e7_33, e11_33, e12_33, e13_33, e22_33, e23_33, -⟩ := hkeep
                  simp [go_sem, e3_31, e4_31, e5_31, e6_31, e7_31, e11_31, e12_31, e13_31] at e3_33 e4_33 e5_33 e7_33 e11_33 e12_33 e13_33 e22_33 e23_33
                  clear e3_31 e4_31 e5_31 e6_31 e7_31 e11_31 e12_31 e13_31
                  refine Wp.seqRegion (.inl rfl) (by kernel_rfl) fun K' gd hK hg => ?_
                  clear hg
                  refine Wops.cut 4 fun K1 hK1 => ?_
                  simp only [List.take_succ_cons, List.take_zero]
                  go_simp
                  refine Wcall (.inl rfl) (Fits_c _ _ _ s d y _ (hV.ext xw) (hT.ext xw) (hY.ext xw) hf hh (by omega)) ?_
                  rintro v w10 ⟨rfl, hE⟩
                  go_simp
                  refine hK1 _ _ ?_
                  clear hK1 K1
                  simp only [List.drop_succ_cons, List.drop_zero]
                  have z34 := Below.size hE
                  replace f5 := Ext.fz hE c5_0 f5
                  replace f6 := Ext.fz hE c6_0 f6
                  replace f7 := Ext.fz hE c7_0 f7
                  replace i5 := i5.ext hE
                  replace xw := Ext.trans xw hE
                  replace c5_0 := Ext.cell hE c5_0
                  replace c5_1 := Ext.cell hE c5_1
                  replace c6_0 := Ext.cell hE c6_0
                  replace c6_1 := Ext.cell hE c6_1
                  replace c6_2 := Ext.cell hE c6_2
                  replace c6_3 := Ext.cell hE c6_3
                  replace c7_0 := Ext.cell hE c7_0
                  replace c7_1 := Ext.cell hE c7_1
                  replace c7_2 := Ext.cell hE c7_2
                  replace c7_3 := Ext.cell hE c7_3
                  clear hE
                  go_simp
                  refine hK _ _ ?_
                  clear hK K' gd
                  refine Wp.keep [3, 4, 11, 12, 13, 22, 23, 25, 26] fun r35 hkeep => ?_
                  obtain ⟨e3_35, e4_35, e11_35, e12_35, e13_35, e22_35, e23_35, e25_35, e26_35, -⟩ := hkeep
                  simp [go_sem, e3_33, e4_33, e5_33, e7_33, e11_33, e12_33, e13_33, e22_33, e23_33] at e3_35 e4_35 e11_35 e12_35 e13_35 e22_35 e23_35 e25_35 e26_35
                  clear e3_33 e4_33 e5_33 e7_33 e11_33 e12_33 e13_33 e22_33 e23_33
                  by_cases b1 : fitE s c x = 0
                  · skip
                    by_cases b2 : fitE s d y = 0
                    · skip
                      by_cases b3 : (fitR s c x).2 = true
                      · skip
                        by_cases b4 : (fitR s d y).2 = true
                        · skip
                          obtain ⟨m1, m2, m3, m4⟩ := hfx b1 b3 b2 b4
                          clear hfx
                          obtain ⟨q, hq⟩ : ∃ q : Nat, ∃ _u : Unit, q + 1 = x.length := ⟨x.length - 1, (), by omega⟩
                          have hqq := hq.choose_spec
                          have hqs : ∃ _u : Unit, s.words.length - 1 = q := ⟨(), by omega⟩
                          rw [hqs.choose_spec] at m3 m4
                          obtain ⟨g1, o1, c8, f1, -, hc1⟩ := (hX.ext xw).get (k := q) (by omega)
                          injection f1 with q1 q2 q3
                          subst q1
                          subst q3
                          have z1 := hc1 q (by omega)
                          obtain ⟨g2, o2, c9, f2, -, hc2⟩ := (hY.ext xw).get (k := 0) (by omega)
                          injection f2 with q1 q2 q3
                          subst q1
                          subst q3
                          have z2 := hc2 0 (by omega)
                          simp only [Nat.add_zero] at z2
                          have hwq : IntKind.i64.wrap ((x.length : Int) - 1) = (q : Int) := by rw [IntWalk.i64_in _ (by omega)]; omega
                          have j1 : (q : Int) < (x.length : Int) := by omega
                          have j2 : 0 < y.length := by omega
                          have j3 : ¬ x.length = 0 := by omega
                          have j4 : ¬ y.length = 0 := by omega
                          have j5 : (0 : Int) < (y.length : Int) := by omega
                          replace m1 : ∃ _u : Unit, x.length = s.words.length := ⟨(), m1⟩
                          replace m2 : ∃ _u : Unit, y.length = s.words.length := ⟨(), m2⟩
                          clear hqq hc1 hc2
                          refine Wp.seq ?_
                          refine Wp.seqRegion (.inl rfl) (by kernel_rfl) fun K' gd hK hg => ?_
                          have g2 : gd 2 = some 138 := hg 2
                          have g6 : gd 6 = some 142 := hg 6
                          have g10 : gd 10 = some 146 := hg 10
                          have g14 : gd 14 = some 150 := hg 14
                          have g19 : gd 19 = some 155 := hg 19
                          clear hg
                          go_simp
                          refine hK _ _ ?_
                          clear hK K' gd g2 g6 g10 g14 g19
                          refine Wp.keep [3, 4, 11, 12, 13, 159] fun r36 hkeep => ?_
                          obtain ⟨e3_36, e4_36, e11_36, e12_36, e13_36, e159_36, -⟩ := hkeep
                          simp [go_sem, e3_35, e4_35, e11_35, e12_35, e13_35, e22_35, e23_35, e25_35, e26_35] at e3_36 e4_36 e11_36 e12_36 e13_36 e159_36
                          clear e3_35 e4_35 e11_35 e12_35 e13_35 e22_35 e23_35 e25_35 e26_35
                          refine Wp.condF (by go_simp) ?_
                          by_cases k1 : gI x q < gI y 0
                          · skip
                            have k2 := m4 k1
                            by_cases a1 : befA s c d = true
                            · skip
                              refine Wp.skip ?_
                              refine thenK_normal ?_
                              refine Wp.seqDraw (.inl rfl) mixed [([0, 1, 2, 3, 4], none), ([5, 6, 7, 8, 9], none), ([10], none)] (by kernel_rfl) fun K' gd hK hg => ?_
                              clear hg
                              simp only [pick, nth, List.map_cons, List.map_nil, Option.map_none, Option.map_some]
                              refine Mops.absD fun D6 hD6 zD6 => ?_
                              replace f5 := Ext.fz hD6 c5_0 f5
                              replace f6 := Ext.fz hD6 c6_0 f6
                              replace f7 := Ext.fz hD6 c7_0 f7
                              replace i5 := i5.ext hD6
                              replace xw := Ext.trans xw hD6
                              replace c5_0 := Ext.cell hD6 c5_0
                              replace c5_1 := Ext.cell hD6 c5_1
                              replace c6_0 := Ext.cell hD6 c6_0
                              replace c6_1 := Ext.cell hD6 c6_1
                              replace c6_2 := Ext.cell hD6 c6_2
                              replace c6_3 := Ext.cell hD6 c6_3
                              replace c7_0 := Ext.cell hD6 c7_0
                              replace c7_1 := Ext.cell hD6 c7_1
                              replace c7_2 := Ext.cell hD6 c7_2
                              replace c7_3 := Ext.cell hD6 c7_3
                              replace z1 := Ext.cell hD6 z1
                              replace z2 := Ext.cell hD6 z2
                              clear hD6
                              apply Mops.none
                              · intro w' hE'
                                have hC' := hE'.cellsS
                                go_simp
                                with_reducible rfl
                              apply Mops.none
                              · intro w' hE'
                                have hC' := hE'.cellsS
                                go_simp
                                with_reducible rfl
                              apply Mops.none
                              · intro w' hE'
                                have hC' := hE'.cellsS
                                go_simp
                                with_reducible rfl
                              refine Mops.done ?_
                              refine hK _ _ ?_
                              clear hK K' gd
                              refine Wp.keep [11, 12, 13, 27] fun r37 hkeep => ?_
                              obtain ⟨e11_37, e12_37, e13_37, e27_37, -⟩ := hkeep
                              simp [go_sem, e3_36, e4_36, e11_36, e12_36, e13_36, e159_36] at e11_37 e12_37 e13_37 e27_37
                              clear e3_36 e4_36 e11_36 e12_36 e13_36 e159_36
                              refine Wp.seqRegion (.inl rfl) (by kernel_rfl) fun K' gd hK hg => ?_
                              have g1 : gd 1 = some 172 := hg 1
                              have g4 : gd 4 = some 175 := hg 4
                              have g8 : gd 8 = some 179 := hg 8
                              have g10 : gd 10 = some 181 := hg 10
                              clear hg
                              go_simp
                              refine hK _ _ ?_
                              clear hK K' gd g1 g4 g8 g10
                              refine Wp.keep [10] fun r38 hkeep => ?_
                              obtain ⟨e10_38, -⟩ := hkeep
                              simp [go_sem, e11_37, e12_37, e13_37, e27_37] at e10_38
                              clear e11_37 e12_37 e13_37 e27_37
                              refine Wp.ret ?_
                              refine endK_tmp Try.results16 (by decide) ?_
                              rw [e10_38]
                              exact ⟨by first | rfl | go_simp, xw⟩
                            · skip
                              refine Wp.skip ?_
                              refine thenK_normal ?_
                              refine Wp.seqDraw (.inl rfl) mixed [([0, 1, 2, 3, 4], none), ([5, 6, 7, 8, 9], none), ([10], none)] (by kernel_rfl) fun K' gd hK hg => ?_
                              clear hg
                              simp only [pick, nth, List.map_cons, List.map_nil, Option.map_none, Option.map_some]
                              refine Mops.absD fun D7 hD7 zD7 => ?_
                              replace f5 := Ext.fz hD7 c5_0 f5
                              replace f6 := Ext.fz hD7 c6_0 f6
                              replace f7 := Ext.fz hD7 c7_0 f7
                              replace i5 := i5.ext hD7
                              replace xw := Ext.trans xw hD7
                              replace c5_0 := Ext.cell hD7 c5_0
                              replace c5_1 := Ext.cell hD7 c5_1
                              replace c6_0 := Ext.cell hD7 c6_0
                              replace c6_1 := Ext.cell hD7 c6_1
                              replace c6_2 := Ext.cell hD7 c6_2
                              replace c6_3 := Ext.cell hD7 c6_3
                              replace c7_0 := Ext.cell hD7 c7_0
                              replace c7_1 := Ext.cell hD7 c7_1
                              replace c7_2 := Ext.cell hD7 c7_2
                              replace c7_3 := Ext.cell hD7 c7_3
                              replace z1 := Ext.cell hD7 z1
                              replace z2 := Ext.cell hD7 z2
                              clear hD7
                              apply Mops.none
                              · intro w' hE'
                                have hC' := hE'.cellsS
                                go_simp
                                with_reducible rfl
                              apply Mops.none
                              · intro w' hE'
                                have hC' := hE'.cellsS
                                go_simp
                                with_reducible rfl
                              apply Mops.none
                              · intro w' hE'
                                have hC' := hE'.cellsS
                                go_simp
                                with_reducible rfl
                              refine Mops.done ?_
                              refine hK _ _ ?_
                              clear hK K' gd
                              refine Wp.keep [11, 12, 13, 27] fun r39 hkeep => ?_
                              obtain ⟨e11_39, e12_39, e13_39, e27_39, -⟩ := hkeep
                              simp [go_sem, e3_36, e4_36, e11_36, e12_36, e13_36, e159_36] at e11_39 e12_39 e13_39 e27_39
                              clear e3_36 e4_36 e11_36 e12_36 e13_36 e159_36
                              refine Wp.seqRegion (.inl rfl) (by kernel_rfl) fun K' gd hK hg => ?_
                              have g1 : gd 1 = some 172 := hg 1
                              have g4 : gd 4 = some 175 := hg 4
                              have g8 : gd 8 = some 179 := hg 8
                              have g10 : gd 10 = some 181 := hg 10
                              clear hg
                              go_simp
                              refine hK _ _ ?_
                              clear hK K' gd g1 g4 g8 g10
                              refine Wp.keep [10] fun r40 hkeep => ?_
                              obtain ⟨e10_40, -⟩ := hkeep
                              simp [go_sem, e11_39, e12_39, e13_39, e27_39] at e10_40
                              clear e11_39 e12_39 e13_39 e27_39
                              refine Wp.ret ?_
                              refine endK_tmp Try.results16 (by decide) ?_
                              rw [e10_40]
                              exact ⟨by first | rfl | go_simp, xw⟩
                          · skip
                            have a1 : befA s c d = false := by rw [Bool.eq_false_iff]; exact fun q => k1 (m3 q)
                            by_cases k2 : befB s c d = true
                            · skip
                              refine Wp.skip ?_
                              refine thenK_normal ?_
                              refine Wp.seqDraw (.inl rfl) mixed [([0, 1, 2, 3, 4], none), ([5, 6, 7, 8, 9], none), ([10], none)] (by kernel_rfl) fun K' gd hK hg => ?_
                              clear hg
                              simp only [pick, nth, List.map_cons, List.map_nil, Option.map_none, Option.map_some]
                              refine Mops.absD fun D8 hD8 zD8 => ?_
                              replace f5 := Ext.fz hD8 c5_0 f5
                              replace f6 := Ext.fz hD8 c6_0 f6
                              replace f7 := Ext.fz hD8 c7_0 f7
                              replace i5 := i5.ext hD8
                              replace xw := Ext.trans xw hD8
                              replace c5_0 := Ext.cell hD8 c5_0
                              replace c5_1 := Ext.cell hD8 c5_1
                              replace c6_0 := Ext.cell hD8 c6_0
                              replace c6_1 := Ext.cell hD8 c6_1
                              replace c6_2 := Ext.cell hD8 c6_2
                              replace c6_3 := Ext.cell hD8 c6_3
                              replace c7_0 := Ext.cell hD8 c7_0
                              replace c7_1 := Ext.cell hD8 c7_1
                              replace c7_2 := Ext.cell hD8 c7_2
                              replace c7_3 := Ext.cell hD8 c7_3
                              replace z1 := Ext.cell hD8 z1
                              replace z2 := Ext.cell hD8 z2
                              clear hD8
                              apply Mops.none
                              · intro w' hE'
                                have hC' := hE'.cellsS
                                go_simp
                                with_reducible rfl
                              apply Mops.none
                              · intro w' hE'
                                have hC' := hE'.cellsS
                                go_simp
                                with_reducible rfl
                              apply Mops.none
                              · intro w' hE'
                                have hC' := hE'.cellsS
                                go_simp
                                with_reducible rfl
                              refine Mops.done ?_
                              refine hK _ _ ?_
                              clear hK K' gd
                              refine Wp.keep [11, 12, 13, 27] fun r41 hkeep => ?_
                              obtain ⟨e11_41, e12_41, e13_41, e27_41, -⟩ := hkeep
                              simp [go_sem, e3_36, e4_36, e11_36, e12_36, e13_36, e159_36] at e11_41 e12_41 e13_41 e27_41
                              clear e3_36 e4_36 e11_36 e12_36 e13_36 e159_36
                              refine Wp.seqRegion (.inl rfl) (by kernel_rfl) fun K' gd hK hg => ?_
                              have g1 : gd 1 = some 172 := hg 1
                              have g4 : gd 4 = some 175 := hg 4
                              have g8 : gd 8 = some 179 := hg 8
                              have g10 : gd 10 = some 181 := hg 10
                              clear hg
                              go_simp
                              refine hK _ _ ?_
                              clear hK K' gd g1 g4 g8 g10
                              refine Wp.keep [10] fun r42 hkeep => ?_
                              obtain ⟨e10_42, -⟩ := hkeep
                              simp [go_sem, e11_41, e12_41, e13_41, e27_41] at e10_42
                              clear e11_41 e12_41 e13_41 e27_41
                              refine Wp.ret ?_
                              refine endK_tmp Try.results16 (by decide) ?_
                              rw [e10_42]
                              exact ⟨by first | rfl | go_simp, xw⟩
                            · skip
                              refine Wp.skip ?_
                              refine thenK_normal ?_
                              refine Wp.seqDraw (.inl rfl) mixed [([0, 1, 2, 3, 4], none), ([5, 6, 7, 8, 9], none), ([10], none)] (by kernel_rfl) fun K' gd hK hg => ?_
                              clear hg
                              simp only [pick, nth, List.map_cons, List.map_nil, Option.map_none, Option.map_some]
                              refine Mops.absD fun D9 hD9 zD9 => ?_
                              replace f5 := Ext.fz hD9 c5_0 f5
                              replace f6 := Ext.fz hD9 c6_0 f6
                              replace f7 := Ext.fz hD9 c7_0 f7
                              replace i5 := i5.ext hD9
                              replace xw := Ext.trans xw hD9
                              replace c5_0 := Ext.cell hD9 c5_0
                              replace c5_1 := Ext.cell hD9 c5_1
                              replace c6_0 := Ext.cell hD9 c6_0
                              replace c6_1 := Ext.cell hD9 c6_1
                              replace c6_2 := Ext.cell hD9 c6_2
                              replace c6_3 := Ext.cell hD9 c6_3
                              replace c7_0 := Ext.cell hD9 c7_0
                              replace c7_1 := Ext.cell hD9 c7_1
                              replace c7_2 := Ext.cell hD9 c7_2
                              replace c7_3 := Ext.cell hD9 c7_3
                              replace z1 := Ext.cell hD9 z1
                              replace z2 := Ext.cell hD9 z2
                              clear hD9
                              apply Mops.none
                              · intro w' hE'
                                have hC' := hE'.cellsS
                                go_simp
                                with_reducible rfl
                              apply Mops.none
                              · intro w' hE'
                                have hC' := hE'.cellsS
                                go_simp
                                with_reducible rfl
                              apply Mops.none
                              · intro w' hE'
                                have hC' := hE'.cellsS
                                go_simp
                                with_reducible rfl
                              refine Mops.done ?_
                              refine hK _ _ ?_
                              clear hK K' gd
                              refine Wp.keep [11, 12, 13, 27] fun r43 hkeep => ?_
                              obtain ⟨e11_43, e12_43, e13_43, e27_43, -⟩ := hkeep
                              simp [go_sem, e3_36, e4_36, e11_36, e12_36, e13_36, e159_36] at e11_43 e12_43 e13_43 e27_43
                              clear e3_36 e4_36 e11_36 e12_36 e13_36 e159_36
                              refine Wp.seqRegion (.inl rfl) (by kernel_rfl) fun K' gd hK hg => ?_
                              have g1 : gd 1 = some 172 := hg 1
                              have g4 : gd 4 = some 175 := hg 4
                              have g8 : gd 8 = some 179 := hg 8
                              have g10 : gd 10 = some 181 := hg 10
                              clear hg
                              go_simp
                              refine hK _ _ ?_
                              clear hK K' gd g1 g4 g8 g10
                              refine Wp.keep [10] fun r44 hkeep => ?_
                              obtain ⟨e10_44, -⟩ := hkeep
                              simp [go_sem, e11_43, e12_43, e13_43, e27_43] at e10_44
                              clear e11_43 e12_43 e13_43 e27_43
                              refine Wp.ret ?_
                              refine endK_tmp Try.results16 (by decide) ?_
                              rw [e10_44]
                              exact ⟨by first | rfl | go_simp, xw⟩
                        · skip
                          refine Wp.seq ?_
                          refine Wp.seqRegion (.inl rfl) (by kernel_rfl) fun K' gd hK hg => ?_
                          have g2 : gd 2 = some 138 := hg 2
                          have g6 : gd 6 = some 142 := hg 6
                          have g10 : gd 10 = some 146 := hg 10
                          have g14 : gd 14 = some 150 := hg 14
                          have g19 : gd 19 = some 155 := hg 19
                          clear hg
                          go_simp
                          refine hK _ _ ?_
                          clear hK K' gd g2 g6 g10 g14 g19
                          refine Wp.keep [3, 4, 11, 12, 13, 159] fun r45 hkeep => ?_
                          obtain ⟨e3_45, e4_45, e11_45, e12_45, e13_45, e159_45, -⟩ := hkeep
                          simp [go_sem, e3_35, e4_35, e11_35, e12_35, e13_35, e22_35, e23_35, e25_35, e26_35] at e3_45 e4_45 e11_45 e12_45 e13_45 e159_45
                          clear e3_35 e4_35 e11_35 e12_35 e13_35 e22_35 e23_35 e25_35 e26_35
                          refine Wp.condT (by go_simp) ?_
                          refine Wp.seqRegion (.inl rfl) (by kernel_rfl) fun K' gd hK hg => ?_
                          clear hg
                          go_simp
                          refine hK _ _ ?_
                          clear hK K' gd
                          refine Wp.keep [10] fun r46 hkeep => ?_
                          obtain ⟨e10_46, -⟩ := hkeep
                          simp [go_sem, e3_45, e4_45, e11_45, e12_45, e13_45, e159_45] at e10_46
                          clear e3_45 e4_45 e11_45 e12_45 e13_45 e159_45
                          refine Wp.ret ?_
                          refine thenK_ret ?_
                          refine endK_tmp Try.results16 (by decide) ?_
                          rw [e10_46]
                          exact ⟨rfl, xw⟩
                      · skip
                        refine Wp.seq ?_
                        refine Wp.seqRegion (.inl rfl) (by kernel_rfl) fun K' gd hK hg => ?_
                        have g2 : gd 2 = some 138 := hg 2
                        have g6 : gd 6 = some 142 := hg 6
                        have g10 : gd 10 = some 146 := hg 10
                        have g14 : gd 14 = some 150 := hg 14
                        have g19 : gd 19 = some 155 := hg 19
                        clear hg
                        go_simp
                        refine hK _ _ ?_
                        clear hK K' gd g2 g6 g10 g14 g19
                        refine Wp.keep [3, 4, 11, 12, 13, 159] fun r47 hkeep => ?_
                        obtain ⟨e3_47, e4_47, e11_47, e12_47, e13_47, e159_47, -⟩ := hkeep
                        simp [go_sem, e3_35, e4_35, e11_35, e12_35, e13_35, e22_35, e23_35, e25_35, e26_35] at e3_47 e4_47 e11_47 e12_47 e13_47 e159_47
                        clear e3_35 e4_35 e11_35 e12_35 e13_35 e22_35 e23_35 e25_35 e26_35
                        refine Wp.condT (by go_simp) ?_
                        refine Wp.seqRegion (.inl rfl) (by kernel_rfl) fun K' gd hK hg => ?_
                        clear hg
                        go_simp
                        refine hK _ _ ?_
                        clear hK K' gd
                        refine Wp.keep [10] fun r48 hkeep => ?_
                        obtain ⟨e10_48, -⟩ := hkeep
                        simp [go_sem, e3_47, e4_47, e11_47, e12_47, e13_47, e159_47] at e10_48
                        clear e3_47 e4_47 e11_47 e12_47 e13_47 e159_47
                        refine Wp.ret ?_
                        refine thenK_ret ?_
                        refine endK_tmp Try.results16 (by decide) ?_
                        rw [e10_48]
                        exact ⟨rfl, xw⟩
                    · skip
                      refine Wp.seq ?_
                      refine Wp.seqRegion (.inl rfl) (by kernel_rfl) fun K' gd hK hg => ?_
                      have g2 : gd 2 = some 138 := hg 2
                      have g6 : gd 6 = some 142 := hg 6
                      have g10 : gd 10 = some 146 := hg 10
                      have g14 : gd 14 = some 150 := hg 14
                      have g19 : gd 19 = some 155 := hg 19
                      clear hg
                      go_simp
                      refine hK _ _ ?_
                      clear hK K' gd g2 g6 g10 g14 g19
                      refine Wp.keep [3, 4, 11, 12, 13, 159] fun r49 hkeep => ?_
                      obtain ⟨e3_49, e4_49, e11_49, e12_49, e13_49, e159_49, -⟩ := hkeep
                      simp [go_sem, e3_35, e4_35, e11_35, e12_35, e13_35, e22_35, e23_35, e25_35, e26_35] at e3_49 e4_49 e11_49 e12_49 e13_49 e159_49
                      clear e3_35 e4_35 e11_35 e12_35 e13_35 e22_35 e23_35 e25_35 e26_35
                      refine Wp.condT (by go_simp) ?_
                      refine Wp.seqRegion (.inl rfl) (by kernel_rfl) fun K' gd hK hg => ?_
                      clear hg
                      go_simp
                      refine hK _ _ ?_
                      clear hK K' gd
                      refine Wp.keep [10] fun r50 hkeep => ?_
                      obtain ⟨e10_50, -⟩ := hkeep
                      simp [go_sem, e3_49, e4_49, e11_49, e12_49, e13_49, e159_49] at e10_50
                      clear e3_49 e4_49 e11_49 e12_49 e13_49 e159_49
                      refine Wp.ret ?_
                      refine thenK_ret ?_
                      refine endK_tmp Try.results16 (by decide) ?_
                      rw [e10_50]
                      exact ⟨rfl, xw⟩
                  · skip
                    refine Wp.seq ?_
                    refine Wp.seqRegion (.inl rfl) (by kernel_rfl) fun K' gd hK hg => ?_
                    have g2 : gd 2 = some 138 := hg 2
                    have g6 : gd 6 = some 142 := hg 6
                    have g10 : gd 10 = some 146 := hg 10
                    have g14 : gd 14 = some 150 := hg 14
                    have g19 : gd 19 = some 155 := hg 19
                    clear hg
                    go_simp
                    refine hK _ _ ?_
                    clear hK K' gd g2 g6 g10 g14 g19
                    refine Wp.keep [3, 4, 11, 12, 13, 159] fun r51 hkeep => ?_
                    obtain ⟨e3_51, e4_51, e11_51, e12_51, e13_51, e159_51, -⟩ := hkeep
                    simp [go_sem, e3_35, e4_35, e11_35, e12_35, e13_35, e22_35, e23_35, e25_35, e26_35] at e3_51 e4_51 e11_51 e12_51 e13_51 e159_51
                    clear e3_35 e4_35 e11_35 e12_35 e13_35 e22_35 e23_35 e25_35 e26_35
                    refine Wp.condT (by go_simp) ?_
                    refine Wp.seqRegion (.inl rfl) (by kernel_rfl) fun K' gd hK hg => ?_
                    clear hg
                    go_simp
                    refine hK _ _ ?_
                    clear hK K' gd
                    refine Wp.keep [10] fun r52 hkeep => ?_
                    obtain ⟨e10_52, -⟩ := hkeep
                    simp [go_sem, e3_51, e4_51, e11_51, e12_51, e13_51, e159_51] at e10_52
                    clear e3_51 e4_51 e11_51 e12_51 e13_51 e159_51
                    refine Wp.ret ?_
                    refine thenK_ret ?_
                    refine endK_tmp Try.results16 (by decide) ?_
                    rw [e10_52]
                    exact ⟨rfl, xw⟩
            · skip
              have e1 : ¬ befE s d c = 0 := fun q => e0 (befE_comm q)
              obtain ⟨a1, a2⟩ := bef_no e0
              have k1 : (befE s c d == 0) = false := by simpa using e0
              have k2 : (befE s d c == 0) = false := by simpa using e1
              refine Wp.seq ?_
              refine Wp.seqRegion (.inl rfl) (by kernel_rfl) fun K' gd hK hg => ?_
              have g2 : gd 2 = some 71 := hg 2
              clear hg
              go_simp
              refine hK _ _ ?_
              clear hK K' gd g2
              refine Wp.keep [3, 4, 5, 6, 7, 11, 12, 13, 14, 15, 17, 74] fun r53 hkeep => ?_
              obtain ⟨e3_53, e4_53, e5_53, e6_53, e7_53, e11_53, e12_53, e13_53, e14_53, e15_53, e17_53, e74_53, -⟩ := hkeep
              simp [go_sem, e3_22, e4_22, e5_22, e6_22, e7_22, e11_22, e12_22, e13_22, e14_22, e15_22, e17_22] at e3_53 e4_53 e5_53 e6_53 e7_53 e11_53 e12_53 e13_53 e14_53 e15_53 e17_53 e74_53
              clear e3_22 e4_22 e5_22 e6_22 e7_22 e11_22 e12_22 e13_22 e14_22 e15_22 e17_22
              refine Wp.condT (by go_simp) ?_
              refine Wp.seqRegion (.inl rfl) (by kernel_rfl) fun K' gd hK hg => ?_
              have g1 : gd 1 = some 76 := hg 1
              have g8 : gd 8 = some 83 := hg 8
              have g12 : gd 12 = some 87 := hg 12
              clear hg
              go_simp
              refine hK _ _ ?_
              clear hK K' gd g1 g8 g12
              refine Wp.keep [10] fun r54 hkeep => ?_
              obtain ⟨e10_54, -⟩ := hkeep
              simp [go_sem, e3_53, e4_53, e5_53, e6_53, e7_53, e11_53, e12_53, e13_53, e14_53, e15_53, e17_53, e74_53] at e10_54
              clear e3_53 e4_53 e5_53 e6_53 e7_53 e11_53 e12_53 e13_53 e14_53 e15_53 e17_53 e74_53
              refine Wp.ret ?_
              refine thenK_ret ?_
              refine endK_tmp Try.results16 (by decide) ?_
              rw [e10_54]
              exact ⟨by first | rfl | go_simp, xw⟩
      · skip
        refine Wp.seq ?_
        refine Wp.seqRegion (.inl rfl) (by kernel_rfl) fun K' gd hK hg => ?_
        have g3 : gd 3 = some 32 := hg 3
        have g8 : gd 8 = some 37 := hg 8
        have g13 : gd 13 = some 42 := hg 13
        have g18 : gd 18 = some 47 := hg 18
        clear hg
        refine Wops.cut 2 fun K1 hK1 => ?_
        simp only [List.take_succ_cons, List.take_zero]
        go_simp
        refine Wcall (.inl rfl) (few_c _ s _ (hV.ext xw)) ?_
        rintro v w3 ⟨rfl, hE⟩
        go_simp
        refine hK1 _ _ ?_
        clear hK1 K1
        simp only [List.drop_succ_cons, List.drop_zero]
        have z55 := Below.size hE
        replace f5 := Ext.fz hE c5_0 f5
        replace f6 := Ext.fz hE c6_0 f6
        replace f7 := Ext.fz hE c7_0 f7
        replace xw := Ext.trans xw hE
        replace c5_0 := Ext.cell hE c5_0
        replace c5_1 := Ext.cell hE c5_1
        replace c6_0 := Ext.cell hE c6_0
        replace c6_1 := Ext.cell hE c6_1
        replace c6_2 := Ext.cell hE c6_2
        replace c6_3 := Ext.cell hE c6_3
        replace c7_0 := Ext.cell hE c7_0
        replace c7_1 := Ext.cell hE c7_1
        replace c7_2 := Ext.cell hE c7_2
        replace c7_3 := Ext.cell hE c7_3
        clear hE
        refine Wops.cut 4 fun K1 hK1 => ?_
        simp only [List.take_succ_cons, List.take_zero]
        go_simp
        refine Wcall (.inl rfl) (brief_c _ c _ (hU.ext xw)) ?_
        rintro v w4 ⟨rfl, hE⟩
        go_simp
        refine hK1 _ _ ?_
        clear hK1 K1
        simp only [List.drop_succ_cons, List.drop_zero]
        have z56 := Below.size hE
        replace f5 := Ext.fz hE c5_0 f5
        replace f6 := Ext.fz hE c6_0 f6
        replace f7 := Ext.fz hE c7_0 f7
        replace xw := Ext.trans xw hE
        replace c5_0 := Ext.cell hE c5_0
        replace c5_1 := Ext.cell hE c5_1
        replace c6_0 := Ext.cell hE c6_0
        replace c6_1 := Ext.cell hE c6_1
        replace c6_2 := Ext.cell hE c6_2
        replace c6_3 := Ext.cell hE c6_3
        replace c7_0 := Ext.cell hE c7_0
        replace c7_1 := Ext.cell hE c7_1
        replace c7_2 := Ext.cell hE c7_2
        replace c7_3 := Ext.cell hE c7_3
        clear hE
        refine Wops.cut 5 fun K1 hK1 => ?_
        simp only [List.take_succ_cons, List.take_zero]
        go_simp
        refine Wcall (.inl rfl) (brief_c _ d _ (hT.ext xw)) ?_
        rintro v w5 ⟨rfl, hE⟩
        go_simp
        refine hK1 _ _ ?_
        clear hK1 K1
        simp only [List.drop_succ_cons, List.drop_zero]
        have z57 := Below.size hE
        replace f5 := Ext.fz hE c5_0 f5
        replace f6 := Ext.fz hE c6_0 f6
        replace f7 := Ext.fz hE c7_0 f7
        replace xw := Ext.trans xw hE
        replace c5_0 := Ext.cell hE c5_0
        replace c5_1 := Ext.cell hE c5_1
        replace c6_0 := Ext.cell hE c6_0
        replace c6_1 := Ext.cell hE c6_1
        replace c6_2 := Ext.cell hE c6_2
        replace c6_3 := Ext.cell hE c6_3
        replace c7_0 := Ext.cell hE c7_0
        replace c7_1 := Ext.cell hE c7_1
        replace c7_2 := Ext.cell hE c7_2
        replace c7_3 := Ext.cell hE c7_3
        clear hE
        go_simp
        refine hK _ _ ?_
        clear hK K' gd g3 g8 g13 g18
        refine Wp.keep [3, 4, 5, 6, 7, 11, 51] fun r58 hkeep => ?_
        obtain ⟨e3_58, e4_58, e5_58, e6_58, e7_58, e11_58, e51_58, -⟩ := hkeep
        simp [go_sem, e3_4, e4_4, e5_4, e6_4, e7_4, e11_4] at e3_58 e4_58 e5_58 e6_58 e7_58 e11_58 e51_58
        clear e3_4 e4_4 e5_4 e6_4 e7_4 e11_4
        refine Wp.condT (by go_simp) ?_
        refine Wp.seqRegion (.inl rfl) (by kernel_rfl) fun K' gd hK hg => ?_
        clear hg
        go_simp
        refine hK _ _ ?_
        clear hK K' gd
        refine Wp.keep [10] fun r59 hkeep => ?_
        obtain ⟨e10_59, -⟩ := hkeep
        simp [go_sem, e3_58, e4_58, e5_58, e6_58, e7_58, e11_58, e51_58] at e10_59
        clear e3_58 e4_58 e5_58 e6_58 e7_58 e11_58 e51_58
        refine Wp.ret ?_
        refine thenK_ret ?_
        refine endK_tmp Try.results16 (by decide) ?_
        rw [e10_59]
        exact ⟨rfl, xw⟩
    · skip
      refine Wp.seq ?_
      refine Wp.seqRegion (.inl rfl) (by kernel_rfl) fun K' gd hK hg => ?_
      have g3 : gd 3 = some 32 := hg 3
      have g8 : gd 8 = some 37 := hg 8
      have g13 : gd 13 = some 42 := hg 13
      have g18 : gd 18 = some 47 := hg 18
      clear hg
      refine Wops.cut 2 fun K1 hK1 => ?_
      simp only [List.take_succ_cons, List.take_zero]
      go_simp
      refine Wcall (.inl rfl) (few_c _ s _ (hV.ext xw)) ?_
      rintro v w3 ⟨rfl, hE⟩
      go_simp
      refine hK1 _ _ ?_
      clear hK1 K1
      simp only [List.drop_succ_cons, List.drop_zero]
      have z60 := Below.size hE
      replace f5 := Ext.fz hE c5_0 f5
      replace f6 := Ext.fz hE c6_0 f6
      replace f7 := Ext.fz hE c7_0 f7
      replace xw := Ext.trans xw hE
      replace c5_0 := Ext.cell hE c5_0
      replace c5_1 := Ext.cell hE c5_1
      replace c6_0 := Ext.cell hE c6_0
      replace c6_1 := Ext.cell hE c6_1
      replace c6_2 := Ext.cell hE c6_2
      replace c6_3 := Ext.cell hE c6_3
      replace c7_0 := Ext.cell hE c7_0
      replace c7_1 := Ext.cell hE c7_1
      replace c7_2 := Ext.cell hE c7_2
      replace c7_3 := Ext.cell hE c7_3
      clear hE
      refine Wops.cut 4 fun K1 hK1 => ?_
      simp only [List.take_succ_cons, List.take_zero]
      go_simp
      refine Wcall (.inl rfl) (brief_c _ c _ (hU.ext xw)) ?_
      rintro v w4 ⟨rfl, hE⟩
      go_simp
      refine hK1 _ _ ?_
      clear hK1 K1
      simp only [List.drop_succ_cons, List.drop_zero]
      have z61 := Below.size hE
      replace f5 := Ext.fz hE c5_0 f5
      replace f6 := Ext.fz hE c6_0 f6
      replace f7 := Ext.fz hE c7_0 f7
      replace xw := Ext.trans xw hE
      replace c5_0 := Ext.cell hE c5_0
      replace c5_1 := Ext.cell hE c5_1
      replace c6_0 := Ext.cell hE c6_0
      replace c6_1 := Ext.cell hE c6_1
      replace c6_2 := Ext.cell hE c6_2
      replace c6_3 := Ext.cell hE c6_3
      replace c7_0 := Ext.cell hE c7_0
      replace c7_1 := Ext.cell hE c7_1
      replace c7_2 := Ext.cell hE c7_2
      replace c7_3 := Ext.cell hE c7_3
      clear hE
      refine Wops.cut 5 fun K1 hK1 => ?_
      simp only [List.take_succ_cons, List.take_zero]
      go_simp
      refine hK1 _ _ ?_
      clear hK1 K1
      simp only [List.drop_succ_cons, List.drop_zero]
      go_simp
      refine hK _ _ ?_
      clear hK K' gd g3 g8 g13 g18
      refine Wp.keep [3, 4, 5, 6, 7, 11, 51] fun r62 hkeep => ?_
      obtain ⟨e3_62, e4_62, e5_62, e6_62, e7_62, e11_62, e51_62, -⟩ := hkeep
      simp [go_sem, e3_4, e4_4, e5_4, e6_4, e7_4, e11_4] at e3_62 e4_62 e5_62 e6_62 e7_62 e11_62 e51_62
      clear e3_4 e4_4 e5_4 e6_4 e7_4 e11_4
      refine Wp.condT (by go_simp) ?_
      refine Wp.seqRegion (.inl rfl) (by kernel_rfl) fun K' gd hK hg => ?_
      clear hg
      go_simp
      refine hK _ _ ?_
      clear hK K' gd
      refine Wp.keep [10] fun r63 hkeep => ?_
      obtain ⟨e10_63, -⟩ := hkeep
      simp [go_sem, e3_62, e4_62, e5_62, e6_62, e7_62, e11_62, e51_62] at e10_63
      clear e3_62 e4_62 e5_62 e6_62 e7_62 e11_62 e51_62
      refine Wp.ret ?_
      refine thenK_ret ?_
      refine endK_tmp Try.results16 (by decide) ?_
      rw [e10_63]
      exact ⟨rfl, xw⟩
  · skip
    refine Wp.seq ?_
    refine Wp.seqRegion (.inl rfl) (by kernel_rfl) fun K' gd hK hg => ?_
    have g3 : gd 3 = some 32 := hg 3
    have g8 : gd 8 = some 37 := hg 8
    have g13 : gd 13 = some 42 := hg 13
    have g18 : gd 18 = some 47 := hg 18
    clear hg
    refine Wops.cut 2 fun K1 hK1 => ?_
    simp only [List.take_succ_cons, List.take_zero]
    go_simp
    refine Wcall (.inl rfl) (few_c _ s _ (hV.ext xw)) ?_
    rintro v w3 ⟨rfl, hE⟩
    go_simp
    refine hK1 _ _ ?_
    clear hK1 K1
    simp only [List.drop_succ_cons, List.drop_zero]
    have z64 := Below.size hE
    replace f5 := Ext.fz hE c5_0 f5
    replace f6 := Ext.fz hE c6_0 f6
    replace f7 := Ext.fz hE c7_0 f7
    replace xw := Ext.trans xw hE
    replace c5_0 := Ext.cell hE c5_0
    replace c5_1 := Ext.cell hE c5_1
    replace c6_0 := Ext.cell hE c6_0
    replace c6_1 := Ext.cell hE c6_1
    replace c6_2 := Ext.cell hE c6_2
    replace c6_3 := Ext.cell hE c6_3
    replace c7_0 := Ext.cell hE c7_0
    replace c7_1 := Ext.cell hE c7_1
    replace c7_2 := Ext.cell hE c7_2
    replace c7_3 := Ext.cell hE c7_3
    clear hE
    refine Wops.cut 4 fun K1 hK1 => ?_
    simp only [List.take_succ_cons, List.take_zero]
    go_simp
    refine hK1 _ _ ?_
    clear hK1 K1
    simp only [List.drop_succ_cons, List.drop_zero]
    refine Wops.cut 5 fun K1 hK1 => ?_
    simp only [List.take_succ_cons, List.take_zero]
    go_simp
    refine hK1 _ _ ?_
    clear hK1 K1
    simp only [List.drop_succ_cons, List.drop_zero]
    go_simp
    refine hK _ _ ?_
    clear hK K' gd g3 g8 g13 g18
    refine Wp.keep [3, 4, 5, 6, 7, 11, 51] fun r65 hkeep => ?_
    obtain ⟨e3_65, e4_65, e5_65, e6_65, e7_65, e11_65, e51_65, -⟩ := hkeep
    simp [go_sem, e3_4, e4_4, e5_4, e6_4, e7_4, e11_4] at e3_65 e4_65 e5_65 e6_65 e7_65 e11_65 e51_65
    clear e3_4 e4_4 e5_4 e6_4 e7_4 e11_4
    refine Wp.condT (by go_simp) ?_
    refine Wp.seqRegion (.inl rfl) (by kernel_rfl) fun K' gd hK hg => ?_
    clear hg
    go_simp
    refine hK _ _ ?_
    clear hK K' gd
    refine Wp.keep [10] fun r66 hkeep => ?_
    obtain ⟨e10_66, -⟩ := hkeep
    simp [go_sem, e3_65, e4_65, e5_65, e6_65, e7_65, e11_65, e51_65] at e10_66
    clear e3_65 e4_65 e5_65 e6_65 e7_65 e11_65 e51_65
    refine Wp.ret ?_
    refine thenK_ret ?_
    refine endK_tmp Try.results16 (by decide) ?_
    rw [e10_66]
    exact ⟨rfl, xw⟩
end Go.Proofs.Ytnjajbkkgfohaaa
