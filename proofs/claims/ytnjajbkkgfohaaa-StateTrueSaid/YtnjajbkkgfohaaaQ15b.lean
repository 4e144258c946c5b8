/- StateTrue. Small numbers and truths as arguments, opened. -/
import Derived.Test.YtnjajbkkgfohaaaQ15
import Derived.Test.YtnjajbkkgfohaaaP6
import Derived.OpenShut
set_option linter.all false
namespace Go.Proofs.Ytnjajbkkgfohaaa
open Go.RowKit Go.Wk Go.Proofs
attribute [local irreducible] Go.Wk.Wops Go.Wk.Wp Go.Wk.Mtree Go.Wk.Mops
set_option maxHeartbeats 8000000
set_option maxRecDepth 20000

/-- v reads in w as small numbers -/
def ByV (w : World) (v : Value) (xs : List Int) : Prop := ∃ (A : Option Addr) (c : Nat), v = .slice A xs.length c ∧ ∀ k, k < xs.length → ∃ b o, A = some ⟨b, o, none⟩ ∧ w.cell? ⟨b, o + k, none⟩ = some (.int .u8 (gI xs k)) ∧ 0 ≤ gI xs k ∧ gI xs k ≤ 255
/-- v reads in w as truths -/
def BoV (w : World) (v : Value) (xs : List Bool) : Prop := ∃ (A : Option Addr) (c : Nat), v = .slice A xs.length c ∧ ∀ k (h : k < xs.length), ∃ b o, A = some ⟨b, o, none⟩ ∧ w.cell? ⟨b, o + k, none⟩ = some (.bool xs[k])
def trueC (ws : List Int) (p : Nat) : Cp := ⟨ws, 0, 730, (p : Int)⟩
theorem trueC_V {W : World} {B : Nat} {A : Option Addr} {n k p : Nat} {ws : List Int} (h : OwnI W B (.slice A n k) ws) : CopyV W W.heap.size (.agg #[.slice A n k, .int .i64 0, .int .i64 730, .int .i64 (p : Int)]) (trueC ws p) := ⟨_, rfl, h.intsV⟩
theorem tmod_bd {a n : Int} (ha : 0 ≤ a) (hn : 0 < n) : ∃ m, a.tmod n = m ∧ 0 ≤ m ∧ m < n := by
  refine ⟨_, rfl, ?_, ?_⟩
  · rw [Int.tmod_eq_emod_of_nonneg ha]; exact Int.emod_nonneg a (by omega)
  · rw [Int.tmod_eq_emod_of_nonneg ha]; exact Int.emod_lt_of_pos a hn
theorem ins_T {x : Value} {xs : List (Int × Int)} {d : Int} (h : inside xs d) (w : World) (hx : SpansV w w.heap.size x xs) (hl : xs.length ≤ 1000000000000000) :
    CallsV Try.prog 36 #[x, .int .i64 d] w fun v w' => v = .bool true ∧ Ext w w' :=
  (inside_c x xs d w hx hl).mono fun v w' ⟨h1, h2⟩ => ⟨by rw [h1, decide_eq_true h], h2⟩
theorem hasT {x : Value} {xs : List Int} {d : Int} (h : d ∈ xs) (w : World) (hx : IntsV w w.heap.size x xs) (hl : xs.length ≤ 1000000000000000) :
    CallsV Try.prog 35 #[x, .int .i64 d] w fun v w' => v = .bool true ∧ Ext w w' :=
  (has_c x xs d w hx hl).mono fun v w' ⟨h1, h2⟩ => ⟨by rw [h1, decide_eq_true h], h2⟩
theorem hasF {x : Value} {xs : List Int} {d : Int} (h : ¬ d ∈ xs) (w : World) (hx : IntsV w w.heap.size x xs) (hl : xs.length ≤ 1000000000000000) :
    CallsV Try.prog 35 #[x, .int .i64 d] w fun v w' => v = .bool false ∧ Ext w w' :=
  (has_c x xs d w hx hl).mono fun v w' ⟨h1, h2⟩ => ⟨by rw [h1, decide_eq_false h], h2⟩
theorem besideI {w w' : World} {base : Nat} {v u : Value} {xs : List Int} (h : OwnI w base v xs) (hg : w.grownBy w' u.ownBlock) (hne : ∀ q, v.ownBlock = some q → u.ownBlock ≠ some q) : OwnI w' base v xs := by
  refine ownsRow_chg h (grown_chg hg) fun b hb hm => ?_
  have := hne b hb
  cases hu : u.ownBlock with
  | none => rw [hu] at hm; simp at hm
  | some q => rw [hu] at hm; simp at hm; subst hm; exact this hu
/-- what the law asks of days that are truly so -/
structure TrueK (s : Sh) (c : Cp) (dL : List Int) : Prop where
  c0 : copyS s c = 0
  fit : (s.md c).Fit (gI dL)
  be : begE s c = 0
  fl : (s.md c).first.length = s.n
  ll : (s.md c).last.length = s.n
  lo : ∀ i, i < s.n → gI (s.md c).first i ≤ gI dL i
  hi : ∀ i, i < s.n → gI dL i ≤ gI (s.md c).last i
  mono : ∀ i j, i ≤ j → j < s.n → gI dL i ≤ gI dL j
  long : (longS (s.md c)).1 ≤ gI dL (s.n - 1) - gI dL 0 ∧ gI dL (s.n - 1) - gI dL 0 ≤ (longS (s.md c)).2
  poss : ∀ i, i < s.n → possE s c i = 0 ∧ inside (possL s c i) (gI dL i) ∧ (possL s c i).length ≤ 1000
  maybe : ∀ a ∈ s.alts, a.day ≤ gI dL a.tu.toNat → a.id ∈ idsS s (seenP (s.md c).last)
  sure : ∀ a ∈ s.alts, ¬ a.day ≤ gI dL a.tu.toNat → ¬ a.id ∈ idsS s (seenP (s.md c).first)
theorem TrueI.know {s : Sh} {p : Nat} {nw : Int} {dL ws : List Int} (h : TrueI s p s.n nw dL ws) (hg : Good s) (hn8 : s.n ≤ 8) (hp : 1 ≤ p ∧ p ≤ 40) : TrueK s (trueC ws p) dL := by
  obtain ⟨h0, hfit, hbe⟩ := h.copy hg hn8 hp
  have hE := ends_of hbe
  obtain ⟨-, hm, hk, f1, l1, -, -⟩ := beg_know hbe
  have hn : (s.md ⟨ws, 0, 730, (p : Int)⟩).n = s.n := h.wl
  have hf := hE.fit _ hfit
  refine ⟨h0, hfit, hbe, f1, l1, fun i hi => (hf i hi).1, fun i hi => (hf i hi).2, fun i j h1 h2 => hfit.mono h1 (by rw [hn]; exact h2), ⟨?_, ?_⟩, fun i hi => ?_, fun a ha hd => ?_, fun a ha hd => ?_⟩
  · have := long_le hm hk hfit; rwa [hn] at this
  · have n1 := hm.n1
    rcases long_hi hm hk with e | ⟨e1, e2⟩
    · have q1 := (hf (s.n - 1) (by show s.n - 1 < s.n; omega)).2
      have q2 := (hf 0 (by show 0 < s.n; omega)).1
      show _ ≤ (longS (s.md ⟨ws, 0, 730, (p : Int)⟩)).2
      rw [e, hn]; omega
    · show _ ≤ (longS (s.md ⟨ws, 0, 730, (p : Int)⟩)).2
      rw [e2, show s.n - 1 = 0 by omega]; omega
  · have hc := (hfit i (by rw [hn]; exact hi)).2.2.1
    have hm2 := hm.many i
    refine ⟨?_, ?_, ?_⟩
    · unfold possE
      rw [if_pos (show copyS s (trueC ws p) = 0 from h0), if_pos (show 0 ≤ (i : Int) ∧ (i : Int) < (s.n : Int) from ⟨by omega, by omega⟩)]
      exact hbe
    · exact possF_in.2 ⟨hc, (hf i hi).1, (hf i hi).2⟩
    · exact Nat.le_trans (possF_len ..) hm2
  · rw [ids_mem hg.ids ha]
    have q := (hf _ (hE.tu a ha).1).2
    exact decide_eq_true (Int.le_trans hd q)
  · rw [ids_mem hg.ids ha]
    have q := (hf _ (hE.tu a ha).1).1
    unfold seenP
    rw [decide_eq_true_eq]
    exact fun q2 => hd (Int.le_trans q2 q)
theorem readE_zero3 {s : Sh} {i d : Int} : readE s i d = 0 ↔ lineS s i = 0 ∧ 0 ≤ d ∧ d ≤ 730 := by
  unfold readE
  by_cases h : lineS s i = 0
  · by_cases h2 : 0 ≤ d ∧ d ≤ 730
    · simp [h, h2]
    · rw [if_pos h, if_neg h2]; simp [h, h2]
  · simp [h]
theorem n1_ex {rs : List Int} {k : Nat} {nw : Int} (hb : k < rs.length → 0 ≤ gI rs k) : ∃ n1, ∃ _u : Unit, (nw ≤ n1 ∧ n1 ≤ nw + 19) ∧ (k < rs.length → n1 = nw + (gI rs k).tmod 20) ∧ (¬ k < rs.length → n1 = nw) := by
  by_cases q : k < rs.length
  · obtain ⟨m, e1, e2, e3⟩ := tmod_bd (hb q) (show (0 : Int) < 20 by omega)
    exact ⟨nw + m, (), by omega, fun _ => by rw [e1], fun z => absurd q z⟩
  · exact ⟨nw, (), by omega, fun z => absurd z q, fun _ => rfl⟩
theorem n2_ex {dL : List Int} {p k : Nat} {nw n1 : Int} (h1 : nw ≤ n1) (h2 : n1 ≤ nw + 19) (hd : p ≤ k → gI dL (k - p) ≤ nw) : ∃ n2, ∃ _u : Unit, (nw ≤ n2 ∧ n2 ≤ nw + 20) ∧ (p ≤ k → gI dL (k - p) < n2) ∧ (p ≤ k → n1 ≤ gI dL (k - p) → n2 = gI dL (k - p) + 1) ∧ ((p ≤ k → ¬ n1 ≤ gI dL (k - p)) → n2 = n1) := by
  by_cases q : p ≤ k ∧ n1 ≤ gI dL (k - p)
  · have := hd q.1
    exact ⟨gI dL (k - p) + 1, (), by omega, fun _ => by omega, fun _ _ => rfl, fun z => absurd q.2 (z q.1)⟩
  · refine ⟨n1, (), by omega, fun z => ?_, fun z1 z2 => absurd ⟨z1, z2⟩ q, fun _ => rfl⟩
    rcases Int.lt_or_le (gI dL (k - p)) n1 with r | r
    · exact r
    · exact absurd ⟨z, r⟩ q
theorem true_c (v rv pv : Value) (s : Sh) (bg pd : Int) (rs : List Int) (ps : List Bool) (w : World) (hV : SheetV w w.heap.size v s) (hb16 : 0 ≤ bg ∧ bg ≤ 65535) (hp8 : 0 ≤ pd ∧ pd ≤ 255) (hR : ByV w rv rs) (hP : BoV w pv ps) (hf : FitS s) {f3 f4 : Nat} (_h3 : rs.length ≤ f3) (_h4 : ps.length ≤ f4) :
    CallsV Try.prog 9 #[v, .int .u16 bg, .int .u8 pd, rv, pv] w fun v w' => v = .bool true ∧ Ext w w' := by
  obtain ⟨wv, av, rfl, ⟨A, c1, rfl, -, -⟩, hAl⟩ := id hV
  obtain ⟨A3, c3, rfl, -, -⟩ := id hAl
  obtain ⟨A4, c4, rfl, hrc⟩ := id hR
  obtain ⟨A5, c5, rfl, hpc⟩ := id hP
  clear _h3 _h4
  obtain ⟨m1, hm1, hm1b⟩ := tmod_bd hp8.1 (show (0 : Int) < 40 by omega)
  obtain ⟨m2, hm2, hm2b⟩ := tmod_bd hb16.1 (show (0 : Int) < 300 by omega)
  have hwpd : IntKind.i64.wrap pd = pd := IntWalk.i64_in _ (by omega)
  have hwbg : IntKind.i64.wrap bg = bg := IntWalk.i64_in _ (by omega)
  have hwm1 : IntKind.i64.wrap m1 = m1 := IntWalk.i64_in _ (by omega)
  have hwm2 : IntKind.i64.wrap m2 = m2 := IntWalk.i64_in _ (by omega)
  obtain ⟨pn, hpn⟩ : ∃ pn : Nat, ∃ _u : Unit, (pn : Int) = 1 + m1 := ⟨(1 + m1).toNat, (), by omega⟩
  have hwpn : IntKind.i64.wrap (1 + m1) = (pn : Int) := by have := hpn.choose_spec; rw [IntWalk.i64_in _ (by omega)]; omega
  have hp12 : 1 ≤ pn ∧ pn ≤ 40 := by have := hpn.choose_spec; omega
  refine Wp.fn Try.func9 rfl Try.ntmps9 (by simp) ?_
  have xw := Ext.refl w
  refine Wp.keep [0, 1, 2, 3, 4] fun r1 hkeep => ?_
  obtain ⟨e0_1, e1_1, e2_1, e3_1, e4_1, -⟩ := hkeep
  simp [go_sem] at e0_1 e1_1 e2_1 e3_1 e4_1
  refine Wp.seqRegion (.inl rfl) (by kernel_rfl) fun K' gd hK hg => ?_
  clear hg
  refine Wops.cut 1 fun K1 hK1 => ?_
  simp only [List.take_succ_cons, List.take_zero]
  go_simp
  refine hK1 _ _ ?_
  clear hK1 K1
  simp only [List.drop_succ_cons, List.drop_zero]
  refine Wops.absA fun V5_1 n5 hV5_1 => ?_
  obtain ⟨q5, hV5_1, s5, kV5_1, f5, r5⟩ := hV5_1
  try simp only [q5] at kV5_1 f5 r5 ⊢
  replace xw := Ext.trans xw hV5_1
  have c5_0 := kV5_1 0 _ rfl
  have c5_1 := kV5_1 1 _ rfl
  clear kV5_1 hV5_1
  clear r5
  go_simp
  refine hK _ _ ?_
  clear hK K' gd
  refine Wp.keep [1, 2, 3, 4, 5] fun r2 hkeep => ?_
  obtain ⟨e1_2, e2_2, e3_2, e4_2, e5_2, -⟩ := hkeep
  simp [go_sem, e0_1, e1_1, e2_1, e3_1, e4_1] at e1_2 e2_2 e3_2 e4_2 e5_2
  clear e0_1 e1_1 e2_1 e3_1 e4_1
  refine Wp.seqRegion (.inl rfl) (by kernel_rfl) fun K' gd hK hg => ?_
  clear hg
  refine Wops.cut 1 fun K1 hK1 => ?_
  simp only [List.take_succ_cons, List.take_zero]
  go_simp
  refine Wcall (.inl rfl) (head_c _) ?_
  rintro v w2 ⟨rfl, hE⟩
  go_simp
  refine hK1 _ _ ?_
  clear hK1 K1
  simp only [List.drop_succ_cons, List.drop_zero]
  have z3 := Below.size hE
  replace f5 := Ext.fz hE c5_0 f5
  replace xw := Ext.trans xw hE
  replace c5_0 := Ext.cell hE c5_0
  replace c5_1 := Ext.cell hE c5_1
  clear hE
  go_simp
  refine hK _ _ ?_
  clear hK K' gd
  refine Wp.keep [1, 2, 3, 4, 5, 11] fun r4 hkeep => ?_
  obtain ⟨e1_4, e2_4, e3_4, e4_4, e5_4, e11_4, -⟩ := hkeep
  simp [go_sem, e1_2, e2_2, e3_2, e4_2, e5_2] at e1_4 e2_4 e3_4 e4_4 e5_4 e11_4
  clear e1_2 e2_2 e3_2 e4_2 e5_2
  by_cases hfw : fewS s
  · skip
    by_cases hck : checkS s = 0
    · skip
      by_cases hrn : (8 : Int) < (rs.length : Int)
      · skip
        refine Wp.seq ?_
        refine Wp.seqRegion (.inl rfl) (by kernel_rfl) fun K' gd hK hg => ?_
        have g3 : gd 3 = some 43 := hg 3
        have g8 : gd 8 = some 48 := hg 8
        have g13 : gd 13 = some 53 := hg 13
        clear hg
        refine Wops.cut 2 fun K1 hK1 => ?_
        simp only [List.take_succ_cons, List.take_zero]
        go_simp
        refine Wcall (.inl rfl) (few_c _ s _ (hV.ext xw)) ?_
        rintro v w3 ⟨rfl, hE⟩
        go_simp
        refine hK1 _ _ ?_
        clear hK1 K1
        simp only [List.drop_succ_cons, List.drop_zero]
        have z5 := Below.size hE
        replace f5 := Ext.fz hE c5_0 f5
        replace xw := Ext.trans xw hE
        replace c5_0 := Ext.cell hE c5_0
        replace c5_1 := Ext.cell hE c5_1
        clear hE
        refine Wops.cut 4 fun K1 hK1 => ?_
        simp only [List.take_succ_cons, List.take_zero]
        go_simp
        refine Wcall (.inl rfl) (check_c _ s _ (hV.ext xw) hf) ?_
        rintro v w4 ⟨rfl, hE⟩
        go_simp
        refine hK1 _ _ ?_
        clear hK1 K1
        simp only [List.drop_succ_cons, List.drop_zero]
        have z6 := Below.size hE
        replace f5 := Ext.fz hE c5_0 f5
        replace xw := Ext.trans xw hE
        replace c5_0 := Ext.cell hE c5_0
        replace c5_1 := Ext.cell hE c5_1
        clear hE
        go_simp
        refine hK _ _ ?_
        clear hK K' gd g3 g8 g13
        refine Wp.keep [1, 2, 3, 4, 5, 11, 57] fun r7 hkeep => ?_
        obtain ⟨e1_7, e2_7, e3_7, e4_7, e5_7, e11_7, e57_7, -⟩ := hkeep
        simp [go_sem, e1_4, e2_4, e3_4, e4_4, e5_4, e11_4] at e1_7 e2_7 e3_7 e4_7 e5_7 e11_7 e57_7
        clear e1_4 e2_4 e3_4 e4_4 e5_4 e11_4
        refine Wp.condT (by go_simp) ?_
        refine Wp.seqRegion (.inl rfl) (by kernel_rfl) fun K' gd hK hg => ?_
        clear hg
        go_simp
        refine hK _ _ ?_
        clear hK K' gd
        refine Wp.keep [10] fun r8 hkeep => ?_
        obtain ⟨e10_8, -⟩ := hkeep
        simp [go_sem, e1_7, e2_7, e3_7, e4_7, e5_7, e11_7, e57_7] at e10_8
        clear e1_7 e2_7 e3_7 e4_7 e5_7 e11_7 e57_7
        refine Wp.ret ?_
        refine thenK_ret ?_
        refine endK_tmp Try.results9 (by decide) ?_
        rw [e10_8]
        exact ⟨rfl, xw⟩
      · skip
        by_cases hpn8 : (8 : Int) < (ps.length : Int)
        · skip
          refine Wp.seq ?_
          refine Wp.seqRegion (.inl rfl) (by kernel_rfl) fun K' gd hK hg => ?_
          have g3 : gd 3 = some 43 := hg 3
          have g8 : gd 8 = some 48 := hg 8
          have g13 : gd 13 = some 53 := hg 13
          clear hg
          refine Wops.cut 2 fun K1 hK1 => ?_
          simp only [List.take_succ_cons, List.take_zero]
          go_simp
          refine Wcall (.inl rfl) (few_c _ s _ (hV.ext xw)) ?_
          rintro v w3 ⟨rfl, hE⟩
          go_simp
          refine hK1 _ _ ?_
          clear hK1 K1
          simp only [List.drop_succ_cons, List.drop_zero]
          have z9 := Below.size hE
          replace f5 := Ext.fz hE c5_0 f5
          replace xw := Ext.trans xw hE
          replace c5_0 := Ext.cell hE c5_0
          replace c5_1 := Ext.cell hE c5_1
          clear hE
          refine Wops.cut 4 fun K1 hK1 => ?_
          simp only [List.take_succ_cons, List.take_zero]
          go_simp
          refine Wcall (.inl rfl) (check_c _ s _ (hV.ext xw) hf) ?_
          rintro v w4 ⟨rfl, hE⟩
          go_simp
          refine hK1 _ _ ?_
          clear hK1 K1
          simp only [List.drop_succ_cons, List.drop_zero]
          have z10 := Below.size hE
          replace f5 := Ext.fz hE c5_0 f5
          replace xw := Ext.trans xw hE
          replace c5_0 := Ext.cell hE c5_0
          replace c5_1 := Ext.cell hE c5_1
          clear hE
          go_simp
          refine hK _ _ ?_
          clear hK K' gd g3 g8 g13
          refine Wp.keep [1, 2, 3, 4, 5, 11, 57] fun r11 hkeep => ?_
          obtain ⟨e1_11, e2_11, e3_11, e4_11, e5_11, e11_11, e57_11, -⟩ := hkeep
          simp [go_sem, e1_4, e2_4, e3_4, e4_4, e5_4, e11_4] at e1_11 e2_11 e3_11 e4_11 e5_11 e11_11 e57_11
          clear e1_4 e2_4 e3_4 e4_4 e5_4 e11_4
          refine Wp.condT (by go_simp) ?_
          refine Wp.seqRegion (.inl rfl) (by kernel_rfl) fun K' gd hK hg => ?_
          clear hg
          go_simp
          refine hK _ _ ?_
          clear hK K' gd
          refine Wp.keep [10] fun r12 hkeep => ?_
          obtain ⟨e10_12, -⟩ := hkeep
          simp [go_sem, e1_11, e2_11, e3_11, e4_11, e5_11, e11_11, e57_11] at e10_12
          clear e1_11 e2_11 e3_11 e4_11 e5_11 e11_11 e57_11
          refine Wp.ret ?_
          refine thenK_ret ?_
          refine endK_tmp Try.results9 (by decide) ?_
          rw [e10_12]
          exact ⟨rfl, xw⟩
        · skip
          refine Wp.seq ?_
          refine Wp.seqRegion (.inl rfl) (by kernel_rfl) fun K' gd hK hg => ?_
          have g3 : gd 3 = some 43 := hg 3
          have g8 : gd 8 = some 48 := hg 8
          have g13 : gd 13 = some 53 := hg 13
          clear hg
          refine Wops.cut 2 fun K1 hK1 => ?_
          simp only [List.take_succ_cons, List.take_zero]
          go_simp
          refine Wcall (.inl rfl) (few_c _ s _ (hV.ext xw)) ?_
          rintro v w3 ⟨rfl, hE⟩
          go_simp
          refine hK1 _ _ ?_
          clear hK1 K1
          simp only [List.drop_succ_cons, List.drop_zero]
          have z13 := Below.size hE
          replace f5 := Ext.fz hE c5_0 f5
          replace xw := Ext.trans xw hE
          replace c5_0 := Ext.cell hE c5_0
          replace c5_1 := Ext.cell hE c5_1
          clear hE
          refine Wops.cut 4 fun K1 hK1 => ?_
          simp only [List.take_succ_cons, List.take_zero]
          go_simp
          refine Wcall (.inl rfl) (check_c _ s _ (hV.ext xw) hf) ?_
          rintro v w4 ⟨rfl, hE⟩
          go_simp
          refine hK1 _ _ ?_
          clear hK1 K1
          simp only [List.drop_succ_cons, List.drop_zero]
          have z14 := Below.size hE
          replace f5 := Ext.fz hE c5_0 f5
          replace xw := Ext.trans xw hE
          replace c5_0 := Ext.cell hE c5_0
          replace c5_1 := Ext.cell hE c5_1
          clear hE
          go_simp
          refine hK _ _ ?_
          clear hK K' gd g3 g8 g13
          refine Wp.keep [1, 2, 3, 4, 5, 11, 57] fun r15 hkeep => ?_
          obtain ⟨e1_15, e2_15, e3_15, e4_15, e5_15, e11_15, e57_15, -⟩ := hkeep
          simp [go_sem, e1_4, e2_4, e3_4, e4_4, e5_4, e11_4] at e1_15 e2_15 e3_15 e4_15 e5_15 e11_15 e57_15
          clear e1_4 e2_4 e3_4 e4_4 e5_4 e11_4
          refine Wp.condF (by go_simp) ?_
          have hgd := checkS_zero.1 hck
          have hn8 : s.words.length ≤ 8 := by have q1 := hgd.n2; have q2 := hfw.1; unfold Sh.n at q1; unfold fewN at q2; omega
          have hn1 : 1 ≤ s.words.length := hgd.n1
          have hm12 := few_alts hfw hgd
          refine Wp.skip ?_
          refine thenK_normal ?_
          refine Wp.seqRegion (.inl rfl) (by kernel_rfl) fun K' gd hK hg => ?_
          clear hg
          refine Wops.cut 7 fun K1 hK1 => ?_
          simp only [List.take_succ_cons, List.take_zero]
          go_simp
          refine hK1 _ _ ?_
          clear hK1 K1
          simp only [List.drop_succ_cons, List.drop_zero]
          refine Wops.absA fun V12_2 n12 hV12_2 => ?_
          obtain ⟨q12, hV12_2, s12, kV12_2, f12, r12⟩ := hV12_2
          try simp only [q12] at kV12_2 f12 r12 ⊢
          replace f5 := Ext.fz hV12_2 c5_0 f5
          replace xw := Ext.trans xw hV12_2
          replace c5_0 := Ext.cell hV12_2 c5_0
          replace c5_1 := Ext.cell hV12_2 c5_1
          have c12_0 := kV12_2 0 _ rfl
          have c12_1 := kV12_2 1 _ rfl
          have c12_2 := kV12_2 2 _ rfl
          have c12_3 := kV12_2 3 _ rfl
          clear kV12_2 hV12_2
          clear r12
          try simp only [Wops_nil, updO_some, updO_none]
          refine hK _ _ ?_
          clear hK K' gd
          refine Wp.keep [1, 3, 4, 5, 11, 12] fun r16 hkeep => ?_
          obtain ⟨e1_16, e3_16, e4_16, e5_16, e11_16, e12_16, -⟩ := hkeep
          simp [go_sem, e1_15, e2_15, e3_15, e4_15, e5_15, e11_15, e57_15] at e1_16 e3_16 e4_16 e5_16 e11_16 e12_16
          clear e1_15 e2_15 e3_15 e4_15 e5_15 e11_15 e57_15
          obtain ⟨B0, hB0⟩ : ∃ B0 : Nat, B0 = V12_2.heap.size := ⟨_, rfl⟩
          refine Wp.seqRegion (.inl rfl) (by kernel_rfl) fun K' gd hK hg => ?_
          clear hg
          go_simp
          refine hK _ _ ?_
          clear hK K' gd
          refine Wp.keep [3, 4, 5, 11, 12, 13] fun r17 hkeep => ?_
          obtain ⟨e3_17, e4_17, e5_17, e11_17, e12_17, e13_17, -⟩ := hkeep
          simp [go_sem, e1_16, e3_16, e4_16, e5_16, e11_16, e12_16] at e3_17 e4_17 e5_17 e11_17 e12_17 e13_17
          clear e1_16 e3_16 e4_16 e5_16 e11_16 e12_16
          refine Wp.seqRegion (.inl rfl) (by kernel_rfl) fun K' gd hK hg => ?_
          clear hg
          go_simp
          refine hK _ _ ?_
          clear hK K' gd
          refine Wp.keep [3, 4, 5, 11, 12, 13, 14] fun r18 hkeep => ?_
          obtain ⟨e3_18, e4_18, e5_18, e11_18, e12_18, e13_18, e14_18, -⟩ := hkeep
          simp [go_sem, e3_17, e4_17, e5_17, e11_17, e12_17, e13_17] at e3_18 e4_18 e5_18 e11_18 e12_18 e13_18 e14_18
          clear e3_17 e4_17 e5_17 e11_17 e12_17 e13_17
          refine Wp.seq ?_
          refine Wp.seqRegion (.inl rfl) (by kernel_rfl) fun K' gd hK hg => ?_
          clear hg
          go_simp
          refine hK _ _ ?_
          clear hK K' gd
          refine Wp.keep [3, 4, 5, 11, 12, 13, 14, 15] fun r19 hkeep => ?_
          obtain ⟨e3_19, e4_19, e5_19, e11_19, e12_19, e13_19, e14_19, e15_19, -⟩ := hkeep
          simp [go_sem, e3_18, e4_18, e5_18, e11_18, e12_18, e13_18, e14_18] at e3_19 e4_19 e5_19 e11_19 e12_19 e13_19 e14_19 e15_19
          clear e3_18 e4_18 e5_18 e11_18 e12_18 e13_18 e14_18
          refine Wp.block ?_
          refine Wp.loop (fun k ρ ds wk => AllEq [3, 4, 5, 11, 12] ρ r19 ∧ ds = [] ∧ (Chg [n12] V12_2 wk ∧ (∀ i, wk.frozen? ⟨n12, i, none⟩ = false)) ∧ (∃ a b nw dL ws, ρ 15 = .int .i64 (k : Int) ∧ ρ 13 = .int .i64 nw ∧ ρ 14 = a ∧ wk.cell? ⟨n12, 0, none⟩ = some b ∧ wk.cell? ⟨n12, 1, none⟩ = some (.int .i64 0) ∧ wk.cell? ⟨n12, 2, none⟩ = some (.int .i64 730) ∧ wk.cell? ⟨n12, 3, none⟩ = some (.int .i64 (pn : Int)) ∧ OwnI wk B0 a dL ∧ OwnI wk B0 b ws ∧ (∀ q, a.ownBlock = some q → b.ownBlock ≠ some q) ∧ (∃ _u : Unit, TrueI s pn k nw dL ws))) (s.words.length) ?_ ?_
          · refine ⟨AllEq.refl _ _, rfl, ⟨Chg.refl _ _, f12⟩, ?_⟩
            exact ⟨_, _, m2, [], [], by rw [e15_19]; rfl, e13_19, e14_19, c12_0, c12_1, c12_2, c12_3, World.ownsRow_nil _ _ _ _, World.ownsRow_nil _ _ _ _, (fun q h => by cases h), (), TrueI.nil hm2b.1 (by omega)⟩
          · rintro k r20 _ wk hk ⟨hA, rfl, ⟨xl3, gf12⟩, ⟨a14, b12, nw, dL, ws, e15, e13, e14, gc12_0, gc12_1, gc12_2, gc12_3, hL, hH, hne, hT⟩⟩
            obtain ⟨e3_20, e4_20, e5_20, e11_20, e12_20, -⟩ := hA
            rw [e3_19] at e3_20
            rw [e4_19] at e4_20
            rw [e5_19] at e5_20
            rw [e11_19] at e11_20
            rw [e12_19] at e12_20
            have zxl3 := Chg.size xl3
            replace f5 := Chg.fz xl3 c5_0 f5 XN
            clear f12
            replace xw := Chg.to xw xl3 XL
            replace c5_0 := Chg.cell xl3 c5_0 XN
            replace c5_1 := Chg.cell xl3 c5_1 XN
            clear c12_0
            clear c12_1
            clear c12_2
            clear c12_3
            have f12 := gf12
            clear gf12
            have c12_0 := gc12_0
            clear gc12_0
            have c12_1 := gc12_1
            clear gc12_1
            have c12_2 := gc12_2
            clear gc12_2
            have c12_3 := gc12_3
            clear gc12_3
            obtain ⟨A8, c8, rfl⟩ := OwnI.slice hL
            obtain ⟨A9, c9, rfl⟩ := OwnI.slice hH
            refine Wp.seq ?_
            refine Wp.seqRegion (.inl rfl) (by kernel_rfl) fun K' gd hK hg => ?_
            clear hg
            go_simp
            refine hK _ _ ?_
            clear hK K' gd
            refine Wp.keep [3, 4, 5, 11, 12, 13, 14, 15, 71] fun r21 hkeep => ?_
            obtain ⟨e3_21, e4_21, e5_21, e11_21, e12_21, e13_21, e14_21, e15_21, e71_21, -⟩ := hkeep
            simp [go_sem, e3_20, e4_20, e5_20, e11_20, e12_20, e13, e14, e15] at e3_21 e4_21 e5_21 e11_21 e12_21 e13_21 e14_21 e15_21 e71_21
            clear e3_20 e4_20 e5_20 e11_20 e12_20 e13 e14 e15
            by_cases h : k < s.words.length
            · refine Wp.condT (by go_simp) ?_
              have hdl : ∃ _u : Unit, dL.length = k ∧ ws.length = k := ⟨(), hT.choose_spec.dl, hT.choose_spec.wl⟩
              have hnw : 0 ≤ nw ∧ nw ≤ 500 := by have q1 := hT.choose_spec.n0; have q2 := hT.choose_spec.nb; omega
              obtain ⟨n1, hn1b⟩ : ∃ n1, ∃ _u : Unit, (nw ≤ n1 ∧ n1 ≤ nw + 19) ∧ (k < rs.length → n1 = nw + (gI rs k).tmod 20) ∧ (¬ k < rs.length → n1 = nw) := n1_ex fun q => by obtain ⟨b, o, -, -, q1, -⟩ := hrc k q; exact q1
              refine Wp.skip ?_
              refine thenK_normal ?_
              refine Wp.seq ?_
              refine Wp.block ?_
              refine Wp.seq ?_
              refine Wp.cut (fun ρ ds W => AllEq [3, 4, 5, 11, 12, 14, 15] ρ r21 ∧ ds = [] ∧ (Ext wk W) ∧ (ρ 13 = .int .i64 n1)) ?_ ?_
              · have xq4 := Ext.refl wk
                by_cases hk : k < rs.length
                · skip
                  obtain ⟨b, o, rfl, d1, hx0, hx1⟩ := hrc k hk
                  replace d1 := xw.cell d1
                  obtain ⟨x, hx⟩ : ∃ x, ∃ _u : Unit, gI rs k = x := ⟨_, (), rfl⟩
                  rw [hx.choose_spec] at d1 hx0 hx1
                  obtain ⟨m3, hm3, hm3b⟩ := tmod_bd hx0 (show (0 : Int) < 20 by omega)
                  have hwx : IntKind.i64.wrap x = x := IntWalk.i64_in _ (by omega)
                  have hwm3 : IntKind.i64.wrap m3 = m3 := IntWalk.i64_in _ (by omega)
                  have hws : IntKind.i64.wrap (nw + m3) = nw + m3 := IntWalk.i64_in _ (by omega)
                  have hkr : (k : Int) < (rs.length : Int) := by omega
                  have hn1e : ∃ _u : Unit, n1 = nw + m3 := ⟨(), by rw [hn1b.choose_spec.2.1 hk, hx.choose_spec, hm3]⟩
                  refine Wp.seqRegion (.inl rfl) (by kernel_rfl) fun K' gd hK hg => ?_
                  clear hg
                  go_simp
                  refine hK _ _ ?_
                  clear hK K' gd
                  refine Wp.keep [3, 4, 5, 11, 12, 13, 14, 15, 77] fun r22 hkeep => ?_
                  obtain ⟨e3_22, e4_22, e5_22, e11_22, e12_22, e13_22, e14_22, e15_22, e77_22, -⟩ := hkeep
                  simp [go_sem, e3_21, e4_21, e5_21, e11_21, e12_21, e13_21, e14_21, e15_21, e71_21] at e3_22 e4_22 e5_22 e11_22 e12_22 e13_22 e14_22 e15_22 e77_22
                  clear e13_21 e71_21
                  refine Wp.condT (by go_simp) ?_
                  refine Wp.loneRegion (.inl rfl) (by kernel_rfl) fun K' gd hK hg => ?_
                  clear hg
                  go_simp
                  refine hK _ _ ?_
                  clear hK K' gd
                  refine Ends.keep [3, 4, 5, 11, 12, 13, 14, 15] fun r23 hkeep => ?_
                  obtain ⟨e3_23, e4_23, e5_23, e11_23, e12_23, e13_23, e14_23, e15_23, -⟩ := hkeep
                  simp [go_sem, e3_22, e4_22, e5_22, e11_22, e12_22, e13_22, e14_22, e15_22, e77_22] at e3_23 e4_23 e5_23 e11_23 e12_23 e13_23 e14_23 e15_23
                  clear e3_22 e4_22 e5_22 e11_22 e12_22 e13_22 e14_22 e15_22 e77_22
                  refine Ends.mk ?_
                  refine cutK_normal ⟨⟨by rw [e3_23, e3_21], by rw [e4_23, e4_21], by rw [e5_23, e5_21], by rw [e11_23, e11_21], by rw [e12_23, e12_21], by rw [e14_23, e14_21], by rw [e15_23, e15_21], trivial⟩, rfl, xq4, ?_⟩
                  rw [hn1e.choose_spec]; exact e13_23
                · skip
                  refine Wp.seqRegion (.inl rfl) (by kernel_rfl) fun K' gd hK hg => ?_
                  clear hg
                  go_simp
                  refine hK _ _ ?_
                  clear hK K' gd
                  refine Wp.keep [3, 4, 5, 11, 12, 13, 14, 15, 77] fun r24 hkeep => ?_
                  obtain ⟨e3_24, e4_24, e5_24, e11_24, e12_24, e13_24, e14_24, e15_24, e77_24, -⟩ := hkeep
                  simp [go_sem, e3_21, e4_21, e5_21, e11_21, e12_21, e13_21, e14_21, e15_21, e71_21] at e3_24 e4_24 e5_24 e11_24 e12_24 e13_24 e14_24 e15_24 e77_24
                  clear e13_21 e71_21
                  refine Wp.condF (by go_simp) ?_
                  refine Wp.skip ?_
                  refine cutK_normal ⟨⟨by rw [e3_24, e3_21], by rw [e4_24, e4_21], by rw [e5_24, e5_21], by rw [e11_24, e11_21], by rw [e12_24, e12_21], by rw [e14_24, e14_21], by rw [e15_24, e15_21], trivial⟩, rfl, xq4, ?_⟩
                  rw [hn1b.choose_spec.2.2 hk]; exact e13_24
              · rintro r25 _ W4 ⟨hA, rfl, xq4, e13⟩
                obtain ⟨e3_25, e4_25, e5_25, e11_25, e12_25, e14_25, e15_25, -⟩ := hA
                rw [e3_21] at e3_25
                rw [e4_21] at e4_25
                rw [e5_21] at e5_25
                rw [e11_21] at e11_25
                rw [e12_21] at e12_25
                rw [e14_21] at e14_25
                rw [e15_21] at e15_25
                clear e3_21 e4_21 e5_21 e11_21 e12_21 e13_21 e14_21 e15_21 e71_21
                have zxq4 := Below.size xq4
                replace f5 := Ext.fz xq4 c5_0 f5
                replace f12 := Ext.fz xq4 c12_0 f12
                replace hL := hL.ext xq4
                replace hH := hH.ext xq4
                replace xw := Ext.trans xw xq4
                replace xl3 := Chg.ext xl3 xq4
                replace c5_0 := Ext.cell xq4 c5_0
                replace c5_1 := Ext.cell xq4 c5_1
                replace c12_0 := Ext.cell xq4 c12_0
                replace c12_1 := Ext.cell xq4 c12_1
                replace c12_2 := Ext.cell xq4 c12_2
                replace c12_3 := Ext.cell xq4 c12_3
                refine thenK_normal ?_
                obtain ⟨n2, hn2b⟩ : ∃ n2, ∃ _u : Unit, (nw ≤ n2 ∧ n2 ≤ nw + 20) ∧ (pn ≤ k → gI dL (k - pn) < n2) ∧ (pn ≤ k → n1 ≤ gI dL (k - pn) → n2 = gI dL (k - pn) + 1) ∧ ((pn ≤ k → ¬ n1 ≤ gI dL (k - pn)) → n2 = n1) := n2_ex hn1b.choose_spec.1.1 hn1b.choose_spec.1.2 (fun q => hT.choose_spec.le (k - pn) (by omega))
                refine Wp.seq ?_
                refine Wp.cut (fun ρ ds W => AllEq [3, 4, 5, 11, 12, 14, 15] ρ r25 ∧ ds = [] ∧ (Ext W4 W) ∧ (ρ 13 = .int .i64 n2)) ?_ ?_
                · have xq5 := Ext.refl W4
                  by_cases hpk : (pn : Int) ≤ (k : Int)
                  · skip
                    obtain ⟨r, hr⟩ : ∃ r : Nat, ∃ _u : Unit, r + pn = k := ⟨k - pn, (), by omega⟩
                    have hrr := hr.choose_spec
                    have hdd := hdl.choose_spec.1
                    obtain ⟨b9, c9', e9, hb9, hc9, hJ⟩ := OwnI.rowJ hL (by intro e; rw [e] at hdd; simp at hdd; omega)
                    injection e9 with q1 q2 q3
                    subst q1
                    subst q3
                    have dr := hJ.c r (by omega)
                    have hwr : IntKind.i64.wrap ((k : Int) - (pn : Int)) = (r : Int) := by rw [IntWalk.i64_in _ (by omega)]; omega
                    have hrl : (r : Int) < (dL.length : Int) := by omega
                    have hkr : ∃ _u : Unit, k - pn = r ∧ pn ≤ k := ⟨(), by omega⟩
                    have hrb := hT.choose_spec.le r (by omega)
                    have hrg := hT.choose_spec.ge r (by omega)
                    have hw9 : IntKind.i64.wrap (gI dL r + 1) = gI dL r + 1 := IntWalk.i64_in _ (by omega)
                    clear hrr hdd hJ
                    by_cases hge : n1 ≤ gI dL r
                    · skip
                      have hn2e : ∃ _u : Unit, n2 = gI dL r + 1 := ⟨(), by have q := hn2b.choose_spec.2.2.1 hkr.choose_spec.2 (by rw [hkr.choose_spec.1]; exact hge); rw [hkr.choose_spec.1] at q; exact q⟩
                      refine Wp.seqRegion (.inl rfl) (by kernel_rfl) fun K' gd hK hg => ?_
                      have g4 : gd 4 = some 90 := hg 4
                      clear hg
                      go_simp
                      refine hK _ _ ?_
                      clear hK K' gd g4
                      refine Wp.keep [3, 4, 5, 11, 12, 13, 14, 15, 100] fun r26 hkeep => ?_
                      obtain ⟨e3_26, e4_26, e5_26, e11_26, e12_26, e13_26, e14_26, e15_26, e100_26, -⟩ := hkeep
                      simp [go_sem, e3_25, e4_25, e5_25, e11_25, e12_25, e13, e14_25, e15_25] at e3_26 e4_26 e5_26 e11_26 e12_26 e13_26 e14_26 e15_26 e100_26
                      clear e13
                      refine Wp.condT (by go_simp) ?_
                      refine Wp.loneRegion (.inl rfl) (by kernel_rfl) fun K' gd hK hg => ?_
                      clear hg
                      go_simp
                      refine hK _ _ ?_
                      clear hK K' gd
                      refine Ends.keep [3, 4, 5, 11, 12, 13, 14, 15] fun r27 hkeep => ?_
                      obtain ⟨e3_27, e4_27, e5_27, e11_27, e12_27, e13_27, e14_27, e15_27, -⟩ := hkeep
                      simp [go_sem, e3_26, e4_26, e5_26, e11_26, e12_26, e13_26, e14_26, e15_26, e100_26] at e3_27 e4_27 e5_27 e11_27 e12_27 e13_27 e14_27 e15_27
                      clear e3_26 e4_26 e5_26 e11_26 e12_26 e13_26 e14_26 e15_26 e100_26
                      refine Ends.mk ?_
                      refine cutK_normal ⟨⟨by rw [e3_27, e3_25], by rw [e4_27, e4_25], by rw [e5_27, e5_25], by rw [e11_27, e11_25], by rw [e12_27, e12_25], by rw [e14_27, e14_25], by rw [e15_27, e15_25], trivial⟩, rfl, xq5, ?_⟩
                      rw [hn2e.choose_spec]; exact e13_27
                    · skip
                      have hn2e : ∃ _u : Unit, n2 = n1 := ⟨(), hn2b.choose_spec.2.2.2 (fun _ => by rw [hkr.choose_spec.1]; exact hge)⟩
                      refine Wp.seqRegion (.inl rfl) (by kernel_rfl) fun K' gd hK hg => ?_
                      have g4 : gd 4 = some 90 := hg 4
                      clear hg
                      go_simp
                      refine hK _ _ ?_
                      clear hK K' gd g4
                      refine Wp.keep [3, 4, 5, 11, 12, 13, 14, 15, 100] fun r28 hkeep => ?_
                      obtain ⟨e3_28, e4_28, e5_28, e11_28, e12_28, e13_28, e14_28, e15_28, e100_28, -⟩ := hkeep
                      simp [go_sem, e3_25, e4_25, e5_25, e11_25, e12_25, e13, e14_25, e15_25] at e3_28 e4_28 e5_28 e11_28 e12_28 e13_28 e14_28 e15_28 e100_28
                      clear e13
                      refine Wp.condF (by go_simp) ?_
                      refine Wp.skip ?_
                      refine cutK_normal ⟨⟨by rw [e3_28, e3_25], by rw [e4_28, e4_25], by rw [e5_28, e5_25], by rw [e11_28, e11_25], by rw [e12_28, e12_25], by rw [e14_28, e14_25], by rw [e15_28, e15_25], trivial⟩, rfl, xq5, ?_⟩
                      rw [hn2e.choose_spec]; exact e13_28
                  · skip
                    have hn2e : ∃ _u : Unit, n2 = n1 := ⟨(), hn2b.choose_spec.2.2.2 (fun z => absurd z (by omega))⟩
                    refine Wp.seqRegion (.inl rfl) (by kernel_rfl) fun K' gd hK hg => ?_
                    have g4 : gd 4 = some 90 := hg 4
                    clear hg
                    go_simp
                    refine hK _ _ ?_
                    clear hK K' gd g4
                    refine Wp.keep [3, 4, 5, 11, 12, 13, 14, 15, 100] fun r29 hkeep => ?_
                    obtain ⟨e3_29, e4_29, e5_29, e11_29, e12_29, e13_29, e14_29, e15_29, e100_29, -⟩ := hkeep
                    simp [go_sem, e3_25, e4_25, e5_25, e11_25, e12_25, e13, e14_25, e15_25] at e3_29 e4_29 e5_29 e11_29 e12_29 e13_29 e14_29 e15_29 e100_29
                    clear e13
                    refine Wp.condF (by go_simp) ?_
                    refine Wp.skip ?_
                    refine cutK_normal ⟨⟨by rw [e3_29, e3_25], by rw [e4_29, e4_25], by rw [e5_29, e5_25], by rw [e11_29, e11_25], by rw [e12_29, e12_25], by rw [e14_29, e14_25], by rw [e15_29, e15_25], trivial⟩, rfl, xq5, ?_⟩
                    rw [hn2e.choose_spec]; exact e13_29
                · clear e13
                  rintro r30 _ W5 ⟨hA, rfl, xq5, e13⟩
                  obtain ⟨e3_30, e4_30, e5_30, e11_30, e12_30, e14_30, e15_30, -⟩ := hA
                  rw [e3_25] at e3_30
                  rw [e4_25] at e4_30
                  rw [e5_25] at e5_30
                  rw [e11_25] at e11_30
                  rw [e12_25] at e12_30
                  rw [e14_25] at e14_30
                  rw [e15_25] at e15_30
                  clear e3_25 e4_25 e5_25 e11_25 e12_25 e14_25 e15_25
                  have zxq5 := Below.size xq5
                  replace f5 := Ext.fz xq5 c5_0 f5
                  replace f12 := Ext.fz xq5 c12_0 f12
                  replace hL := hL.ext xq5
                  replace hH := hH.ext xq5
                  replace xw := Ext.trans xw xq5
                  replace xl3 := Chg.ext xl3 xq5
                  replace c5_0 := Ext.cell xq5 c5_0
                  replace c5_1 := Ext.cell xq5 c5_1
                  replace c12_0 := Ext.cell xq5 c12_0
                  replace c12_1 := Ext.cell xq5 c12_1
                  replace c12_2 := Ext.cell xq5 c12_2
                  replace c12_3 := Ext.cell xq5 c12_3
                  refine thenK_normal ?_
                  have hn2c : 0 ≤ n2 ∧ n2 ≤ 600 := by have := hn2b.choose_spec.1; omega
                  have hre : readE s k n2 = 0 := readE_zero3.2 ⟨lineS_zero.2 ⟨hck, by omega, by unfold Sh.n; omega⟩, by omega, by omega⟩
                  obtain ⟨R, hRL⟩ : ∃ R, ∃ _u : Unit, readsL (s.on k n2) = R := ⟨_, (), rfl⟩
                  obtain ⟨w1, hw1⟩ : ∃ w1, ∃ _u : Unit, (s.can k n2 w1 = true ∧ 0 ≤ w1 ∧ w1 ≤ 9999) ∧ (R.length = 0 → w1 = 0) ∧ (0 < R.length → w1 = gI R 0) := by have fb := hgd.face (i := k) h n2; rw [← hRL.choose_spec]; rcases Nat.eq_zero_or_pos (readsL (s.on k n2)).length with q | q; exact ⟨0, (), ⟨readsL_none q, by omega⟩, fun _ => rfl, fun z => absurd q (by omega)⟩; exact ⟨_, (), ⟨readsL_mem q, readsL_bd fb.1 fb.2 q⟩, fun z => absurd q (by omega), fun _ => rfl⟩
                  have hw2 : ∃ _u : Unit, 1 < R.length → s.can k n2 (gI R 1) = true ∧ 0 ≤ gI R 1 ∧ gI R 1 ≤ 9999 := ⟨(), fun q => by have fb := hgd.face (i := k) h n2; rw [← hRL.choose_spec] at q ⊢; exact ⟨readsL_mem q, readsL_bd fb.1 fb.2 q⟩⟩
                  have hRl2 : R.length ≤ 2 := by rw [← hRL.choose_spec]; exact readsL_len _
                  refine Wp.seqRegion (.inl rfl) (by kernel_rfl) fun K' gd hK hg => ?_
                  clear hg
                  refine Wops.cut 4 fun K1 hK1 => ?_
                  simp only [List.take_succ_cons, List.take_zero]
                  go_simp
                  refine Wcall (.inl rfl) (Reads_c _ s k n2 _ (hV.ext xw) hf) ?_
                  rintro v w5 ⟨t16, hv5, hG, hE⟩
                  rw [hre] at hv5
                  subst hv5
                  rw [if_pos hre, Int.toNat_natCast, hRL.choose_spec] at hG
                  obtain ⟨A6, c6, rfl⟩ := OwnI.slice hG
                  go_simp
                  refine hK1 _ _ ?_
                  clear hK1 K1
                  simp only [List.drop_succ_cons, List.drop_zero]
                  have z31 := Below.size hE
                  replace f5 := Ext.fz hE c5_0 f5
                  replace f12 := Ext.fz hE c12_0 f12
                  replace hL := hL.ext hE
                  replace hH := hH.ext hE
                  replace xw := Ext.trans xw hE
                  replace xl3 := Chg.ext xl3 hE
                  replace c5_0 := Ext.cell hE c5_0
                  replace c5_1 := Ext.cell hE c5_1
                  replace c12_0 := Ext.cell hE c12_0
                  replace c12_1 := Ext.cell hE c12_1
                  replace c12_2 := Ext.cell hE c12_2
                  replace c12_3 := Ext.cell hE c12_3
                  clear hE
                  go_simp
                  refine hK _ _ ?_
                  clear hK K' gd
                  refine Wp.keep [3, 4, 5, 11, 12, 13, 14, 15, 16, 17] fun r32 hkeep => ?_
                  obtain ⟨e3_32, e4_32, e5_32, e11_32, e12_32, e13_32, e14_32, e15_32, e16_32, e17_32, -⟩ := hkeep
                  simp [go_sem, e3_30, e4_30, e5_30, e11_30, e12_30, e13, e14_30, e15_30] at e3_32 e4_32 e5_32 e11_32 e12_32 e13_32 e14_32 e15_32 e16_32 e17_32
                  clear e3_30 e4_30 e5_30 e11_30 e12_30 e13 e14_30 e15_30
                  refine Wp.seq ?_
                  refine Wp.seqRegion (.inl rfl) (by kernel_rfl) fun K' gd hK hg => ?_
                  clear hg
                  go_simp
                  refine hK _ _ ?_
                  clear hK K' gd
                  refine Wp.keep [3, 4, 5, 11, 12, 13, 14, 15, 16, 117] fun r33 hkeep => ?_
                  obtain ⟨e3_33, e4_33, e5_33, e11_33, e12_33, e13_33, e14_33, e15_33, e16_33, e117_33, -⟩ := hkeep
                  simp [go_sem, e3_32, e4_32, e5_32, e11_32, e12_32, e13_32, e14_32, e15_32, e16_32, e17_32] at e3_33 e4_33 e5_33 e11_33 e12_33 e13_33 e14_33 e15_33 e16_33 e117_33
                  clear e3_32 e4_32 e5_32 e11_32 e12_32 e13_32 e14_32 e15_32 e16_32 e17_32
                  refine Wp.condF (by go_simp) ?_
                  refine Wp.skip ?_
                  refine thenK_normal ?_
                  refine Wp.seqRegion (.inl rfl) (by kernel_rfl) fun K' gd hK hg => ?_
                  clear hg
                  go_simp
                  refine hK _ _ ?_
                  clear hK K' gd
                  refine Wp.keep [3, 4, 5, 11, 12, 13, 14, 15, 16, 18] fun r34 hkeep => ?_
                  obtain ⟨e3_34, e4_34, e5_34, e11_34, e12_34, e13_34, e14_34, e15_34, e16_34, e18_34, -⟩ := hkeep
                  simp [go_sem, e3_33, e4_33, e5_33, e11_33, e12_33, e13_33, e14_33, e15_33, e16_33, e117_33] at e3_34 e4_34 e5_34 e11_34 e12_34 e13_34 e14_34 e15_34 e16_34 e18_34
                  clear e3_33 e4_33 e5_33 e11_33 e12_33 e13_33 e14_33 e15_33 e16_33 e117_33
                  refine Wp.seq ?_
                  refine Wp.cut (fun ρ ds W => AllEq [3, 4, 5, 11, 12, 13, 14, 15, 16] ρ r34 ∧ ds = [] ∧ (Ext w5 W) ∧ (ρ 18 = .int .i64 w1)) ?_ ?_
                  · have xq6 := Ext.refl w5
                    by_cases hr0 : 0 < R.length
                    · skip
                      obtain ⟨b9, c9', e9, hb9, hc9, hJ⟩ := OwnI.rowJ hG (by intro e; rw [e] at hr0; simp at hr0)
                      injection e9 with q1 q2 q3
                      subst q1
                      subst q3
                      have z0 := hJ.c 0 hr0
                      have hr0i : (0 : Int) < (R.length : Int) := by omega
                      refine Wp.seqRegion (.inl rfl) (by kernel_rfl) fun K' gd hK hg => ?_
                      clear hg
                      go_simp
                      refine hK _ _ ?_
                      clear hK K' gd
                      refine Wp.keep [3, 4, 5, 11, 12, 13, 14, 15, 16, 18, 120] fun r35 hkeep => ?_
                      obtain ⟨e3_35, e4_35, e5_35, e11_35, e12_35, e13_35, e14_35, e15_35, e16_35, e18_35, e120_35, -⟩ := hkeep
                      simp [go_sem, e3_34, e4_34, e5_34, e11_34, e12_34, e13_34, e14_34, e15_34, e16_34, e18_34] at e3_35 e4_35 e5_35 e11_35 e12_35 e13_35 e14_35 e15_35 e16_35 e18_35 e120_35
                      clear e18_34
                      refine Wp.condT (by go_simp) ?_
                      refine Wp.loneRegion (.inl rfl) (by kernel_rfl) fun K' gd hK hg => ?_
                      clear hg
                      go_simp
                      refine hK _ _ ?_
                      clear hK K' gd
                      refine Ends.keep [3, 4, 5, 11, 12, 13, 14, 15, 16, 18] fun r36 hkeep => ?_
                      obtain ⟨e3_36, e4_36, e5_36, e11_36, e12_36, e13_36, e14_36, e15_36, e16_36, e18_36, -⟩ := hkeep
                      simp [go_sem, e3_35, e4_35, e5_35, e11_35, e12_35, e13_35, e14_35, e15_35, e16_35, e18_35, e120_35] at e3_36 e4_36 e5_36 e11_36 e12_36 e13_36 e14_36 e15_36 e16_36 e18_36
                      clear e3_35 e4_35 e5_35 e11_35 e12_35 e13_35 e14_35 e15_35 e16_35 e18_35 e120_35
                      refine Ends.mk ?_
                      refine cutK_normal ⟨⟨by rw [e3_36, e3_34], by rw [e4_36, e4_34], by rw [e5_36, e5_34], by rw [e11_36, e11_34], by rw [e12_36, e12_34], by rw [e13_36, e13_34], by rw [e14_36, e14_34], by rw [e15_36, e15_34], by rw [e16_36, e16_34], trivial⟩, rfl, xq6, ?_⟩
                      rw [hw1.choose_spec.2.2 hr0]; exact e18_36
                    · skip
                      have hr00 : R.length = 0 := by omega
                      refine Wp.seqRegion (.inl rfl) (by kernel_rfl) fun K' gd hK hg => ?_
                      clear hg
                      go_simp
                      refine hK _ _ ?_
                      clear hK K' gd
                      refine Wp.keep [3, 4, 5, 11, 12, 13, 14, 15, 16, 18, 120] fun r37 hkeep => ?_
                      obtain ⟨e3_37, e4_37, e5_37, e11_37, e12_37, e13_37, e14_37, e15_37, e16_37, e18_37, e120_37, -⟩ := hkeep
                      simp [go_sem, e3_34, e4_34, e5_34, e11_34, e12_34, e13_34, e14_34, e15_34, e16_34, e18_34] at e3_37 e4_37 e5_37 e11_37 e12_37 e13_37 e14_37 e15_37 e16_37 e18_37 e120_37
                      clear e18_34
                      refine Wp.condF (by go_simp) ?_
                      refine Wp.skip ?_
                      refine cutK_normal ⟨⟨by rw [e3_37, e3_34], by rw [e4_37, e4_34], by rw [e5_37, e5_34], by rw [e11_37, e11_34], by rw [e12_37, e12_34], by rw [e13_37, e13_34], by rw [e14_37, e14_34], by rw [e15_37, e15_34], by rw [e16_37, e16_34], trivial⟩, rfl, xq6, ?_⟩
                      rw [hw1.choose_spec.2.1 hr00]; exact e18_37
                  · rintro r38 _ W6 ⟨hA, rfl, xq6, e18⟩
                    obtain ⟨e3_38, e4_38, e5_38, e11_38, e12_38, e13_38, e14_38, e15_38, e16_38, -⟩ := hA
                    rw [e3_34] at e3_38
                    rw [e4_34] at e4_38
                    rw [e5_34] at e5_38
                    rw [e11_34] at e11_38
                    rw [e12_34] at e12_38
                    rw [e13_34] at e13_38
                    rw [e14_34] at e14_38
                    rw [e15_34] at e15_38
                    rw [e16_34] at e16_38
                    clear e3_34 e4_34 e5_34 e11_34 e12_34 e13_34 e14_34 e15_34 e16_34 e18_34
                    have zxq6 := Below.size xq6
                    replace f5 := Ext.fz xq6 c5_0 f5
                    replace f12 := Ext.fz xq6 c12_0 f12
                    replace hL := hL.ext xq6
                    replace hH := hH.ext xq6
                    replace hG := hG.ext xq6
                    replace xw := Ext.trans xw xq6
                    replace xl3 := Chg.ext xl3 xq6
                    replace c5_0 := Ext.cell xq6 c5_0
                    replace c5_1 := Ext.cell xq6 c5_1
                    replace c12_0 := Ext.cell xq6 c12_0
                    replace c12_1 := Ext.cell xq6 c12_1
                    replace c12_2 := Ext.cell xq6 c12_2
                    replace c12_3 := Ext.cell xq6 c12_3
                    refine thenK_normal ?_
                    refine Wp.seq ?_
                    refine Wp.cut (fun ρ ds W => AllEq [3, 4, 5, 11, 12, 13, 14, 15] ρ r38 ∧ ds = [] ∧ (Ext W6 W) ∧ (∃ wd, ρ 18 = .int .i64 wd ∧ (∃ _u : Unit, s.can k n2 wd = true ∧ 0 ≤ wd ∧ wd ≤ 9999))) ?_ ?_
                    · have xq7 := Ext.refl W6
                      by_cases hr1 : 1 < R.length
                      · skip
                        obtain ⟨b9, c9', e9, hb9, hc9, hJ⟩ := OwnI.rowJ hG (by intro e; rw [e] at hr1; simp at hr1)
                        injection e9 with q1 q2 q3
                        subst q1
                        subst q3
                        have z1 := hJ.c 1 hr1
                        have hr1i : (1 : Int) < (R.length : Int) := by omega
                        by_cases hkp : k < ps.length
                        · skip
                          obtain ⟨b, o, rfl, d1⟩ := hpc k hkp
                          replace d1 := xw.cell d1
                          have hkp2 : (k : Int) < (ps.length : Int) := by omega
                          by_cases hpk : ps[k] = true
                          · skip
                            refine Wp.seqRegion (.inl rfl) (by kernel_rfl) fun K' gd hK hg => ?_
                            have g3 : gd 3 = some 127 := hg 3
                            have g9 : gd 9 = some 133 := hg 9
                            clear hg
                            go_simp
                            refine hK _ _ ?_
                            clear hK K' gd g3 g9
                            refine Wp.keep [3, 4, 5, 11, 12, 13, 14, 15, 16, 18, 138] fun r39 hkeep => ?_
                            obtain ⟨e3_39, e4_39, e5_39, e11_39, e12_39, e13_39, e14_39, e15_39, e16_39, e18_39, e138_39, -⟩ := hkeep
                            simp [go_sem, e3_38, e4_38, e5_38, e11_38, e12_38, e13_38, e14_38, e15_38, e16_38, e18] at e3_39 e4_39 e5_39 e11_39 e12_39 e13_39 e14_39 e15_39 e16_39 e18_39 e138_39
                            clear e16_38 e18
                            refine Wp.condT (by go_simp) ?_
                            refine Wp.loneRegion (.inl rfl) (by kernel_rfl) fun K' gd hK hg => ?_
                            clear hg
                            go_simp
                            refine hK _ _ ?_
                            clear hK K' gd
                            refine Ends.keep [3, 4, 5, 11, 12, 13, 14, 15, 18] fun r40 hkeep => ?_
                            obtain ⟨e3_40, e4_40, e5_40, e11_40, e12_40, e13_40, e14_40, e15_40, e18_40, -⟩ := hkeep
                            simp [go_sem, e3_39, e4_39, e5_39, e11_39, e12_39, e13_39, e14_39, e15_39, e16_39, e18_39, e138_39] at e3_40 e4_40 e5_40 e11_40 e12_40 e13_40 e14_40 e15_40 e18_40
                            clear e3_39 e4_39 e5_39 e11_39 e12_39 e13_39 e14_39 e15_39 e16_39 e18_39 e138_39
                            refine Ends.mk ?_
                            refine cutK_normal ⟨⟨by rw [e3_40, e3_38], by rw [e4_40, e4_38], by rw [e5_40, e5_38], by rw [e11_40, e11_38], by rw [e12_40, e12_38], by rw [e13_40, e13_38], by rw [e14_40, e14_38], by rw [e15_40, e15_38], trivial⟩, rfl, xq7, ?_⟩
                            exact ⟨_, e18_40, (), hw2.choose_spec hr1⟩
                          · skip
                            have hpk2 : ps[k] = false := by simpa using hpk
                            refine Wp.seqRegion (.inl rfl) (by kernel_rfl) fun K' gd hK hg => ?_
                            have g3 : gd 3 = some 127 := hg 3
                            have g9 : gd 9 = some 133 := hg 9
                            clear hg
                            go_simp
                            refine hK _ _ ?_
                            clear hK K' gd g3 g9
                            refine Wp.keep [3, 4, 5, 11, 12, 13, 14, 15, 16, 18, 138] fun r41 hkeep => ?_
                            obtain ⟨e3_41, e4_41, e5_41, e11_41, e12_41, e13_41, e14_41, e15_41, e16_41, e18_41, e138_41, -⟩ := hkeep
                            simp [go_sem, e3_38, e4_38, e5_38, e11_38, e12_38, e13_38, e14_38, e15_38, e16_38, e18] at e3_41 e4_41 e5_41 e11_41 e12_41 e13_41 e14_41 e15_41 e16_41 e18_41 e138_41
                            clear e16_38 e18
                            refine Wp.condF (by go_simp) ?_
                            refine Wp.skip ?_
                            refine cutK_normal ⟨⟨by rw [e3_41, e3_38], by rw [e4_41, e4_38], by rw [e5_41, e5_38], by rw [e11_41, e11_38], by rw [e12_41, e12_38], by rw [e13_41, e13_38], by rw [e14_41, e14_38], by rw [e15_41, e15_38], trivial⟩, rfl, xq7, ?_⟩
                            exact ⟨_, e18_41, (), hw1.choose_spec.1⟩
                        · skip
                          refine Wp.seqRegion (.inl rfl) (by kernel_rfl) fun K' gd hK hg => ?_
                          have g3 : gd 3 = some 127 := hg 3
                          have g9 : gd 9 = some 133 := hg 9
                          clear hg
                          go_simp
                          refine hK _ _ ?_
                          clear hK K' gd g3 g9
                          refine Wp.keep [3, 4, 5, 11, 12, 13, 14, 15, 16, 18, 138] fun r42 hkeep => ?_
                          obtain ⟨e3_42, e4_42, e5_42, e11_42, e12_42, e13_42, e14_42, e15_42, e16_42, e18_42, e138_42, -⟩ := hkeep
                          simp [go_sem, e3_38, e4_38, e5_38, e11_38, e12_38, e13_38, e14_38, e15_38, e16_38, e18] at e3_42 e4_42 e5_42 e11_42 e12_42 e13_42 e14_42 e15_42 e16_42 e18_42 e138_42
                          clear e16_38 e18
                          refine Wp.condF (by go_simp) ?_
                          refine Wp.skip ?_
                          refine cutK_normal ⟨⟨by rw [e3_42, e3_38], by rw [e4_42, e4_38], by rw [e5_42, e5_38], by rw [e11_42, e11_38], by rw [e12_42, e12_38], by rw [e13_42, e13_38], by rw [e14_42, e14_38], by rw [e15_42, e15_38], trivial⟩, rfl, xq7, ?_⟩
                          exact ⟨_, e18_42, (), hw1.choose_spec.1⟩
                      · skip
                        have hr1i : ¬ (1 : Int) < (R.length : Int) := by omega
                        refine Wp.seqRegion (.inl rfl) (by kernel_rfl) fun K' gd hK hg => ?_
                        have g3 : gd 3 = some 127 := hg 3
                        have g9 : gd 9 = some 133 := hg 9
                        clear hg
                        go_simp
                        refine hK _ _ ?_
                        clear hK K' gd g3 g9
                        refine Wp.keep [3, 4, 5, 11, 12, 13, 14, 15, 16, 18, 138] fun r43 hkeep => ?_
                        obtain ⟨e3_43, e4_43, e5_43, e11_43, e12_43, e13_43, e14_43, e15_43, e16_43, e18_43, e138_43, -⟩ := hkeep
                        simp [go_sem, e3_38, e4_38, e5_38, e11_38, e12_38, e13_38, e14_38, e15_38, e16_38, e18] at e3_43 e4_43 e5_43 e11_43 e12_43 e13_43 e14_43 e15_43 e16_43 e18_43 e138_43
                        clear e16_38 e18
                        refine Wp.condF (by go_simp) ?_
                        refine Wp.skip ?_
                        refine cutK_normal ⟨⟨by rw [e3_43, e3_38], by rw [e4_43, e4_38], by rw [e5_43, e5_38], by rw [e11_43, e11_38], by rw [e12_43, e12_38], by rw [e13_43, e13_38], by rw [e14_43, e14_38], by rw [e15_43, e15_38], trivial⟩, rfl, xq7, ?_⟩
                        exact ⟨_, e18_43, (), hw1.choose_spec.1⟩
                    · clear e18
                      rintro r44 _ W7 ⟨hA, rfl, xq7, ⟨wd, e18, hwd⟩⟩
                      obtain ⟨e3_44, e4_44, e5_44, e11_44, e12_44, e13_44, e14_44, e15_44, -⟩ := hA
                      rw [e3_38] at e3_44
                      rw [e4_38] at e4_44
                      rw [e5_38] at e5_44
                      rw [e11_38] at e11_44
                      rw [e12_38] at e12_44
                      rw [e13_38] at e13_44
                      rw [e14_38] at e14_44
                      rw [e15_38] at e15_44
                      clear e3_38 e4_38 e5_38 e11_38 e12_38 e13_38 e14_38 e15_38 e16_38
                      have zxq7 := Below.size xq7
                      replace f5 := Ext.fz xq7 c5_0 f5
                      replace f12 := Ext.fz xq7 c12_0 f12
                      replace hL := hL.ext xq7
                      replace hH := hH.ext xq7
                      replace hG := hG.ext xq7
                      replace xw := Ext.trans xw xq7
                      replace xl3 := Chg.ext xl3 xq7
                      replace c5_0 := Ext.cell xq7 c5_0
                      replace c5_1 := Ext.cell xq7 c5_1
                      replace c12_0 := Ext.cell xq7 c12_0
                      replace c12_1 := Ext.cell xq7 c12_1
                      replace c12_2 := Ext.cell xq7 c12_2
                      replace c12_3 := Ext.cell xq7 c12_3
                      refine thenK_normal ?_
                      refine Wp.seqRegion (.inl rfl) (by kernel_rfl) fun K' gd hK hg => ?_
                      clear hg
                      refine Wops.cut 3 fun K1 hK1 => ?_
                      simp only [List.take_succ_cons, List.take_zero]
                      go_simp
                      refine hK1 _ _ ?_
                      clear hK1 K1
                      simp only [List.drop_succ_cons, List.drop_zero]
                      refine Wops.absA fun V144_8 n144 hV144_8 => ?_
                      obtain ⟨q144, hV144_8, s144, kV144_8, f144, r144⟩ := hV144_8
                      try simp only [q144] at kV144_8 f144 r144 ⊢
                      replace f5 := Ext.fz hV144_8 c5_0 f5
                      replace f12 := Ext.fz hV144_8 c12_0 f12
                      replace hL := hL.ext hV144_8
                      replace hH := hH.ext hV144_8
                      replace hG := hG.ext hV144_8
                      replace xw := Ext.trans xw hV144_8
                      replace xl3 := Chg.ext xl3 hV144_8
                      replace c5_0 := Ext.cell hV144_8 c5_0
                      replace c5_1 := Ext.cell hV144_8 c5_1
                      replace c12_0 := Ext.cell hV144_8 c12_0
                      replace c12_1 := Ext.cell hV144_8 c12_1
                      replace c12_2 := Ext.cell hV144_8 c12_2
                      replace c12_3 := Ext.cell hV144_8 c12_3
                      clear hV144_8 f144
                      have c144_0 := kV144_8 0 _ rfl
                      clear kV144_8
                      refine Wops.cut 1 fun K1 hK1 => ?_
                      simp only [List.take_succ_cons, List.take_zero]
                      obtain ⟨v', w7, hrun, hL2, hgr, hat⟩ := app_run2 ints_T hL ⟨n144, 0, none⟩ 1 1 [.int .i64 n2] 22 rfl (news_one c144_0) (one_one rfl) (by have := hdl.choose_spec.1; omega) (by omega)
                      refine Wops.law rfl (exec_append2 rfl hrun (by go_simp) (by go_simp)) ?_
                      simp only [updO_some, Wops_nil]
                      refine hK1 _ _ ?_
                      clear hK1 K1
                      simp only [List.drop_succ_cons, List.drop_zero]
                      have z45 := World.grownBy.size hgr
                      replace f5 := Chg.fz (grown_chg hgr) c5_0 f5 (lt_off (World.ownsRow.lt hL) (by omega))
                      replace f12 := Chg.fz (grown_chg hgr) c12_0 f12 (lt_off (World.ownsRow.lt hL) (by omega))
                      replace xw := Chg.to xw (grown_chg hgr) (lt_ge (World.ownsRow.lt hL) (by omega))
                      replace xl3 := Chg.more xl3 (grown_chg hgr) (by first | exact lt_gm (World.ownsRow.lt hL) (by omega) | simp)
                      replace c5_0 := Chg.cell (grown_chg hgr) c5_0 (lt_off (World.ownsRow.lt hL) (by omega))
                      replace c5_1 := Chg.cell (grown_chg hgr) c5_1 (lt_off (World.ownsRow.lt hL) (by omega))
                      replace c12_0 := Chg.cell (grown_chg hgr) c12_0 (lt_off (World.ownsRow.lt hL) (by omega))
                      replace c12_1 := Chg.cell (grown_chg hgr) c12_1 (lt_off (World.ownsRow.lt hL) (by omega))
                      replace c12_2 := Chg.cell (grown_chg hgr) c12_2 (lt_off (World.ownsRow.lt hL) (by omega))
                      replace c12_3 := Chg.cell (grown_chg hgr) c12_3 (lt_off (World.ownsRow.lt hL) (by omega))
                      have hH2 := besideI hH hgr (fun q hq hq2 => hne q hq2 hq)
                      have hne2 : ∀ q, v'.ownBlock = some q → (Value.slice A9 ws.length c9).ownBlock ≠ some q := fun q hq hq2 => by have q1 := (World.ownsRow.lt hH q hq2).2; rcases hat with h | h; (rw [h] at hq; exact hne q hq hq2); (rw [h] at hq; injection hq with hq; omega)
                      go_simp
                      refine hK _ _ ?_
                      clear hK K' gd
                      refine Wp.keep [3, 4, 5, 11, 12, 13, 14, 15, 18] fun r46 hkeep => ?_
                      obtain ⟨e3_46, e4_46, e5_46, e11_46, e12_46, e13_46, e14_46, e15_46, e18_46, -⟩ := hkeep
                      simp [go_sem, e3_44, e4_44, e5_44, e11_44, e12_44, e13_44, e14_44, e15_44, e18] at e3_46 e4_46 e5_46 e11_46 e12_46 e13_46 e14_46 e15_46 e18_46
                      clear e3_44 e4_44 e5_44 e11_44 e12_44 e13_44 e14_44 e15_44 e18
                      obtain ⟨A10, c10, rfl⟩ : ∃ A c, v' = .slice A (dL.length + 1) c := by rcases hL2.2 with ⟨-, e⟩ | ⟨g, cap, cur, e, -⟩; omega; exact ⟨_, _, e⟩
                      refine Wp.loneRegion (.inl rfl) (by kernel_rfl) fun K' gd hK hg => ?_
                      clear hg
                      refine Wops.cut 4 fun K1 hK1 => ?_
                      simp only [List.take_succ_cons, List.take_zero]
                      go_simp
                      refine hK1 _ _ ?_
                      clear hK1 K1
                      simp only [List.drop_succ_cons, List.drop_zero]
                      refine Wops.absA fun V149_9 n149 hV149_9 => ?_
                      obtain ⟨q149, hV149_9, s149, kV149_9, f149, r149⟩ := hV149_9
                      try simp only [q149] at kV149_9 f149 r149 ⊢
                      replace f5 := Ext.fz hV149_9 c5_0 f5
                      replace f12 := Ext.fz hV149_9 c12_0 f12
                      replace hL2 := hL2.ext hV149_9
                      replace hH2 := hH2.ext hV149_9
                      replace xw := Ext.trans xw hV149_9
                      replace xl3 := Chg.ext xl3 hV149_9
                      replace c5_0 := Ext.cell hV149_9 c5_0
                      replace c5_1 := Ext.cell hV149_9 c5_1
                      replace c12_0 := Ext.cell hV149_9 c12_0
                      replace c12_1 := Ext.cell hV149_9 c12_1
                      replace c12_2 := Ext.cell hV149_9 c12_2
                      replace c12_3 := Ext.cell hV149_9 c12_3
                      clear hV149_9 f149
                      have c149_0 := kV149_9 0 _ rfl
                      clear kV149_9
                      refine Wops.cut 1 fun K1 hK1 => ?_
                      simp only [List.take_succ_cons, List.take_zero]
                      obtain ⟨v2, w8, hrun, hH3, hgr, hat⟩ := app_run2 ints_T hH2 ⟨n149, 0, none⟩ 1 1 [.int .i64 wd] 22 rfl (news_one c149_0) (one_one rfl) (by have := hdl.choose_spec.2; omega) (by omega)
                      refine Wops.law rfl (exec_append2 rfl hrun (by go_simp) (by go_simp)) ?_
                      simp only [updO_some, Wops_nil]
                      refine hK1 _ _ ?_
                      clear hK1 K1
                      simp only [List.drop_succ_cons, List.drop_zero]
                      have z47 := World.grownBy.size hgr
                      replace f5 := Chg.fz (grown_chg hgr) c5_0 f5 (lt_off (World.ownsRow.lt hH2) (by omega))
                      replace f12 := Chg.fz (grown_chg hgr) c12_0 f12 (lt_off (World.ownsRow.lt hH2) (by omega))
                      replace xw := Chg.to xw (grown_chg hgr) (lt_ge (World.ownsRow.lt hH2) (by omega))
                      replace xl3 := Chg.more xl3 (grown_chg hgr) (by first | exact lt_gm (World.ownsRow.lt hH2) (by omega) | simp)
                      replace c5_0 := Chg.cell (grown_chg hgr) c5_0 (lt_off (World.ownsRow.lt hH2) (by omega))
                      replace c5_1 := Chg.cell (grown_chg hgr) c5_1 (lt_off (World.ownsRow.lt hH2) (by omega))
                      replace c12_0 := Chg.cell (grown_chg hgr) c12_0 (lt_off (World.ownsRow.lt hH2) (by omega))
                      replace c12_1 := Chg.cell (grown_chg hgr) c12_1 (lt_off (World.ownsRow.lt hH2) (by omega))
                      replace c12_2 := Chg.cell (grown_chg hgr) c12_2 (lt_off (World.ownsRow.lt hH2) (by omega))
                      replace c12_3 := Chg.cell (grown_chg hgr) c12_3 (lt_off (World.ownsRow.lt hH2) (by omega))
                      have hL3 := besideI (xs := dL ++ [n2]) (by unfold OwnI; rw [encI_add, List.length_append]; exact hL2) hgr hne2
                      have hne3 : ∀ q, (Value.slice A10 (dL.length + 1) c10).ownBlock = some q → v2.ownBlock ≠ some q := fun q hq hq2 => by have q1 := (World.ownsRow.lt hL2 q hq).2; rcases hat with h | h; (rw [h] at hq2; exact hne2 q hq hq2); (rw [h] at hq2; injection hq2 with hq2; omega)
                      obtain ⟨A11, c11, rfl⟩ : ∃ A c, v2 = .slice A (ws.length + 1) c := by rcases hH3.2 with ⟨-, e⟩ | ⟨g, cap, cur, e, -⟩; omega; exact ⟨_, _, e⟩
                      refine Wops.cut 2 fun K1 hK1 => ?_
                      simp only [List.take_succ_cons, List.take_zero]
                      go_simp
                      refine hK1 _ _ ?_
                      clear hK1 K1
                      simp only [List.drop_succ_cons, List.drop_zero]
                      refine Wops.absS (b := n12) (i := 0) [_] (somes [cellVal c12_0] (by simp) (by intro j v hj; match j, hj with | 0, hj => (simp at hj; subst hj; exact c12_0))) fun P10 hP10 => ?_
                      have zP10 := hP10.same
                      replace f5 := Put.frz hP10 f5
                      replace f12 := Put.frz hP10 f12
                      replace hL3 := hL3.put hP10 (by omega)
                      replace hH3 := hH3.put hP10 (by omega)
                      replace xw := Put.to xw hP10 (by omega)
                      replace xl3 := Put.more xl3 hP10 (.inr (by simp))
                      replace c5_0 := Put.cell hP10 c5_0 (by omega)
                      replace c5_1 := Put.cell hP10 c5_1 (by omega)
                      clear c12_0
                      replace c12_1 := Put.cellOff hP10 c12_1 (by simp)
                      replace c12_2 := Put.cellOff hP10 c12_2 (by simp)
                      replace c12_3 := Put.cellOff hP10 c12_3 (by simp)
                      have c12_0 := hP10.new 0 _ rfl
                      try simp only [Nat.reduceAdd, Nat.zero_add, Nat.add_zero] at c12_0
                      clear hP10
                      try simp only [Wops_nil, updO_some, updO_none]
                      refine hK _ _ ?_
                      clear hK K' gd
                      refine Ends.keep [3, 4, 5, 11, 12, 13, 14, 15] fun r48 hkeep => ?_
                      obtain ⟨e3_48, e4_48, e5_48, e11_48, e12_48, e13_48, e14_48, e15_48, -⟩ := hkeep
                      simp [go_sem, e3_46, e4_46, e5_46, e11_46, e12_46, e13_46, e14_46, e15_46, e18_46] at e3_48 e4_48 e5_48 e11_48 e12_48 e13_48 e14_48 e15_48
                      clear e3_46 e4_46 e5_46 e11_46 e12_46 e13_46 e14_46 e15_46 e18_46
                      refine Ends.mk ?_
                      refine blockK_normal ?_
                      refine thenK_normal ?_
                      refine Wp.loneRegion (.inl rfl) (by kernel_rfl) fun K' gd hK hg => ?_
                      clear hg
                      go_simp
                      refine hK _ _ ?_
                      clear hK K' gd
                      refine Ends.keep [3, 4, 5, 11, 12, 13, 14, 15] fun r49 hkeep => ?_
                      obtain ⟨e3_49, e4_49, e5_49, e11_49, e12_49, e13_49, e14_49, e15_49, -⟩ := hkeep
                      simp [go_sem, e3_48, e4_48, e5_48, e11_48, e12_48, e13_48, e14_48, e15_48] at e3_49 e4_49 e5_49 e11_49 e12_49 e13_49 e14_49 e15_49
                      clear e3_48 e4_48 e5_48 e11_48 e12_48 e13_48 e14_48 e15_48
                      refine Ends.mk ?_
                      refine thenK_normal ⟨by omega, ⟨by rw [e3_49, e3_19], by rw [e4_49, e4_19], by rw [e5_49, e5_19], by rw [e11_49, e11_19], by rw [e12_49, e12_19], trivial⟩, rfl, ⟨xl3, f12⟩, ?_⟩
                      exact ⟨_, _, n2, dL ++ [n2], ws ++ [wd], by rw [e15_49, IntWalk.i64_in _ (by omega)]; rfl, e13_49, e14_49, c12_0, c12_1, c12_2, c12_3, hL3, by unfold OwnI; rw [encI_add, List.length_append]; exact hH3, hne3, (), hT.choose_spec.step hp12.1 hn2b.choose_spec.1.1 hn2b.choose_spec.1.2 hn2b.choose_spec.2.1 hwd.choose_spec.1 hwd.choose_spec.2⟩
            · refine Wp.condF (by go_simp) ?_
              obtain rfl : k = s.words.length := by omega
              have hK9 := hT.choose_spec.know hgd hn8 hp12
              have hdl : ∃ _u : Unit, dL.length = s.n ∧ ws.length = s.n := ⟨(), hT.choose_spec.dl, hT.choose_spec.wl⟩
              have hfc : FitC (trueC ws pn) := by have := hdl.choose_spec.2; unfold FitC; show ws.length ≤ _; unfold Sh.n at this; omega
              have hrg : ∃ _u : Unit, ∀ i, i < s.n → 0 ≤ gI dL i ∧ gI dL i ≤ 600 := ⟨(), fun i hi => ⟨hT.choose_spec.ge i hi, by have q1 := hT.choose_spec.le i hi; have q2 := hT.choose_spec.nb; omega⟩⟩
              have g0 := hK9.c0
              have g1 := hK9.fit
              have g2 : ∃ _u : Unit, begE s (trueC ws pn) = 0 := ⟨(), hK9.be⟩
              have g3 : ∃ _u : Unit, (s.md (trueC ws pn)).first.length = s.n ∧ (s.md (trueC ws pn)).last.length = s.n := ⟨(), hK9.fl, hK9.ll⟩
              have g4 : ∃ _u : Unit, (∀ i, i < s.n → gI (s.md (trueC ws pn)).first i ≤ gI dL i) ∧ (∀ i, i < s.n → gI dL i ≤ gI (s.md (trueC ws pn)).last i) := ⟨(), hK9.lo, hK9.hi⟩
              have g5 : ∃ _u : Unit, ∀ i, i < s.n → possE s (trueC ws pn) i = 0 ∧ inside (possL s (trueC ws pn) i) (gI dL i) ∧ (possL s (trueC ws pn) i).length ≤ 1000 := ⟨(), hK9.poss⟩
              obtain ⟨lo, hlo⟩ : ∃ lo, ∃ _u : Unit, (longS (s.md (trueC ws pn))).1 = lo := ⟨_, (), rfl⟩
              obtain ⟨hi, hhi⟩ : ∃ hi, ∃ _u : Unit, (longS (s.md (trueC ws pn))).2 = hi := ⟨_, (), rfl⟩
              have g6 : ∃ _u : Unit, lo ≤ gI dL (s.n - 1) - gI dL 0 ∧ gI dL (s.n - 1) - gI dL 0 ≤ hi := ⟨(), by rw [← hlo.choose_spec, ← hhi.choose_spec]; exact hK9.long⟩
              have g7 : ∃ _u : Unit, ∀ i j, i ≤ j → j < s.n → gI dL i ≤ gI dL j := ⟨(), hK9.mono⟩
              obtain ⟨l1, hl1⟩ : ∃ l, ∃ _u : Unit, idsS s (seenP (s.md (trueC ws pn)).first) = l ∧ l.length ≤ 1000000000000000 := ⟨_, (), rfl, Nat.le_trans ids_len hf.2⟩
              obtain ⟨l2, hl2⟩ : ∃ l, ∃ _u : Unit, idsS s (seenP (s.md (trueC ws pn)).last) = l ∧ l.length ≤ 1000000000000000 := ⟨_, (), rfl, Nat.le_trans ids_len hf.2⟩
              have g8 : ∃ _u : Unit, (∀ a ∈ s.alts, a.day ≤ gI dL a.tu.toNat → a.id ∈ l2) ∧ (∀ a ∈ s.alts, ¬ a.day ≤ gI dL a.tu.toNat → ¬ a.id ∈ l1) := ⟨(), by rw [← hl2.choose_spec.1]; exact hK9.maybe, by rw [← hl1.choose_spec.1]; exact hK9.sure⟩
              have htu := (ends_of hK9.be).tu
              have hrt := hgd.rt
              clear hK9 hT
              obtain ⟨q, hq⟩ : ∃ q : Nat, ∃ _u : Unit, q + 1 = dL.length := ⟨dL.length - 1, (), by have := hdl.choose_spec.1; unfold Sh.n at this; omega⟩
              obtain ⟨b9, c9', e9, hb9, hc9, hJ⟩ := OwnI.rowJ hL (by intro e; have q1 := hq.choose_spec; rw [e] at q1; simp at q1)
              injection e9 with q1 q2 q3
              subst q1
              subst q3
              have dq := hJ.c q (by have := hq.choose_spec; omega)
              have dz := hJ.c 0 (by have := hq.choose_spec; omega)
              have hqn : ∃ _u : Unit, s.n - 1 = q ∧ q < s.n := ⟨(), by have q1 := hq.choose_spec; have q2 := hdl.choose_spec.1; omega⟩
              have hwq : IntKind.i64.wrap ((dL.length : Int) - 1) = (q : Int) := by have := hq.choose_spec; have q2 := hdl.choose_spec.1; unfold Sh.n at q2; rw [IntWalk.i64_in _ (by omega)]; omega
              have hqd : (q : Int) < (dL.length : Int) := by have := hq.choose_spec; omega
              have h0d : (0 : Int) < (dL.length : Int) := by omega
              have h0d2 : 0 < dL.length := by omega
              obtain ⟨tk, htk⟩ : ∃ tk, ∃ _u : Unit, gI dL q - gI dL 0 = tk := ⟨_, (), rfl⟩
              have hwt : IntKind.i64.wrap (gI dL q - gI dL 0) = tk := by have r1 := hrg.choose_spec q hqn.choose_spec.2; have r2 := hrg.choose_spec 0 (by have := hqn.choose_spec.2; omega); rw [IntWalk.i64_in _ (by omega)]; exact htk.choose_spec
              have ht1 : ¬ tk < lo := by have r := g6.choose_spec.1; rw [hqn.choose_spec.1, htk.choose_spec] at r; omega
              have ht2 : ¬ hi < tk := by have r := g6.choose_spec.2; rw [hqn.choose_spec.1, htk.choose_spec] at r; omega
              have hds8 : dL.length ≤ 8 := by have := hdl.choose_spec.1; unfold Sh.n at this; omega
              refine Wp.exit ?_
              refine thenK_exit ?_
              refine thenK_exit ?_
              refine blockK_here ?_
              refine thenK_normal ?_
              refine Wp.seqRegion (.inl rfl) (by kernel_rfl) fun K' gd hK hg => ?_
              clear hg
              refine Wops.cut 4 fun K1 hK1 => ?_
              simp only [List.take_succ_cons, List.take_zero]
              go_simp
              refine Wcall (.inl rfl) (fits_T g0 hdl.choose_spec.1 g1 _ (hV.ext xw) (trueC_V hH) hL.intsV hf hfc) ?_
              rintro v w20 ⟨rfl, hE⟩
              go_simp
              refine hK1 _ _ ?_
              clear hK1 K1
              simp only [List.drop_succ_cons, List.drop_zero]
              have z50 := Below.size hE
              replace f5 := Ext.fz hE c5_0 f5
              replace f12 := Ext.fz hE c12_0 f12
              replace hL := hL.ext hE
              replace hH := hH.ext hE
              replace xw := Ext.trans xw hE
              replace xl3 := Chg.ext xl3 hE
              replace c5_0 := Ext.cell hE c5_0
              replace c5_1 := Ext.cell hE c5_1
              replace c12_0 := Ext.cell hE c12_0
              replace c12_1 := Ext.cell hE c12_1
              replace c12_2 := Ext.cell hE c12_2
              replace c12_3 := Ext.cell hE c12_3
              replace dq := Ext.cell hE dq
              replace dz := Ext.cell hE dz
              clear hE
              go_simp
              refine hK _ _ ?_
              clear hK K' gd
              refine Wp.keep [5, 11, 12, 14, 20, 21] fun r51 hkeep => ?_
              obtain ⟨e5_51, e11_51, e12_51, e14_51, e20_51, e21_51, -⟩ := hkeep
              simp [go_sem, e3_21, e4_21, e5_21, e11_21, e12_21, e13_21, e14_21, e15_21, e71_21] at e5_51 e11_51 e12_51 e14_51 e20_51 e21_51
              clear e3_21 e4_21 e5_21 e11_21 e12_21 e13_21 e14_21 e15_21 e71_21
              refine Wp.seqRegion (.inl rfl) (by kernel_rfl) fun K' gd hK hg => ?_
              clear hg
              refine Wops.cut 3 fun K1 hK1 => ?_
              simp only [List.take_succ_cons, List.take_zero]
              go_simp
              refine Wcall (.inl rfl) (First_c _ _ s (trueC ws pn) _ (hV.ext xw) (trueC_V hH) hf hfc) ?_
              rintro v w21 ⟨t22, hv21, hI, hE⟩
              rw [g2.choose_spec] at hv21
              subst hv21
              rw [if_pos g2.choose_spec] at hI
              obtain ⟨E7, r7, rfl⟩ := hI.slice
              go_simp
              refine hK1 _ _ ?_
              clear hK1 K1
              simp only [List.drop_succ_cons, List.drop_zero]
              have z52 := Below.size hE
              replace f5 := Ext.fz hE c5_0 f5
              replace f12 := Ext.fz hE c12_0 f12
              replace hL := hL.ext hE
              replace hH := hH.ext hE
              replace xw := Ext.trans xw hE
              replace xl3 := Chg.ext xl3 hE
              replace c5_0 := Ext.cell hE c5_0
              replace c5_1 := Ext.cell hE c5_1
              replace c12_0 := Ext.cell hE c12_0
              replace c12_1 := Ext.cell hE c12_1
              replace c12_2 := Ext.cell hE c12_2
              replace c12_3 := Ext.cell hE c12_3
              replace dq := Ext.cell hE dq
              replace dz := Ext.cell hE dz
              clear hE
              go_simp
              refine hK _ _ ?_
              clear hK K' gd
              refine Wp.keep [5, 11, 12, 14, 20, 21, 22, 23] fun r53 hkeep => ?_
              obtain ⟨e5_53, e11_53, e12_53, e14_53, e20_53, e21_53, e22_53, e23_53, -⟩ := hkeep
              simp [go_sem, e5_51, e11_51, e12_51, e14_51, e20_51, e21_51] at e5_53 e11_53 e12_53 e14_53 e20_53 e21_53 e22_53 e23_53
              clear e5_51 e11_51 e12_51 e14_51 e20_51 e21_51
              refine Wp.seqRegion (.inl rfl) (by kernel_rfl) fun K' gd hK hg => ?_
              clear hg
              refine Wops.cut 3 fun K1 hK1 => ?_
              simp only [List.take_succ_cons, List.take_zero]
              go_simp
              refine Wcall (.inl rfl) (Last_c _ _ s (trueC ws pn) _ (hV.ext xw) (trueC_V hH) hf hfc) ?_
              rintro v w22 ⟨t24, hv22, hJ2, hE⟩
              rw [g2.choose_spec] at hv22
              subst hv22
              rw [if_pos g2.choose_spec] at hJ2
              obtain ⟨E8, r8, rfl⟩ := hJ2.slice
              go_simp
              refine hK1 _ _ ?_
              clear hK1 K1
              simp only [List.drop_succ_cons, List.drop_zero]
              have z54 := Below.size hE
              replace f5 := Ext.fz hE c5_0 f5
              replace f12 := Ext.fz hE c12_0 f12
              replace hL := hL.ext hE
              replace hH := hH.ext hE
              replace hI := hI.ext hE
              replace xw := Ext.trans xw hE
              replace xl3 := Chg.ext xl3 hE
              replace c5_0 := Ext.cell hE c5_0
              replace c5_1 := Ext.cell hE c5_1
              replace c12_0 := Ext.cell hE c12_0
              replace c12_1 := Ext.cell hE c12_1
              replace c12_2 := Ext.cell hE c12_2
              replace c12_3 := Ext.cell hE c12_3
              replace dq := Ext.cell hE dq
              replace dz := Ext.cell hE dz
              clear hE
              go_simp
              refine hK _ _ ?_
              clear hK K' gd
              refine Wp.keep [5, 11, 12, 14, 20, 21, 22, 23, 24, 25] fun r55 hkeep => ?_
              obtain ⟨e5_55, e11_55, e12_55, e14_55, e20_55, e21_55, e22_55, e23_55, e24_55, e25_55, -⟩ := hkeep
              simp [go_sem, e5_53, e11_53, e12_53, e14_53, e20_53, e21_53, e22_53, e23_53] at e5_55 e11_55 e12_55 e14_55 e20_55 e21_55 e22_55 e23_55 e24_55 e25_55
              clear e5_53 e11_53 e12_53 e14_53 e20_53 e21_53 e22_53 e23_53
              refine Wp.seqRegion (.inl rfl) (by kernel_rfl) fun K' gd hK hg => ?_
              clear hg
              refine Wops.cut 3 fun K1 hK1 => ?_
              simp only [List.take_succ_cons, List.take_zero]
              go_simp
              refine Wcall (.inl rfl) (Long_c _ _ s (trueC ws pn) _ (hV.ext xw) (trueC_V hH) hf hfc) ?_
              rintro v w23 ⟨hv23, hE⟩
              rw [g2.choose_spec, if_pos rfl, hlo.choose_spec, hhi.choose_spec] at hv23
              subst hv23
              go_simp
              refine hK1 _ _ ?_
              clear hK1 K1
              simp only [List.drop_succ_cons, List.drop_zero]
              have z56 := Below.size hE
              replace f5 := Ext.fz hE c5_0 f5
              replace f12 := Ext.fz hE c12_0 f12
              replace hL := hL.ext hE
              replace hH := hH.ext hE
              replace hI := hI.ext hE
              replace hJ2 := hJ2.ext hE
              replace xw := Ext.trans xw hE
              replace xl3 := Chg.ext xl3 hE
              replace c5_0 := Ext.cell hE c5_0
              replace c5_1 := Ext.cell hE c5_1
              replace c12_0 := Ext.cell hE c12_0
              replace c12_1 := Ext.cell hE c12_1
              replace c12_2 := Ext.cell hE c12_2
              replace c12_3 := Ext.cell hE c12_3
              replace dq := Ext.cell hE dq
              replace dz := Ext.cell hE dz
              clear hE
              refine Wops.cut 5 fun K1 hK1 => ?_
              simp only [List.take_succ_cons, List.take_zero]
              go_simp
              refine hK1 _ _ ?_
              clear hK1 K1
              simp only [List.drop_succ_cons, List.drop_zero]
              refine Wops.absA fun V26_11 n26 hV26_11 => ?_
              obtain ⟨q26, hV26_11, s26, kV26_11, f26, r26⟩ := hV26_11
              try simp only [q26] at kV26_11 f26 r26 ⊢
              replace f5 := Ext.fz hV26_11 c5_0 f5
              replace f12 := Ext.fz hV26_11 c12_0 f12
              replace hL := hL.ext hV26_11
              replace hH := hH.ext hV26_11
              replace hI := hI.ext hV26_11
              replace hJ2 := hJ2.ext hV26_11
              replace xw := Ext.trans xw hV26_11
              replace xl3 := Chg.ext xl3 hV26_11
              replace c5_0 := Ext.cell hV26_11 c5_0
              replace c5_1 := Ext.cell hV26_11 c5_1
              replace c12_0 := Ext.cell hV26_11 c12_0
              replace c12_1 := Ext.cell hV26_11 c12_1
              replace c12_2 := Ext.cell hV26_11 c12_2
              replace c12_3 := Ext.cell hV26_11 c12_3
              replace dq := Ext.cell hV26_11 dq
              replace dz := Ext.cell hV26_11 dz
              have c26_0 := kV26_11 0 _ rfl
              have c26_1 := kV26_11 1 _ rfl
              clear kV26_11 hV26_11
              clear r26
              go_simp
              refine hK _ _ ?_
              clear hK K' gd
              refine Wp.keep [5, 11, 12, 14, 20, 21, 22, 23, 24, 25, 26, 27] fun r57 hkeep => ?_
              obtain ⟨e5_57, e11_57, e12_57, e14_57, e20_57, e21_57, e22_57, e23_57, e24_57, e25_57, e26_57, e27_57, -⟩ := hkeep
              simp [go_sem, e5_55, e11_55, e12_55, e14_55, e20_55, e21_55, e22_55, e23_55, e24_55, e25_55] at e5_57 e11_57 e12_57 e14_57 e20_57 e21_57 e22_57 e23_57 e24_57 e25_57 e26_57 e27_57
              clear e5_55 e11_55 e12_55 e14_55 e20_55 e21_55 e22_55 e23_55 e24_55 e25_55
              refine Wp.seq ?_
              refine Wp.seqRegion (.inl rfl) (by kernel_rfl) fun K' gd hK hg => ?_
              have g2 : gd 2 = some 180 := hg 2
              have g6 : gd 6 = some 184 := hg 6
              have g10 : gd 10 = some 188 := hg 10
              have g14 : gd 14 = some 192 := hg 14
              have g18 : gd 18 = some 196 := hg 18
              have g26 : gd 26 = some 204 := hg 26
              clear hg
              refine Wops.cut 24 fun K1 hK1 => ?_
              simp only [List.take_succ_cons, List.take_zero]
              go_simp
              refine Wcall (.inl rfl) (below_T (by have := g3.choose_spec.1; have := hdl.choose_spec.1; omega) (Nat.le_refl _) (fun i hi => g4.choose_spec.1 i (by have := hdl.choose_spec.1; omega)) (by omega) _ hI.ints hL.intsV) ?_
              rintro v w24 ⟨rfl, hE⟩
              go_simp
              refine hK1 _ _ ?_
              clear hK1 K1
              simp only [List.drop_succ_cons, List.drop_zero]
              have z58 := Below.size hE
              replace f5 := Ext.fz hE c5_0 f5
              replace f12 := Ext.fz hE c12_0 f12
              replace f26 := Ext.fz hE c26_0 f26
              replace hL := hL.ext hE
              replace hH := hH.ext hE
              replace hI := hI.ext hE
              replace hJ2 := hJ2.ext hE
              replace xw := Ext.trans xw hE
              replace xl3 := Chg.ext xl3 hE
              replace c5_0 := Ext.cell hE c5_0
              replace c5_1 := Ext.cell hE c5_1
              replace c12_0 := Ext.cell hE c12_0
              replace c12_1 := Ext.cell hE c12_1
              replace c12_2 := Ext.cell hE c12_2
              replace c12_3 := Ext.cell hE c12_3
              replace dq := Ext.cell hE dq
              replace dz := Ext.cell hE dz
              replace c26_0 := Ext.cell hE c26_0
              replace c26_1 := Ext.cell hE c26_1
              clear hE
              refine Wops.cut 8 fun K1 hK1 => ?_
              simp only [List.take_succ_cons, List.take_zero]
              go_simp
              refine Wcall (.inl rfl) (below_T (Nat.le_refl _) (by have := g3.choose_spec.2; have := hdl.choose_spec.1; omega) (fun i hi => g4.choose_spec.2 i (by have := hdl.choose_spec.1; omega)) (by omega) _ hL.intsV hJ2.ints) ?_
              rintro v w25 ⟨rfl, hE⟩
              go_simp
              refine hK1 _ _ ?_
              clear hK1 K1
              simp only [List.drop_succ_cons, List.drop_zero]
              have z59 := Below.size hE
              replace f5 := Ext.fz hE c5_0 f5
              replace f12 := Ext.fz hE c12_0 f12
              replace f26 := Ext.fz hE c26_0 f26
              replace hL := hL.ext hE
              replace hH := hH.ext hE
              replace hI := hI.ext hE
              replace hJ2 := hJ2.ext hE
              replace xw := Ext.trans xw hE
              replace xl3 := Chg.ext xl3 hE
              replace c5_0 := Ext.cell hE c5_0
              replace c5_1 := Ext.cell hE c5_1
              replace c12_0 := Ext.cell hE c12_0
              replace c12_1 := Ext.cell hE c12_1
              replace c12_2 := Ext.cell hE c12_2
              replace c12_3 := Ext.cell hE c12_3
              replace dq := Ext.cell hE dq
              replace dz := Ext.cell hE dz
              replace c26_0 := Ext.cell hE c26_0
              replace c26_1 := Ext.cell hE c26_1
              clear hE
              go_simp
              refine hK _ _ ?_
              clear hK K' gd g2 g6 g10 g14 g18 g26
              refine Wp.keep [5, 11, 12, 14, 26, 211] fun r60 hkeep => ?_
              obtain ⟨e5_60, e11_60, e12_60, e14_60, e26_60, e211_60, -⟩ := hkeep
              simp [go_sem, e5_57, e11_57, e12_57, e14_57, e20_57, e21_57, e22_57, e23_57, e24_57, e25_57, e26_57, e27_57] at e5_60 e11_60 e12_60 e14_60 e26_60 e211_60
              clear e5_57 e11_57 e12_57 e14_57 e20_57 e21_57 e22_57 e23_57 e24_57 e25_57 e26_57 e27_57
              refine Wp.condF (by go_simp) ?_
              refine Wp.skip ?_
              refine thenK_normal ?_
              refine Wp.seqDraw (.inl rfl) mixed [([0, 1, 2, 3, 4], none), ([5, 6, 7, 8, 9], none), ([10], none)] (by kernel_rfl) fun K' gd hK hg => ?_
              clear hg
              simp only [pick, nth, List.map_cons, List.map_nil, Option.map_none, Option.map_some]
              refine Mops.absD fun D12 hD12 zD12 => ?_
              replace f5 := Ext.fz hD12 c5_0 f5
              replace f12 := Ext.fz hD12 c12_0 f12
              replace f26 := Ext.fz hD12 c26_0 f26
              replace hL := hL.ext hD12
              replace hH := hH.ext hD12
              replace hI := hI.ext hD12
              replace hJ2 := hJ2.ext hD12
              replace xw := Ext.trans xw hD12
              replace xl3 := Chg.ext xl3 hD12
              replace c5_0 := Ext.cell hD12 c5_0
              replace c5_1 := Ext.cell hD12 c5_1
              replace c12_0 := Ext.cell hD12 c12_0
              replace c12_1 := Ext.cell hD12 c12_1
              replace c12_2 := Ext.cell hD12 c12_2
              replace c12_3 := Ext.cell hD12 c12_3
              replace dq := Ext.cell hD12 dq
              replace dz := Ext.cell hD12 dz
              replace c26_0 := Ext.cell hD12 c26_0
              replace c26_1 := Ext.cell hD12 c26_1
              clear hD12
              apply Mops.none
              · intro w' hE'
                have hC' := hE'.cellsS
                go_simp
                with_reducible rfl
              apply Mops.none
              · intro w' hE'
                have hC' := hE'.cellsS
                go_simp
                with_reducible rfl
              apply Mops.none
              · intro w' hE'
                have hC' := hE'.cellsS
                go_simp
                with_reducible rfl
              refine Mops.done ?_
              refine hK _ _ ?_
              clear hK K' gd
              refine Wp.keep [5, 11, 12, 14, 26, 28] fun r61 hkeep => ?_
              obtain ⟨e5_61, e11_61, e12_61, e14_61, e26_61, e28_61, -⟩ := hkeep
              simp [go_sem, e5_60, e11_60, e12_60, e14_60, e26_60, e211_60] at e5_61 e11_61 e12_61 e14_61 e26_61 e28_61
              clear e5_60 e11_60 e12_60 e14_60 e26_60 e211_60
              refine Wp.seq ?_
              refine Wp.seqRegion (.inl rfl) (by kernel_rfl) fun K' gd hK hg => ?_
              have g4 : gd 4 = some 226 := hg 4
              clear hg
              go_simp
              refine hK _ _ ?_
              clear hK K' gd g4
              refine Wp.keep [5, 11, 12, 14, 231] fun r62 hkeep => ?_
              obtain ⟨e5_62, e11_62, e12_62, e14_62, e231_62, -⟩ := hkeep
              simp [go_sem, e5_61, e11_61, e12_61, e14_61, e26_61, e28_61] at e5_62 e11_62 e12_62 e14_62 e231_62
              clear e5_61 e11_61 e12_61 e14_61 e26_61 e28_61
              refine Wp.condF (by go_simp) ?_
              refine Wp.skip ?_
              refine thenK_normal ?_
              refine Wp.seq ?_
              refine Wp.seqRegion (.inl rfl) (by kernel_rfl) fun K' gd hK hg => ?_
              clear hg
              go_simp
              refine hK _ _ ?_
              clear hK K' gd
              refine Wp.keep [5, 11, 12, 14, 29] fun r63 hkeep => ?_
              obtain ⟨e5_63, e11_63, e12_63, e14_63, e29_63, -⟩ := hkeep
              simp [go_sem, e5_62, e11_62, e12_62, e14_62, e231_62] at e5_63 e11_63 e12_63 e14_63 e29_63
              clear e5_62 e11_62 e12_62 e14_62 e231_62
              refine Wp.block ?_
              refine Wp.loop (fun i ρ ds wi => AllEq [5, 11, 12, 14] ρ r63 ∧ ds = [] ∧ (Ext D12 wi) ∧ (ρ 29 = .int .i64 (i : Int))) (dL.length) ?_ ?_
              · refine ⟨AllEq.refl _ _, rfl, Ext.refl _, ?_⟩
                rw [e29_63]; rfl
              · rintro i r64 _ wi hi ⟨hA, rfl, xl13, e29⟩
                obtain ⟨e5_64, e11_64, e12_64, e14_64, -⟩ := hA
                rw [e5_63] at e5_64
                rw [e11_63] at e11_64
                rw [e12_63] at e12_64
                rw [e14_63] at e14_64
                have zxl13 := Below.size xl13
                replace f5 := Ext.fz xl13 c5_0 f5
                replace f12 := Ext.fz xl13 c12_0 f12
                replace f26 := Ext.fz xl13 c26_0 f26
                replace hL := hL.ext xl13
                replace hH := hH.ext xl13
                replace hI := hI.ext xl13
                replace hJ2 := hJ2.ext xl13
                replace xw := Ext.trans xw xl13
                replace xl3 := Chg.ext xl3 xl13
                replace c5_0 := Ext.cell xl13 c5_0
                replace c5_1 := Ext.cell xl13 c5_1
                replace c12_0 := Ext.cell xl13 c12_0
                replace c12_1 := Ext.cell xl13 c12_1
                replace c12_2 := Ext.cell xl13 c12_2
                replace c12_3 := Ext.cell xl13 c12_3
                replace dq := Ext.cell xl13 dq
                replace dz := Ext.cell xl13 dz
                replace c26_0 := Ext.cell xl13 c26_0
                replace c26_1 := Ext.cell xl13 c26_1
                refine Wp.seq ?_
                refine Wp.seqRegion (.inl rfl) (by kernel_rfl) fun K' gd hK hg => ?_
                clear hg
                go_simp
                refine hK _ _ ?_
                clear hK K' gd
                refine Wp.keep [5, 11, 12, 14, 29, 235] fun r65 hkeep => ?_
                obtain ⟨e5_65, e11_65, e12_65, e14_65, e29_65, e235_65, -⟩ := hkeep
                simp [go_sem, e5_64, e11_64, e12_64, e14_64, e29] at e5_65 e11_65 e12_65 e14_65 e29_65 e235_65
                clear e5_64 e11_64 e12_64 e14_64 e29
                by_cases hi2 : i < dL.length
                · refine Wp.condT (by go_simp) ?_
                  obtain ⟨r1, r2, r3⟩ := g5.choose_spec i (by have := hdl.choose_spec.1; omega)
                  have di := (OwnI.intsV hL).get hi2
                  obtain ⟨b8, o8, k8, e8, -, hc8⟩ := di
                  injection e8 with q1 q2 q3
                  have dd := hc8 i hi2
                  injection q1 with q1
                  injection q1 with q1 q4
                  subst q1
                  subst q4
                  rw [Nat.zero_add] at dd
                  have hid : (i : Int) < (dL.length : Int) := by omega
                  refine Wp.skip ?_
                  refine thenK_normal ?_
                  refine Wp.seq ?_
                  refine Wp.block ?_
                  refine Wp.seqRegion (.inl rfl) (by kernel_rfl) fun K' gd hK hg => ?_
                  clear hg
                  refine Wops.cut 4 fun K1 hK1 => ?_
                  simp only [List.take_succ_cons, List.take_zero]
                  go_simp
                  refine Wcall (.inl rfl) (Possible_c _ _ s (trueC ws pn) i _ (hV.ext xw) (trueC_V hH) hf hfc) ?_
                  rintro v w26 ⟨t30, hv26, hZ, hE⟩
                  rw [r1] at hv26
                  subst hv26
                  rw [if_pos r1, Int.toNat_natCast] at hZ
                  have xz := Ext.refl w26
                  go_simp
                  refine hK1 _ _ ?_
                  clear hK1 K1
                  simp only [List.drop_succ_cons, List.drop_zero]
                  have z66 := Below.size hE
                  replace f5 := Ext.fz hE c5_0 f5
                  replace f12 := Ext.fz hE c12_0 f12
                  replace f26 := Ext.fz hE c26_0 f26
                  replace hL := hL.ext hE
                  replace hH := hH.ext hE
                  replace hI := hI.ext hE
                  replace hJ2 := hJ2.ext hE
                  replace xw := Ext.trans xw hE
                  replace xl3 := Chg.ext xl3 hE
                  replace xl13 := Ext.trans xl13 hE
                  replace c5_0 := Ext.cell hE c5_0
                  replace c5_1 := Ext.cell hE c5_1
                  replace c12_0 := Ext.cell hE c12_0
                  replace c12_1 := Ext.cell hE c12_1
                  replace c12_2 := Ext.cell hE c12_2
                  replace c12_3 := Ext.cell hE c12_3
                  replace dq := Ext.cell hE dq
                  replace dz := Ext.cell hE dz
                  replace c26_0 := Ext.cell hE c26_0
                  replace c26_1 := Ext.cell hE c26_1
                  replace dd := Ext.cell hE dd
                  clear hE
                  go_simp
                  refine hK _ _ ?_
                  clear hK K' gd
                  refine Wp.keep [5, 11, 12, 14, 29, 30, 31] fun r67 hkeep => ?_
                  obtain ⟨e5_67, e11_67, e12_67, e14_67, e29_67, e30_67, e31_67, -⟩ := hkeep
                  simp [go_sem, e5_65, e11_65, e12_65, e14_65, e29_65, e235_65] at e5_67 e11_67 e12_67 e14_67 e29_67 e30_67 e31_67
                  clear e5_65 e11_65 e12_65 e14_65 e29_65 e235_65
                  refine Wp.seqRegion (.inl rfl) (by kernel_rfl) fun K' gd hK hg => ?_
                  have g2 : gd 2 = some 247 := hg 2
                  clear hg
                  refine Wops.cut 9 fun K1 hK1 => ?_
                  simp only [List.take_succ_cons, List.take_zero]
                  go_simp
                  refine Wcall (.inl rfl) (ins_T r2 _ (hZ.ext xz).spans (by omega)) ?_
                  rintro v w27 ⟨rfl, hE⟩
                  go_simp
                  refine hK1 _ _ ?_
                  clear hK1 K1
                  simp only [List.drop_succ_cons, List.drop_zero]
                  have z68 := Below.size hE
                  replace f5 := Ext.fz hE c5_0 f5
                  replace f12 := Ext.fz hE c12_0 f12
                  replace f26 := Ext.fz hE c26_0 f26
                  replace hL := hL.ext hE
                  replace hH := hH.ext hE
                  replace hI := hI.ext hE
                  replace hJ2 := hJ2.ext hE
                  replace xw := Ext.trans xw hE
                  replace xl3 := Chg.ext xl3 hE
                  replace xl13 := Ext.trans xl13 hE
                  replace xz := Ext.trans xz hE
                  replace c5_0 := Ext.cell hE c5_0
                  replace c5_1 := Ext.cell hE c5_1
                  replace c12_0 := Ext.cell hE c12_0
                  replace c12_1 := Ext.cell hE c12_1
                  replace c12_2 := Ext.cell hE c12_2
                  replace c12_3 := Ext.cell hE c12_3
                  replace dq := Ext.cell hE dq
                  replace dz := Ext.cell hE dz
                  replace c26_0 := Ext.cell hE c26_0
                  replace c26_1 := Ext.cell hE c26_1
                  replace dd := Ext.cell hE dd
                  clear hE
                  go_simp
                  refine hK _ _ ?_
                  clear hK K' gd g2
                  refine Wp.keep [5, 11, 12, 14, 29, 255] fun r69 hkeep => ?_
                  obtain ⟨e5_69, e11_69, e12_69, e14_69, e29_69, e255_69, -⟩ := hkeep
                  simp [go_sem, e5_67, e11_67, e12_67, e14_67, e29_67, e30_67, e31_67] at e5_69 e11_69 e12_69 e14_69 e29_69 e255_69
                  clear e5_67 e11_67 e12_67 e14_67 e29_67 e30_67 e31_67
                  refine Wp.condF (by go_simp) ?_
                  refine Wp.skip ?_
                  refine blockK_normal ?_
                  refine thenK_normal ?_
                  refine Wp.loneRegion (.inl rfl) (by kernel_rfl) fun K' gd hK hg => ?_
                  clear hg
                  go_simp
                  refine hK _ _ ?_
                  clear hK K' gd
                  refine Ends.keep [5, 11, 12, 14, 29] fun r70 hkeep => ?_
                  obtain ⟨e5_70, e11_70, e12_70, e14_70, e29_70, -⟩ := hkeep
                  simp [go_sem, e5_69, e11_69, e12_69, e14_69, e29_69, e255_69] at e5_70 e11_70 e12_70 e14_70 e29_70
                  clear e5_69 e11_69 e12_69 e14_69 e29_69 e255_69
                  refine Ends.mk ?_
                  refine thenK_normal ⟨by omega, ⟨by rw [e5_70, e5_63], by rw [e11_70, e11_63], by rw [e12_70, e12_63], by rw [e14_70, e14_63], trivial⟩, rfl, xl13, ?_⟩
                  rw [e29_70, IntWalk.i64_in _ (by omega)]; rfl
                · refine Wp.condF (by go_simp) ?_
                  refine Wp.exit ?_
                  refine thenK_exit ?_
                  refine thenK_exit ?_
                  refine blockK_here ?_
                  refine thenK_normal ?_
                  refine Wp.seqRegion (.inl rfl) (by kernel_rfl) fun K' gd hK hg => ?_
                  clear hg
                  refine Wops.cut 3 fun K1 hK1 => ?_
                  simp only [List.take_succ_cons, List.take_zero]
                  go_simp
                  refine Wcall (.inl rfl) (Seen_c _ _ s (trueC ws pn) _ (hV.ext xw) (trueC_V hH) hf hfc (fun _ => hm12)) ?_
                  rintro v w28 ⟨s1, s2, hv28, i1, i2, hE⟩
                  rw [g2.choose_spec] at hv28
                  subst hv28
                  rw [if_pos g2.choose_spec, hl1.choose_spec.1] at i1
                  rw [if_pos g2.choose_spec, hl2.choose_spec.1] at i2
                  go_simp
                  refine hK1 _ _ ?_
                  clear hK1 K1
                  simp only [List.drop_succ_cons, List.drop_zero]
                  have z71 := Below.size hE
                  replace f5 := Ext.fz hE c5_0 f5
                  replace f12 := Ext.fz hE c12_0 f12
                  replace f26 := Ext.fz hE c26_0 f26
                  replace hL := hL.ext hE
                  replace hH := hH.ext hE
                  replace hI := hI.ext hE
                  replace hJ2 := hJ2.ext hE
                  replace xw := Ext.trans xw hE
                  replace xl3 := Chg.ext xl3 hE
                  replace xl13 := Ext.trans xl13 hE
                  replace c5_0 := Ext.cell hE c5_0
                  replace c5_1 := Ext.cell hE c5_1
                  replace c12_0 := Ext.cell hE c12_0
                  replace c12_1 := Ext.cell hE c12_1
                  replace c12_2 := Ext.cell hE c12_2
                  replace c12_3 := Ext.cell hE c12_3
                  replace dq := Ext.cell hE dq
                  replace dz := Ext.cell hE dz
                  replace c26_0 := Ext.cell hE c26_0
                  replace c26_1 := Ext.cell hE c26_1
                  clear hE
                  go_simp
                  refine hK _ _ ?_
                  clear hK K' gd
                  refine Wp.keep [5, 11, 14, 32, 33, 34] fun r72 hkeep => ?_
                  obtain ⟨e5_72, e11_72, e14_72, e32_72, e33_72, e34_72, -⟩ := hkeep
                  simp [go_sem, e5_65, e11_65, e12_65, e14_65, e29_65, e235_65] at e5_72 e11_72 e14_72 e32_72 e33_72 e34_72
                  clear e5_65 e11_65 e12_65 e14_65 e29_65 e235_65
                  refine Wp.seq ?_
                  refine Wp.seqRegion (.inl rfl) (by kernel_rfl) fun K' gd hK hg => ?_
                  clear hg
                  go_simp
                  refine hK _ _ ?_
                  clear hK K' gd
                  refine Wp.keep [5, 11, 14, 32, 33, 264] fun r73 hkeep => ?_
                  obtain ⟨e5_73, e11_73, e14_73, e32_73, e33_73, e264_73, -⟩ := hkeep
                  simp [go_sem, e5_72, e11_72, e14_72, e32_72, e33_72, e34_72] at e5_73 e11_73 e14_73 e32_73 e33_73 e264_73
                  clear e5_72 e11_72 e14_72 e32_72 e33_72 e34_72
                  refine Wp.condF (by go_simp) ?_
                  refine Wp.skip ?_
                  refine thenK_normal ?_
                  refine Wp.seq ?_
                  refine Wp.seqRegion (.inl rfl) (by kernel_rfl) fun K' gd hK hg => ?_
                  clear hg
                  go_simp
                  refine hK _ _ ?_
                  clear hK K' gd
                  refine Wp.keep [5, 11, 14, 32, 33, 35] fun r74 hkeep => ?_
                  obtain ⟨e5_74, e11_74, e14_74, e32_74, e33_74, e35_74, -⟩ := hkeep
                  simp [go_sem, e5_73, e11_73, e14_73, e32_73, e33_73, e264_73] at e5_74 e11_74 e14_74 e32_74 e33_74 e35_74
                  clear e5_73 e11_73 e14_73 e32_73 e33_73 e264_73
                  refine Wp.block ?_
                  refine Wp.loop (fun j ρ ds wj => AllEq [5, 11, 14, 32, 33] ρ r74 ∧ ds = [] ∧ (Ext w28 wj) ∧ (ρ 35 = .int .i64 (j : Int))) (s.alts.length) ?_ ?_
                  · refine ⟨AllEq.refl _ _, rfl, Ext.refl _, ?_⟩
                    rw [e35_74]; rfl
                  · rintro j r75 _ wj hj ⟨hA, rfl, xl15, e35⟩
                    obtain ⟨e5_75, e11_75, e14_75, e32_75, e33_75, -⟩ := hA
                    rw [e5_74] at e5_75
                    rw [e11_74] at e11_75
                    rw [e14_74] at e14_75
                    rw [e32_74] at e32_75
                    rw [e33_74] at e33_75
                    have zxl15 := Below.size xl15
                    replace f5 := Ext.fz xl15 c5_0 f5
                    replace f12 := Ext.fz xl15 c12_0 f12
                    replace f26 := Ext.fz xl15 c26_0 f26
                    replace hL := hL.ext xl15
                    replace hH := hH.ext xl15
                    replace hI := hI.ext xl15
                    replace hJ2 := hJ2.ext xl15
                    replace i1 := i1.ext xl15
                    replace i2 := i2.ext xl15
                    replace xw := Ext.trans xw xl15
                    replace xl3 := Chg.ext xl3 xl15
                    replace xl13 := Ext.trans xl13 xl15
                    replace c5_0 := Ext.cell xl15 c5_0
                    replace c5_1 := Ext.cell xl15 c5_1
                    replace c12_0 := Ext.cell xl15 c12_0
                    replace c12_1 := Ext.cell xl15 c12_1
                    replace c12_2 := Ext.cell xl15 c12_2
                    replace c12_3 := Ext.cell xl15 c12_3
                    replace dq := Ext.cell xl15 dq
                    replace dz := Ext.cell xl15 dz
                    replace c26_0 := Ext.cell xl15 c26_0
                    replace c26_1 := Ext.cell xl15 c26_1
                    refine Wp.seq ?_
                    refine Wp.seqRegion (.inl rfl) (by kernel_rfl) fun K' gd hK hg => ?_
                    clear hg
                    go_simp
                    refine hK _ _ ?_
                    clear hK K' gd
                    refine Wp.keep [5, 11, 14, 32, 33, 35, 269] fun r76 hkeep => ?_
                    obtain ⟨e5_76, e11_76, e14_76, e32_76, e33_76, e35_76, e269_76, -⟩ := hkeep
                    simp [go_sem, e5_75, e11_75, e14_75, e32_75, e33_75, e35] at e5_76 e11_76 e14_76 e32_76 e33_76 e35_76 e269_76
                    clear e5_75 e11_75 e14_75 e32_75 e33_75 e35
                    by_cases hj : j < s.alts.length
                    · refine Wp.condT (by go_simp) ?_
                      obtain ⟨b, o, rfl, hb, y0, y1, y2, y3, y4, y5⟩ := AltsV.six hAl hj
                      replace y0 := xw.cell y0
                      replace y1 := xw.cell y1
                      replace y2 := xw.cell y2
                      replace y3 := xw.cell y3
                      replace y4 := xw.cell y4
                      replace y5 := xw.cell y5
                      obtain ⟨t1, t2⟩ := htu _ (List.getElem_mem hj)
                      obtain ⟨-, -, t3, t4, -⟩ := hrt _ (List.getElem_mem hj)
                      obtain ⟨t, ht⟩ : ∃ t : Nat, ∃ _u : Unit, s.alts[j].tu = (t : Int) := ⟨s.alts[j].tu.toNat, (), by omega⟩
                      obtain ⟨fr, hfr⟩ : ∃ t : Nat, ∃ _u : Unit, s.alts[j].frm = (t : Int) := ⟨s.alts[j].frm.toNat, (), by omega⟩
                      have htw : fr ≤ t ∧ t < s.n := by have q1 := ht.choose_spec; have q2 := hfr.choose_spec; unfold Sh.n; omega
                      have hyes := g8.choose_spec.1 _ (List.getElem_mem hj)
                      have hnot := g8.choose_spec.2 _ (List.getElem_mem hj)
                      rw [ht.choose_spec, Int.toNat_natCast] at hyes hnot
                      rw [ht.choose_spec] at y4
                      rw [hfr.choose_spec] at y3
                      obtain ⟨dy, hdy⟩ : ∃ dy, ∃ _u : Unit, s.alts[j].day = dy := ⟨_, (), rfl⟩
                      rw [hdy.choose_spec] at hyes hnot y2
                      replace hyes : ∃ _u : Unit, dy ≤ gI dL t → s.alts[j].id ∈ l2 := ⟨(), hyes⟩
                      replace hnot : ∃ _u : Unit, ¬ dy ≤ gI dL t → ¬ s.alts[j].id ∈ l1 := ⟨(), hnot⟩
                      clear t1 t2 t3 t4
                      refine Wp.skip ?_
                      refine thenK_normal ?_
                      refine Wp.seq ?_
                      refine Wp.block ?_
                      refine Wp.seqRegion (.inl rfl) (by kernel_rfl) fun K' gd hK hg => ?_
                      clear hg
                      refine Wops.cut 7 fun K1 hK1 => ?_
                      simp only [List.take_succ_cons, List.take_zero]
                      go_simp
                      refine hK1 _ _ ?_
                      clear hK1 K1
                      simp only [List.drop_succ_cons, List.drop_zero]
                      refine Wops.absA fun V36_16 n36 hV36_16 => ?_
                      obtain ⟨q36, hV36_16, s36, kV36_16, f36, r36⟩ := hV36_16
                      try simp only [q36] at kV36_16 f36 r36 ⊢
                      replace f5 := Ext.fz hV36_16 c5_0 f5
                      replace f12 := Ext.fz hV36_16 c12_0 f12
                      replace f26 := Ext.fz hV36_16 c26_0 f26
                      replace hL := hL.ext hV36_16
                      replace hH := hH.ext hV36_16
                      replace hI := hI.ext hV36_16
                      replace hJ2 := hJ2.ext hV36_16
                      replace i1 := i1.ext hV36_16
                      replace i2 := i2.ext hV36_16
                      replace xw := Ext.trans xw hV36_16
                      replace xl3 := Chg.ext xl3 hV36_16
                      replace xl13 := Ext.trans xl13 hV36_16
                      replace xl15 := Ext.trans xl15 hV36_16
                      replace c5_0 := Ext.cell hV36_16 c5_0
                      replace c5_1 := Ext.cell hV36_16 c5_1
                      replace c12_0 := Ext.cell hV36_16 c12_0
                      replace c12_1 := Ext.cell hV36_16 c12_1
                      replace c12_2 := Ext.cell hV36_16 c12_2
                      replace c12_3 := Ext.cell hV36_16 c12_3
                      replace dq := Ext.cell hV36_16 dq
                      replace dz := Ext.cell hV36_16 dz
                      replace c26_0 := Ext.cell hV36_16 c26_0
                      replace c26_1 := Ext.cell hV36_16 c26_1
                      replace y0 := Ext.cell hV36_16 y0
                      replace y1 := Ext.cell hV36_16 y1
                      replace y2 := Ext.cell hV36_16 y2
                      replace y3 := Ext.cell hV36_16 y3
                      replace y4 := Ext.cell hV36_16 y4
                      replace y5 := Ext.cell hV36_16 y5
                      have c36_0 := kV36_16 0 _ rfl
                      have c36_1 := kV36_16 1 _ rfl
                      have c36_2 := kV36_16 2 _ rfl
                      have c36_3 := kV36_16 3 _ rfl
                      have c36_4 := kV36_16 4 _ rfl
                      have c36_5 := kV36_16 5 _ rfl
                      clear kV36_16 hV36_16
                      clear r36
                      try simp only [Wops_nil, updO_some, updO_none]
                      refine hK _ _ ?_
                      clear hK K' gd
                      refine Wp.keep [5, 11, 14, 32, 33, 35, 36] fun r77 hkeep => ?_
                      obtain ⟨e5_77, e11_77, e14_77, e32_77, e33_77, e35_77, e36_77, -⟩ := hkeep
                      simp [go_sem, e5_76, e11_76, e14_76, e32_76, e33_76, e35_76, e269_76] at e5_77 e11_77 e14_77 e32_77 e33_77 e35_77 e36_77
                      clear e5_76 e11_76 e14_76 e32_76 e33_76 e35_76 e269_76
                      refine Wp.seqRegion (.inl rfl) (by kernel_rfl) fun K' gd hK hg => ?_
                      clear hg
                      go_simp
                      refine hK _ _ ?_
                      clear hK K' gd
                      refine Wp.keep [5, 11, 14, 32, 33, 35, 36, 37] fun r78 hkeep => ?_
                      obtain ⟨e5_78, e11_78, e14_78, e32_78, e33_78, e35_78, e36_78, e37_78, -⟩ := hkeep
                      simp [go_sem, e5_77, e11_77, e14_77, e32_77, e33_77, e35_77, e36_77] at e5_78 e11_78 e14_78 e32_78 e33_78 e35_78 e36_78 e37_78
                      clear e5_77 e11_77 e14_77 e32_77 e33_77 e35_77 e36_77
                      refine Wp.seq ?_
                      refine Wp.seqRegion (.inl rfl) (by kernel_rfl) fun K' gd hK hg => ?_
                      clear hg
                      go_simp
                      refine hK _ _ ?_
                      clear hK K' gd
                      refine Wp.keep [5, 11, 14, 32, 33, 35, 36, 37, 38] fun r79 hkeep => ?_
                      obtain ⟨e5_79, e11_79, e14_79, e32_79, e33_79, e35_79, e36_79, e37_79, e38_79, -⟩ := hkeep
                      simp [go_sem, e5_78, e11_78, e14_78, e32_78, e33_78, e35_78, e36_78, e37_78] at e5_79 e11_79 e14_79 e32_79 e33_79 e35_79 e36_79 e37_79 e38_79
                      clear e5_78 e11_78 e14_78 e32_78 e33_78 e35_78 e36_78 e37_78
                      refine Wp.block ?_
                      refine Wp.loop (fun m ρ ds wm => AllEq [5, 11, 14, 32, 33, 35, 36] ρ r79 ∧ ds = [] ∧ (Ext V36_16 wm) ∧ (∃ bv : Bool, ρ 38 = .int .i64 ((fr + m : Nat) : Int) ∧ ρ 37 = .bool bv ∧ (∃ _u : Unit, (bv = true → dy ≤ gI dL t) ∧ (∀ x, fr ≤ x → x < fr + m → dy ≤ gI dL x → bv = true)))) (t + 1 - fr) ?_ ?_
                      · refine ⟨AllEq.refl _ _, rfl, Ext.refl _, ?_⟩
                        exact ⟨false, by rw [e38_79]; rfl, by rw [e37_79], (), (fun q => by cases q), fun x q1 q2 _ => by omega⟩
                      · rintro m r80 _ wm hm ⟨hA, rfl, xl17, ⟨bv, e38, e37, hbv⟩⟩
                        obtain ⟨e5_80, e11_80, e14_80, e32_80, e33_80, e35_80, e36_80, -⟩ := hA
                        rw [e5_79] at e5_80
                        rw [e11_79] at e11_80
                        rw [e14_79] at e14_80
                        rw [e32_79] at e32_80
                        rw [e33_79] at e33_80
                        rw [e35_79] at e35_80
                        rw [e36_79] at e36_80
                        have zxl17 := Below.size xl17
                        replace f5 := Ext.fz xl17 c5_0 f5
                        replace f12 := Ext.fz xl17 c12_0 f12
                        replace f26 := Ext.fz xl17 c26_0 f26
                        replace f36 := Ext.fz xl17 c36_0 f36
                        replace hL := hL.ext xl17
                        replace hH := hH.ext xl17
                        replace hI := hI.ext xl17
                        replace hJ2 := hJ2.ext xl17
                        replace i1 := i1.ext xl17
                        replace i2 := i2.ext xl17
                        replace xw := Ext.trans xw xl17
                        replace xl3 := Chg.ext xl3 xl17
                        replace xl13 := Ext.trans xl13 xl17
                        replace xl15 := Ext.trans xl15 xl17
                        replace c5_0 := Ext.cell xl17 c5_0
                        replace c5_1 := Ext.cell xl17 c5_1
                        replace c12_0 := Ext.cell xl17 c12_0
                        replace c12_1 := Ext.cell xl17 c12_1
                        replace c12_2 := Ext.cell xl17 c12_2
                        replace c12_3 := Ext.cell xl17 c12_3
                        replace dq := Ext.cell xl17 dq
                        replace dz := Ext.cell xl17 dz
                        replace c26_0 := Ext.cell xl17 c26_0
                        replace c26_1 := Ext.cell xl17 c26_1
                        replace y0 := Ext.cell xl17 y0
                        replace y1 := Ext.cell xl17 y1
                        replace y2 := Ext.cell xl17 y2
                        replace y3 := Ext.cell xl17 y3
                        replace y4 := Ext.cell xl17 y4
                        replace y5 := Ext.cell xl17 y5
                        replace c36_0 := Ext.cell xl17 c36_0
                        replace c36_1 := Ext.cell xl17 c36_1
                        replace c36_2 := Ext.cell xl17 c36_2
                        replace c36_3 := Ext.cell xl17 c36_3
                        replace c36_4 := Ext.cell xl17 c36_4
                        replace c36_5 := Ext.cell xl17 c36_5
                        obtain ⟨x, hx⟩ : ∃ x : Nat, ∃ _u : Unit, fr + m = x := ⟨_, (), rfl⟩
                        rw [hx.choose_spec] at e38
                        by_cases hxt : (x : Int) ≤ (t : Int)
                        · skip
                          have hxd : x < dL.length := by have := hdl.choose_spec.1; omega
                          obtain ⟨b7, o7, k7, e7', -, hc7⟩ := (OwnI.intsV hL).get hxd
                          injection e7' with q1 q2 q3
                          have dx := hc7 x hxd
                          injection q1 with q1
                          injection q1 with q1 q4
                          subst q1
                          subst q4
                          rw [Nat.zero_add] at dx
                          have hxd2 : (x : Int) < (dL.length : Int) := by omega
                          have hwx : IntKind.i64.wrap ((x : Int) + 1) = (x : Int) + 1 := IntWalk.i64_in _ (by omega)
                          by_cases hbt : bv = true
                          · skip
                            subst hbt
                            refine Wp.seq ?_
                            refine Wp.seqRegion (.inl rfl) (by kernel_rfl) fun K' gd hK hg => ?_
                            clear hg
                            go_simp
                            refine hK _ _ ?_
                            clear hK K' gd
                            refine Wp.keep [5, 11, 14, 32, 33, 35, 36, 37, 38, 282] fun r81 hkeep => ?_
                            obtain ⟨e5_81, e11_81, e14_81, e32_81, e33_81, e35_81, e36_81, e37_81, e38_81, e282_81, -⟩ := hkeep
                            simp [go_sem, e5_80, e11_80, e14_80, e32_80, e33_80, e35_80, e36_80, e37, e38] at e5_81 e11_81 e14_81 e32_81 e33_81 e35_81 e36_81 e37_81 e38_81 e282_81
                            clear e5_80 e11_80 e14_80 e32_80 e33_80 e35_80 e36_80 e37 e38
                            refine Wp.condT (by go_simp) ?_
                            refine Wp.skip ?_
                            refine thenK_normal ?_
                            refine Wp.seq ?_
                            refine Wp.block ?_
                            refine Wp.loneDraw (.inl rfl) mixed [([0, 1], none), ([2, 3, 4, 5, 6], none), ([7, 8, 9, 10], none)] (by kernel_rfl) fun K' gd hK hg => ?_
                            have g1 : gd 1 = some 286 := hg 1
                            clear hg
                            simp only [pick, nth, List.map_cons, List.map_nil, Option.map_none, Option.map_some]
                            refine Mops.absD fun D18 hD18 zD18 => ?_
                            replace f5 := Ext.fz hD18 c5_0 f5
                            replace f12 := Ext.fz hD18 c12_0 f12
                            replace f26 := Ext.fz hD18 c26_0 f26
                            replace f36 := Ext.fz hD18 c36_0 f36
                            replace hL := hL.ext hD18
                            replace hH := hH.ext hD18
                            replace hI := hI.ext hD18
                            replace hJ2 := hJ2.ext hD18
                            replace i1 := i1.ext hD18
                            replace i2 := i2.ext hD18
                            replace xw := Ext.trans xw hD18
                            replace xl3 := Chg.ext xl3 hD18
                            replace xl13 := Ext.trans xl13 hD18
                            replace xl15 := Ext.trans xl15 hD18
                            replace xl17 := Ext.trans xl17 hD18
                            replace c5_0 := Ext.cell hD18 c5_0
                            replace c5_1 := Ext.cell hD18 c5_1
                            replace c12_0 := Ext.cell hD18 c12_0
                            replace c12_1 := Ext.cell hD18 c12_1
                            replace c12_2 := Ext.cell hD18 c12_2
                            replace c12_3 := Ext.cell hD18 c12_3
                            replace dq := Ext.cell hD18 dq
                            replace dz := Ext.cell hD18 dz
                            replace c26_0 := Ext.cell hD18 c26_0
                            replace c26_1 := Ext.cell hD18 c26_1
                            replace y0 := Ext.cell hD18 y0
                            replace y1 := Ext.cell hD18 y1
                            replace y2 := Ext.cell hD18 y2
                            replace y3 := Ext.cell hD18 y3
                            replace y4 := Ext.cell hD18 y4
                            replace y5 := Ext.cell hD18 y5
                            replace c36_0 := Ext.cell hD18 c36_0
                            replace c36_1 := Ext.cell hD18 c36_1
                            replace c36_2 := Ext.cell hD18 c36_2
                            replace c36_3 := Ext.cell hD18 c36_3
                            replace c36_4 := Ext.cell hD18 c36_4
                            replace c36_5 := Ext.cell hD18 c36_5
                            replace dx := Ext.cell hD18 dx
                            clear hD18
                            apply Mops.none
                            · intro w' hE'
                              have hC' := hE'.cellsS
                              go_simp
                              with_reducible rfl
                            apply Mops.none
                            · intro w' hE'
                              have hC' := hE'.cellsS
                              go_simp
                              with_reducible rfl
                            apply Mops.none
                            · intro w' hE'
                              have hC' := hE'.cellsS
                              go_simp
                              with_reducible rfl
                            refine Mops.done ?_
                            refine hK _ _ ?_
                            clear hK K' gd g1
                            refine Ends.keep [5, 11, 14, 32, 33, 35, 36, 37, 38] fun r82 hkeep => ?_
                            obtain ⟨e5_82, e11_82, e14_82, e32_82, e33_82, e35_82, e36_82, e37_82, e38_82, -⟩ := hkeep
                            simp [go_sem, e5_81, e11_81, e14_81, e32_81, e33_81, e35_81, e36_81, e37_81, e38_81, e282_81] at e5_82 e11_82 e14_82 e32_82 e33_82 e35_82 e36_82 e37_82 e38_82
                            clear e5_81 e11_81 e14_81 e32_81 e33_81 e35_81 e36_81 e37_81 e38_81 e282_81
                            refine Ends.mk ?_
                            refine blockK_normal ?_
                            refine thenK_normal ?_
                            refine Wp.loneRegion (.inl rfl) (by kernel_rfl) fun K' gd hK hg => ?_
                            clear hg
                            go_simp
                            refine hK _ _ ?_
                            clear hK K' gd
                            refine Ends.keep [5, 11, 14, 32, 33, 35, 36, 37, 38] fun r83 hkeep => ?_
                            obtain ⟨e5_83, e11_83, e14_83, e32_83, e33_83, e35_83, e36_83, e37_83, e38_83, -⟩ := hkeep
                            simp [go_sem, e5_82, e11_82, e14_82, e32_82, e33_82, e35_82, e36_82, e37_82, e38_82] at e5_83 e11_83 e14_83 e32_83 e33_83 e35_83 e36_83 e37_83 e38_83
                            clear e5_82 e11_82 e14_82 e32_82 e33_82 e35_82 e36_82 e37_82 e38_82
                            refine Ends.mk ?_
                            refine thenK_normal ⟨by omega, ⟨by rw [e5_83, e5_79], by rw [e11_83, e11_79], by rw [e14_83, e14_79], by rw [e32_83, e32_79], by rw [e33_83, e33_79], by rw [e35_83, e35_79], by rw [e36_83, e36_79], trivial⟩, rfl, xl17, ?_⟩
                            exact ⟨true, by rw [e38_83]; congr 1; have := hx.choose_spec; push_cast; omega, e37_83, (), hbv.choose_spec.1, fun _ _ _ _ => rfl⟩
                          · skip
                            have hbf : bv = false := by simpa using hbt
                            subst hbf
                            refine Wp.seq ?_
                            refine Wp.seqRegion (.inl rfl) (by kernel_rfl) fun K' gd hK hg => ?_
                            clear hg
                            go_simp
                            refine hK _ _ ?_
                            clear hK K' gd
                            refine Wp.keep [5, 11, 14, 32, 33, 35, 36, 37, 38, 282] fun r84 hkeep => ?_
                            obtain ⟨e5_84, e11_84, e14_84, e32_84, e33_84, e35_84, e36_84, e37_84, e38_84, e282_84, -⟩ := hkeep
                            simp [go_sem, e5_80, e11_80, e14_80, e32_80, e33_80, e35_80, e36_80, e37, e38] at e5_84 e11_84 e14_84 e32_84 e33_84 e35_84 e36_84 e37_84 e38_84 e282_84
                            clear e5_80 e11_80 e14_80 e32_80 e33_80 e35_80 e36_80 e37 e38
                            refine Wp.condT (by go_simp) ?_
                            refine Wp.skip ?_
                            refine thenK_normal ?_
                            refine Wp.seq ?_
                            refine Wp.block ?_
                            refine Wp.loneDraw (.inl rfl) mixed [([0, 1], none), ([2, 3, 4, 5, 6], none), ([7, 8, 9, 10], none)] (by kernel_rfl) fun K' gd hK hg => ?_
                            have g1 : gd 1 = some 286 := hg 1
                            clear hg
                            simp only [pick, nth, List.map_cons, List.map_nil, Option.map_none, Option.map_some]
                            refine Mops.absD fun D19 hD19 zD19 => ?_
                            replace f5 := Ext.fz hD19 c5_0 f5
                            replace f12 := Ext.fz hD19 c12_0 f12
                            replace f26 := Ext.fz hD19 c26_0 f26
                            replace f36 := Ext.fz hD19 c36_0 f36
                            replace hL := hL.ext hD19
                            replace hH := hH.ext hD19
                            replace hI := hI.ext hD19
                            replace hJ2 := hJ2.ext hD19
                            replace i1 := i1.ext hD19
                            replace i2 := i2.ext hD19
                            replace xw := Ext.trans xw hD19
                            replace xl3 := Chg.ext xl3 hD19
                            replace xl13 := Ext.trans xl13 hD19
                            replace xl15 := Ext.trans xl15 hD19
                            replace xl17 := Ext.trans xl17 hD19
                            replace c5_0 := Ext.cell hD19 c5_0
                            replace c5_1 := Ext.cell hD19 c5_1
                            replace c12_0 := Ext.cell hD19 c12_0
                            replace c12_1 := Ext.cell hD19 c12_1
                            replace c12_2 := Ext.cell hD19 c12_2
                            replace c12_3 := Ext.cell hD19 c12_3
                            replace dq := Ext.cell hD19 dq
                            replace dz := Ext.cell hD19 dz
                            replace c26_0 := Ext.cell hD19 c26_0
                            replace c26_1 := Ext.cell hD19 c26_1
                            replace y0 := Ext.cell hD19 y0
                            replace y1 := Ext.cell hD19 y1
                            replace y2 := Ext.cell hD19 y2
                            replace y3 := Ext.cell hD19 y3
                            replace y4 := Ext.cell hD19 y4
                            replace y5 := Ext.cell hD19 y5
                            replace c36_0 := Ext.cell hD19 c36_0
                            replace c36_1 := Ext.cell hD19 c36_1
                            replace c36_2 := Ext.cell hD19 c36_2
                            replace c36_3 := Ext.cell hD19 c36_3
                            replace c36_4 := Ext.cell hD19 c36_4
                            replace c36_5 := Ext.cell hD19 c36_5
                            replace dx := Ext.cell hD19 dx
                            clear hD19
                            apply Mops.none
                            · intro w' hE'
                              have hC' := hE'.cellsS
                              go_simp
                              with_reducible rfl
                            apply Mops.none
                            · intro w' hE'
                              have hC' := hE'.cellsS
                              go_simp
                              with_reducible rfl
                            apply Mops.none
                            · intro w' hE'
                              have hC' := hE'.cellsS
                              go_simp
                              with_reducible rfl
                            refine Mops.done ?_
                            refine hK _ _ ?_
                            clear hK K' gd g1
                            refine Ends.keep [5, 11, 14, 32, 33, 35, 36, 37, 38] fun r85 hkeep => ?_
                            obtain ⟨e5_85, e11_85, e14_85, e32_85, e33_85, e35_85, e36_85, e37_85, e38_85, -⟩ := hkeep
                            simp [go_sem, e5_84, e11_84, e14_84, e32_84, e33_84, e35_84, e36_84, e37_84, e38_84, e282_84] at e5_85 e11_85 e14_85 e32_85 e33_85 e35_85 e36_85 e37_85 e38_85
                            clear e5_84 e11_84 e14_84 e32_84 e33_84 e35_84 e36_84 e37_84 e38_84 e282_84
                            refine Ends.mk ?_
                            refine blockK_normal ?_
                            refine thenK_normal ?_
                            refine Wp.loneRegion (.inl rfl) (by kernel_rfl) fun K' gd hK hg => ?_
                            clear hg
                            go_simp
                            refine hK _ _ ?_
                            clear hK K' gd
                            refine Ends.keep [5, 11, 14, 32, 33, 35, 36, 37, 38] fun r86 hkeep => ?_
                            obtain ⟨e5_86, e11_86, e14_86, e32_86, e33_86, e35_86, e36_86, e37_86, e38_86, -⟩ := hkeep
                            simp [go_sem, e5_85, e11_85, e14_85, e32_85, e33_85, e35_85, e36_85, e37_85, e38_85] at e5_86 e11_86 e14_86 e32_86 e33_86 e35_86 e36_86 e37_86 e38_86
                            clear e5_85 e11_85 e14_85 e32_85 e33_85 e35_85 e36_85 e37_85 e38_85
                            refine Ends.mk ?_
                            refine thenK_normal ⟨by omega, ⟨by rw [e5_86, e5_79], by rw [e11_86, e11_79], by rw [e14_86, e14_79], by rw [e32_86, e32_79], by rw [e33_86, e33_79], by rw [e35_86, e35_79], by rw [e36_86, e36_79], trivial⟩, rfl, xl17, ?_⟩
                            exact ⟨_, by rw [e38_86]; congr 1; have := hx.choose_spec; push_cast; omega, e37_86, (), fun q => by have q1 := of_decide_eq_true q; have q2 := g7.choose_spec x t (by omega) htw.2; omega, fun y q1 q2 q3 => by rcases Nat.lt_or_ge y x with r | r; exact absurd (hbv.choose_spec.2 y q1 (by have := hx.choose_spec; omega) q3) (by decide); (have e : y = x := by have := hx.choose_spec; omega); rw [e] at q3; exact decide_eq_true q3⟩
                        · skip
                          refine Wp.seq ?_
                          refine Wp.seqRegion (.inl rfl) (by kernel_rfl) fun K' gd hK hg => ?_
                          clear hg
                          go_simp
                          refine hK _ _ ?_
                          clear hK K' gd
                          refine Wp.keep [5, 11, 14, 32, 33, 35, 36, 37, 38, 282] fun r87 hkeep => ?_
                          obtain ⟨e5_87, e11_87, e14_87, e32_87, e33_87, e35_87, e36_87, e37_87, e38_87, e282_87, -⟩ := hkeep
                          simp [go_sem, e5_80, e11_80, e14_80, e32_80, e33_80, e35_80, e36_80, e37, e38] at e5_87 e11_87 e14_87 e32_87 e33_87 e35_87 e36_87 e37_87 e38_87 e282_87
                          clear e5_80 e11_80 e14_80 e32_80 e33_80 e35_80 e36_80 e37 e38
                          refine Wp.condF (by go_simp) ?_
                          by_cases hbt : bv = true
                          · skip
                            subst hbt
                            have r1 := hyes.choose_spec (hbv.choose_spec.1 rfl)
                            refine Wp.exit ?_
                            refine thenK_exit ?_
                            refine thenK_exit ?_
                            refine blockK_here ?_
                            refine thenK_normal ?_
                            refine Wp.seqRegion (.inl rfl) (by kernel_rfl) fun K' gd hK hg => ?_
                            have g1 : gd 1 = some 296 := hg 1
                            have g8 : gd 8 = some 303 := hg 8
                            have g11 : gd 11 = some 306 := hg 11
                            clear hg
                            refine Wops.cut 6 fun K1 hK1 => ?_
                            simp only [List.take_succ_cons, List.take_zero]
                            go_simp
                            refine Wcall (.inl rfl) (hasT r1 _ i2.ints hl2.choose_spec.2) ?_
                            rintro v w29 ⟨rfl, hE⟩
                            go_simp
                            refine hK1 _ _ ?_
                            clear hK1 K1
                            simp only [List.drop_succ_cons, List.drop_zero]
                            have z88 := Below.size hE
                            replace f5 := Ext.fz hE c5_0 f5
                            replace f12 := Ext.fz hE c12_0 f12
                            replace f26 := Ext.fz hE c26_0 f26
                            replace f36 := Ext.fz hE c36_0 f36
                            replace hL := hL.ext hE
                            replace hH := hH.ext hE
                            replace hI := hI.ext hE
                            replace hJ2 := hJ2.ext hE
                            replace i1 := i1.ext hE
                            replace i2 := i2.ext hE
                            replace xw := Ext.trans xw hE
                            replace xl3 := Chg.ext xl3 hE
                            replace xl13 := Ext.trans xl13 hE
                            replace xl15 := Ext.trans xl15 hE
                            replace xl17 := Ext.trans xl17 hE
                            replace c5_0 := Ext.cell hE c5_0
                            replace c5_1 := Ext.cell hE c5_1
                            replace c12_0 := Ext.cell hE c12_0
                            replace c12_1 := Ext.cell hE c12_1
                            replace c12_2 := Ext.cell hE c12_2
                            replace c12_3 := Ext.cell hE c12_3
                            replace dq := Ext.cell hE dq
                            replace dz := Ext.cell hE dz
                            replace c26_0 := Ext.cell hE c26_0
                            replace c26_1 := Ext.cell hE c26_1
                            replace y0 := Ext.cell hE y0
                            replace y1 := Ext.cell hE y1
                            replace y2 := Ext.cell hE y2
                            replace y3 := Ext.cell hE y3
                            replace y4 := Ext.cell hE y4
                            replace y5 := Ext.cell hE y5
                            replace c36_0 := Ext.cell hE c36_0
                            replace c36_1 := Ext.cell hE c36_1
                            replace c36_2 := Ext.cell hE c36_2
                            replace c36_3 := Ext.cell hE c36_3
                            replace c36_4 := Ext.cell hE c36_4
                            replace c36_5 := Ext.cell hE c36_5
                            clear hE
                            refine Wops.cut 10 fun K1 hK1 => ?_
                            simp only [List.take_succ_cons, List.take_zero]
                            go_simp
                            refine hK1 _ _ ?_
                            clear hK1 K1
                            simp only [List.drop_succ_cons, List.drop_zero]
                            go_simp
                            refine hK _ _ ?_
                            clear hK K' gd g1 g8 g11
                            refine Wp.keep [5, 11, 14, 32, 33, 35, 312] fun r89 hkeep => ?_
                            obtain ⟨e5_89, e11_89, e14_89, e32_89, e33_89, e35_89, e312_89, -⟩ := hkeep
                            simp [go_sem, e5_87, e11_87, e14_87, e32_87, e33_87, e35_87, e36_87, e37_87, e38_87, e282_87] at e5_89 e11_89 e14_89 e32_89 e33_89 e35_89 e312_89
                            clear e5_87 e11_87 e14_87 e32_87 e33_87 e35_87 e36_87 e37_87 e38_87 e282_87
                            refine Wp.condF (by go_simp) ?_
                            refine Wp.skip ?_
                            refine blockK_normal ?_
                            refine thenK_normal ?_
                            refine Wp.loneRegion (.inl rfl) (by kernel_rfl) fun K' gd hK hg => ?_
                            clear hg
                            go_simp
                            refine hK _ _ ?_
                            clear hK K' gd
                            refine Ends.keep [5, 11, 14, 32, 33, 35] fun r90 hkeep => ?_
                            obtain ⟨e5_90, e11_90, e14_90, e32_90, e33_90, e35_90, -⟩ := hkeep
                            simp [go_sem, e5_89, e11_89, e14_89, e32_89, e33_89, e35_89, e312_89] at e5_90 e11_90 e14_90 e32_90 e33_90 e35_90
                            clear e5_89 e11_89 e14_89 e32_89 e33_89 e35_89 e312_89
                            refine Ends.mk ?_
                            refine thenK_normal ⟨by omega, ⟨by rw [e5_90, e5_74], by rw [e11_90, e11_74], by rw [e14_90, e14_74], by rw [e32_90, e32_74], by rw [e33_90, e33_74], trivial⟩, rfl, xl15, ?_⟩
                            rw [e35_90, IntWalk.i64_in _ (by omega)]; rfl
                          · skip
                            have hbf : bv = false := by simpa using hbt
                            subst hbf
                            have r1 := hnot.choose_spec (fun q => by have := hbv.choose_spec.2 t htw.1 (by have := hx.choose_spec; omega) q; cases this)
                            refine Wp.exit ?_
                            refine thenK_exit ?_
                            refine thenK_exit ?_
                            refine blockK_here ?_
                            refine thenK_normal ?_
                            refine Wp.seqRegion (.inl rfl) (by kernel_rfl) fun K' gd hK hg => ?_
                            have g1 : gd 1 = some 296 := hg 1
                            have g8 : gd 8 = some 303 := hg 8
                            have g11 : gd 11 = some 306 := hg 11
                            clear hg
                            refine Wops.cut 6 fun K1 hK1 => ?_
                            simp only [List.take_succ_cons, List.take_zero]
                            go_simp
                            refine hK1 _ _ ?_
                            clear hK1 K1
                            simp only [List.drop_succ_cons, List.drop_zero]
                            refine Wops.cut 10 fun K1 hK1 => ?_
                            simp only [List.take_succ_cons, List.take_zero]
                            go_simp
                            refine Wcall (.inl rfl) (hasF r1 _ i1.ints hl1.choose_spec.2) ?_
                            rintro v w29 ⟨rfl, hE⟩
                            go_simp
                            refine hK1 _ _ ?_
                            clear hK1 K1
                            simp only [List.drop_succ_cons, List.drop_zero]
                            have z91 := Below.size hE
                            replace f5 := Ext.fz hE c5_0 f5
                            replace f12 := Ext.fz hE c12_0 f12
                            replace f26 := Ext.fz hE c26_0 f26
                            replace f36 := Ext.fz hE c36_0 f36
                            replace hL := hL.ext hE
                            replace hH := hH.ext hE
                            replace hI := hI.ext hE
                            replace hJ2 := hJ2.ext hE
                            replace i1 := i1.ext hE
                            replace i2 := i2.ext hE
                            replace xw := Ext.trans xw hE
                            replace xl3 := Chg.ext xl3 hE
                            replace xl13 := Ext.trans xl13 hE
                            replace xl15 := Ext.trans xl15 hE
                            replace xl17 := Ext.trans xl17 hE
                            replace c5_0 := Ext.cell hE c5_0
                            replace c5_1 := Ext.cell hE c5_1
                            replace c12_0 := Ext.cell hE c12_0
                            replace c12_1 := Ext.cell hE c12_1
                            replace c12_2 := Ext.cell hE c12_2
                            replace c12_3 := Ext.cell hE c12_3
                            replace dq := Ext.cell hE dq
                            replace dz := Ext.cell hE dz
                            replace c26_0 := Ext.cell hE c26_0
                            replace c26_1 := Ext.cell hE c26_1
                            replace y0 := Ext.cell hE y0
                            replace y1 := Ext.cell hE y1
                            replace y2 := Ext.cell hE y2
                            replace y3 := Ext.cell hE y3
                            replace y4 := Ext.cell hE y4
                            replace y5 := Ext.cell hE y5
                            replace c36_0 := Ext.cell hE c36_0
                            replace c36_1 := Ext.cell hE c36_1
                            replace c36_2 := Ext.cell hE c36_2
                            replace c36_3 := Ext.cell hE c36_3
                            replace c36_4 := Ext.cell hE c36_4
                            replace c36_5 := Ext.cell hE c36_5
                            clear hE
                            go_simp
                            refine hK _ _ ?_
                            clear hK K' gd g1 g8 g11
                            refine Wp.keep [5, 11, 14, 32, 33, 35, 312] fun r92 hkeep => ?_
                            obtain ⟨e5_92, e11_92, e14_92, e32_92, e33_92, e35_92, e312_92, -⟩ := hkeep
                            simp [go_sem, e5_87, e11_87, e14_87, e32_87, e33_87, e35_87, e36_87, e37_87, e38_87, e282_87] at e5_92 e11_92 e14_92 e32_92 e33_92 e35_92 e312_92
                            clear e5_87 e11_87 e14_87 e32_87 e33_87 e35_87 e36_87 e37_87 e38_87 e282_87
                            refine Wp.condF (by go_simp) ?_
                            refine Wp.skip ?_
                            refine blockK_normal ?_
                            refine thenK_normal ?_
                            refine Wp.loneRegion (.inl rfl) (by kernel_rfl) fun K' gd hK hg => ?_
                            clear hg
                            go_simp
                            refine hK _ _ ?_
                            clear hK K' gd
                            refine Ends.keep [5, 11, 14, 32, 33, 35] fun r93 hkeep => ?_
                            obtain ⟨e5_93, e11_93, e14_93, e32_93, e33_93, e35_93, -⟩ := hkeep
                            simp [go_sem, e5_92, e11_92, e14_92, e32_92, e33_92, e35_92, e312_92] at e5_93 e11_93 e14_93 e32_93 e33_93 e35_93
                            clear e5_92 e11_92 e14_92 e32_92 e33_92 e35_92 e312_92
                            refine Ends.mk ?_
                            refine thenK_normal ⟨by omega, ⟨by rw [e5_93, e5_74], by rw [e11_93, e11_74], by rw [e14_93, e14_74], by rw [e32_93, e32_74], by rw [e33_93, e33_74], trivial⟩, rfl, xl15, ?_⟩
                            rw [e35_93, IntWalk.i64_in _ (by omega)]; rfl
                    · refine Wp.condF (by go_simp) ?_
                      refine Wp.exit ?_
                      refine thenK_exit ?_
                      refine thenK_exit ?_
                      refine blockK_here ?_
                      refine thenK_normal ?_
                      refine Wp.seqRegion (.inl rfl) (by kernel_rfl) fun K' gd hK hg => ?_
                      clear hg
                      go_simp
                      refine hK _ _ ?_
                      clear hK K' gd
                      refine Wp.keep [10] fun r94 hkeep => ?_
                      obtain ⟨e10_94, -⟩ := hkeep
                      simp [go_sem, e5_76, e11_76, e14_76, e32_76, e33_76, e35_76, e269_76] at e10_94
                      clear e5_76 e11_76 e14_76 e32_76 e33_76 e35_76 e269_76
                      refine Wp.ret ?_
                      refine endK_tmp Try.results9 (by decide) ?_
                      rw [e10_94]
                      exact ⟨rfl, xw⟩
    · skip
      refine Wp.seq ?_
      refine Wp.seqRegion (.inl rfl) (by kernel_rfl) fun K' gd hK hg => ?_
      have g3 : gd 3 = some 43 := hg 3
      have g8 : gd 8 = some 48 := hg 8
      have g13 : gd 13 = some 53 := hg 13
      clear hg
      refine Wops.cut 2 fun K1 hK1 => ?_
      simp only [List.take_succ_cons, List.take_zero]
      go_simp
      refine Wcall (.inl rfl) (few_c _ s _ (hV.ext xw)) ?_
      rintro v w3 ⟨rfl, hE⟩
      go_simp
      refine hK1 _ _ ?_
      clear hK1 K1
      simp only [List.drop_succ_cons, List.drop_zero]
      have z95 := Below.size hE
      replace f5 := Ext.fz hE c5_0 f5
      replace xw := Ext.trans xw hE
      replace c5_0 := Ext.cell hE c5_0
      replace c5_1 := Ext.cell hE c5_1
      clear hE
      refine Wops.cut 4 fun K1 hK1 => ?_
      simp only [List.take_succ_cons, List.take_zero]
      go_simp
      refine Wcall (.inl rfl) (check_c _ s _ (hV.ext xw) hf) ?_
      rintro v w4 ⟨rfl, hE⟩
      go_simp
      refine hK1 _ _ ?_
      clear hK1 K1
      simp only [List.drop_succ_cons, List.drop_zero]
      have z96 := Below.size hE
      replace f5 := Ext.fz hE c5_0 f5
      replace xw := Ext.trans xw hE
      replace c5_0 := Ext.cell hE c5_0
      replace c5_1 := Ext.cell hE c5_1
      clear hE
      go_simp
      refine hK _ _ ?_
      clear hK K' gd g3 g8 g13
      refine Wp.keep [1, 2, 3, 4, 5, 11, 57] fun r97 hkeep => ?_
      obtain ⟨e1_97, e2_97, e3_97, e4_97, e5_97, e11_97, e57_97, -⟩ := hkeep
      simp [go_sem, e1_4, e2_4, e3_4, e4_4, e5_4, e11_4] at e1_97 e2_97 e3_97 e4_97 e5_97 e11_97 e57_97
      clear e1_4 e2_4 e3_4 e4_4 e5_4 e11_4
      refine Wp.condT (by go_simp) ?_
      refine Wp.seqRegion (.inl rfl) (by kernel_rfl) fun K' gd hK hg => ?_
      clear hg
      go_simp
      refine hK _ _ ?_
      clear hK K' gd
      refine Wp.keep [10] fun r98 hkeep => ?_
      obtain ⟨e10_98, -⟩ := hkeep
      simp [go_sem, e1_97, e2_97, e3_97, e4_97, e5_97, e11_97, e57_97] at e10_98
      clear e1_97 e2_97 e3_97 e4_97 e5_97 e11_97 e57_97
      refine Wp.ret ?_
      refine thenK_ret ?_
      refine endK_tmp Try.results9 (by decide) ?_
      rw [e10_98]
      exact ⟨rfl, xw⟩
  · skip
    refine Wp.seq ?_
    refine Wp.seqRegion (.inl rfl) (by kernel_rfl) fun K' gd hK hg => ?_
    have g3 : gd 3 = some 43 := hg 3
    have g8 : gd 8 = some 48 := hg 8
    have g13 : gd 13 = some 53 := hg 13
    clear hg
    refine Wops.cut 2 fun K1 hK1 => ?_
    simp only [List.take_succ_cons, List.take_zero]
    go_simp
    refine Wcall (.inl rfl) (few_c _ s _ (hV.ext xw)) ?_
    rintro v w3 ⟨rfl, hE⟩
    go_simp
    refine hK1 _ _ ?_
    clear hK1 K1
    simp only [List.drop_succ_cons, List.drop_zero]
    have z99 := Below.size hE
    replace f5 := Ext.fz hE c5_0 f5
    replace xw := Ext.trans xw hE
    replace c5_0 := Ext.cell hE c5_0
    replace c5_1 := Ext.cell hE c5_1
    clear hE
    refine Wops.cut 4 fun K1 hK1 => ?_
    simp only [List.take_succ_cons, List.take_zero]
    go_simp
    refine hK1 _ _ ?_
    clear hK1 K1
    simp only [List.drop_succ_cons, List.drop_zero]
    go_simp
    refine hK _ _ ?_
    clear hK K' gd g3 g8 g13
    refine Wp.keep [1, 2, 3, 4, 5, 11, 57] fun r100 hkeep => ?_
    obtain ⟨e1_100, e2_100, e3_100, e4_100, e5_100, e11_100, e57_100, -⟩ := hkeep
    simp [go_sem, e1_4, e2_4, e3_4, e4_4, e5_4, e11_4] at e1_100 e2_100 e3_100 e4_100 e5_100 e11_100 e57_100
    clear e1_4 e2_4 e3_4 e4_4 e5_4 e11_4
    refine Wp.condT (by go_simp) ?_
    refine Wp.seqRegion (.inl rfl) (by kernel_rfl) fun K' gd hK hg => ?_
    clear hg
    go_simp
    refine hK _ _ ?_
    clear hK K' gd
    refine Wp.keep [10] fun r101 hkeep => ?_
    obtain ⟨e10_101, -⟩ := hkeep
    simp [go_sem, e1_100, e2_100, e3_100, e4_100, e5_100, e11_100, e57_100] at e10_101
    clear e1_100 e2_100 e3_100 e4_100 e5_100 e11_100 e57_100
    refine Wp.ret ?_
    refine thenK_ret ?_
    refine endK_tmp Try.results9 (by decide) ?_
    rw [e10_101]
    exact ⟨rfl, xw⟩
end Go.Proofs.Ytnjajbkkgfohaaa
namespace Go.Proofs.Ytnjajbkkgfohaaa
open Go.RowKit Go.Wk Go.Proofs

theorem openBy {w : World} {v : Value} (h : Rd Try.prog w 68 [v]) : ∃ xs, ByV w v xs ∧ xs.length ≤ farI := by
  have e1 : Try.prog.cellsOf 5 = 1 := by kernel_rfl
  have e2 : Try.prog.bytesOf 5 = 1 := by kernel_rfl
  obtain ⟨A, n, c, rfl, hn, hc, hx⟩ := h.list Try.underlying68 (by rw [e1]; decide) (by rw [e2]; decide)
  rw [e1] at hx
  clear e1 e2
  obtain ⟨f, hf⟩ := Go.Deep.choose_lt (α := Int) (p := fun i z => ∃ b o, A = some ⟨b, o, none⟩ ∧ w.cell? ⟨b, o + i, none⟩ = some (.int .u8 z) ∧ 0 ≤ z ∧ z ≤ 255) fun i hi => by
    obtain ⟨b, o, cs, h1, h2, h3, h4, h5⟩ := hx i hi
    obtain ⟨z, rfl, hz⟩ := h5.int Try.underlying5
    exact ⟨z, b, o, h1, by have := h4 0 (by decide); simpa using this, Go.bounds_u8 hz⟩
  have hl : ((List.range n).map f).length = n := by simp
  refine ⟨(List.range n).map f, ⟨A, c, by rw [hl], fun k hk => ?_⟩, by rw [hl]; omega⟩
  rw [hl] at hk
  obtain ⟨b, o, h1, h2, h3⟩ := hf k hk
  have e : gI ((List.range n).map f) k = f k := by
    unfold gI; rw [List.getElem?_map, List.getElem?_range hk]; rfl
  exact ⟨b, o, h1, by rw [e]; exact h2, by rw [e]; exact h3.1, by rw [e]; exact h3.2⟩
theorem rdBool {P : Program} {w : World} {t : TypeId} {cs : List Value} (ht : P.underlying t = some .bool) (h : Rd P w t cs) : ∃ b, cs = [.bool b] := by
  obtain ⟨H, enc, fuel, x, h, -⟩ := h
  obtain ⟨b, h1, -⟩ := DataW.trod_bool ht h
  exact ⟨b, h1⟩
theorem openBo {w : World} {v : Value} (h : Rd Try.prog w 69 [v]) : ∃ xs, BoV w v xs ∧ xs.length ≤ farI := by
  have e1 : Try.prog.cellsOf 4 = 1 := by kernel_rfl
  have e2 : Try.prog.bytesOf 4 = 1 := by kernel_rfl
  obtain ⟨A, n, c, rfl, hn, hc, hx⟩ := h.list Try.underlying69 (by rw [e1]; decide) (by rw [e2]; decide)
  rw [e1] at hx
  clear e1 e2
  obtain ⟨f, hf⟩ := Go.Deep.choose_lt (α := Bool) (p := fun i z => ∃ b o, A = some ⟨b, o, none⟩ ∧ w.cell? ⟨b, o + i, none⟩ = some (.bool z)) fun i hi => by
    obtain ⟨b, o, cs, h1, h2, h3, h4, h5⟩ := hx i hi
    obtain ⟨z, rfl⟩ := rdBool Try.underlying4 h5
    exact ⟨z, b, o, h1, by have := h4 0 (by decide); simpa using this⟩
  have hl : ((List.range n).map f).length = n := by simp
  refine ⟨(List.range n).map f, ⟨A, c, by rw [hl], fun k hk => ?_⟩, by rw [hl]; omega⟩
  have hk2 := hk
  rw [hl] at hk2
  obtain ⟨b, o, h1, h2⟩ := hf k hk2
  exact ⟨b, o, h1, by rw [List.getElem_map, List.getElem_range]; exact h2⟩
end Go.Proofs.Ytnjajbkkgfohaaa
