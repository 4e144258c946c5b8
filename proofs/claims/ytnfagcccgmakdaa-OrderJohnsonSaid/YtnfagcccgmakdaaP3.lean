/- slack; chosen. Latest, Slack, Critical. Laws of make and copy; a copied order, as it lies. runner, gcd. whole. Ample. Ample. Waits. Hold. copied. Orders with one number changed; with. More, Save, Need. Need. Delayed, Reach. Reach. -/
import Derived.Test.YtnfagcccgmakdaaP2
import Derived.RangeFuncBox
import Derived.Laws.CopyOwn
import Derived.Laws.MakeOwn
import Derived.ArgAppend
set_option linter.all false
namespace Go.Proofs.Ytnfagcccgmakdaa
open Go.RowKit Go.Wk Go.Proofs
attribute [local irreducible] Go.Wk.Wops Go.Wk.Wp Go.Wk.Mtree Go.Wk.Mops
set_option maxHeartbeats 4000000

theorem slack_leaf {w w3 : World} {q bt : Nat} {t : Nat → Nat → Int} {x y z : Value} (hE : Ext w w3) (hq : w.heap.size < q) (hc : w3.cell? ⟨q, 0, none⟩ = some z) (hT : TabF w3 bt t) (hne : q ≠ bt) (h1 : w3.cell? ⟨w.heap.size, 0, none⟩ = some x) :
    Ext w (w3.setCell ⟨q, 0, none⟩ y) ∧ (w3.setCell ⟨q, 0, none⟩ y).cell? ⟨q, 0, none⟩ = some y ∧ (w3.setCell ⟨q, 0, none⟩ y).cell? ⟨w.heap.size, 0, none⟩ = some x ∧ TabF (w3.setCell ⟨q, 0, none⟩ y) bt t :=
  ⟨Below.setCell hE (Nat.le_of_lt hq) _, World.cell?_setCell_same' _ _ _ (by rw [hc]; rfl), (setCell_blk (by omega)).trans h1, hT.other hne⟩
theorem slack_c (a : OA) (o : Ord) (b : Nat) (w : World) (hO : OrdF w w.heap.size a o) (hR : RowF w b a o (begA o)) :
    CallsV Try.prog 74 #[.pointer (some ⟨b, 0, none⟩)] w fun v w' => ∃ b1 b2 bt, v = .func (.func 107) #[] #[.pointer (some ⟨b1, 0, none⟩), .pointer (some ⟨b2, 0, none⟩)] ∧ Ext w w' ∧
      w'.cell? ⟨b1, 0, none⟩ = some (.pointer (some ⟨bt, 0, none⟩)) ∧ w'.cell? ⟨b2, 0, none⟩ = some (.pointer (some ⟨b, 0, none⟩)) ∧ TabF w' bt (lstA o (endS o)) := by
  have ho := hO.ok
  have hend := endS_ok ho
  refine Wp.fn Try.func74 rfl Try.ntmps74 (by simp) ?_
  refine Wp.keep [0] fun r1 hkeep => ?_
  obtain ⟨e0_1, -⟩ := hkeep
  simp [go_sem] at e0_1
  refine Wp.seqRegion (.inl rfl) (by kernel_rfl) fun K' gd hK hg => ?_
  clear hg
  go_simp
  refine hK _ _ ?_
  clear hK K' gd
  refine Wp.keep [1] fun r2 hkeep => ?_
  obtain ⟨e1_2, -⟩ := hkeep
  simp [go_sem, e0_1] at e1_2
  clear e0_1
  refine Wp.seqDrawT (.inl rfl) mixed (.rd [0, 1] (.both (.act 2 false (.both (.act 3 false (.act 4 false (.act 5 true .done))) (.act 4 false (.act 3 false (.act 5 true .done))))) (.act 4 false (.act 2 false (.act 3 false (.act 5 true .done)))))) (by kernel_rfl) (fun ρ W => AllEq [1] ρ r2 ∧ (∃ b1 bt, ρ 1 = .pointer (some ⟨w.heap.size, 0, none⟩) ∧ ρ 3 = .pointer (some ⟨b1, 0, none⟩) ∧ Ext w W ∧ W.cell? ⟨b1, 0, none⟩ = some (.pointer (some ⟨bt, 0, none⟩)) ∧ W.cell? ⟨w.heap.size, 0, none⟩ = some (.pointer (some ⟨b, 0, none⟩)) ∧ TabF W bt (lstA o (endS o)))) (fun K' gd hK hg => ?_) ?_
  · skip
    clear hg
    simp only [pickT, nth, List.map_cons, List.map_nil]
    apply Mtree.reads
    · intro w' hE'
      have hC' := hE'.cellsS
      go_simp
      with_reducible rfl
    refine Mtree.two ?_ ?_
    · skip
      refine Mtree.step fun K1 hK1 => ?_
      go_simp
      refine Wcall (.inl rfl) (end_c a o b _ (hO.ext (by repeat (first | assumption | exact Ext.refl _ | refine Ext.drew ?_ | refine Ext.alloc ?_ _ | refine Ext.trans ?_ (by assumption)))) (hR.ext (by repeat (first | assumption | exact Ext.refl _ | refine Ext.drew ?_ | refine Ext.alloc ?_ _ | refine Ext.trans ?_ (by assumption))))) ?_
      rintro v w2 ⟨rfl, hE⟩
      have c8 := hE.cellsS
      have z8 := hE.frozenS
      go_simp
      refine hK1 _ _ (by assumption) ?_
      clear hK1 K1
      refine Mtree.two ?_ ?_
      · skip
        refine Mtree.step fun K1 hK1 => ?_
        go_simp
        refine Wcall (.inl rfl) (last_c a o b (endS o) (begA o) _ (hO.ext (by repeat (first | assumption | exact Ext.refl _ | refine Ext.drew ?_ | refine Ext.alloc ?_ _ | refine Ext.trans ?_ (by assumption)))) (hR.ext (by repeat (first | assumption | exact Ext.refl _ | refine Ext.drew ?_ | refine Ext.alloc ?_ _ | refine Ext.trans ?_ (by assumption)))) (by omega)) ?_
        rintro v w3 ⟨bt, rfl, hT, hE3, hbt⟩
        have c9 := hE3.cellsS
        have z9 := hE3.frozenS
        go_simp
        refine hK1 _ _ (by assumption) ?_
        clear hK1 K1
        refine Mtree.step fun K1 hK1 => ?_
        go_simp
        refine hK1 _ _ (by first | exact (Ext.refl _).alloc _ | exact Ext.refl _) ?_
        clear hK1 K1
        refine Mtree.stepT fun K1 hK1 => ?_
        go_simp
        refine hK1 _ _ ?_
        clear hK1 K1
        refine Mtree.fin ?_
        refine hK _ _ ⟨by simp [AllEq, go_sem], ?_⟩
        have hq : w3.cell? ⟨w.heap.size, 0, none⟩ = some (.pointer (some ⟨b, 0, none⟩)) := by go_simp
        exact ⟨w3.heap.size, bt, by go_simp, by go_simp, (by repeat (first | assumption | exact Ext.refl _ | refine Ext.drew ?_ | refine Ext.alloc ?_ _ | refine Ext.trans ?_ (by assumption))), cell_nw _ _ _ _, cell_al _ hq, hT.ext (by repeat (first | assumption | exact Ext.refl _ | refine Ext.drew ?_ | refine Ext.alloc ?_ _ | refine Ext.trans ?_ (by assumption)))⟩
      · skip
        refine Mtree.step fun K1 hK1 => ?_
        go_simp
        refine hK1 _ _ (by first | exact (Ext.refl _).alloc _ | exact Ext.refl _) ?_
        clear hK1 K1
        refine Mtree.step fun K1 hK1 => ?_
        go_simp
        refine Wcall (.inl rfl) (last_c a o b (endS o) (begA o) _ (hO.ext (by repeat (first | assumption | exact Ext.refl _ | refine Ext.drew ?_ | refine Ext.alloc ?_ _ | refine Ext.trans ?_ (by assumption)))) (hR.ext (by repeat (first | assumption | exact Ext.refl _ | refine Ext.drew ?_ | refine Ext.alloc ?_ _ | refine Ext.trans ?_ (by assumption)))) (by omega)) ?_
        rintro v w3 ⟨bt, rfl, hT, hE3, hbt⟩
        have c9 := hE3.cellsS
        have z9 := hE3.frozenS
        go_simp
        refine hK1 _ _ (by assumption) ?_
        clear hK1 K1
        refine Mtree.stepT fun K1 hK1 => ?_
        go_simp
        refine hK1 _ _ ?_
        clear hK1 K1
        refine Mtree.fin ?_
        refine hK _ _ ⟨by simp [AllEq, go_sem], ?_⟩
        have hq : w3.cell? ⟨w.heap.size, 0, none⟩ = some (.pointer (some ⟨b, 0, none⟩)) := hE3.cell (cell_al _ (hE.cell (cell_drew (cell_nw w _ _ 0))))
        have hw2 : w.heap.size < w2.heap.size := by have := hE.size; simp at this; omega
        obtain ⟨k1, k2, k3, k4⟩ := slack_leaf (y := .pointer (some ⟨bt, 0, none⟩)) (show Ext w w3 from (by repeat (first | assumption | exact Ext.refl _ | refine Ext.drew ?_ | refine Ext.alloc ?_ _ | refine Ext.trans ?_ (by assumption)))) hw2 (hE3.cell (cell_nw w2 _ _ 0)) hT (by simp at hbt; omega) hq
        exact ⟨w2.heap.size, bt, by go_simp, by go_simp, k1, k2, k3, k4⟩
    · skip
      refine Mtree.step fun K1 hK1 => ?_
      go_simp
      refine hK1 _ _ (by first | exact (Ext.refl _).alloc _ | exact Ext.refl _) ?_
      clear hK1 K1
      refine Mtree.step fun K1 hK1 => ?_
      go_simp
      refine Wcall (.inl rfl) (end_c a o b _ (hO.ext (by repeat (first | assumption | exact Ext.refl _ | refine Ext.drew ?_ | refine Ext.alloc ?_ _ | refine Ext.trans ?_ (by assumption)))) (hR.ext (by repeat (first | assumption | exact Ext.refl _ | refine Ext.drew ?_ | refine Ext.alloc ?_ _ | refine Ext.trans ?_ (by assumption))))) ?_
      rintro v w2 ⟨rfl, hE⟩
      have c8 := hE.cellsS
      have z8 := hE.frozenS
      go_simp
      refine hK1 _ _ (by assumption) ?_
      clear hK1 K1
      refine Mtree.step fun K1 hK1 => ?_
      go_simp
      refine Wcall (.inl rfl) (last_c a o b (endS o) (begA o) _ (hO.ext (by repeat (first | assumption | exact Ext.refl _ | refine Ext.drew ?_ | refine Ext.alloc ?_ _ | refine Ext.trans ?_ (by assumption)))) (hR.ext (by repeat (first | assumption | exact Ext.refl _ | refine Ext.drew ?_ | refine Ext.alloc ?_ _ | refine Ext.trans ?_ (by assumption)))) (by omega)) ?_
      rintro v w3 ⟨bt, rfl, hT, hE3, hbt⟩
      have c9 := hE3.cellsS
      have z9 := hE3.frozenS
      go_simp
      refine hK1 _ _ (by assumption) ?_
      clear hK1 K1
      refine Mtree.stepT fun K1 hK1 => ?_
      go_simp
      refine hK1 _ _ ?_
      clear hK1 K1
      refine Mtree.fin ?_
      refine hK _ _ ⟨by simp [AllEq, go_sem], ?_⟩
      have hq : w3.cell? ⟨w.heap.size, 0, none⟩ = some (.pointer (some ⟨b, 0, none⟩)) := hE3.cell (hE.cell (cell_drew (cell_al _ (cell_nw w _ _ 0))))
      have hw2 : w.heap.size + 2 ≤ w2.heap.size := by have := hE.size; simp at this; omega
      have hr : w3.cell? ⟨w.heap.size + 1, 0, none⟩ = some (.pointer none) := by go_simp
      obtain ⟨k1, k2, k3, k4⟩ := slack_leaf (y := .pointer (some ⟨bt, 0, none⟩)) (show Ext w w3 from (by repeat (first | assumption | exact Ext.refl _ | refine Ext.drew ?_ | refine Ext.alloc ?_ _ | refine Ext.trans ?_ (by assumption)))) (Nat.lt_succ_self _) hr hT (by omega) hq
      exact ⟨w.heap.size + 1, bt, by go_simp, by go_simp, k1, k2, k3, k4⟩
  · rintro r3 W ⟨hA, ⟨b1, bt, e1, e3, h1, h2, h3, h4⟩⟩
    obtain ⟨e1_3, -⟩ := hA
    rw [e1_2] at e1_3
    clear e1_2
    refine Wp.seqRegion (.inl rfl) (by kernel_rfl) fun K' gd hK hg => ?_
    clear hg
    go_simp
    refine hK _ _ ?_
    clear hK K' gd
    refine Wp.keep [2] fun r4 hkeep => ?_
    obtain ⟨e2_4, -⟩ := hkeep
    simp [go_sem, e1_3, e3] at e2_4
    clear e1_3 e3
    refine Wp.ret ?_
    refine endK_tmp Try.results74 (by decide) ?_
    rw [e2_4]
    exact ⟨b1, w.heap.size, bt, rfl, h1, h2, h3, h4⟩
theorem slack1_c (o : Ord) (a : OA) (b b1 b2 bt i j : Nat) (w : World) (ho : OrdOk o) (h0 : w.cell? ⟨b1, 0, none⟩ = some (.pointer (some ⟨bt, 0, none⟩))) (h1 : w.cell? ⟨b2, 0, none⟩ = some (.pointer (some ⟨b, 0, none⟩)))
    (hT : TabF w bt (lstA o (endS o))) (hR : RowF w b a o (begA o)) (hi : i < o.n) (hj : j < o.m) :
    CallsV Try.prog 107 #[.agg #[.int .i64 (i : Int), .int .i64 (j : Int)], .pointer (some ⟨b1, 0, none⟩), .pointer (some ⟨b2, 0, none⟩)] w fun v w' => v = .int .i64 (lstA o (endS o) i j - begA o i j) ∧ Ext w w' := by
  have hm := ho.hm2
  have hn := ho.hn2
  have c1 := hT.ct i j (by omega) (by omega)
  have c2 := hR.ct i j (by omega) (by omega)
  have e1 := lst_ok (d := endS o) ho hi hj
  have e2 := endS_ok ho
  have e3 := begA_ok ho hi hj
  have e4 : lstA o (endS o) i j = lst o (endS o) i j := lstA_eq hi hj
  have hw : IntKind.i64.wrap (lstA o (endS o) i j - begA o i j) = lstA o (endS o) i j - begA o i j := IntWalk.i64_in _ (by omega)
  clear e1 e2 e3 e4
  have b1' : (i : Int) < 20 := by omega
  have b2' : (j : Int) < 15 := by omega
  refine Wp.fn Try.func107 rfl Try.ntmps107 (by simp) ?_
  refine Wp.keep [0, 1, 2] fun r1 hkeep => ?_
  obtain ⟨e0_1, e1_1, e2_1, -⟩ := hkeep
  simp [go_sem] at e0_1 e1_1 e2_1
  refine Wp.seqRegion (.inl rfl) (by kernel_rfl) fun K' gd hK hg => ?_
  clear hg
  go_simp
  refine hK _ _ ?_
  clear hK K' gd
  refine Wp.keep [1, 2, 3] fun r2 hkeep => ?_
  obtain ⟨e1_2, e2_2, e3_2, -⟩ := hkeep
  simp [go_sem, e0_1, e1_1, e2_1] at e1_2 e2_2 e3_2
  clear e0_1 e1_1 e2_1
  refine Wp.seqDraw (.inl rfl) mixed [([0, 1, 2, 3, 4], none), ([5, 6, 7, 8, 9], none), ([10, 11, 12, 13, 14], none), ([15, 16, 17, 18, 19], none), ([20], none)] (by kernel_rfl) fun K' gd hK hg => ?_
  clear hg
  simp only [pick, nth, List.map_cons, List.map_nil, Option.map_none, Option.map_some]
  apply Mops.none
  · intro w' hE'
    have hC' := hE'.cellsS
    go_simp
    with_reducible rfl
  apply Mops.none
  · intro w' hE'
    have hC' := hE'.cellsS
    go_simp
    with_reducible rfl
  apply Mops.none
  · intro w' hE'
    have hC' := hE'.cellsS
    go_simp
    with_reducible rfl
  apply Mops.none
  · intro w' hE'
    have hC' := hE'.cellsS
    go_simp
    with_reducible rfl
  apply Mops.none
  · intro w' hE'
    have hC' := hE'.cellsS
    go_simp
    with_reducible rfl
  refine Mops.done ?_
  refine hK _ _ ?_
  clear hK K' gd
  refine Wp.keep [4] fun r3 hkeep => ?_
  obtain ⟨e4_3, -⟩ := hkeep
  simp [go_sem, e1_2, e2_2, e3_2] at e4_3
  clear e1_2 e2_2 e3_2
  refine Wp.ret ?_
  refine endK_tmp Try.results107 (by decide) ?_
  rw [e4_3]
  exact ⟨rfl, ((Ext.refl _).alloc _).drew⟩

/-- stints in memory of our own -/
def encL (xs : List (Int × Int)) : List Value := xs.flatMap fun s => [.int .i64 s.1, .int .i64 s.2]
def OwnS (w : World) (base : Nat) (v : Value) (xs : List (Int × Int)) : Prop := w.ownsRow base 40 2 v xs.length (encL xs)
def zS (s : Nat × Nat) : Int × Int := ((s.1 : Int), (s.2 : Int))
theorem stints_T : ElemT Try.prog 44 40 2 := elemT_of (by kernel_rfl)
theorem encL_add (xs : List (Int × Int)) (s : Int × Int) : encL (xs ++ [s]) = encL xs ++ [.int .i64 s.1, .int .i64 s.2] := by simp [encL]
theorem ownsRow_shut {w w' : World} {m base e size n : Nat} {v : Value} {xs : List Value} (h : w.ownsRow base e size v n xs) (hS : Shut m w w') : w'.ownsRow base e size v n xs := by
  refine ⟨h.1, ?_⟩
  rcases h.2 with hn | ⟨g, cap, cur, rfl, hb, hg, rest⟩
  · exact .inl hn
  · exact .inr ⟨g, cap, cur, rfl, hb, hS.heap hg, rest⟩
theorem ownsRow_adm {w w' : World} {m base e size n : Nat} {v : Value} {xs : List Value} (h : w.ownsRow base e size v n xs) (hS : Adm m w w') : w'.ownsRow base e size v n xs := by
  refine ⟨h.1, ?_⟩
  rcases h.2 with hn | ⟨g, cap, cur, rfl, hb, hg, rest⟩
  · exact .inl hn
  · exact .inr ⟨g, cap, cur, rfl, hb, hS.heap hg, rest⟩
theorem Boxed.adm {w w' : World} {m b : Nat} {t : TypeId} {v : Value} (h : Boxed w b t v) (hA : Adm m w w') : Boxed w' b t v := hA.heap h
theorem Boxed.shut {w w' : World} {m b : Nat} {t : TypeId} {v : Value} (h : Boxed w b t v) (hA : Shut m w w') : Boxed w' b t v := hA.heap h
theorem Boxed.ext {w w' : World} {b : Nat} {t : TypeId} {v : Value} (h : Boxed w b t v) (hE : Ext w w') : Boxed w' b t v := (hE.block b h.lt).trans h
theorem filter_take {α : Type} (p : α → Bool) (xs : List α) {k : Nat} {x : α} (h : xs[k]? = some x) : (xs.take (k + 1)).filter p = (xs.take k).filter p ++ (if p x then [x] else []) := by
  rw [List.take_add_one, h, List.filter_append]; cases hp : p x <;> simp [hp]
theorem oneCell_ints {l : List Value} (h : ∀ u ∈ l, ∃ k x, u = .int k x) : ∀ u ∈ l, u.oneCell' = true := by
  intro u hu; obtain ⟨k, x, rfl⟩ := h u hu; rfl
theorem news_two {w : World} {k : Nat} {u v : Value} (h : w.cell? ⟨k, 0, none⟩ = some u) (h2 : w.cell? ⟨k, 1, none⟩ = some v) : ∀ j x, [u, v][j]? = some x → w.cell? ((⟨k, 0, none⟩ : Addr).add j) = some x := by
  intro j x hx
  match j with
  | 0 => simp at hx; subst hx; rw [Addr.add_lit]; exact h
  | 1 => simp at hx; subst hx; rw [Addr.add_lit]; exact h2
  | j + 2 => simp at hx
theorem keep_cell {W w1 : World} {n₁ e size k b B o : Nat} {v u x : Value} {xs : List Value} {tmp : Obj} (hrow : W.ownsRow n₁ e size v k xs) (hgr : (W.alloc tmp).grownBy w1 v.ownBlock) (hb : b < n₁) (hne : B ≠ b) (h : W.cell? ⟨b, o, none⟩ = some x) :
    (w1.setCell ⟨B, 0, none⟩ u).cell? ⟨b, o, none⟩ = some x := by
  refine (setCell_blk hne).trans (hgr.cell (cell_al tmp h) fun e => ?_)
  have := (hrow.lt b e.symm).1
  omega
theorem chosen_c (a : OA) (o : Ord) (p : Nat × Nat → Bool) (gf : Nat) (lb : Array Value) (w : World) (hn : o.n ≤ 1000) (hm : o.m ≤ 1000)
    (heg : ∀ args w, (callFunc gf args).run Try.prog w = .ok (.enter gf args) w)
    (hp : ∀ x : Nat × Nat, x.1 < o.n → x.2 < o.m → ∀ W, Ext w W → CallsV Try.prog gf (#[.agg #[.int .i64 (x.1 : Int), .int .i64 (x.2 : Int)]] ++ lb) W fun v W' => v = .bool (p x) ∧ Ext W W') :
    CallsV Try.prog 59 #[.agg #[a.cv o, a.rv o], .func (.func gf) #[] lb] w fun v w' => OwnS w' w.heap.size v (((stintsL o.n o.m).filter p).map zS) ∧ Ext w w' := by
  refine Wp.fnM Try.func59 rfl Try.ntmps59 (by simp) ?_
  refine Wp.keep [0, 1] fun r1 hkeep => ?_
  obtain ⟨e0_1, e1_1, -⟩ := hkeep
  simp [go_sem] at e0_1 e1_1
  refine Wp.seqRegion (.inl rfl) (by kernel_rfl) fun K' gd hK hg => ?_
  clear hg
  go_simp
  refine hK _ _ ?_
  clear hK K' gd
  refine Wp.keep [2, 3] fun r2 hkeep => ?_
  obtain ⟨e2_2, e3_2, -⟩ := hkeep
  simp [go_sem, e0_1, e1_1] at e2_2 e3_2
  clear e0_1 e1_1
  refine Wp.seqRegion (.inl rfl) (by kernel_rfl) fun K' gd hK hg => ?_
  clear hg
  go_simp
  refine hK _ _ ?_
  clear hK K' gd
  refine Wp.keep [2, 3, 5] fun r3 hkeep => ?_
  obtain ⟨e2_3, e3_3, e5_3, -⟩ := hkeep
  simp [go_sem, e2_2, e3_2] at e2_3 e3_3 e5_3
  clear e2_2 e3_2
  refine Wp.seq ?_
  refine Wp.seqRegion (.inl rfl) (by kernel_rfl) fun K' gd hK hg => ?_
  clear hg
  go_simp
  refine Wcall (.inl rfl) ((stints_c a o _)) ?_
  rintro v w2 ⟨bx, rfl, hE, s0, s1⟩
  go_simp
  refine hK _ _ ?_
  clear hK K' gd
  refine Wp.keep [3, 5, 8] fun r4 hkeep => ?_
  obtain ⟨e3_4, e5_4, e8_4, -⟩ := hkeep
  simp [go_sem, e2_3, e3_3, e5_3] at e3_4 e5_4 e8_4
  clear e2_3 e3_3 e5_3
  have hB0 : Ext w w2 := ((((Ext.refl w).alloc _).alloc _).alloc _).trans hE
  have q1 : w2.cell? ⟨w.heap.size + 1, 0, none⟩ = some (.func (.func gf) #[] lb) := hE.cell (by go_simp)
  have q2 : Boxed w2 (w.heap.size + 1 + 1) 44 (.slice none 0 0) := Boxed.ext (by have := Boxed.new ((w.alloc (.cells #[a.cv o, a.rv o] 25)).alloc (.cells #[.func (.func gf) #[] lb] 104)) 44 (.slice none 0 0); simpa using this) hE
  have hbx : w.heap.size + 1 + 1 ≠ bx := by intro e; subst e; have h' := s1; simp [World.cell?, show w2.heap[w.heap.size + 1 + 1]? = _ from q2] at h'
  have hsz : w.heap.size + 3 ≤ w2.heap.size := by have := hE.size; simp at this; omega
  refine Wp.block ?_
  refine Wp.range (stints_it (some ⟨a.cb, a.co, none⟩) a.rA o.n o.m a.cc a.rc bx hn hm) (by go_simp) (enters_of Try.func105 (by kernel_rfl) rfl) (fun _ => rfl) (fun k W => Ext w W ∧ w2.heap.size ≤ W.heap.size ∧ (∃ v5, Boxed W (w.heap.size + 1 + 1) 44 v5 ∧ OwnS W w2.heap.size v5 ((((stintsL o.n o.m).take k).filter p).map zS)) ∧ W.cell? ⟨w.heap.size + 1, 0, none⟩ = some (.func (.func gf) #[] lb) ∧ W.cell? ⟨bx, 0, none⟩ = some (a.cv o) ∧ W.cell? ⟨bx, 1, none⟩ = some (a.rv o)) (fun _ _ => False) ?_ ?_ ?_ ?_ ?_ ?_ ?_
  · exact fun k W h => ⟨h.2.2.2.2.1, h.2.2.2.2.2⟩
  · exact fun k W W' hA ⟨h1, hz, ⟨v5, h2, h3⟩, h4, h5, h6⟩ => ⟨hA.below h1 (Nat.le_refl _) (by omega), Nat.le_trans hz hA.size, ⟨v5, Boxed.adm h2 hA, ownsRow_adm h3 hA⟩, hA.cell h4, hA.cell h5, hA.cell h6⟩
  · exact fun _ _ _ _ h => h
  · exact ⟨hB0, Nat.le_refl _, ⟨_, q2, World.ownsRow_nil _ _ _ _⟩, q1, s0, s1⟩
  · rintro l k x W hx ⟨i1, iz, ⟨v5, i2, i3⟩, i4, i5, i6⟩ hl
    simp only [encS, List.zip_toArray, List.zip_cons_cons, List.zip_nil_left, putL_cons, putL_nil]
    refine Wp.keep [3, 5, 9] fun r5 hkeep => ?_
    obtain ⟨e3_5, e5_5, e9_5, -⟩ := hkeep
    simp [go_sem, e3_4, e5_4, e8_4] at e3_5 e5_5 e9_5
    refine Wp.loneRegion (.inr ⟨_, rfl⟩) (by kernel_rfl) fun K' gd hK hg => ?_
    clear hg
    go_simp
    refine hK _ _ ?_
    clear hK K' gd
    refine Ends.keep [3, 5, 6] fun r6 hkeep => ?_
    obtain ⟨e3_6, e5_6, e6_6, -⟩ := hkeep
    simp [go_sem, e3_5, e5_5, e9_5] at e3_6 e5_6 e6_6
    clear e3_5 e5_5 e9_5
    refine Ends.mk ?_
    refine thenK_normal ?_
    refine ⟨KeepsOthers.alloc _ _, fun W2 hA2 hl2 => ?_⟩
    obtain ⟨lr, hl2⟩ := hl2
    have hA3 := (Adm.of_ext ((Ext.refl W).alloc _)).trans hA2
    have j1 := hA3.below i1 (Nat.le_refl _) (by omega)
    have j2 := Boxed.adm i2 hA3
    have j3 := ownsRow_adm i3 hA3
    have j4 := hA3.cell i4
    have j5 := hA3.cell i5
    have j6 := hA3.cell i6
    have f3 := hA2.cell (cell_nw W #[.int .i64 (x.1 : Int), .int .i64 (x.2 : Int)] 40 0)
    have f4 := hA2.cell (cell_nw W #[.int .i64 (x.1 : Int), .int .i64 (x.2 : Int)] 40 1)
    obtain ⟨-, -, hx1, hx2, -⟩ := stintsL_at hx
    refine Wp.block ?_
    refine Wp.seqRegion (.inr ⟨_, rfl⟩) (by kernel_rfl) fun K' gd hK hg => ?_
    clear hg
    go_simp
    refine Wcall (.inr ⟨_, rfl⟩) (hp x hx1 hx2 _ j1) ?_
    rintro v w3 ⟨rfl, hE3⟩
    have l1 := j1.trans (Below.mono hE3 j1.size)
    go_simp
    refine hK _ _ ?_
    clear hK K' gd
    refine Wp.keep [5, 6, 12] fun r7 hkeep => ?_
    obtain ⟨e5_7, e6_7, e12_7, -⟩ := hkeep
    simp [go_sem, e3_6, e5_6, e6_6] at e5_7 e6_7 e12_7
    clear e3_6 e5_6 e6_6
    have l2 := Boxed.ext j2 hE3
    have l3 := ownsRow_ext j3 hE3
    have g3 := hE3.cell f3
    have g4 := hE3.cell f4
    have l4 := hE3.cell j4
    have l5 := hE3.cell j5
    have l6 := hE3.cell j6
    have l7 := l2.cell
    have hlen : ((((stintsL o.n o.m).take k).filter p).map zS).length ≤ 1000000 := by rw [List.length_map]; have e1 := List.length_filter_le p ((stintsL o.n o.m).take k); rw [List.length_take] at e1; have e2 : o.n * o.m ≤ 1000 * 1000 := Nat.mul_le_mul hn hm; rw [stintsL_len] at e1; omega
    have hw3 : w2.heap.size ≤ w3.heap.size := by have e1 := hE3.size; have e2 := hA3.size; omega
    by_cases hq : p x = true
    · refine Wp.condT (by go_simp) ?_
      refine Wp.loneRegion (.inr ⟨_, rfl⟩) (by kernel_rfl) fun K' gd hK hg => ?_
      clear hg
      refine Wops.cut 3 fun K1 hK1 => ?_
      simp only [List.take_succ_cons, List.take_zero]
      go_simp
      refine hK1 _ _ ?_
      clear hK1 K1
      simp only [List.drop_succ_cons, List.drop_zero]
      obtain ⟨v', w', hrun, hown, hgr, -⟩ := app_run stints_T (ownsRow_ext l3 ((Ext.refl w3).alloc (.cells #[.int .i64 (x.1 : Int), .int .i64 (x.2 : Int)] 40))) ⟨w3.heap.size, 0, none⟩ 1 1 [.int .i64 (x.1 : Int), .int .i64 (x.2 : Int)] 44 rfl (news_two (cell_nw w3 #[.int .i64 (x.1 : Int), .int .i64 (x.2 : Int)] 40 0) (cell_nw w3 #[.int .i64 (x.1 : Int), .int .i64 (x.2 : Int)] 40 1)) (oneCell_ints (by simp)) (by omega) (by simp; omega)
      rw [List.length_map] at hown
      obtain ⟨g, cap, rfl⟩ := ownsRow_succ hown
      have hap := Boxed.appended l2 (by decide) (ownsRow_less l3 (b2 := w.heap.size) (by omega)) (by omega) (by omega) (ownsRow_less hown (b2 := w.heap.size) (by omega)) hgr
      have q7 := hap.1.cell
      have q8 := hap.1.frozen
      refine Wops.law rfl (exec_append2 rfl hrun (by go_simp) (by go_simp)) ?_
      go_simp
      refine hK _ _ ?_
      clear hK K' gd
      refine Ends.keep [] fun r8 hkeep => ?_
      clear hkeep
      clear e5_7 e6_7 e12_7
      refine Ends.mk ?_
      refine blockK_normal ?_
      refine ⟨(KeepsOthers.of_ext hE3).trans hap.2.2.2.1, l1.trans hap.2.2.2.2, Nat.le_trans hw3 hap.2.2.2.1.size, ⟨_, hap.2.1, ?_⟩, keep_cell l3 hgr (by omega) (by omega) l4, keep_cell l3 hgr (cell_lt s0) hbx l5, keep_cell l3 hgr (cell_lt s1) hbx l6⟩
      rw [filter_take p _ hx, if_pos hq, List.map_append]
      show World.ownsRow _ _ _ _ _ _ _
      rw [show [x].map zS = [zS x] from rfl, encL_add, List.length_append, List.length_map]
      exact World.ownsRow.kept hown (grownBy_setCell' w' _ _) (.inr (hap.1.not_row (by decide) hown).symm)
    · refine Wp.condF (by go_simp) ?_
      refine Wp.skip ?_
      refine blockK_normal ?_
      refine ⟨KeepsOthers.of_ext hE3, l1, hw3, ⟨_, l2, ?_⟩, l4, l5, l6⟩
      rw [filter_take p _ hx, if_neg hq, List.append_nil]; exact l3
  · rintro rm W hrm ⟨i1, iz, ⟨v5, i2, i3⟩, i4, i5, i6⟩ hmk
    refine blockK_normal ?_
    refine thenK_normal ?_
    have i7 := i2.cell
    refine Wp.seqRegion (.inl rfl) (by kernel_rfl) fun K' gd hK hg => ?_
    clear hg
    go_simp
    refine hK _ _ ?_
    clear hK K' gd
    refine Wp.keep [4] fun r9 hkeep => ?_
    obtain ⟨e4_9, -⟩ := hkeep
    simp [go_sem, e3_4, e5_4, e8_4] at e4_9
    clear e3_4 e5_4 e8_4
    refine Wp.ret ?_
    refine endM_tmp Try.results59 (by decide) ((Marks.one (by first | omega | (simp at hrm; omega)) hmk)) fun wz hS => ?_
    rw [e4_9]
    rw [stripTake] at i3
    exact ⟨ownsRow_less (ownsRow_shut i3 hS) (by have := hB0.size; omega), Shut.ext i1 hS⟩
  · rintro rm c W hrm hf hmk
    exact hf.elim
end Go.Proofs.Ytnfagcccgmakdaa
namespace Go.Proofs.Ytnfagcccgmakdaa
open Go.RowKit Go.Wk Go.Proofs
attribute [local irreducible] Go.Wk.Wops Go.Wk.Wp Go.Wk.Mtree Go.Wk.Mops
set_option maxHeartbeats 4000000

def okDay (d : Int) : Bool := decide (0 ≤ d ∧ d ≤ 1048576)
def latestE (o : Ord) (d : Int) : Int := if askS o (okDay d) = 0 then (if endS o > d then 5 else 0) else askS o (okDay d)
theorem Latest_c (v : Value) (o : Ord) (d : Int) (w : World) (hV : OrderV w w.heap.size v o) (hf : Fits o) :
    CallsV Try.prog 16 #[v, .int .i64 d] w fun v w' => ∃ t, v = .tuple #[t, .int .i64 (latestE o d)] ∧ OwnTab w' w.heap.size t (if latestE o d = 0 then tabL o (lstA o d) else []) ∧ Ext w w' := by
  obtain ⟨cv, rv, rfl, hV2⟩ := hV
  have hV : OrderV w w.heap.size (.agg #[cv, rv]) o := ⟨cv, rv, rfl, hV2⟩
  have hnil : ∀ (W : World) (B : Nat), OwnTab W B (.slice none 0 0) [] := fun W B => ⟨[], World.ownsRow_nil _ _ _ _, fun i hi => absurd hi (by simp)⟩
  refine Wp.fn Try.func16 rfl Try.ntmps16 (by simp) ?_
  refine Wp.keep [0, 1] fun r1 hkeep => ?_
  obtain ⟨e0_1, e1_1, -⟩ := hkeep
  simp [go_sem] at e0_1 e1_1
  refine Wp.seqRegion (.inl rfl) (by kernel_rfl) fun K' gd hK hg => ?_
  clear hg
  go_simp
  refine hK _ _ ?_
  clear hK K' gd
  refine Wp.keep [2, 3] fun r2 hkeep => ?_
  obtain ⟨e2_2, e3_2, -⟩ := hkeep
  simp [go_sem, e0_1, e1_1] at e2_2 e3_2
  clear e0_1 e1_1
  refine Wp.seq ?_
  refine Wp.seqRegion (.inl rfl) (by kernel_rfl) fun K' gd hK hg => ?_
  clear hg
  go_simp
  refine Wcall (.inl rfl) (asked_c _ o (okDay d) 53 #[.pointer (some ⟨w.heap.size + 1, 0, none⟩)] _ (hV.ext (by repeat (first | assumption | exact Ext.refl _ | refine Ext.drew ?_ | refine Ext.alloc ?_ _ | refine Ext.trans ?_ (by assumption)))) hf (enters_of Try.func53 (by kernel_rfl) rfl) (fun _ W hW => askL_c _ d W (hW.cell (by go_simp)))) ?_
  rintro v w2 ⟨rfl, hE⟩
  have hE2 : Ext w w2 := (by repeat (first | assumption | exact Ext.refl _ | refine Ext.drew ?_ | refine Ext.alloc ?_ _ | refine Ext.trans ?_ (by assumption)))
  have hc := hE.cellsS
  go_simp
  refine hK _ _ ?_
  clear hK K' gd
  refine Wp.keep [2, 3, 6] fun r3 hkeep => ?_
  obtain ⟨e2_3, e3_3, e6_3, -⟩ := hkeep
  simp [go_sem, e2_2, e3_2] at e2_3 e3_3 e6_3
  clear e2_2 e3_2
  by_cases h0 : askS o (okDay d) = 0
  · skip
    refine Wp.seqRegion (.inl rfl) (by kernel_rfl) fun K' gd hK hg => ?_
    clear hg
    go_simp
    refine hK _ _ ?_
    clear hK K' gd
    refine Wp.keep [2, 3, 6, 12] fun r4 hkeep => ?_
    obtain ⟨e2_4, e3_4, e6_4, e12_4, -⟩ := hkeep
    simp [go_sem, e2_3, e3_3, e6_3] at e2_4 e3_4 e6_4 e12_4
    clear e2_3 e3_3 e6_3
    refine Wp.condF (by go_simp) ?_
    have hg := (askS_zero.1 h0).1
    have hd : 0 ≤ d ∧ d ≤ 1048576 := by have := (askS_zero.1 h0).2; unfold okDay at this; exact of_decide_eq_true this
    obtain ⟨a, rfl, rfl, hO⟩ := (hV.ext hE2).ordF2 hg
    refine Wp.skip ?_
    refine thenK_normal ?_
    refine Wp.seqRegion (.inl rfl) (by kernel_rfl) fun K' gd hK hg => ?_
    clear hg
    go_simp
    refine Wcall (.inl rfl) (timed_c a o _ hO) ?_
    rintro v w3 ⟨b, rfl, hR, hE3⟩
    have hc3 := hE3.cellsS
    have hd3 : w3.cell? ⟨w.heap.size + 1, 0, none⟩ = some (.int .i64 d) := hE3.cell (hE.cell (by go_simp))
    go_simp
    refine hK _ _ ?_
    clear hK K' gd
    refine Wp.keep [3, 7] fun r5 hkeep => ?_
    obtain ⟨e3_5, e7_5, -⟩ := hkeep
    simp [go_sem, e2_4, e3_4, e6_4, e12_4] at e3_5 e7_5
    clear e2_4 e3_4 e6_4 e12_4
    refine Wp.seq ?_
    refine Wp.seqDraw (.inl rfl) mixed [([0, 2], some (1, false)), ([3], none)] (by kernel_rfl) fun K' gd hK hg => ?_
    clear hg
    simp only [pick, nth, List.map_cons, List.map_nil, Option.map_none, Option.map_some]
    apply Mops.act
    · intro w' hE'
      have hC' := hE'.cellsS
      go_simp
      with_reducible rfl
    intro K1 hK1
    go_simp
    refine Wcall (.inl rfl) (end_c a o b _ (hO.ext (by repeat (first | assumption | exact Ext.refl _ | refine Ext.drew ?_ | refine Ext.alloc ?_ _ | refine Ext.trans ?_ (by assumption)))) (hR.ext (by repeat (first | assumption | exact Ext.refl _ | refine Ext.drew ?_ | refine Ext.alloc ?_ _ | refine Ext.trans ?_ (by assumption))))) ?_
    rintro v w4 ⟨rfl, hE4⟩
    have hd4 : w4.cell? ⟨w.heap.size + 1, 0, none⟩ = some (.int .i64 d) := hE4.cell hd3
    go_simp
    refine hK1 _ _ (by first | assumption | exact Ext.refl _) ?_
    clear hK1 K1
    apply Mops.none
    · intro w' hE'
      have hC' := hE'.cellsS
      go_simp
      with_reducible rfl
    refine Mops.done ?_
    refine hK _ _ ?_
    clear hK K' gd
    refine Wp.keep [3, 7, 19] fun r6 hkeep => ?_
    obtain ⟨e3_6, e7_6, e19_6, -⟩ := hkeep
    simp [go_sem, e3_5, e7_5] at e3_6 e7_6 e19_6
    clear e3_5 e7_5
    by_cases h5 : endS o > d
    · refine Wp.condT (by go_simp) ?_
      refine Wp.seqRegion (.inl rfl) (by kernel_rfl) fun K' gd hK hg => ?_
      clear hg
      go_simp
      refine hK _ _ ?_
      clear hK K' gd
      refine Wp.keep [4, 5] fun r7 hkeep => ?_
      obtain ⟨e4_7, e5_7, -⟩ := hkeep
      simp [go_sem, e3_6, e7_6, e19_6] at e4_7 e5_7
      clear e3_6 e7_6 e19_6
      refine Wp.ret ?_
      refine thenK_ret ?_
      refine endK_tmp2 Try.results16 (by decide) (by decide) ?_
      rw [e4_7, e5_7]
      refine ⟨.slice none 0 0, by rw [latestE, if_pos h0, if_pos h5], ?_, (by repeat (first | assumption | exact Ext.refl _ | refine Ext.drew ?_ | refine Ext.alloc ?_ _ | refine Ext.trans ?_ (by assumption)))⟩
      rw [latestE, if_pos h0, if_pos h5]; exact hnil _ _
    · refine Wp.condF (by go_simp) ?_
      refine Wp.skip ?_
      refine thenK_normal ?_
      refine Wp.seqRegion (.inl rfl) (by kernel_rfl) fun K' gd hK hg => ?_
      clear hg
      go_simp
      refine Wcall (.inl rfl) (last_c a o b d (begA o) _ (hO.ext (by repeat (first | assumption | exact Ext.refl _ | refine Ext.drew ?_ | refine Ext.alloc ?_ _ | refine Ext.trans ?_ (by assumption)))) (hR.ext (by repeat (first | assumption | exact Ext.refl _ | refine Ext.drew ?_ | refine Ext.alloc ?_ _ | refine Ext.trans ?_ (by assumption)))) hd) ?_
      rintro v w5 ⟨bt, rfl, hT, hE5, -⟩
      go_simp
      refine Wcall (.inl rfl) (list_c a o b bt 0 (lstA o d) (begA o) _ (hO.ext (by repeat (first | assumption | exact Ext.refl _ | refine Ext.drew ?_ | refine Ext.alloc ?_ _ | refine Ext.trans ?_ (by assumption)))) (hR.ext (by repeat (first | assumption | exact Ext.refl _ | refine Ext.drew ?_ | refine Ext.alloc ?_ _ | refine Ext.trans ?_ (by assumption)))) (fun i j hi hj => by rw [Nat.zero_add]; exact hT.ct i j (by have := hO.hn2; omega) (by have := hO.hm2; omega))) ?_
      rintro v w6 ⟨hL, hE6⟩
      have hE7 : Ext w w5 := (by repeat (first | assumption | exact Ext.refl _ | refine Ext.drew ?_ | refine Ext.alloc ?_ _ | refine Ext.trans ?_ (by assumption)))
      go_simp
      refine hK _ _ ?_
      clear hK K' gd
      refine Wp.keep [4, 5] fun r8 hkeep => ?_
      obtain ⟨e4_8, e5_8, -⟩ := hkeep
      simp [go_sem, e3_6, e7_6, e19_6] at e4_8 e5_8
      clear e3_6 e7_6 e19_6
      refine Wp.ret ?_
      refine endK_tmp2 Try.results16 (by decide) (by decide) ?_
      rw [e4_8, e5_8]
      refine ⟨_, by rw [latestE, if_pos h0, if_neg h5], ?_, (by repeat (first | assumption | exact Ext.refl _ | refine Ext.drew ?_ | refine Ext.alloc ?_ _ | refine Ext.trans ?_ (by assumption)))⟩
      rw [latestE, if_pos h0, if_neg h5, if_pos rfl]; exact hL.less hE7.size
  · skip
    refine Wp.seqRegion (.inl rfl) (by kernel_rfl) fun K' gd hK hg => ?_
    clear hg
    go_simp
    refine hK _ _ ?_
    clear hK K' gd
    refine Wp.keep [2, 3, 6, 12] fun r9 hkeep => ?_
    obtain ⟨e2_9, e3_9, e6_9, e12_9, -⟩ := hkeep
    simp [go_sem, e2_3, e3_3, e6_3] at e2_9 e3_9 e6_9 e12_9
    clear e2_3 e3_3 e6_3
    refine Wp.condT (by go_simp) ?_
    refine Wp.seqRegion (.inl rfl) (by kernel_rfl) fun K' gd hK hg => ?_
    clear hg
    go_simp
    refine hK _ _ ?_
    clear hK K' gd
    refine Wp.keep [4, 5] fun r10 hkeep => ?_
    obtain ⟨e4_10, e5_10, -⟩ := hkeep
    simp [go_sem, e2_9, e3_9, e6_9, e12_9] at e4_10 e5_10
    clear e2_9 e3_9 e6_9 e12_9
    refine Wp.ret ?_
    refine thenK_ret ?_
    refine endK_tmp2 Try.results16 (by decide) (by decide) ?_
    rw [e4_10, e5_10]
    refine ⟨_, by rw [latestE, if_neg h0], ?_, hE2⟩
    rw [latestE, if_neg h0, if_neg h0]; exact hnil _ _

def slackV (o : Ord) (i j : Nat) : Int := lstA o (endS o) i j - begA o i j
theorem isStint_nat {o : Ord} {i j : Int} (h : isStint o i j = true) : ∃ i' j' : Nat, i = i' ∧ j = j' ∧ i' < o.n ∧ j' < o.m := by
  unfold isStint at h
  rw [Bool.and_eq_true, decide_eq_true_eq, decide_eq_true_eq] at h
  exact ⟨i.toNat, j.toNat, by omega, by omega, by omega, by omega⟩
theorem Slack_c (v : Value) (o : Ord) (i j : Int) (w : World) (hV : OrderV w w.heap.size v o) (hf : Fits o) :
    CallsV Try.prog 31 #[v, .agg #[.int .i64 i, .int .i64 j]] w fun v w' => v = .tuple #[.int .i64 (if askS o (isStint o i j) = 0 then slackV o i.toNat j.toNat else 0), .int .i64 (askS o (isStint o i j))] ∧ Ext w w' := by
  obtain ⟨cv, rv, rfl, hV2⟩ := hV
  have hV : OrderV w w.heap.size (.agg #[cv, rv]) o := ⟨cv, rv, rfl, hV2⟩
  refine Wp.fn Try.func31 rfl Try.ntmps31 (by simp) ?_
  refine Wp.keep [0, 1] fun r1 hkeep => ?_
  obtain ⟨e0_1, e1_1, -⟩ := hkeep
  simp [go_sem] at e0_1 e1_1
  refine Wp.seqRegion (.inl rfl) (by kernel_rfl) fun K' gd hK hg => ?_
  clear hg
  go_simp
  refine hK _ _ ?_
  clear hK K' gd
  refine Wp.keep [2, 3] fun r2 hkeep => ?_
  obtain ⟨e2_2, e3_2, -⟩ := hkeep
  simp [go_sem, e0_1, e1_1] at e2_2 e3_2
  clear e0_1 e1_1
  refine Wp.seq ?_
  refine Wp.seqRegion (.inl rfl) (by kernel_rfl) fun K' gd hK hg => ?_
  clear hg
  go_simp
  refine Wcall (.inl rfl) (asked_c _ o (isStint o i j) 73 #[.pointer (some ⟨w.heap.size, 0, none⟩), .pointer (some ⟨w.heap.size + 1, 0, none⟩)] _ (hV.ext (by repeat (first | assumption | exact Ext.refl _ | refine Ext.drew ?_ | refine Ext.alloc ?_ _ | refine Ext.trans ?_ (by assumption)))) hf (enters_of Try.func73 (by kernel_rfl) rfl) (fun _ W hW => askSq_c _ _ cv rv o i j W (hV.ext (by repeat (first | assumption | exact Ext.refl _ | refine Ext.drew ?_ | refine Ext.alloc ?_ _ | refine Ext.trans ?_ (by assumption)))) hf (hW.cell (by go_simp)) (hW.cell (by go_simp)) (hW.cell (by go_simp)) (hW.cell (by go_simp)))) ?_
  rintro v w2 ⟨rfl, hE⟩
  have hE2 : Ext w w2 := (by repeat (first | assumption | exact Ext.refl _ | refine Ext.drew ?_ | refine Ext.alloc ?_ _ | refine Ext.trans ?_ (by assumption)))
  have hc := hE.cellsS
  go_simp
  refine hK _ _ ?_
  clear hK K' gd
  refine Wp.keep [2, 3, 6] fun r3 hkeep => ?_
  obtain ⟨e2_3, e3_3, e6_3, -⟩ := hkeep
  simp [go_sem, e2_2, e3_2] at e2_3 e3_3 e6_3
  clear e2_2 e3_2
  by_cases h0 : askS o (isStint o i j) = 0
  · skip
    refine Wp.seqRegion (.inl rfl) (by kernel_rfl) fun K' gd hK hg => ?_
    clear hg
    go_simp
    refine hK _ _ ?_
    clear hK K' gd
    refine Wp.keep [2, 3, 6, 11] fun r4 hkeep => ?_
    obtain ⟨e2_4, e3_4, e6_4, e11_4, -⟩ := hkeep
    simp [go_sem, e2_3, e3_3, e6_3] at e2_4 e3_4 e6_4 e11_4
    clear e2_3 e3_3 e6_3
    refine Wp.condF (by go_simp) ?_
    have hg := (askS_zero.1 h0).1
    have hs := (askS_zero.1 h0).2
    obtain ⟨i, j, rfl, rfl, hi, hj⟩ := isStint_nat hs
    have ho := hg.ok
    obtain ⟨a, rfl, rfl, hO⟩ := (hV.ext hE2).ordF2 hg
    refine Wp.skip ?_
    refine thenK_normal ?_
    refine Wp.seqDraw (.inl rfl) mixed [([0, 3], some (1, false)), ([], some (2, false)), ([], some (4, false)), ([5, 6], none)] (by kernel_rfl) fun K' gd hK hg => ?_
    clear hg
    simp only [pick, nth, List.map_cons, List.map_nil, Option.map_none, Option.map_some]
    apply Mops.act
    · intro w' hE'
      have hC' := hE'.cellsS
      go_simp
      with_reducible rfl
    intro K1 hK1
    go_simp
    refine Wcall (.inl rfl) (timed_c a o _ (hO.ext (by repeat (first | assumption | exact Ext.refl _ | refine Ext.drew ?_ | refine Ext.alloc ?_ _ | refine Ext.trans ?_ (by assumption))))) ?_
    rintro v w3 ⟨b, rfl, hR, hE3⟩
    have hc3 := hE3.cellsS
    go_simp
    refine hK1 _ _ (by first | assumption | exact Ext.refl _) ?_
    clear hK1 K1
    apply Mops.act
    · exact fun _ _ => Rops_done
    intro K1 hK1
    go_simp
    refine Wcall (.inl rfl) (slack_c a o b _ (hO.ext (by repeat (first | assumption | exact Ext.refl _ | refine Ext.drew ?_ | refine Ext.alloc ?_ _ | refine Ext.trans ?_ (by assumption)))) hR) ?_
    rintro v w4 ⟨b1, b2, bt, rfl, hE4, k1, k2, k3⟩
    have hc4 := hE4.cellsS
    go_simp
    refine hK1 _ _ (by first | assumption | exact Ext.refl _) ?_
    clear hK1 K1
    apply Mops.act
    · exact fun _ _ => Rops_done
    intro K1 hK1
    go_simp
    refine Wcall (.inl rfl) (slack1_c o a b b1 b2 bt i j _ ho k1 k2 k3 (hR.ext hE4) hi hj) ?_
    rintro v w5 ⟨rfl, hE5⟩
    go_simp
    refine hK1 _ _ (by first | assumption | exact Ext.refl _) ?_
    clear hK1 K1
    apply Mops.none
    · intro w' hE'
      have hC' := hE'.cellsS
      go_simp
      with_reducible rfl
    refine Mops.done ?_
    refine hK _ _ ?_
    clear hK K' gd
    refine Wp.keep [4, 5] fun r5 hkeep => ?_
    obtain ⟨e4_5, e5_5, -⟩ := hkeep
    simp [go_sem, e2_4, e3_4, e6_4, e11_4] at e4_5 e5_5
    clear e2_4 e3_4 e6_4 e11_4
    refine Wp.ret ?_
    refine endK_tmp2 Try.results31 (by decide) (by decide) ?_
    rw [e4_5, e5_5]
    exact ⟨by rw [if_pos h0, h0]; rfl, (by repeat (first | assumption | exact Ext.refl _ | refine Ext.drew ?_ | refine Ext.alloc ?_ _ | refine Ext.trans ?_ (by assumption)))⟩
  · skip
    refine Wp.seqRegion (.inl rfl) (by kernel_rfl) fun K' gd hK hg => ?_
    clear hg
    go_simp
    refine hK _ _ ?_
    clear hK K' gd
    refine Wp.keep [2, 3, 6, 11] fun r6 hkeep => ?_
    obtain ⟨e2_6, e3_6, e6_6, e11_6, -⟩ := hkeep
    simp [go_sem, e2_3, e3_3, e6_3] at e2_6 e3_6 e6_6 e11_6
    clear e2_3 e3_3 e6_3
    refine Wp.condT (by go_simp) ?_
    refine Wp.seqRegion (.inl rfl) (by kernel_rfl) fun K' gd hK hg => ?_
    clear hg
    go_simp
    refine hK _ _ ?_
    clear hK K' gd
    refine Wp.keep [4, 5] fun r7 hkeep => ?_
    obtain ⟨e4_7, e5_7, -⟩ := hkeep
    simp [go_sem, e2_6, e3_6, e6_6, e11_6] at e4_7 e5_7
    clear e2_6 e3_6 e6_6 e11_6
    refine Wp.ret ?_
    refine thenK_ret ?_
    refine endK_tmp2 Try.results31 (by decide) (by decide) ?_
    rw [e4_7, e5_7]
    exact ⟨by rw [if_neg h0], hE2⟩
theorem crit1_c (o : Ord) (a : OA) (b b1 b2 b5 bt i j : Nat) (w : World) (ho : OrdOk o) (h5 : w.cell? ⟨b5, 0, none⟩ = some (.func (.func 107) #[] #[.pointer (some ⟨b1, 0, none⟩), .pointer (some ⟨b2, 0, none⟩)])) (h0 : w.cell? ⟨b1, 0, none⟩ = some (.pointer (some ⟨bt, 0, none⟩))) (h1 : w.cell? ⟨b2, 0, none⟩ = some (.pointer (some ⟨b, 0, none⟩)))
    (hT : TabF w bt (lstA o (endS o))) (hR : RowF w b a o (begA o)) (hi : i < o.n) (hj : j < o.m) :
    CallsV Try.prog 75 #[.agg #[.int .i64 (i : Int), .int .i64 (j : Int)], .pointer (some ⟨b5, 0, none⟩)] w fun v w' => v = .bool (decide (slackV o i j = 0)) ∧ Ext w w' := by
  refine Wp.fn Try.func75 rfl Try.ntmps75 (by simp) ?_
  refine Wp.keep [0, 1] fun r1 hkeep => ?_
  obtain ⟨e0_1, e1_1, -⟩ := hkeep
  simp [go_sem] at e0_1 e1_1
  refine Wp.seqRegion (.inl rfl) (by kernel_rfl) fun K' gd hK hg => ?_
  clear hg
  go_simp
  refine hK _ _ ?_
  clear hK K' gd
  refine Wp.keep [1, 2] fun r2 hkeep => ?_
  obtain ⟨e1_2, e2_2, -⟩ := hkeep
  simp [go_sem, e0_1, e1_1] at e1_2 e2_2
  clear e0_1 e1_1
  refine Wp.seqRegion (.inl rfl) (by kernel_rfl) fun K' gd hK hg => ?_
  clear hg
  go_simp
  refine Wcall (.inl rfl) (slack1_c o a b b1 b2 bt i j _ ho (cell_al _ h0) (cell_al _ h1) (hT.ext (by repeat (first | assumption | exact Ext.refl _ | refine Ext.drew ?_ | refine Ext.alloc ?_ _ | refine Ext.trans ?_ (by assumption)))) (hR.ext (by repeat (first | assumption | exact Ext.refl _ | refine Ext.drew ?_ | refine Ext.alloc ?_ _ | refine Ext.trans ?_ (by assumption)))) hi hj) ?_
  rintro v w2 ⟨rfl, hE⟩
  go_simp
  refine hK _ _ ?_
  clear hK K' gd
  refine Wp.keep [3] fun r3 hkeep => ?_
  obtain ⟨e3_3, -⟩ := hkeep
  simp [go_sem, e1_2, e2_2] at e3_3
  clear e1_2 e2_2
  refine Wp.ret ?_
  refine endK_tmp Try.results75 (by decide) ?_
  rw [e3_3]
  exact ⟨rfl, (by repeat (first | assumption | exact Ext.refl _ | refine Ext.drew ?_ | refine Ext.alloc ?_ _ | refine Ext.trans ?_ (by assumption)))⟩
def critL (o : Ord) : List (Int × Int) := ((stintsL o.n o.m).filter fun x => decide (slackV o x.1 x.2 = 0)).map zS
theorem Critical_c (v : Value) (o : Ord) (w : World) (hV : OrderV w w.heap.size v o) (hf : Fits o) :
    CallsV Try.prog 32 #[v] w fun v w' => ∃ t, v = .tuple #[t, .int .i64 (checkS o)] ∧ OwnS w' w.heap.size t (if checkS o = 0 then critL o else []) ∧ Ext w w' := by
  obtain ⟨cv, rv, rfl, hV2⟩ := hV
  have hV : OrderV w w.heap.size (.agg #[cv, rv]) o := ⟨cv, rv, rfl, hV2⟩
  refine Wp.fn Try.func32 rfl Try.ntmps32 (by simp) ?_
  refine Wp.keep [0] fun r1 hkeep => ?_
  obtain ⟨e0_1, -⟩ := hkeep
  simp [go_sem] at e0_1
  refine Wp.seqRegion (.inl rfl) (by kernel_rfl) fun K' gd hK hg => ?_
  clear hg
  go_simp
  refine hK _ _ ?_
  clear hK K' gd
  refine Wp.keep [1] fun r2 hkeep => ?_
  obtain ⟨e1_2, -⟩ := hkeep
  simp [go_sem, e0_1] at e1_2
  clear e0_1
  refine Wp.seq ?_
  refine Wp.seqRegion (.inl rfl) (by kernel_rfl) fun K' gd hK hg => ?_
  clear hg
  go_simp
  refine Wcall (.inl rfl) (check_c _ o _ (hV.ext (by repeat (first | assumption | exact Ext.refl _ | refine Ext.drew ?_ | refine Ext.alloc ?_ _ | refine Ext.trans ?_ (by assumption)))) hf) ?_
  rintro v w2 ⟨rfl, hE⟩
  have hc := hE.cellsS
  have hE2 : Ext w w2 := (by repeat (first | assumption | exact Ext.refl _ | refine Ext.drew ?_ | refine Ext.alloc ?_ _ | refine Ext.trans ?_ (by assumption)))
  go_simp
  refine hK _ _ ?_
  clear hK K' gd
  refine Wp.keep [1, 4] fun r3 hkeep => ?_
  obtain ⟨e1_3, e4_3, -⟩ := hkeep
  simp [go_sem, e1_2] at e1_3 e4_3
  clear e1_2
  by_cases h0 : checkS o = 0
  · skip
    refine Wp.seqRegion (.inl rfl) (by kernel_rfl) fun K' gd hK hg => ?_
    clear hg
    go_simp
    refine hK _ _ ?_
    clear hK K' gd
    refine Wp.keep [1, 4, 9] fun r4 hkeep => ?_
    obtain ⟨e1_4, e4_4, e9_4, -⟩ := hkeep
    simp [go_sem, e1_3, e4_3] at e1_4 e4_4 e9_4
    clear e1_3 e4_3
    refine Wp.condF (by go_simp) ?_
    have hg := checkS_zero.1 h0
    have ho := hg.ok
    obtain ⟨a, rfl, rfl, hO⟩ := (hV.ext hE2).ordF2 hg
    refine Wp.skip ?_
    refine thenK_normal ?_
    refine Wp.seqRegion (.inl rfl) (by kernel_rfl) fun K' gd hK hg => ?_
    clear hg
    go_simp
    refine Wcall (.inl rfl) (timed_c a o _ hO) ?_
    rintro v w3 ⟨b, rfl, hR, hE3⟩
    go_simp
    refine Wcall (.inl rfl) (slack_c a o b _ (hO.ext (by repeat (first | assumption | exact Ext.refl _ | refine Ext.drew ?_ | refine Ext.alloc ?_ _ | refine Ext.trans ?_ (by assumption)))) hR) ?_
    rintro v w4 ⟨b1, b2, bt, rfl, hE4, k1, k2, k3⟩
    have q0 : w4.cell? ⟨w.heap.size, 0, none⟩ = some (a.cv o) := hE4.cell (hE3.cell (hE.cell (by go_simp)))
    have q1 : w4.cell? ⟨w.heap.size, 1, none⟩ = some (a.rv o) := hE4.cell (hE3.cell (hE.cell (by go_simp)))
    go_simp
    refine hK _ _ ?_
    clear hK K' gd
    refine Wp.keep [1, 5] fun r5 hkeep => ?_
    obtain ⟨e1_5, e5_5, -⟩ := hkeep
    simp [go_sem, e1_4, e4_4, e9_4] at e1_5 e5_5
    clear e1_4 e4_4 e9_4
    refine Wp.seqRegion (.inl rfl) (by kernel_rfl) fun K' gd hK hg => ?_
    clear hg
    go_simp
    refine Wcall (.inl rfl) (chosen_c a o (fun x => decide (slackV o x.1 x.2 = 0)) 75 #[.pointer (some ⟨w4.heap.size, 0, none⟩)] _ (by have := ho.hn2; omega) (by have := ho.hm2; omega) (enters_of Try.func75 (by kernel_rfl) rfl) (fun x hx1 hx2 W hW => crit1_c o a b b1 b2 w4.heap.size bt x.1 x.2 W ho (hW.cell (cell_nw w4 #[.func (.func 107) #[] #[.pointer (some ⟨b1, 0, none⟩), .pointer (some ⟨b2, 0, none⟩)]] 111 0)) (hW.cell (cell_al _ k1)) (hW.cell (cell_al _ k2)) ((k3.ext ((Ext.refl _).alloc _)).ext hW) ((hR.ext (hE4.alloc _)).ext hW) hx1 hx2)) ?_
    rintro v w5 ⟨hL, hE5⟩
    go_simp
    refine hK _ _ ?_
    clear hK K' gd
    refine Wp.keep [2, 3] fun r6 hkeep => ?_
    obtain ⟨e2_6, e3_6, -⟩ := hkeep
    simp [go_sem, e1_5, e5_5] at e2_6 e3_6
    clear e1_5 e5_5
    refine Wp.ret ?_
    refine endK_tmp2 Try.results32 (by decide) (by decide) ?_
    rw [e2_6, e3_6]
    refine ⟨_, by rw [h0], ?_, (by repeat (first | assumption | exact Ext.refl _ | refine Ext.drew ?_ | refine Ext.alloc ?_ _ | refine Ext.trans ?_ (by assumption)))⟩
    rw [if_pos h0]; exact ownsRow_less hL (Below.size (show Ext w w4 from (by repeat (first | assumption | exact Ext.refl _ | refine Ext.drew ?_ | refine Ext.alloc ?_ _ | refine Ext.trans ?_ (by assumption)))) |> fun h => by simp; omega)
  · skip
    refine Wp.seqRegion (.inl rfl) (by kernel_rfl) fun K' gd hK hg => ?_
    clear hg
    go_simp
    refine hK _ _ ?_
    clear hK K' gd
    refine Wp.keep [1, 4, 9] fun r7 hkeep => ?_
    obtain ⟨e1_7, e4_7, e9_7, -⟩ := hkeep
    simp [go_sem, e1_3, e4_3] at e1_7 e4_7 e9_7
    clear e1_3 e4_3
    refine Wp.condT (by go_simp) ?_
    refine Wp.seqRegion (.inl rfl) (by kernel_rfl) fun K' gd hK hg => ?_
    clear hg
    go_simp
    refine hK _ _ ?_
    clear hK K' gd
    refine Wp.keep [2, 3] fun r8 hkeep => ?_
    obtain ⟨e2_8, e3_8, -⟩ := hkeep
    simp [go_sem, e1_7, e4_7, e9_7] at e2_8 e3_8
    clear e1_7 e4_7 e9_7
    refine Wp.ret ?_
    refine thenK_ret ?_
    refine endK_tmp2 Try.results32 (by decide) (by decide) ?_
    rw [e2_8, e3_8]
    exact ⟨_, rfl, by rw [if_neg h0]; exact World.ownsRow_nil _ _ _ _, hE2⟩
end Go.Proofs.Ytnfagcccgmakdaa
namespace Go.Proofs.Ytnfagcccgmakdaa
open Go.RowKit Go.Wk Go.Proofs
attribute [local irreducible] Go.Wk.Wops Go.Wk.Wp Go.Wk.Mtree Go.Wk.Mops
set_option maxHeartbeats 4000000

theorem run_copy_rowN {P : Program} (w : World) (dT sT ty elem : TypeId) (size g o dLen dCap : Nat) (a : Addr) (sLen sCap : Nat) (cur : Array Value) (t : TypeId) (cs : List Value)
    (hu : P.underlying dT = some (.slice elem)) (hs : (P.info? elem).map (·.size) = some size)
    (hg : w.heap[g]? = some (.cells cur t (0, 0))) (hn : cs.length = Nat.min sLen dLen * size)
    (hsrc : ∀ j v, cs[j]? = some v → w.cell? (a.add j) = some v) (hfit : o + cs.length ≤ cur.size) (h1 : ∀ v ∈ cs, v.oneCell' = true) :
    (Builtin.copy_ #[dT, sT] ty #[.slice (some ⟨g, o, none⟩) dLen dCap, .slice (some a) sLen sCap]).run P w =
      .ok (goInt (Nat.min sLen dLen)) (w.setRow g (cur.toList.take o ++ cs ++ cur.toList.drop (o + cs.length)).toArray) := by
  have hst := run_storeCells_at P g o t cs 0 cur w hg (by simpa using hfit) h1
  cases hq : P.info? elem with
  | none => simp [hq] at hs
  | some i =>
    have hi : i.size = size := by simpa [hq] using hs
    have hl := run_firstCells_some (P := P) w size (Nat.min sLen dLen) a sLen sCap cs hn hsrc
    simp [Builtin.copy_, run_underlying hu, Builtin.lenOf, sizeOf, typeInfo, hq, hi, hl, hst]
theorem run_copy_zero {P : Program} (w : World) (dT sT ty elem : TypeId) (size : Nat) (d a : Option Addr) (dLen dCap sLen sCap : Nat) (hu : P.underlying dT = some (.slice elem)) (hs : (P.info? elem).map (·.size) = some size) (hn : Nat.min sLen dLen = 0) :
    (Builtin.copy_ #[dT, sT] ty #[.slice d dLen dCap, .slice a sLen sCap]).run P w = .ok (goInt 0) w := by
  cases hq : P.info? elem with
  | none => simp [hq] at hs
  | some i =>
    have hl : ∀ (x : Addr), (loadCells x 0).run P w = .ok #[] w := fun x => by simpa using run_loadCells_list (P := P) w x [] (by simp)
    cases d <;> cases a <;> simp [Builtin.copy_, run_underlying hu, Builtin.lenOf, Builtin.firstCells, sizeOf, typeInfo, hq, hn, storeCells, hl]
/-- a row that is laid over as a whole -/
theorem copy_whole {P : Program} {t e : TypeId} {size : Nat} (T : ElemT P t e size) {w : World} (ty : TypeId) {g n dCap sCap : Nat} {sp : Option Addr} {cur : Array Value} (cs : List Value)
    (hg : w.heap[g]? = some (.cells cur e (0, 0))) (hcur : cur.size = n * size) (hcs : cs.length = n * size) (hsrc : 0 < n → ∃ a, sp = some a ∧ ∀ j v, cs[j]? = some v → w.cell? (a.add j) = some v) (h1 : ∀ v ∈ cs, v.oneCell' = true) :
    ∃ w', (Builtin.copy_ #[t, t] ty #[.slice (some ⟨g, 0, none⟩) n dCap, .slice sp n sCap]).run P w = .ok (goInt n) w' ∧ w'.heap[g]? = some (.cells cs.toArray e (0, 0)) ∧ w.grownBy w' (some g) ∧ w'.heap.size = w.heap.size := by
  obtain ⟨i, z, h1', h2, h3, h4, h5, h6, h7⟩ := T.ex
  have hs : (P.info? e).map (·.size) = some size := by rw [h2]; simp [h4]
  by_cases hn : n = 0
  · subst hn
    refine ⟨w, run_copy_zero w t t ty e size _ _ _ _ _ _ h1' hs (by simp), ?_, ⟨rfl, rfl, rfl, Nat.le_refl _, fun _ _ _ => rfl⟩, rfl⟩
    rw [Nat.zero_mul] at hcur hcs
    rw [List.eq_nil_of_length_eq_zero hcs, hg, Array.eq_empty_of_size_eq_zero hcur]
  · obtain ⟨a, rfl, hsrc2⟩ := hsrc (Nat.pos_of_ne_zero hn)
    have hr := run_copy_rowN (P := P) w t t ty e size g 0 n dCap a n sCap cur e cs h1' hs hg (by simpa using hcs) hsrc2 (by omega) h1
    have hmin : Nat.min n n = n := Nat.min_self n
    rw [hmin] at hr
    refine ⟨_, hr, ?_, ⟨rfl, rfl, rfl, by simp [World.setRow], fun k _ hk => setRow_other w g k _ (fun e => hk (by rw [e]))⟩, by simp [World.setRow]⟩
    rw [setRow_heap w g cur _ e _ hg]
    have : (cur.toList.take 0 ++ cs ++ cur.toList.drop (0 + cs.length)) = cs := by
      rw [List.take_zero, List.nil_append, Nat.zero_add, List.drop_of_length_le (by simp; omega), List.append_nil]
    rw [this]

/-- the cells that make lays -/
def madeC (P : Program) (e : TypeId) (n : Nat) : Array Value :=
  match P.info? e with
  | some i => (match i.zero with | some z => madeCells z.cells (n * i.size) | none => #[])
  | none => #[]
theorem make_run {P : Program} {t e : TypeId} {size : Nat} (T : ElemT P t e size) (n : Nat) (hn : n ≤ 1000000000) (w : World) :
    (Instr.makeSlice t (.int .i64 (n : Int)) (.int .i64 (n : Int))).run P w = .ok (.slice (some ⟨w.heap.size, 0, none⟩) n n) (w.alloc (.cells (madeC P e n) e)) := by
  obtain ⟨i, z, h1, h2, h3, h4, h5, h6, h7⟩ := T.ex
  have hb : (i.bytes : Int) * (n : Int) ≤ 281474976710656 := by
    have : i.bytes * n ≤ 1000 * 1000000000 := Nat.mul_le_mul h7 hn
    have h8 : ((i.bytes * n : Nat) : Int) ≤ ((1000 * 1000000000 : Nat) : Int) := Int.ofNat_le.2 this
    rw [Int.natCast_mul] at h8
    omega
  have h := run_make (P := P) w t e i z h1 h2 h3 .i64 .i64 (n : Int) (n : Int) (by omega) (Int.le_refl _) hb (by omega)
  rw [h]
  simp only [Int.toNat_natCast, madeC, h2, h3]
theorem madeC_size {P : Program} {t e : TypeId} {size : Nat} (T : ElemT P t e size) (n : Nat) : (madeC P e n).size = n * size := by
  obtain ⟨i, z, h1, h2, h3, h4, h5, h6, h7⟩ := T.ex
  simp only [madeC, h2, h3]
  rw [size_madeCells, h4]
theorem runs_T : ElemT Try.prog 23 37 3 := elemT_of (by kernel_rfl)
@[go_sem] theorem makeI (n : Nat) (hn : n ≤ 1000000000) (w : World) : (Instr.makeSlice 22 (.int .i64 (n : Int)) (.int .i64 (n : Int))).run Try.prog w = .ok (.slice (some ⟨w.heap.size, 0, none⟩) n n) (w.alloc (.cells (madeC Try.prog 3 n) 3)) := make_run ints_T n hn w
@[go_sem] theorem makeR (n : Nat) (hn : n ≤ 1000000000) (w : World) : (Instr.makeSlice 23 (.int .i64 (n : Int)) (.int .i64 (n : Int))).run Try.prog w = .ok (.slice (some ⟨w.heap.size, 0, none⟩) n n) (w.alloc (.cells (madeC Try.prog 37 n) 37)) := make_run runs_T n hn w
end Go.Proofs.Ytnfagcccgmakdaa
namespace Go.Proofs.Ytnfagcccgmakdaa
open Go.RowKit Go.Wk Go.Proofs
attribute [local irreducible] Go.Wk.Wops Go.Wk.Wp Go.Wk.Mtree Go.Wk.Mops
set_option maxHeartbeats 4000000

def okRunner (o : Ord) (n : Int) : Bool := decide (0 ≤ n ∧ n ≤ (o.n : Int) - 1)
theorem runner_c (v : Value) (o : Ord) (n : Int) (w : World) (hV : OrderV w w.heap.size v o) (hf : Fits o) :
    CallsV Try.prog 61 #[v, .int .i64 n] w fun v w' => v = .int .i64 (askS o (okRunner o n)) ∧ Ext w w' := by
  obtain ⟨cv, rv, rfl, hV2⟩ := hV
  have hV : OrderV w w.heap.size (.agg #[cv, rv]) o := ⟨cv, rv, rfl, hV2⟩
  refine Wp.fn Try.func61 rfl Try.ntmps61 (by simp) ?_
  refine Wp.keep [0, 1] fun r1 hkeep => ?_
  obtain ⟨e0_1, e1_1, -⟩ := hkeep
  simp [go_sem] at e0_1 e1_1
  refine Wp.seqRegion (.inl rfl) (by kernel_rfl) fun K' gd hK hg => ?_
  clear hg
  go_simp
  refine hK _ _ ?_
  clear hK K' gd
  refine Wp.keep [2, 3] fun r2 hkeep => ?_
  obtain ⟨e2_2, e3_2, -⟩ := hkeep
  simp [go_sem, e0_1, e1_1] at e2_2 e3_2
  clear e0_1 e1_1
  refine Wp.seqRegion (.inl rfl) (by kernel_rfl) fun K' gd hK hg => ?_
  clear hg
  go_simp
  refine Wcall (.inl rfl) (asked_c _ o (okRunner o n) 103 #[.pointer (some ⟨w.heap.size + 1, 0, none⟩), .pointer (some ⟨w.heap.size, 0, none⟩)] _ (hV.ext (by repeat (first | assumption | exact Ext.refl _ | refine Ext.drew ?_ | refine Ext.alloc ?_ _ | refine Ext.trans ?_ (by assumption)))) hf (enters_of Try.func103 (by kernel_rfl) rfl) (fun _ W hW => askR_c _ _ cv rv o n W (hV.ext (by repeat (first | assumption | exact Ext.refl _ | refine Ext.drew ?_ | refine Ext.alloc ?_ _ | refine Ext.trans ?_ (by assumption)))) hf (hW.cell (by go_simp)) (hW.cell (by go_simp)))) ?_
  rintro v w2 ⟨rfl, hE⟩
  go_simp
  refine hK _ _ ?_
  clear hK K' gd
  refine Wp.keep [4] fun r3 hkeep => ?_
  obtain ⟨e4_3, -⟩ := hkeep
  simp [go_sem, e2_2, e3_2] at e4_3
  clear e2_2 e3_2
  refine Wp.ret ?_
  refine endK_tmp Try.results61 (by decide) ?_
  rw [e4_3]
  exact ⟨rfl, (by repeat (first | assumption | exact Ext.refl _ | refine Ext.drew ?_ | refine Ext.alloc ?_ _ | refine Ext.trans ?_ (by assumption)))⟩
theorem gcd_c (a b : Nat) (w : World) (ha : a ≤ 1000000) (hb : b ≤ 1000000) :
    CallsV Try.prog 63 #[.int .i64 (a : Int), .int .i64 (b : Int)] w fun v w' => v = .int .i64 ((Nat.gcd a b : Nat) : Int) ∧ Ext w w' := by
  refine Wp.fn Try.func63 rfl Try.ntmps63 (by simp) ?_
  refine Wp.keep [0, 1] fun r1 hkeep => ?_
  obtain ⟨e0_1, e1_1, -⟩ := hkeep
  simp [go_sem] at e0_1 e1_1
  refine Wp.seqRegion (.inl rfl) (by kernel_rfl) fun K' gd hK hg => ?_
  clear hg
  go_simp
  refine hK _ _ ?_
  clear hK K' gd
  refine Wp.keep [0, 1] fun r2 hkeep => ?_
  obtain ⟨e0_2, e1_2, -⟩ := hkeep
  simp [go_sem, e0_1, e1_1] at e0_2 e1_2
  clear e0_1 e1_1
  refine Wp.seq ?_
  refine Wp.block ?_
  refine Wp.loop (fun k ρ ds wk => AllEq [] ρ r2 ∧ ds = [] ∧ (∃ x y : Nat, ρ 0 = .int .i64 (x : Int) ∧ ρ 1 = .int .i64 (y : Int) ∧ Nat.gcd x y = Nat.gcd a b ∧ y + k ≤ b ∧ x ≤ 1000000 ∧ y ≤ 1000000 ∧ Ext w wk)) (b + 1) ?_ ?_
  · refine ⟨AllEq.refl _ _, rfl, ?_⟩
    exact ⟨a, b, e0_2, e1_2, rfl, by omega, ha, hb, Ext.refl _⟩
  · rintro k r3 _ wk hk ⟨hA, rfl, ⟨x, y, e0, e1, hg, hyk, hx1, hy1, hE⟩⟩
    obtain ⟨-⟩ := hA
    by_cases h : y = 0
    · skip
      subst h
      refine Wp.seq ?_
      refine Wp.seqRegion (.inl rfl) (by kernel_rfl) fun K' gd hK hg => ?_
      clear hg
      go_simp
      refine hK _ _ ?_
      clear hK K' gd
      refine Wp.keep [0, 1, 6] fun r4 hkeep => ?_
      obtain ⟨e0_4, e1_4, e6_4, -⟩ := hkeep
      simp [go_sem, e0, e1] at e0_4 e1_4 e6_4
      clear e0 e1
      refine Wp.condF (by go_simp) ?_
      refine Wp.exit ?_
      refine thenK_exit ?_
      refine thenK_exit ?_
      refine blockK_here ?_
      refine thenK_normal ?_
      refine Wp.seqRegion (.inl rfl) (by kernel_rfl) fun K' gd hK hg => ?_
      clear hg
      go_simp
      refine hK _ _ ?_
      clear hK K' gd
      refine Wp.keep [4] fun r5 hkeep => ?_
      obtain ⟨e4_5, -⟩ := hkeep
      simp [go_sem, e0_4, e1_4, e6_4] at e4_5
      clear e0_4 e1_4 e6_4
      refine Wp.ret ?_
      refine endK_tmp Try.results63 (by decide) ?_
      rw [e4_5]
      exact ⟨by rw [← hg, Nat.gcd_zero_right], hE⟩
    · skip
      refine Wp.seq ?_
      refine Wp.seqRegion (.inl rfl) (by kernel_rfl) fun K' gd hK hg => ?_
      clear hg
      go_simp
      refine hK _ _ ?_
      clear hK K' gd
      refine Wp.keep [0, 1, 6] fun r6 hkeep => ?_
      obtain ⟨e0_6, e1_6, e6_6, -⟩ := hkeep
      simp [go_sem, e0, e1] at e0_6 e1_6 e6_6
      clear e0 e1
      refine Wp.condT (by go_simp) ?_
      have hmod : IntKind.i64.wrap (Int.tmod (x : Int) (y : Int)) = ((x % y : Nat) : Int) := by rw [← Int.ofNat_tmod]; exact IntWalk.i64_in _ (by have := Nat.mod_lt x (Nat.pos_of_ne_zero h); omega)
      refine Wp.skip ?_
      refine thenK_normal ?_
      refine Wp.block ?_
      refine Wp.loneDraw (.inl rfl) mixed [([0, 1, 2, 3, 4], none), ([5], none)] (by kernel_rfl) fun K' gd hK hg => ?_
      clear hg
      simp only [pick, nth, List.map_cons, List.map_nil, Option.map_none, Option.map_some]
      apply Mops.none
      · intro w' hE'
        have hC' := hE'.cellsS
        go_simp
        with_reducible rfl
      apply Mops.none
      · intro w' hE'
        have hC' := hE'.cellsS
        go_simp
        with_reducible rfl
      refine Mops.done ?_
      refine hK _ _ ?_
      clear hK K' gd
      refine Ends.keep [0, 1] fun r7 hkeep => ?_
      obtain ⟨e0_7, e1_7, -⟩ := hkeep
      simp [go_sem, e0_6, e1_6, e6_6] at e0_7 e1_7
      clear e0_6 e1_6 e6_6
      refine Ends.mk ?_
      refine blockK_normal ?_
      refine thenK_normal ⟨by omega, trivial, rfl, ?_⟩
      refine ⟨y, x % y, e0_7, e1_7, by rw [← hg, Nat.gcd_comm y (x % y), ← Nat.gcd_rec, Nat.gcd_comm], ?_, hy1, ?_, (by repeat (first | assumption | exact Ext.refl _ | refine Ext.drew ?_ | refine Ext.alloc ?_ _ | refine Ext.trans ?_ (by assumption)))⟩
      · have := Nat.mod_lt x (Nat.pos_of_ne_zero h); omega
      · have := Nat.mod_lt x (Nat.pos_of_ne_zero h); omega
end Go.Proofs.Ytnfagcccgmakdaa
namespace Go.Proofs.Ytnfagcccgmakdaa
open Go.RowKit Go.Wk Go.Proofs
attribute [local irreducible] Go.Wk.Wops Go.Wk.Wp Go.Wk.Mtree Go.Wk.Mops
set_option maxHeartbeats 4000000

theorem sum_small {xs : List Int} (h : ∀ x ∈ xs, 1 ≤ x ∧ x ≤ 60) : 0 ≤ xs.sum ∧ xs.sum ≤ 60 * (xs.length : Int) := by
  induction xs with
  | nil => simp
  | cons x xs ih =>
    have h1 := h x (List.mem_cons_self)
    have h2 := ih fun y hy => h y (List.mem_cons_of_mem _ hy)
    rw [List.sum_cons, List.length_cons]
    omega
theorem whole_c (x y : Int) (tv : Value) (xs : List Int) (w : World) (hx : IntsV w w.heap.size tv xs) (hs : ∀ x ∈ xs, 1 ≤ x ∧ x ≤ 60) (hl : xs.length ≤ 1000000) :
    CallsV Try.prog 67 #[.agg #[.int .i64 x, .int .i64 y, tv]] w fun v w' => v = .int .i64 xs.sum ∧ Ext w w' := by
  obtain ⟨A, c, rfl, hx, hcap⟩ := hx
  refine Wp.fn Try.func67 rfl Try.ntmps67 (by simp) ?_
  refine Wp.keep [0] fun r1 hkeep => ?_
  obtain ⟨e0_1, -⟩ := hkeep
  simp [go_sem] at e0_1
  refine Wp.seqRegion (.inl rfl) (by kernel_rfl) fun K' gd hK hg => ?_
  clear hg
  go_simp
  refine hK _ _ ?_
  clear hK K' gd
  refine Wp.keep [1] fun r2 hkeep => ?_
  obtain ⟨e1_2, -⟩ := hkeep
  simp [go_sem, e0_1] at e1_2
  clear e0_1
  refine Wp.seqRegion (.inl rfl) (by kernel_rfl) fun K' gd hK hg => ?_
  clear hg
  go_simp
  refine hK _ _ ?_
  clear hK K' gd
  refine Wp.keep [1, 3] fun r3 hkeep => ?_
  obtain ⟨e1_3, e3_3, -⟩ := hkeep
  simp [go_sem, e1_2] at e1_3 e3_3
  clear e1_2
  refine Wp.seq ?_
  refine Wp.seqRegion (.inl rfl) (by kernel_rfl) fun K' gd hK hg => ?_
  clear hg
  go_simp
  refine hK _ _ ?_
  clear hK K' gd
  refine Wp.keep [3, 7, 8, 9] fun r4 hkeep => ?_
  obtain ⟨e3_4, e7_4, e8_4, e9_4, -⟩ := hkeep
  simp [go_sem, e1_3, e3_3] at e3_4 e7_4 e8_4 e9_4
  clear e1_3 e3_3
  refine Wp.block ?_
  refine Wp.loop (fun k ρ ds wk => AllEq [7, 8] ρ r4 ∧ ds = [] ∧ (ρ 9 = .int .i64 (k : Int) ∧ ρ 3 = .int .i64 (xs.take k).sum ∧ Ext w wk)) (xs.length) ?_ ?_
  · refine ⟨AllEq.refl _ _, rfl, ?_⟩
    exact ⟨by rw [e9_4]; rfl, by rw [e3_4]; rfl, (by repeat (first | assumption | exact Ext.refl _ | refine Ext.drew ?_ | refine Ext.alloc ?_ _ | refine Ext.trans ?_ (by assumption)))⟩
  · rintro k r5 _ wk hk ⟨hA, rfl, ⟨e9, e3, hE⟩⟩
    obtain ⟨e7_5, e8_5, -⟩ := hA
    rw [e7_4] at e7_5
    rw [e8_4] at e8_5
    refine Wp.seqRegion (.inl rfl) (by kernel_rfl) fun K' gd hK hg => ?_
    clear hg
    go_simp
    refine hK _ _ ?_
    clear hK K' gd
    refine Wp.keep [3, 7, 8, 9, 10] fun r6 hkeep => ?_
    obtain ⟨e3_6, e7_6, e8_6, e9_6, e10_6, -⟩ := hkeep
    simp [go_sem, e3, e7_5, e8_5, e9] at e3_6 e7_6 e8_6 e9_6 e10_6
    clear e3 e7_5 e8_5 e9
    refine Wp.seq ?_
    by_cases h : k < xs.length
    · refine Wp.condT (by go_simp) ?_
      obtain ⟨b, o, rfl, hb, hc⟩ := hx (by intro e; rw [e] at h; exact absurd h (Nat.not_lt_zero _))
      have c1 := hE.cell (hc k h)
      have s1 := sum_small (xs := xs.take k) (fun x hx => hs x (List.mem_of_mem_take hx))
      have s2 := hs xs[k] (List.getElem_mem h)
      rw [List.length_take] at s1
      have hw : IntKind.i64.wrap ((xs.take k).sum + xs[k]) = (xs.take k).sum + xs[k] := IntWalk.i64_in _ (by omega)
      refine Wp.skip ?_
      refine thenK_normal ?_
      refine Wp.seq ?_
      refine Wp.block ?_
      refine Wp.seqRegion (.inl rfl) (by kernel_rfl) fun K' gd hK hg => ?_
      clear hg
      go_simp
      refine hK _ _ ?_
      clear hK K' gd
      refine Wp.keep [3, 5, 7, 8, 9] fun r7 hkeep => ?_
      obtain ⟨e3_7, e5_7, e7_7, e8_7, e9_7, -⟩ := hkeep
      simp [go_sem, e3_6, e7_6, e8_6, e9_6, e10_6] at e3_7 e5_7 e7_7 e8_7 e9_7
      clear e3_6 e7_6 e8_6 e9_6 e10_6
      refine Wp.loneRegion (.inl rfl) (by kernel_rfl) fun K' gd hK hg => ?_
      clear hg
      go_simp
      refine hK _ _ ?_
      clear hK K' gd
      refine Ends.keep [3, 7, 8, 9] fun r8 hkeep => ?_
      obtain ⟨e3_8, e7_8, e8_8, e9_8, -⟩ := hkeep
      simp [go_sem, e3_7, e5_7, e7_7, e8_7, e9_7] at e3_8 e7_8 e8_8 e9_8
      clear e3_7 e5_7 e7_7 e8_7 e9_7
      refine Ends.mk ?_
      refine blockK_normal ?_
      refine thenK_normal ?_
      refine Wp.loneRegion (.inl rfl) (by kernel_rfl) fun K' gd hK hg => ?_
      clear hg
      go_simp
      refine hK _ _ ?_
      clear hK K' gd
      refine Ends.keep [3, 7, 8, 9] fun r9 hkeep => ?_
      obtain ⟨e3_9, e7_9, e8_9, e9_9, -⟩ := hkeep
      simp [go_sem, e3_8, e7_8, e8_8, e9_8] at e3_9 e7_9 e8_9 e9_9
      clear e3_8 e7_8 e8_8 e9_8
      refine Ends.mk ?_
      refine thenK_normal ⟨by omega, ⟨by rw [e7_9, e7_4], by rw [e8_9, e8_4], trivial⟩, rfl, ?_⟩
      refine ⟨by rw [e9_9, IntWalk.i64_in _ (by omega)]; rfl, ?_, hE⟩
      rw [e3_9, sumI_take xs k h]
    · refine Wp.condF (by go_simp) ?_
      refine Wp.exit ?_
      refine thenK_exit ?_
      refine thenK_exit ?_
      refine blockK_here ?_
      refine thenK_normal ?_
      refine Wp.seqRegion (.inl rfl) (by kernel_rfl) fun K' gd hK hg => ?_
      clear hg
      go_simp
      refine hK _ _ ?_
      clear hK K' gd
      refine Wp.keep [2] fun r10 hkeep => ?_
      obtain ⟨e2_10, -⟩ := hkeep
      simp [go_sem, e3_6, e7_6, e8_6, e9_6, e10_6] at e2_10
      clear e3_6 e7_6 e8_6 e9_6 e10_6
      refine Wp.ret ?_
      refine endK_tmp Try.results67 (by decide) ?_
      rw [e2_10]
      obtain rfl : k = xs.length := by omega
      exact ⟨by rw [List.take_length], hE⟩

abbrev RV := Run × Option Addr × Nat
def encRv (x : RV) : Array Value := #[.agg #[.int .i64 x.1.id, .int .i64 x.1.arr, .slice x.2.1 x.1.takes.length x.2.2]]
def RunCells (W : World) (rb ro : Nat) (xs : List RV) : Prop := ∀ k (h : k < xs.length), W.cell? ⟨rb, ro + k * 3, none⟩ = some (.int .i64 xs[k].1.id) ∧ W.cell? ⟨rb, ro + k * 3 + 1, none⟩ = some (.int .i64 xs[k].1.arr) ∧ W.cell? ⟨rb, ro + k * 3 + 2, none⟩ = some (.slice xs[k].2.1 xs[k].1.takes.length xs[k].2.2)
theorem values_c (A : Option Addr) (l c : Nat) (w : World) : CallsV Try.prog 94 #[.slice A l c] w fun v' w' => ∃ bx, v' = .func (.func 115) #[] #[.pointer (some ⟨bx, 0, none⟩)] ∧ Ext w w' ∧ w'.cell? ⟨bx, 0, none⟩ = some (.slice A l c) := by
  refine Wp.fn Try.func94 rfl Try.ntmps94 (by simp) ?_
  refine Wp.keep [0] fun r1 hkeep => ?_
  obtain ⟨e0_1, -⟩ := hkeep
  simp [go_sem] at e0_1
  refine Wp.seqRegion (.inl rfl) (by kernel_rfl) fun K' gd hK hg => ?_
  clear hg
  go_simp
  refine hK _ _ ?_
  clear hK K' gd
  refine Wp.keep [1] fun r2 hkeep => ?_
  obtain ⟨e1_2, -⟩ := hkeep
  simp [go_sem, e0_1] at e1_2
  clear e0_1
  refine Wp.seqRegion (.inl rfl) (by kernel_rfl) fun K' gd hK hg => ?_
  clear hg
  go_simp
  refine hK _ _ ?_
  clear hK K' gd
  refine Wp.keep [2] fun r3 hkeep => ?_
  obtain ⟨e2_3, -⟩ := hkeep
  simp [go_sem, e1_2] at e2_3
  clear e1_2
  refine Wp.ret ?_
  refine endK_tmp Try.results94 (by decide) ?_
  rw [e2_3]
  exact ⟨_, rfl, (by repeat (first | assumption | exact Ext.refl _ | refine Ext.drew ?_ | refine Ext.alloc ?_ _ | refine Ext.trans ?_ (by assumption))), cell_nw _ _ _ _⟩
theorem values_it (A : Option Addr) (c bx rb ro : Nat) (xs : List RV) (hn : xs.length ≤ 1000) :
    Iter Try.prog 115 #[.pointer (some ⟨bx, 0, none⟩)] encRv (fun W => W.cell? ⟨bx, 0, none⟩ = some (.slice A xs.length c) ∧ (0 < xs.length → A = some ⟨rb, ro, none⟩) ∧ RunCells W rb ro xs) xs := by
  intro l J Jx W hD hJE hJxE hY h0
  show CallsV _ _ #[.func (.yield l) #[] #[], .pointer (some ⟨bx, 0, none⟩)] _ _
  refine Wp.fn Try.func115 rfl Try.ntmps115 (by simp) ?_
  refine Wp.keep [0, 1] fun r1 hkeep => ?_
  obtain ⟨e0_1, e1_1, -⟩ := hkeep
  simp [go_sem] at e0_1 e1_1
  obtain ⟨d0, d1, d2⟩ := hD _ _ h0
  refine Wp.seqRegion (.inl rfl) (by kernel_rfl) fun K' gd hK hg => ?_
  clear hg
  go_simp
  refine hK _ _ ?_
  clear hK K' gd
  refine Wp.keep [0, 5, 6, 7] fun r2 hkeep => ?_
  obtain ⟨e0_2, e5_2, e6_2, e7_2, -⟩ := hkeep
  simp [go_sem, e0_1, e1_1] at e0_2 e5_2 e6_2 e7_2
  clear e0_1 e1_1
  refine Wp.block ?_
  refine Wp.loop (fun k ρ ds wk => AllEq [0, 5, 6] ρ r2 ∧ ds = [] ∧ (ρ 7 = .int .i64 (k : Int) ∧ J k wk)) (xs.length) ?_ ?_
  · refine ⟨AllEq.refl _ _, rfl, ?_⟩
    exact ⟨by rw [e7_2]; rfl, h0⟩
  · rintro k r3 _ wk hk ⟨hA, rfl, ⟨e7, hJ⟩⟩
    obtain ⟨e0_3, e5_3, e6_3, -⟩ := hA
    rw [e0_2] at e0_3
    rw [e5_2] at e5_3
    rw [e6_2] at e6_3
    refine Wp.seqRegion (.inl rfl) (by kernel_rfl) fun K' gd hK hg => ?_
    clear hg
    go_simp
    refine hK _ _ ?_
    clear hK K' gd
    refine Wp.keep [0, 5, 6, 7, 8] fun r4 hkeep => ?_
    obtain ⟨e0_4, e5_4, e6_4, e7_4, e8_4, -⟩ := hkeep
    simp [go_sem, e0_3, e5_3, e6_3, e7] at e0_4 e5_4 e6_4 e7_4 e8_4
    clear e0_3 e5_3 e6_3 e7
    refine Wp.seq ?_
    by_cases h : k < xs.length
    · refine Wp.condT (by go_simp) ?_
      obtain ⟨-, -, d3⟩ := hD _ _ hJ
      have hA := d1 (by omega)
      subst hA
      obtain ⟨c1, c2, c3⟩ := d3 k h
      have hJa := hJE k wk _ ((Ext.refl wk).alloc (.cells #[.int .i64 xs[k].1.id, .int .i64 xs[k].1.arr, .slice xs[k].2.1 xs[k].1.takes.length xs[k].2.2] 37)) hJ
      obtain ⟨fn, tmps, as_, bo, hy, hR⟩ := hY k xs[k] _ (List.getElem?_eq_getElem h) hJa
      simp only [encRv] at hy
      refine Wp.skip ?_
      refine thenK_normal ?_
      refine Wp.seq ?_
      refine Wp.block ?_
      refine Wp.seqRegion (.inl rfl) (by kernel_rfl) fun K' gd hK hg => ?_
      clear hg
      go_simp
      refine hK _ _ ?_
      clear hK K' gd
      refine Wp.keep [0, 4, 5, 6, 7] fun r5 hkeep => ?_
      obtain ⟨e0_5, e4_5, e5_5, e6_5, e7_5, -⟩ := hkeep
      simp [go_sem, e0_4, e5_4, e6_4, e7_4, e8_4] at e0_5 e4_5 e5_5 e6_5 e7_5
      clear e0_4 e5_4 e6_4 e7_4 e8_4
      refine Wp.seqRegion (.inl rfl) (by kernel_rfl) fun K' gd hK hg => ?_
      clear hg
      go_simp
      refine Wyield (hR) ?_
      rintro e w1 (⟨rfl, hJ1⟩ | ⟨rfl, hJx⟩)
      · refine ⟨_, rfl, ?_⟩
        go_simp
        refine hK _ _ ?_
        clear hK K' gd
        refine Wp.keep [0, 5, 6, 7, 14] fun r6 hkeep => ?_
        obtain ⟨e0_6, e5_6, e6_6, e7_6, e14_6, -⟩ := hkeep
        simp [go_sem, e0_5, e4_5, e5_5, e6_5, e7_5] at e0_6 e5_6 e6_6 e7_6 e14_6
        clear e0_5 e4_5 e5_5 e6_5 e7_5
        refine Wp.condF (by go_simp) ?_
        refine Wp.skip ?_
        refine blockK_normal ?_
        refine thenK_normal ?_
        refine Wp.loneRegion (.inl rfl) (by kernel_rfl) fun K' gd hK hg => ?_
        clear hg
        go_simp
        refine hK _ _ ?_
        clear hK K' gd
        refine Ends.keep [0, 5, 6, 7] fun r7 hkeep => ?_
        obtain ⟨e0_7, e5_7, e6_7, e7_7, -⟩ := hkeep
        simp [go_sem, e0_6, e5_6, e6_6, e7_6, e14_6] at e0_7 e5_7 e6_7 e7_7
        clear e0_6 e5_6 e6_6 e7_6 e14_6
        refine Ends.mk ?_
        refine thenK_normal ⟨by omega, ⟨by rw [e0_7, e0_2], by rw [e5_7, e5_2], by rw [e6_7, e6_2], trivial⟩, rfl, ?_⟩
        exact ⟨by rw [e7_7, IntWalk.i64_in _ (by omega)]; rfl, hJ1⟩
      · refine ⟨_, rfl, ?_⟩
        go_simp
        refine hK _ _ ?_
        clear hK K' gd
        refine Wp.keep [0, 5, 6, 7, 14] fun r8 hkeep => ?_
        obtain ⟨e0_8, e5_8, e6_8, e7_8, e14_8, -⟩ := hkeep
        simp [go_sem, e0_5, e4_5, e5_5, e6_5, e7_5] at e0_8 e5_8 e6_8 e7_8 e14_8
        clear e0_5 e4_5 e5_5 e6_5 e7_5
        refine Wp.condT (by go_simp) ?_
        refine Wp.ret ?_
        refine blockK_ret ?_
        refine thenK_ret ?_
        refine thenK_ret ?_
        refine blockK_ret ?_
        refine endK_none Try.results115 ?_
        exact .inr hJx
    · refine Wp.condF (by go_simp) ?_
      refine Wp.exit ?_
      refine thenK_exit ?_
      refine thenK_exit ?_
      refine blockK_here ?_
      refine endN_none Try.results115 ?_
      obtain rfl : k = xs.length := by omega
      exact .inl hJ
end Go.Proofs.Ytnfagcccgmakdaa
namespace Go.Proofs.Ytnfagcccgmakdaa
open Go.RowKit Go.Wk Go.Proofs
attribute [local irreducible] Go.Wk.Wops Go.Wk.Wp Go.Wk.Mtree Go.Wk.Mops
set_option maxHeartbeats 4000000

def ampleR (r : Run) : Int := r.arr + r.takes.sum
theorem ample1_c (r : Run) (m : Nat) (tv : Value) (w : World) (hx : IntsV w w.heap.size tv r.takes) (hr : RunOk m r) (hm : m ≤ 15) :
    CallsV Try.prog 95 #[.agg #[.int .i64 r.id, .int .i64 r.arr, tv]] w fun v w' => v = .int .i64 (ampleR r) ∧ Ext w w' := by
  have hlb : r.takes.length ≤ 15 := by rw [hr.len]; exact hm
  have hs := sum_small hr.takes
  have ha := hr.arr
  have hw : IntKind.i64.wrap (r.arr + r.takes.sum) = ampleR r := by unfold ampleR; exact IntWalk.i64_in _ (by have := hr.len; omega)
  have hx0 := hx
  obtain ⟨A, c, rfl, -⟩ := hx0
  refine Wp.fn Try.func95 rfl Try.ntmps95 (by simp) ?_
  refine Wp.keep [0] fun r1 hkeep => ?_
  obtain ⟨e0_1, -⟩ := hkeep
  simp [go_sem] at e0_1
  refine Wp.seqRegion (.inl rfl) (by kernel_rfl) fun K' gd hK hg => ?_
  clear hg
  go_simp
  refine hK _ _ ?_
  clear hK K' gd
  refine Wp.keep [1] fun r2 hkeep => ?_
  obtain ⟨e1_2, -⟩ := hkeep
  simp [go_sem, e0_1] at e1_2
  clear e0_1
  refine Wp.seqDraw (.inl rfl) mixed [([0, 1, 2], some (3, false)), ([4, 5], none)] (by kernel_rfl) fun K' gd hK hg => ?_
  clear hg
  simp only [pick, nth, List.map_cons, List.map_nil, Option.map_none, Option.map_some]
  apply Mops.act
  · intro w' hE'
    have hC' := hE'.cellsS
    go_simp
    with_reducible rfl
  intro K1 hK1
  go_simp
  refine Wcall (.inl rfl) (whole_c r.id r.arr _ r.takes _ (hx.ext (by repeat (first | assumption | exact Ext.refl _ | refine Ext.drew ?_ | refine Ext.alloc ?_ _ | refine Ext.trans ?_ (by assumption)))) hr.takes (by omega)) ?_
  rintro v w2 ⟨rfl, hE⟩
  go_simp
  refine hK1 _ _ (by first | assumption | exact Ext.refl _) ?_
  clear hK1 K1
  apply Mops.none
  · intro w' hE'
    have hC' := hE'.cellsS
    go_simp
    with_reducible rfl
  refine Mops.done ?_
  refine hK _ _ ?_
  clear hK K' gd
  refine Wp.keep [2] fun r3 hkeep => ?_
  obtain ⟨e2_3, -⟩ := hkeep
  simp [go_sem, e1_2] at e2_3
  clear e1_2
  refine Wp.ret ?_
  refine endK_tmp Try.results95 (by decide) ?_
  rw [e2_3]
  exact ⟨rfl, (by repeat (first | assumption | exact Ext.refl _ | refine Ext.drew ?_ | refine Ext.alloc ?_ _ | refine Ext.trans ?_ (by assumption)))⟩
def mostR (first : Int) (xs : List (RV)) : Int := xs.foldl (fun m x => max m (ampleR x.1)) first
theorem mostR_take (first : Int) (xs : List (RV)) {k : Nat} {x : RV} (h : xs[k]? = some x) : mostR first (xs.take (k + 1)) = max (mostR first (xs.take k)) (ampleR x.1) := by
  unfold mostR; rw [List.take_add_one, h]; simp [List.foldl_append]
theorem mostR_c (m gf : Nat) (first : Int) (lb : Array Value) (D : World → Prop) (xs : List (RV)) (w : World) (hm : m ≤ 15)
    (hit : Iter Try.prog gf lb encRv D xs) (heg : ∀ args w, (callFunc gf args).run Try.prog w = .ok (.enter gf args) w)
    (hxs : ∀ k (h : k < xs.length), RunOk m xs[k].1 ∧ IntsV w w.heap.size (.slice xs[k].2.1 xs[k].1.takes.length xs[k].2.2) xs[k].1.takes) (hD : ∀ W, Below w.heap.size w W → D W) :
    CallsV Try.prog 93 #[.int .i64 first, .func (.func gf) #[] lb, .func (.func 95) #[] #[]] w fun v w' => v = .int .i64 (mostR first xs) ∧ Ext w w' := by
  refine Wp.fnM Try.func93 rfl Try.ntmps93 (by simp) ?_
  refine Wp.keep [0, 1, 2] fun r1 hkeep => ?_
  obtain ⟨e0_1, e1_1, e2_1, -⟩ := hkeep
  simp [go_sem] at e0_1 e1_1 e2_1
  refine Wp.seqRegion (.inl rfl) (by kernel_rfl) fun K' gd hK hg => ?_
  clear hg
  go_simp
  refine hK _ _ ?_
  clear hK K' gd
  refine Wp.keep [1, 3, 5] fun r2 hkeep => ?_
  obtain ⟨e1_2, e3_2, e5_2, -⟩ := hkeep
  simp [go_sem, e0_1, e1_1, e2_1] at e1_2 e3_2 e5_2
  clear e0_1 e1_1 e2_1
  refine Wp.seq ?_
  refine Wp.seqRegion (.inl rfl) (by kernel_rfl) fun K' gd hK hg => ?_
  clear hg
  go_simp
  refine hK _ _ ?_
  clear hK K' gd
  refine Wp.keep [3, 5, 8] fun r3 hkeep => ?_
  obtain ⟨e3_3, e5_3, e8_3, -⟩ := hkeep
  simp [go_sem, e1_2, e3_2, e5_2] at e3_3 e5_3 e8_3
  clear e1_2 e3_2 e5_2
  refine Wp.block ?_
  refine Wp.range (hit) (by go_simp) (heg) (fun _ => rfl) (fun k W => Below w.heap.size w W ∧ W.cell? ⟨w.heap.size, 0, none⟩ = some (.int .i64 (mostR first (xs.take k))) ∧ W.frozen? ⟨w.heap.size, 0, none⟩ = false ∧ W.cell? ⟨w.heap.size + 1, 0, none⟩ = some (.func (.func 95) #[] #[])) (fun _ _ => False) ?_ ?_ ?_ ?_ ?_ ?_ ?_
  · exact fun k W h => hD W h.1
  · exact fun k W W' hA ⟨h1, h2, h3, h4⟩ => ⟨hA.below h1 (Nat.le_refl _) (by simp; omega), hA.cell h2, (hA.frozen h2).trans h3, hA.cell h4⟩
  · exact fun _ _ _ _ h => h
  · exact ⟨((Ext.refl _).alloc _).alloc _, by go_simp; rfl, by go_simp, by go_simp⟩
  · rintro l k x W hx ⟨i1, i2, i3, i4⟩ hl
    simp only [encRv, List.zip_toArray, List.zip_cons_cons, List.zip_nil_left, putL_cons, putL_nil]
    refine Wp.keep [3, 5, 9] fun r4 hkeep => ?_
    obtain ⟨e3_4, e5_4, e9_4, -⟩ := hkeep
    simp [go_sem, e3_3, e5_3, e8_3] at e3_4 e5_4 e9_4
    refine Wp.loneRegion (.inr ⟨_, rfl⟩) (by kernel_rfl) fun K' gd hK hg => ?_
    clear hg
    go_simp
    refine hK _ _ ?_
    clear hK K' gd
    refine Ends.keep [3, 5, 7] fun r5 hkeep => ?_
    obtain ⟨e3_5, e5_5, e7_5, -⟩ := hkeep
    simp [go_sem, e3_4, e5_4, e9_4] at e3_5 e5_5 e7_5
    clear e3_4 e5_4 e9_4
    refine Ends.mk ?_
    refine thenK_normal ?_
    refine ⟨KeepsOthers.alloc _ _, fun W2 hA2 hl2 => ?_⟩
    obtain ⟨lr, hl2⟩ := hl2
    have f0 := hA2.cell (cell_al _ i2)
    have f1 := ((hA2.frozen (cell_al _ i2)).trans (frozen_al _ i2)).trans i3
    have f2 := hA2.cell (cell_al _ i4)
    obtain ⟨hk, hxk⟩ := List.getElem?_eq_some_iff.1 hx
    have hr := (hxs k hk).1
    have hiv := (hxs k hk).2
    rw [hxk] at hr hiv
    have f3 := hA2.cell (cell_nw W #[.int .i64 x.1.id, .int .i64 x.1.arr, .slice x.2.1 x.1.takes.length x.2.2] 37 0)
    have f4 := hA2.cell (cell_nw W #[.int .i64 x.1.id, .int .i64 x.1.arr, .slice x.2.1 x.1.takes.length x.2.2] 37 1)
    have f5 := hA2.cell (cell_nw W #[.int .i64 x.1.id, .int .i64 x.1.arr, .slice x.2.1 x.1.takes.length x.2.2] 37 2)
    have hB2 := hA2.below (i1.alloc i1.size _) (Nat.le_refl _) (by simp; omega)
    clear hxk
    refine Wp.block ?_
    refine Wp.loneDraw (.inr ⟨_, rfl⟩) mixed [([0, 1, 2], some (3, false)), ([4], some (5, true))] (by kernel_rfl) fun K' gd hK hg => ?_
    clear hg
    simp only [pick, nth, List.map_cons, List.map_nil, Option.map_none, Option.map_some]
    apply Mops.act
    · intro w' hE'
      have hC' := hE'.cellsS
      go_simp
      with_reducible rfl
    intro K1 hK1
    go_simp
    refine Wcall (.inr ⟨_, rfl⟩) (ample1_c x.1 m _ _ ((hiv.below hB2.drew).more hB2.drew.size) hr hm) ?_
    rintro v w2 ⟨rfl, hE⟩
    have c2 := hE.cellsS
    have z2 := hE.frozenS
    go_simp
    refine hK1 _ _ (by first | assumption | exact Ext.refl _) ?_
    clear hK1 K1
    apply Mops.last
    · intro w' hE'
      have hC' := hE'.cellsS
      go_simp
      with_reducible rfl
    intro K1 hK1
    go_simp
    refine hK1 _ _ ?_
    clear hK1 K1
    refine Mops.done ?_
    refine hK _ _ ?_
    clear hK K' gd
    refine Ends.keep [] fun r6 hkeep => ?_
    clear hkeep
    clear e3_5 e5_5 e7_5
    refine Ends.mk ?_
    refine blockK_normal ?_
    refine ⟨((KeepsOthers.of_ext ((Ext.refl _).drew)).trans (KeepsOthers.of_ext hE)).trans (KeepsOthers.setCell _ _ _), (hB2.drew.toExt hE (Nat.le_refl _)).setCell (Nat.le_refl _) _, ?_, ?_, ?_⟩
    · rw [mostR_take first xs hx, ← max_if]; exact World.cell?_setCell_same' _ _ _ (by rw [hE.cell f0]; rfl)
    · rw [World.frozen?_setCell, hE.frozen f0]; exact f1
    · rw [World.cell?_setCell_other _ _ _ _ (by intro e; injection e; omega)]; exact hE.cell f2
  · rintro rm W hrm ⟨i1, i2, i3, i4⟩ hmk
    refine blockK_normal ?_
    refine thenK_normal ?_
    refine Wp.seqRegion (.inl rfl) (by kernel_rfl) fun K' gd hK hg => ?_
    clear hg
    go_simp
    refine hK _ _ ?_
    clear hK K' gd
    refine Wp.keep [6] fun r7 hkeep => ?_
    obtain ⟨e6_7, -⟩ := hkeep
    simp [go_sem, e3_3, e5_3, e8_3] at e6_7
    clear e3_3 e5_3 e8_3
    refine Wp.ret ?_
    refine endM_tmp Try.results93 (by decide) ((Marks.one (by first | omega | (simp at hrm; omega)) hmk)) fun wz hS => ?_
    rw [e6_7]
    exact ⟨rfl, Shut.ext i1 hS⟩
  · rintro rm c W hrm hf hmk
    exact hf.elim
end Go.Proofs.Ytnfagcccgmakdaa
namespace Go.Proofs.Ytnfagcccgmakdaa
open Go.RowKit Go.Wk Go.Proofs
attribute [local irreducible] Go.Wk.Wops Go.Wk.Wp Go.Wk.Mtree Go.Wk.Mops
set_option maxHeartbeats 4000000

def rvs (a : OA) (o : Ord) : List RV := (List.range o.n).map fun i => (o.runs[i]?.getD default, some ⟨a.tb i, a.to_ i, none⟩, a.tc i)
theorem rvs_len (a : OA) (o : Ord) : (rvs a o).length = o.n := by simp [rvs]
theorem rvs_get (a : OA) (o : Ord) {k : Nat} (h : k < (rvs a o).length) : (rvs a o)[k] = (o.runs[k]?.getD default, some ⟨a.tb k, a.to_ k, none⟩, a.tc k) := by simp [rvs]
def ampleV (o : Ord) : Int := o.runs.foldl (fun m r => max m (ampleR r)) 0
theorem mostR_rvs (a : OA) (o : Ord) : mostR 0 (rvs a o) = ampleV o := by
  unfold mostR ampleV rvs
  rw [List.foldl_map]
  have h : o.runs = (List.range o.n).map fun i => o.runs[i]?.getD default := by
    apply List.ext_getElem
    · simp [Ord.n]
    · intro i h1 h2; simp [h1]
  conv => rhs; rw [h, List.foldl_map]
theorem rvs_cells {w : World} {B : Nat} {a : OA} {o : Ord} (hO : OrdF w B a o) (hg : OrdGood o) : RunCells w a.rb a.ro (rvs a o) := by
  intro k h
  have hk : k < o.n := by rw [rvs_len] at h; exact h
  have hk' : k < o.runs.length := hk
  rw [rvs_get]
  refine ⟨hO.hI k hk, hO.hA k hk, ?_⟩
  have hl : (o.runs[k]?.getD default).takes.length = o.m := by rw [List.getElem?_eq_getElem hk']; exact (hg.runs _ (List.getElem_mem hk')).len
  simp only [hl]
  exact hO.hT k hk
theorem rvs_ints {w : World} {B : Nat} {a : OA} {o : Ord} (hO : OrdF w B a o) (hg : OrdGood o) : ∀ k (h : k < (rvs a o).length), RunOk o.m (rvs a o)[k].1 ∧ IntsV w B (.slice (rvs a o)[k].2.1 (rvs a o)[k].1.takes.length (rvs a o)[k].2.2) (rvs a o)[k].1.takes := by
  intro k h
  have hk : k < o.n := by rw [rvs_len] at h; exact h
  have hk' : k < o.runs.length := hk
  rw [rvs_get]
  have hr := hg.runs _ (List.getElem_mem hk')
  have he : o.runs[k]?.getD default = o.runs[k] := by rw [List.getElem?_eq_getElem hk']; rfl
  have hl := hr.len
  rw [he]
  refine ⟨hr, _, _, rfl, fun _ => ⟨_, _, rfl, hO.bT k hk, fun j hj => ?_⟩, by rw [hl]; exact hO.htc k hk⟩
  have hj' : j < o.m := by rw [hl] at hj; exact hj
  have := hO.hTT k j hk hj'
  rw [this]
  unfold Ord.T
  rw [he, List.getElem?_eq_getElem hj]; rfl
theorem Ample_c (v : Value) (o : Ord) (w : World) (hV : OrderV w w.heap.size v o) (hf : Fits o) :
    CallsV Try.prog 41 #[v] w fun v w' => v = .tuple #[.int .i64 (if checkS o = 0 then ampleV o else 0), .int .i64 (checkS o)] ∧ Ext w w' := by
  obtain ⟨cv, rv, rfl, hV2⟩ := hV
  have hV : OrderV w w.heap.size (.agg #[cv, rv]) o := ⟨cv, rv, rfl, hV2⟩
  refine Wp.fn Try.func41 rfl Try.ntmps41 (by simp) ?_
  refine Wp.keep [0] fun r1 hkeep => ?_
  obtain ⟨e0_1, -⟩ := hkeep
  simp [go_sem] at e0_1
  refine Wp.seqRegion (.inl rfl) (by kernel_rfl) fun K' gd hK hg => ?_
  clear hg
  go_simp
  refine hK _ _ ?_
  clear hK K' gd
  refine Wp.keep [1] fun r2 hkeep => ?_
  obtain ⟨e1_2, -⟩ := hkeep
  simp [go_sem, e0_1] at e1_2
  clear e0_1
  refine Wp.seq ?_
  refine Wp.seqRegion (.inl rfl) (by kernel_rfl) fun K' gd hK hg => ?_
  clear hg
  go_simp
  refine Wcall (.inl rfl) (check_c _ o _ (hV.ext (by repeat (first | assumption | exact Ext.refl _ | refine Ext.drew ?_ | refine Ext.alloc ?_ _ | refine Ext.trans ?_ (by assumption)))) hf) ?_
  rintro v w2 ⟨rfl, hE⟩
  have hc := hE.cellsS
  have hE2 : Ext w w2 := (by repeat (first | assumption | exact Ext.refl _ | refine Ext.drew ?_ | refine Ext.alloc ?_ _ | refine Ext.trans ?_ (by assumption)))
  go_simp
  refine hK _ _ ?_
  clear hK K' gd
  refine Wp.keep [1, 4] fun r3 hkeep => ?_
  obtain ⟨e1_3, e4_3, -⟩ := hkeep
  simp [go_sem, e1_2] at e1_3 e4_3
  clear e1_2
  by_cases h0 : checkS o = 0
  · skip
    refine Wp.seqRegion (.inl rfl) (by kernel_rfl) fun K' gd hK hg => ?_
    clear hg
    go_simp
    refine hK _ _ ?_
    clear hK K' gd
    refine Wp.keep [1, 4, 8] fun r4 hkeep => ?_
    obtain ⟨e1_4, e4_4, e8_4, -⟩ := hkeep
    simp [go_sem, e1_3, e4_3] at e1_4 e4_4 e8_4
    clear e1_3 e4_3
    refine Wp.condF (by go_simp) ?_
    have hg := checkS_zero.1 h0
    have hm := hg.ok.hm2
    have hn := hg.ok.hn2
    obtain ⟨a, rfl, rfl, hO⟩ := (hV.ext hE2).ordF2 hg
    refine Wp.skip ?_
    refine thenK_normal ?_
    refine Wp.seqRegion (.inl rfl) (by kernel_rfl) fun K' gd hK hg => ?_
    clear hg
    go_simp
    refine Wcall (.inl rfl) (values_c a.rA o.n a.rc _) ?_
    rintro v w3 ⟨bx, rfl, hE3, k1⟩
    have hO3 := hO.ext hE3
    go_simp
    refine Wcall (.inl rfl) (mostR_c o.m 115 0 _ _ (rvs a o) _ hm (values_it a.rA a.rc bx a.rb a.ro (rvs a o) (by rw [rvs_len]; omega)) (enters_of Try.func115 (by kernel_rfl) rfl) (rvs_ints hO3 hg) (fun W hW => ⟨by rw [rvs_len]; exact Ext.cell hW k1, fun h => hO.hr (by rw [rvs_len] at h; exact h), rvs_cells (hO3.below hW) hg⟩)) ?_
    rintro v w4 ⟨rfl, hE4⟩
    go_simp
    refine hK _ _ ?_
    clear hK K' gd
    refine Wp.keep [2, 3] fun r5 hkeep => ?_
    obtain ⟨e2_5, e3_5, -⟩ := hkeep
    simp [go_sem, e1_4, e4_4, e8_4] at e2_5 e3_5
    clear e1_4 e4_4 e8_4
    refine Wp.ret ?_
    refine endK_tmp2 Try.results41 (by decide) (by decide) ?_
    rw [e2_5, e3_5]
    exact ⟨by rw [if_pos h0, h0, mostR_rvs], (by repeat (first | assumption | exact Ext.refl _ | refine Ext.drew ?_ | refine Ext.alloc ?_ _ | refine Ext.trans ?_ (by assumption)))⟩
  · skip
    refine Wp.seqRegion (.inl rfl) (by kernel_rfl) fun K' gd hK hg => ?_
    clear hg
    go_simp
    refine hK _ _ ?_
    clear hK K' gd
    refine Wp.keep [1, 4, 8] fun r6 hkeep => ?_
    obtain ⟨e1_6, e4_6, e8_6, -⟩ := hkeep
    simp [go_sem, e1_3, e4_3] at e1_6 e4_6 e8_6
    clear e1_3 e4_3
    refine Wp.condT (by go_simp) ?_
    refine Wp.seqRegion (.inl rfl) (by kernel_rfl) fun K' gd hK hg => ?_
    clear hg
    go_simp
    refine hK _ _ ?_
    clear hK K' gd
    refine Wp.keep [2, 3] fun r7 hkeep => ?_
    obtain ⟨e2_7, e3_7, -⟩ := hkeep
    simp [go_sem, e1_6, e4_6, e8_6] at e2_7 e3_7
    clear e1_6 e4_6 e8_6
    refine Wp.ret ?_
    refine thenK_ret ?_
    refine endK_tmp2 Try.results41 (by decide) (by decide) ?_
    rw [e2_7, e3_7]
    exact ⟨by rw [if_neg h0], hE2⟩
end Go.Proofs.Ytnfagcccgmakdaa
namespace Go.Proofs.Ytnfagcccgmakdaa
open Go.RowKit Go.Wk Go.Proofs
attribute [local irreducible] Go.Wk.Wops Go.Wk.Wp Go.Wk.Mtree Go.Wk.Mops
set_option maxHeartbeats 4000000

def takesOf (o : Ord) (i : Nat) : List Int := (o.runs[i]?.getD default).takes
def waitV (o : Ord) (i : Nat) : Int := begA o i (o.m - 1) + o.T i (o.m - 1) - o.A i - (takesOf o i).sum
def waitL (o : Ord) : List Int := (List.range o.n).map (waitV o)
theorem map_range_take {α : Type} (f : Nat → α) {n k : Nat} (h : k < n) : ((List.range n).map f).take (k + 1) = ((List.range n).map f).take k ++ [f k] := by
  rw [List.take_add_one]; congr 1
  simp [h]
theorem OwnI.push {w' : World} {base : Nat} {v' : Value} {xs : List Int} {x : Int} (hown : w'.ownsRow base 3 1 v' (xs.length + 1) (xs.map (Value.int .i64) ++ [.int .i64 x])) : OwnI w' base v' (xs ++ [x]) := by
  simpa [OwnI] using hown
theorem Waits_c (v : Value) (o : Ord) (w : World) (hV : OrderV w w.heap.size v o) (hf : Fits o) :
    CallsV Try.prog 27 #[v] w fun v w' => ∃ t, v = .tuple #[t, .int .i64 (checkS o)] ∧ OwnI w' w.heap.size t (if checkS o = 0 then waitL o else []) ∧ Ext w w' := by
  obtain ⟨cv, rv, rfl, hV2⟩ := hV
  have hV : OrderV w w.heap.size (.agg #[cv, rv]) o := ⟨cv, rv, rfl, hV2⟩
  refine Wp.fn Try.func27 rfl Try.ntmps27 (by simp) ?_
  refine Wp.keep [0] fun r1 hkeep => ?_
  obtain ⟨e0_1, -⟩ := hkeep
  simp [go_sem] at e0_1
  refine Wp.seqRegion (.inl rfl) (by kernel_rfl) fun K' gd hK hg => ?_
  clear hg
  go_simp
  refine hK _ _ ?_
  clear hK K' gd
  refine Wp.keep [1] fun r2 hkeep => ?_
  obtain ⟨e1_2, -⟩ := hkeep
  simp [go_sem, e0_1] at e1_2
  clear e0_1
  refine Wp.seq ?_
  refine Wp.seqRegion (.inl rfl) (by kernel_rfl) fun K' gd hK hg => ?_
  clear hg
  go_simp
  refine Wcall (.inl rfl) (check_c _ o _ (hV.ext (by repeat (first | assumption | exact Ext.refl _ | refine Ext.drew ?_ | refine Ext.alloc ?_ _ | refine Ext.trans ?_ (by assumption)))) hf) ?_
  rintro v w2 ⟨rfl, hE⟩
  have hc := hE.cellsS
  have hE2 : Ext w w2 := (by repeat (first | assumption | exact Ext.refl _ | refine Ext.drew ?_ | refine Ext.alloc ?_ _ | refine Ext.trans ?_ (by assumption)))
  go_simp
  refine hK _ _ ?_
  clear hK K' gd
  refine Wp.keep [1, 4] fun r3 hkeep => ?_
  obtain ⟨e1_3, e4_3, -⟩ := hkeep
  simp [go_sem, e1_2] at e1_3 e4_3
  clear e1_2
  by_cases h0 : checkS o = 0
  · skip
    refine Wp.seqRegion (.inl rfl) (by kernel_rfl) fun K' gd hK hg => ?_
    clear hg
    go_simp
    refine hK _ _ ?_
    clear hK K' gd
    refine Wp.keep [1, 4, 12] fun r4 hkeep => ?_
    obtain ⟨e1_4, e4_4, e12_4, -⟩ := hkeep
    simp [go_sem, e1_3, e4_3] at e1_4 e4_4 e12_4
    clear e1_3 e4_3
    refine Wp.condF (by go_simp) ?_
    have hg := checkS_zero.1 h0
    have ho := hg.ok
    have hm := ho.hm2
    have hm1 := ho.hm1
    have hn := ho.hn2
    obtain ⟨a, rfl, rfl, hO⟩ := (hV.ext hE2).ordF2 hg
    refine Wp.skip ?_
    refine thenK_normal ?_
    refine Wp.seqRegion (.inl rfl) (by kernel_rfl) fun K' gd hK hg => ?_
    clear hg
    go_simp
    refine Wcall (.inl rfl) (timed_c a o _ hO) ?_
    rintro v w3 ⟨b, rfl, hR, hE3⟩
    have q0 : w3.cell? ⟨w.heap.size, 0, none⟩ = some (a.cv o) := hE3.cell (hE.cell (by go_simp))
    have q1 : w3.cell? ⟨w.heap.size, 1, none⟩ = some (a.rv o) := hE3.cell (hE.cell (by go_simp))
    go_simp
    refine hK _ _ ?_
    clear hK K' gd
    refine Wp.keep [1, 5] fun r5 hkeep => ?_
    obtain ⟨e1_5, e5_5, -⟩ := hkeep
    simp [go_sem, e1_4, e4_4, e12_4] at e1_5 e5_5
    clear e1_4 e4_4 e12_4
    have hO3 := hO.ext hE3
    clear hc hE
    simp only [OA.cv, OA.rv] at q0 q1
    have hw3 : Ext w w3 := (by repeat (first | assumption | exact Ext.refl _ | refine Ext.drew ?_ | refine Ext.alloc ?_ _ | refine Ext.trans ?_ (by assumption)))
    obtain ⟨m1, hm1'⟩ : ∃ m1 : Nat, m1 + 1 = o.m := ⟨o.m - 1, by omega⟩
    have hwm : IntKind.i64.wrap ((o.m : Int) - 1) = (m1 : Int) := by rw [IntWalk.i64_in _ (by omega)]; omega
    refine Wp.seqRegion (.inl rfl) (by kernel_rfl) fun K' gd hK hg => ?_
    clear hg
    go_simp
    refine hK _ _ ?_
    clear hK K' gd
    refine Wp.keep [1, 5, 6] fun r6 hkeep => ?_
    obtain ⟨e1_6, e5_6, e6_6, -⟩ := hkeep
    simp [go_sem, e1_5, e5_5] at e1_6 e5_6 e6_6
    clear e1_5 e5_5
    refine Wp.seq ?_
    refine Wp.seqRegion (.inl rfl) (by kernel_rfl) fun K' gd hK hg => ?_
    clear hg
    go_simp
    refine hK _ _ ?_
    clear hK K' gd
    refine Wp.keep [1, 5, 6, 17, 18, 19] fun r7 hkeep => ?_
    obtain ⟨e1_7, e5_7, e6_7, e17_7, e18_7, e19_7, -⟩ := hkeep
    simp [go_sem, e1_6, e5_6, e6_6] at e1_7 e5_7 e6_7 e17_7 e18_7 e19_7
    clear e1_6 e5_6 e6_6
    refine Wp.block ?_
    refine Wp.loop (fun k ρ ds wk => AllEq [1, 5, 17, 18] ρ r7 ∧ ds = [] ∧ (∃ v6, ρ 19 = .int .i64 (k : Int) ∧ ρ 6 = v6 ∧ OwnI wk w3.heap.size v6 ((waitL o).take k) ∧ Ext w3 wk)) (o.n) ?_ ?_
    · refine ⟨AllEq.refl _ _, rfl, ?_⟩
      exact ⟨_, by rw [e19_7]; rfl, e6_7, World.ownsRow_nil _ _ _ _, Ext.refl _⟩
    · rintro k r8 _ wk hk ⟨hA, rfl, ⟨v6, e19, e6, hT, hEk⟩⟩
      obtain ⟨e1_8, e5_8, e17_8, e18_8, -⟩ := hA
      rw [e1_7] at e1_8
      rw [e5_7] at e5_8
      rw [e17_7] at e17_8
      rw [e18_7] at e18_8
      refine Wp.seqRegion (.inl rfl) (by kernel_rfl) fun K' gd hK hg => ?_
      clear hg
      go_simp
      refine hK _ _ ?_
      clear hK K' gd
      refine Wp.keep [1, 5, 6, 17, 18, 19, 20] fun r9 hkeep => ?_
      obtain ⟨e1_9, e5_9, e6_9, e17_9, e18_9, e19_9, e20_9, -⟩ := hkeep
      simp [go_sem, e1_8, e5_8, e6, e17_8, e18_8, e19] at e1_9 e5_9 e6_9 e17_9 e18_9 e19_9 e20_9
      clear e1_8 e5_8 e6 e17_8 e18_8 e19
      refine Wp.seq ?_
      by_cases h : k < o.n
      · refine Wp.condT (by go_simp) ?_
        have d0 := hEk.cell q0
        have d1 := hEk.cell q1
        have hrA := hO.hr (by omega)
        simp only [hrA] at d1
        have c1 := hEk.cell (hO3.hI k h)
        have c2 := hEk.cell (hO3.hA k h)
        have c3 := hEk.cell (hO3.hT k h)
        have hb := begA_ok ho h (show m1 < o.m by omega)
        have hr := rvs_ints (hO3.below hEk) hg k (by rw [rvs_len]; exact h)
        rw [rvs_get] at hr
        have hl : (o.runs[k]?.getD default).takes.length = o.m := hr.1.len
        simp only [hl] at hr
        have hs := sum_small hr.1.takes
        rw [hl] at hs
        have hT' := ho.vT k m1 h (by omega)
        have hA' := ho.vA k h
        have hwa : IntKind.i64.wrap (begA o k m1 + o.T k m1 - o.A k) = begA o k m1 + o.T k m1 - o.A k := IntWalk.i64_in _ (by omega)
        have hwb : IntKind.i64.wrap (begA o k m1 + o.T k m1 - o.A k - (takesOf o k).sum) = waitV o k := by unfold waitV takesOf; rw [show o.m - 1 = m1 by omega]; exact IntWalk.i64_in _ (by omega)
        refine Wp.skip ?_
        refine thenK_normal ?_
        refine Wp.seq ?_
        refine Wp.block ?_
        refine Wp.seqRegion (.inl rfl) (by kernel_rfl) fun K' gd hK hg => ?_
        clear hg
        go_simp
        refine hK _ _ ?_
        clear hK K' gd
        refine Wp.keep [1, 5, 6, 7, 8, 17, 18, 19] fun r10 hkeep => ?_
        obtain ⟨e1_10, e5_10, e6_10, e7_10, e8_10, e17_10, e18_10, e19_10, -⟩ := hkeep
        simp [go_sem, e1_9, e5_9, e6_9, e17_9, e18_9, e19_9, e20_9] at e1_10 e5_10 e6_10 e7_10 e8_10 e17_10 e18_10 e19_10
        clear e1_9 e5_9 e6_9 e17_9 e18_9 e19_9 e20_9
        refine Wp.loneDraw (.inl rfl) mixed [([0, 1, 2, 3, 4], none), ([5, 6, 7, 9, 10], none), ([12], some (8, false)), ([11], some (13, false)), ([14], some (15, false)), ([], some (16, true)), ([], some (17, true))] (by kernel_rfl) fun K' gd hK hg => ?_
        clear hg
        simp only [pick, nth, List.map_cons, List.map_nil, Option.map_none, Option.map_some]
        apply Mops.none
        · intro w' hE'
          have hC' := hE'.cellsS
          go_simp
          with_reducible rfl
        apply Mops.none
        · intro w' hE'
          have hC' := hE'.cellsS
          go_simp
          with_reducible rfl
        apply Mops.act
        · intro w' hE'
          have hC' := hE'.cellsS
          go_simp
          with_reducible rfl
        intro K1 hK1
        go_simp
        refine Wcall (.inl rfl) (ends_c a o (begA o) b k m1 _ ((hO3.ext hEk).ext (by repeat (first | assumption | exact Ext.refl _ | refine Ext.drew ?_ | refine Ext.alloc ?_ _ | refine Ext.trans ?_ (by assumption)))) ((hR.ext hEk).ext (by repeat (first | assumption | exact Ext.refl _ | refine Ext.drew ?_ | refine Ext.alloc ?_ _ | refine Ext.trans ?_ (by assumption)))) h (by omega) ⟨hb.1, by omega⟩) ?_
        rintro v w4 ⟨rfl, hE4⟩
        have c9 := hE4.cellsS
        go_simp
        refine hK1 _ _ (by first | assumption | exact Ext.refl _) ?_
        clear hK1 K1
        apply Mops.act
        · intro w' hE'
          have hC' := hE'.cellsS
          go_simp
          with_reducible rfl
        intro K1 hK1
        go_simp
        refine Wcall (.inl rfl) (whole_c (o.ID k) (o.A k) _ (takesOf o k) _ ((hr.2.more hEk.size).ext (by repeat (first | assumption | exact Ext.refl _ | refine Ext.drew ?_ | refine Ext.alloc ?_ _ | refine Ext.trans ?_ (by assumption)))) hr.1.takes (by have : (takesOf o k).length = o.m := hl; omega)) ?_
        rintro v w5 ⟨rfl, hE5⟩
        go_simp
        refine hK1 _ _ (by first | assumption | exact Ext.refl _) ?_
        clear hK1 K1
        apply Mops.act
        · intro w' hE'
          have hC' := hE'.cellsS
          go_simp
          with_reducible rfl
        intro K1 hK1
        go_simp
        refine hK1 _ _ ((Ext.refl _).alloc _) ?_
        clear hK1 K1
        apply Mops.last
        · exact fun _ _ => Rops_done
        intro K1 hK1
        obtain ⟨v', w', hrun, hown, hgr, -⟩ := app_run ints_T (ownsRow_ext hT (show Ext wk (w5.alloc (.cells #[.int .i64 (waitV o k)] 3)) from (by repeat (first | assumption | exact Ext.refl _ | refine Ext.drew ?_ | refine Ext.alloc ?_ _ | refine Ext.trans ?_ (by assumption))))) ⟨w5.heap.size, 0, none⟩ 1 1 [.int .i64 (waitV o k)] 22 rfl (news_one (cell_nw w5 #[.int .i64 (waitV o k)] 3 0)) (one_one rfl) (by rw [List.length_take]; omega) (by have e1 := Below.size hEk; have e2 := Below.size (show Ext wk w5 from (by repeat (first | assumption | exact Ext.refl _ | refine Ext.drew ?_ | refine Ext.alloc ?_ _ | refine Ext.trans ?_ (by assumption)))); simp; omega)
        refine if_pos_of rfl (Wstep.law (exec_append2 rfl hrun (by go_simp) (by go_simp)) ?_)
        refine hK1 _ _ ?_
        clear hK1 K1
        apply Mops.last
        · exact fun _ _ => Rops_done
        intro K1 hK1
        go_simp
        refine hK1 _ _ ?_
        clear hK1 K1
        refine Mops.done ?_
        refine hK _ _ ?_
        clear hK K' gd
        refine Ends.keep [1, 5, 6, 17, 18, 19] fun r11 hkeep => ?_
        obtain ⟨e1_11, e5_11, e6_11, e17_11, e18_11, e19_11, -⟩ := hkeep
        simp [go_sem, e1_10, e5_10, e6_10, e7_10, e8_10, e17_10, e18_10, e19_10] at e1_11 e5_11 e6_11 e17_11 e18_11 e19_11
        clear e1_10 e5_10 e6_10 e7_10 e8_10 e17_10 e18_10 e19_10
        refine Ends.mk ?_
        refine blockK_normal ?_
        refine thenK_normal ?_
        refine Wp.loneRegion (.inl rfl) (by kernel_rfl) fun K' gd hK hg => ?_
        clear hg
        go_simp
        refine hK _ _ ?_
        clear hK K' gd
        refine Ends.keep [1, 5, 6, 17, 18, 19] fun r12 hkeep => ?_
        obtain ⟨e1_12, e5_12, e6_12, e17_12, e18_12, e19_12, -⟩ := hkeep
        simp [go_sem, e1_11, e5_11, e6_11, e17_11, e18_11, e19_11] at e1_12 e5_12 e6_12 e17_12 e18_12 e19_12
        clear e1_11 e5_11 e6_11 e17_11 e18_11 e19_11
        refine Ends.mk ?_
        refine thenK_normal ⟨by omega, ⟨by rw [e1_12, e1_7], by rw [e5_12, e5_7], by rw [e17_12, e17_7], by rw [e18_12, e18_7], trivial⟩, rfl, ?_⟩
        refine ⟨v', by rw [e19_12, IntWalk.i64_in _ (by omega)]; rfl, e6_12, ?_, Below.grown (show Ext w3 (w5.alloc (.cells #[.int .i64 (waitV o k)] 3)) from (by repeat (first | assumption | exact Ext.refl _ | refine Ext.drew ?_ | refine Ext.alloc ?_ _ | refine Ext.trans ?_ (by assumption)))) (ownsRow_ext hT (show Ext wk (w5.alloc (.cells #[.int .i64 (waitV o k)] 3)) from (by repeat (first | assumption | exact Ext.refl _ | refine Ext.drew ?_ | refine Ext.alloc ?_ _ | refine Ext.trans ?_ (by assumption))))) hgr (Nat.le_refl _) (Nat.le_refl _)⟩
        have ht : (waitL o).take (k + 1) = (waitL o).take k ++ [waitV o k] := map_range_take (waitV o) h
        rw [ht]; exact OwnI.push hown
      · refine Wp.condF (by go_simp) ?_
        refine Wp.exit ?_
        refine thenK_exit ?_
        refine thenK_exit ?_
        refine blockK_here ?_
        refine thenK_normal ?_
        refine Wp.seqRegion (.inl rfl) (by kernel_rfl) fun K' gd hK hg => ?_
        clear hg
        go_simp
        refine hK _ _ ?_
        clear hK K' gd
        refine Wp.keep [2, 3] fun r13 hkeep => ?_
        obtain ⟨e2_13, e3_13, -⟩ := hkeep
        simp [go_sem, e1_9, e5_9, e6_9, e17_9, e18_9, e19_9, e20_9] at e2_13 e3_13
        clear e1_9 e5_9 e6_9 e17_9 e18_9 e19_9 e20_9
        refine Wp.ret ?_
        refine endK_tmp2 Try.results27 (by decide) (by decide) ?_
        rw [e2_13, e3_13]
        refine ⟨_, by rw [h0], ?_, (by repeat (first | assumption | exact Ext.refl _ | refine Ext.drew ?_ | refine Ext.alloc ?_ _ | refine Ext.trans ?_ (by assumption)))⟩
        obtain rfl : k = o.n := by omega
        rw [if_pos h0]; rw [List.take_of_length_le (by simp [waitL])] at hT; exact OwnI.less hT (Below.size hw3)
  · skip
    refine Wp.seqRegion (.inl rfl) (by kernel_rfl) fun K' gd hK hg => ?_
    clear hg
    go_simp
    refine hK _ _ ?_
    clear hK K' gd
    refine Wp.keep [1, 4, 12] fun r14 hkeep => ?_
    obtain ⟨e1_14, e4_14, e12_14, -⟩ := hkeep
    simp [go_sem, e1_3, e4_3] at e1_14 e4_14 e12_14
    clear e1_3 e4_3
    refine Wp.condT (by go_simp) ?_
    refine Wp.seqRegion (.inl rfl) (by kernel_rfl) fun K' gd hK hg => ?_
    clear hg
    go_simp
    refine hK _ _ ?_
    clear hK K' gd
    refine Wp.keep [2, 3] fun r15 hkeep => ?_
    obtain ⟨e2_15, e3_15, -⟩ := hkeep
    simp [go_sem, e1_14, e4_14, e12_14] at e2_15 e3_15
    clear e1_14 e4_14 e12_14
    refine Wp.ret ?_
    refine thenK_ret ?_
    refine endK_tmp2 Try.results27 (by decide) (by decide) ?_
    rw [e2_15, e3_15]
    exact ⟨_, rfl, by rw [if_neg h0]; exact World.ownsRow_nil _ _ _ _, hE2⟩
end Go.Proofs.Ytnfagcccgmakdaa
namespace Go.Proofs.Ytnfagcccgmakdaa
open Go.RowKit Go.Wk Go.Proofs
attribute [local irreducible] Go.Wk.Wops Go.Wk.Wp Go.Wk.Mtree Go.Wk.Mops
set_option maxHeartbeats 4000000

def holds (o : Ord) (d : Int) (x : Nat × Nat) : Bool := decide (begA o x.1 x.2 ≤ d ∧ d ≤ begA o x.1 x.2 + o.T x.1 x.2 - 1)
def holdL (o : Ord) (d : Int) : List (Int × Int) := ((stintsL o.n o.m).filter (holds o d)).map zS
theorem Hold_c (v : Value) (o : Ord) (d : Int) (w : World) (hV : OrderV w w.heap.size v o) (hf : Fits o) :
    CallsV Try.prog 26 #[v, .int .i64 d] w fun v w' => ∃ t, v = .tuple #[t, .int .i64 (askS o (okDay d))] ∧ OwnS w' w.heap.size t (if askS o (okDay d) = 0 then holdL o d else []) ∧ Ext w w' := by
  obtain ⟨cv, rv, rfl, hV2⟩ := hV
  have hV : OrderV w w.heap.size (.agg #[cv, rv]) o := ⟨cv, rv, rfl, hV2⟩
  refine Wp.fnM Try.func26 rfl Try.ntmps26 (by simp) ?_
  refine Wp.keep [0, 1] fun r1 hkeep => ?_
  obtain ⟨e0_1, e1_1, -⟩ := hkeep
  simp [go_sem] at e0_1 e1_1
  refine Wp.seqRegion (.inl rfl) (by kernel_rfl) fun K' gd hK hg => ?_
  clear hg
  go_simp
  refine hK _ _ ?_
  clear hK K' gd
  refine Wp.keep [2, 3] fun r2 hkeep => ?_
  obtain ⟨e2_2, e3_2, -⟩ := hkeep
  simp [go_sem, e0_1, e1_1] at e2_2 e3_2
  clear e0_1 e1_1
  refine Wp.seq ?_
  refine Wp.seqRegion (.inl rfl) (by kernel_rfl) fun K' gd hK hg => ?_
  clear hg
  go_simp
  refine Wcall (.inl rfl) (asked_c _ o (okDay d) 64 #[.pointer (some ⟨w.heap.size + 1, 0, none⟩)] _ (hV.ext (by repeat (first | assumption | exact Ext.refl _ | refine Ext.drew ?_ | refine Ext.alloc ?_ _ | refine Ext.trans ?_ (by assumption)))) hf (enters_of Try.func64 (by kernel_rfl) rfl) (fun _ W hW => askH_c _ d W (hW.cell (by go_simp)))) ?_
  rintro v w2 ⟨rfl, hE⟩
  have hE2 : Ext w w2 := (by repeat (first | assumption | exact Ext.refl _ | refine Ext.drew ?_ | refine Ext.alloc ?_ _ | refine Ext.trans ?_ (by assumption)))
  have hc := hE.cellsS
  go_simp
  refine hK _ _ ?_
  clear hK K' gd
  refine Wp.keep [2, 3, 6] fun r3 hkeep => ?_
  obtain ⟨e2_3, e3_3, e6_3, -⟩ := hkeep
  simp [go_sem, e2_2, e3_2] at e2_3 e3_3 e6_3
  clear e2_2 e3_2
  by_cases h0 : askS o (okDay d) = 0
  · skip
    refine Wp.seqRegion (.inl rfl) (by kernel_rfl) fun K' gd hK hg => ?_
    clear hg
    go_simp
    refine hK _ _ ?_
    clear hK K' gd
    refine Wp.keep [2, 3, 6, 14] fun r4 hkeep => ?_
    obtain ⟨e2_4, e3_4, e6_4, e14_4, -⟩ := hkeep
    simp [go_sem, e2_3, e3_3, e6_3] at e2_4 e3_4 e6_4 e14_4
    clear e2_3 e3_3 e6_3
    refine Wp.condF (by go_simp) ?_
    have hg := (askS_zero.1 h0).1
    have ho := hg.ok
    have hm := ho.hm2
    have hn := ho.hn2
    obtain ⟨a, rfl, rfl, hO⟩ := (hV.ext hE2).ordF2 hg
    refine Wp.skip ?_
    refine thenK_normal ?_
    refine Wp.seqRegion (.inl rfl) (by kernel_rfl) fun K' gd hK hg => ?_
    clear hg
    go_simp
    refine Wcall (.inl rfl) (timed_c a o _ hO) ?_
    rintro v w3 ⟨b, rfl, hR, hE3⟩
    have q0 : w3.cell? ⟨w.heap.size, 0, none⟩ = some (a.cv o) := hE3.cell (hE.cell (by go_simp))
    have q1 : w3.cell? ⟨w.heap.size, 1, none⟩ = some (a.rv o) := hE3.cell (hE.cell (by go_simp))
    have q2 : w3.cell? ⟨w.heap.size + 1, 0, none⟩ = some (.int .i64 d) := hE3.cell (hE.cell (by go_simp))
    go_simp
    refine hK _ _ ?_
    clear hK K' gd
    refine Wp.keep [2, 3, 7] fun r5 hkeep => ?_
    obtain ⟨e2_5, e3_5, e7_5, -⟩ := hkeep
    simp [go_sem, e2_4, e3_4, e6_4, e14_4] at e2_5 e3_5 e7_5
    clear e2_4 e3_4 e6_4 e14_4
    have hO3 := hO.ext hE3
    clear hc hE
    have hw3 : Ext w w3 := (by repeat (first | assumption | exact Ext.refl _ | refine Ext.drew ?_ | refine Ext.alloc ?_ _ | refine Ext.trans ?_ (by assumption)))
    refine Wp.seqRegion (.inl rfl) (by kernel_rfl) fun K' gd hK hg => ?_
    clear hg
    go_simp
    refine hK _ _ ?_
    clear hK K' gd
    refine Wp.keep [2, 3, 7, 8] fun r6 hkeep => ?_
    obtain ⟨e2_6, e3_6, e7_6, e8_6, -⟩ := hkeep
    simp [go_sem, e2_5, e3_5, e7_5] at e2_6 e3_6 e7_6 e8_6
    clear e2_5 e3_5 e7_5
    refine Wp.seq ?_
    have p0 := cell_al (.cells #[.slice none 0 0] 44) (cell_al (.cells #[.pointer (some ⟨b, 0, none⟩)] 87) q0)
    have p1 := cell_al (.cells #[.slice none 0 0] 44) (cell_al (.cells #[.pointer (some ⟨b, 0, none⟩)] 87) q1)
    refine Wp.seqRegion (.inl rfl) (by kernel_rfl) fun K' gd hK hg => ?_
    clear hg
    go_simp
    refine Wcall (.inl rfl) ((stints_c a o _)) ?_
    rintro v w4 ⟨bx, rfl, hE4, s0, s1⟩
    go_simp
    refine hK _ _ ?_
    clear hK K' gd
    refine Wp.keep [3, 7, 8, 19] fun r7 hkeep => ?_
    obtain ⟨e3_7, e7_7, e8_7, e19_7, -⟩ := hkeep
    simp [go_sem, e2_6, e3_6, e7_6, e8_6] at e3_7 e7_7 e8_7 e19_7
    clear e2_6 e3_6 e7_6 e8_6
    have r0 : w4.cell? ⟨w3.heap.size, 0, none⟩ = some (.pointer (some ⟨b, 0, none⟩)) := hE4.cell (by go_simp)
    have hE34 : Ext w3 w4 := (by repeat (first | assumption | exact Ext.refl _ | refine Ext.drew ?_ | refine Ext.alloc ?_ _ | refine Ext.trans ?_ (by assumption)))
    have r1 := hE34.cell q2
    have r2 : Boxed w4 (w3.heap.size + 1) 44 (.slice none 0 0) := Boxed.ext (by have := Boxed.new (w3.alloc (.cells #[.pointer (some ⟨b, 0, none⟩)] 87)) 44 (.slice none 0 0); simpa using this) hE4
    have hbx : w3.heap.size + 1 ≠ bx := by intro e; subst e; have h' := s1; simp [World.cell?, show w4.heap[w3.heap.size + 1]? = _ from r2] at h'
    have hsz : w3.heap.size + 2 ≤ w4.heap.size := by have := hE4.size; simp at this; omega
    have hws : w.heap.size + 2 ≤ w3.heap.size := by have h' := cell_lt q2; have := Below.size hE3; have := Below.size hE2; simp at h'; omega
    refine Wp.block ?_
    refine Wp.range (stints_it (some ⟨a.cb, a.co, none⟩) a.rA o.n o.m a.cc a.rc bx (by omega) (by omega)) (by go_simp) (enters_of Try.func105 (by kernel_rfl) rfl) (fun _ => rfl) (fun k W => Ext w3 W ∧ w4.heap.size ≤ W.heap.size ∧ (∃ v5, Boxed W (w3.heap.size + 1) 44 v5 ∧ OwnS W w4.heap.size v5 ((((stintsL o.n o.m).take k).filter (holds o d)).map zS)) ∧ W.cell? ⟨w3.heap.size, 0, none⟩ = some (.pointer (some ⟨b, 0, none⟩)) ∧ W.cell? ⟨w.heap.size + 1, 0, none⟩ = some (.int .i64 d) ∧ W.cell? ⟨bx, 0, none⟩ = some (a.cv o) ∧ W.cell? ⟨bx, 1, none⟩ = some (a.rv o)) (fun _ _ => False) ?_ ?_ ?_ ?_ ?_ ?_ ?_
    · exact fun k W h => ⟨h.2.2.2.2.2.1, h.2.2.2.2.2.2⟩
    · exact fun k W W' hA ⟨h1, hz, ⟨v5, h2, h3⟩, h4, h5, h6, h7⟩ => ⟨hA.below h1 (Nat.le_refl _) (by omega), Nat.le_trans hz hA.size, ⟨v5, Boxed.adm h2 hA, ownsRow_adm h3 hA⟩, hA.cell h4, hA.cell h5, hA.cell h6, hA.cell h7⟩
    · exact fun _ _ _ _ h => h
    · exact ⟨hE34, Nat.le_refl _, ⟨_, r2, World.ownsRow_nil _ _ _ _⟩, r0, r1, s0, s1⟩
    · rintro l k x W hx ⟨i1, iz, ⟨v5, i2, i3⟩, i4, i5, i6, i7⟩ hl
      simp only [encS, List.zip_toArray, List.zip_cons_cons, List.zip_nil_left, putL_cons, putL_nil]
      refine Wp.keep [3, 7, 8, 20] fun r8 hkeep => ?_
      obtain ⟨e3_8, e7_8, e8_8, e20_8, -⟩ := hkeep
      simp [go_sem, e3_7, e7_7, e8_7, e19_7] at e3_8 e7_8 e8_8 e20_8
      refine Wp.loneRegion (.inr ⟨_, rfl⟩) (by kernel_rfl) fun K' gd hK hg => ?_
      clear hg
      go_simp
      refine hK _ _ ?_
      clear hK K' gd
      refine Ends.keep [3, 7, 8, 9] fun r9 hkeep => ?_
      obtain ⟨e3_9, e7_9, e8_9, e9_9, -⟩ := hkeep
      simp [go_sem, e3_8, e7_8, e8_8, e20_8] at e3_9 e7_9 e8_9 e9_9
      clear e3_8 e7_8 e8_8 e20_8
      refine Ends.mk ?_
      refine thenK_normal ?_
      refine ⟨KeepsOthers.alloc _ _, fun W2 hA2 hl2 => ?_⟩
      obtain ⟨lr, hl2⟩ := hl2
      have hA3 := (Adm.of_ext ((Ext.refl W).alloc _)).trans hA2
      have j1 := hA3.below i1 (Nat.le_refl _) (by omega)
      have j2 := Boxed.adm i2 hA3
      have j3 := ownsRow_adm i3 hA3
      have j4 := hA3.cell i4
      have j5 := hA3.cell i5
      have j6 := hA3.cell i6
      have j7 := hA3.cell i7
      have f3 := hA2.cell (cell_nw W #[.int .i64 (x.1 : Int), .int .i64 (x.2 : Int)] 40 0)
      have f4 := hA2.cell (cell_nw W #[.int .i64 (x.1 : Int), .int .i64 (x.2 : Int)] 40 1)
      obtain ⟨-, -, hx1, hx2, -⟩ := stintsL_at hx
      have hb := begA_ok ho hx1 hx2
      have hT := ho.vT x.1 x.2 hx1 hx2
      have hwe : IntKind.i64.wrap (begA o x.1 x.2 + o.T x.1 x.2 - 1) = begA o x.1 x.2 + o.T x.1 x.2 - 1 := IntWalk.i64_in _ (by omega)
      have hRj := (hR.ext j1)
      have hOj := hO3.ext j1
      have c3 := hRj.ct x.1 x.2 (by omega) (by omega)
      have b1 : (x.1 : Int) < 20 := by omega
      have b2 : (x.2 : Int) < 15 := by omega
      refine Wp.block ?_
      refine Wp.seqDraw (.inr ⟨_, rfl⟩) mixed [([0, 1, 2, 3, 4], none), ([5, 6, 7, 8, 9], none), ([10, 11, 12], some (13, false)), ([14], some (15, false))] (by kernel_rfl) fun K' gd hK hg => ?_
      clear hg
      simp only [pick, nth, List.map_cons, List.map_nil, Option.map_none, Option.map_some]
      apply Mops.none
      · intro w' hE'
        have hC' := hE'.cellsS
        go_simp
        with_reducible rfl
      apply Mops.none
      · intro w' hE'
        have hC' := hE'.cellsS
        go_simp
        with_reducible rfl
      apply Mops.act
      · intro w' hE'
        have hC' := hE'.cellsS
        go_simp
        with_reducible rfl
      intro K1 hK1
      go_simp
      refine Wcall (.inr ⟨_, rfl⟩) (ends_c a o (begA o) b x.1 x.2 _ (hOj.ext (by repeat (first | assumption | exact Ext.refl _ | refine Ext.drew ?_ | refine Ext.alloc ?_ _ | refine Ext.trans ?_ (by assumption)))) (hRj.ext (by repeat (first | assumption | exact Ext.refl _ | refine Ext.drew ?_ | refine Ext.alloc ?_ _ | refine Ext.trans ?_ (by assumption)))) hx1 hx2 ⟨hb.1, by omega⟩) ?_
      rintro v w5 ⟨rfl, hE5⟩
      have hE25 : Ext W2 w5 := (by repeat (first | assumption | exact Ext.refl _ | refine Ext.drew ?_ | refine Ext.alloc ?_ _ | refine Ext.trans ?_ (by assumption)))
      go_simp
      refine hK1 _ _ (by first | assumption | exact Ext.refl _) ?_
      clear hK1 K1
      apply Mops.act
      · intro w' hE'
        have hC' := hE'.cellsS
        go_simp
        with_reducible rfl
      intro K1 hK1
      go_simp
      refine Wcall (.inr ⟨_, rfl⟩) (within_c d (begA o x.1 x.2) (begA o x.1 x.2 + o.T x.1 x.2 - 1) w5) ?_
      rintro v w6 ⟨rfl, rfl⟩
      have hrr := Ext.refl w5
      go_simp
      refine hK1 _ _ (by first | assumption | exact Ext.refl _) ?_
      clear hK1 K1
      refine Mops.done ?_
      refine hK _ _ ?_
      clear hK K' gd
      refine Wp.keep [8, 9, 36] fun r10 hkeep => ?_
      obtain ⟨e8_10, e9_10, e36_10, -⟩ := hkeep
      simp [go_sem, e3_9, e7_9, e8_9, e9_9] at e8_10 e9_10 e36_10
      clear e3_9 e7_9 e8_9 e9_9
      have l1 := j1.trans (Below.mono hE25 j1.size)
      have l2 := Boxed.ext j2 hE25
      have l3 := ownsRow_ext j3 hE25
      have g3 := hE25.cell f3
      have g4 := hE25.cell f4
      have l4 := hE25.cell j4
      have l5 := hE25.cell j5
      have l6 := hE25.cell j6
      have l7 := hE25.cell j7
      have l8 := l2.cell
      have hlen : ((((stintsL o.n o.m).take k).filter (holds o d)).map zS).length ≤ 1000000 := by rw [List.length_map]; have e1 := List.length_filter_le (holds o d) ((stintsL o.n o.m).take k); rw [List.length_take] at e1; have e2 : o.n * o.m ≤ 20 * 15 := Nat.mul_le_mul hn hm; rw [stintsL_len] at e1; omega
      have hw3' : w4.heap.size ≤ w5.heap.size := by have e1 := hE25.size; have e2 := hA3.size; omega
      have hq' : (decide (begA o x.1 x.2 ≤ d) && decide (d ≤ begA o x.1 x.2 + o.T x.1 x.2 - 1)) = holds o d x := by simp [holds]
      rw [hq'] at e36_10
      clear hq'
      by_cases hq : holds o d x = true
      · refine Wp.condT (by go_simp) ?_
        refine Wp.loneRegion (.inr ⟨_, rfl⟩) (by kernel_rfl) fun K' gd hK hg => ?_
        clear hg
        refine Wops.cut 3 fun K1 hK1 => ?_
        simp only [List.take_succ_cons, List.take_zero]
        go_simp
        refine hK1 _ _ ?_
        clear hK1 K1
        simp only [List.drop_succ_cons, List.drop_zero]
        obtain ⟨v', w', hrun, hown, hgr, -⟩ := app_run stints_T (ownsRow_ext l3 ((Ext.refl w5).alloc (.cells #[.int .i64 (x.1 : Int), .int .i64 (x.2 : Int)] 40))) ⟨w5.heap.size, 0, none⟩ 1 1 [.int .i64 (x.1 : Int), .int .i64 (x.2 : Int)] 44 rfl (news_two (cell_nw w5 #[.int .i64 (x.1 : Int), .int .i64 (x.2 : Int)] 40 0) (cell_nw w5 #[.int .i64 (x.1 : Int), .int .i64 (x.2 : Int)] 40 1)) (oneCell_ints (by simp)) (by omega) (by simp; omega)
        rw [List.length_map] at hown
        obtain ⟨g, cap, rfl⟩ := ownsRow_succ hown
        have hap := Boxed.appended l2 (by decide) (ownsRow_less l3 (b2 := w3.heap.size) (by omega)) (by have := l1.size; omega) (by omega) (ownsRow_less hown (b2 := w3.heap.size) (by omega)) hgr
        have q7 := hap.1.cell
        have q8 := hap.1.frozen
        refine Wops.law rfl (exec_append2 rfl hrun (by go_simp) (by go_simp)) ?_
        go_simp
        refine hK _ _ ?_
        clear hK K' gd
        refine Ends.keep [] fun r11 hkeep => ?_
        clear hkeep
        clear e8_10 e9_10 e36_10
        refine Ends.mk ?_
        refine blockK_normal ?_
        refine ⟨(KeepsOthers.of_ext hE25).trans hap.2.2.2.1, l1.trans hap.2.2.2.2, Nat.le_trans hw3' hap.2.2.2.1.size, ⟨_, hap.2.1, ?_⟩, keep_cell l3 hgr (by omega) (by omega) l4, keep_cell l3 hgr (by omega) (by omega) l5, keep_cell l3 hgr (cell_lt s0) hbx l6, keep_cell l3 hgr (cell_lt s1) hbx l7⟩
        rw [filter_take (holds o d) _ hx, if_pos hq, List.map_append]
        show World.ownsRow _ _ _ _ _ _ _
        rw [show [x].map zS = [zS x] from rfl, encL_add, List.length_append, List.length_map]
        exact World.ownsRow.kept hown (grownBy_setCell' w' _ _) (.inr (hap.1.not_row (by decide) hown).symm)
      · refine Wp.condF (by go_simp) ?_
        refine Wp.skip ?_
        refine blockK_normal ?_
        refine ⟨KeepsOthers.of_ext hE25, l1, hw3', ⟨_, l2, ?_⟩, l4, l5, l6, l7⟩
        rw [filter_take (holds o d) _ hx, if_neg hq, List.append_nil]; exact l3
    · rintro rm W hrm ⟨i1, iz, ⟨v5, i2, i3⟩, i4, i5, i6, i7⟩ hmk
      refine blockK_normal ?_
      refine thenK_normal ?_
      have i8 := i2.cell
      refine Wp.seqRegion (.inl rfl) (by kernel_rfl) fun K' gd hK hg => ?_
      clear hg
      go_simp
      refine hK _ _ ?_
      clear hK K' gd
      refine Wp.keep [4, 5] fun r12 hkeep => ?_
      obtain ⟨e4_12, e5_12, -⟩ := hkeep
      simp [go_sem, e3_7, e7_7, e8_7, e19_7] at e4_12 e5_12
      clear e3_7 e7_7 e8_7 e19_7
      refine Wp.ret ?_
      refine endM_tmp2 Try.results26 (by decide) (by decide) ((Marks.one (by first | omega | (simp at hrm; omega)) hmk)) fun wz hS => ?_
      rw [e4_12, e5_12]
      rw [stripTake] at i3
      have hEw : Ext w W := Below.trans hw3 (Below.mono i1 (Below.size hw3))
      refine ⟨_, by rw [h0], ?_, Shut.ext hEw hS⟩
      rw [if_pos h0]
      exact ownsRow_less (ownsRow_shut i3 hS) (by have := Below.size hw3; have := Below.size hE34; omega)
    · rintro rm c W hrm hf hmk
      exact hf.elim
  · skip
    refine Wp.seqRegion (.inl rfl) (by kernel_rfl) fun K' gd hK hg => ?_
    clear hg
    go_simp
    refine hK _ _ ?_
    clear hK K' gd
    refine Wp.keep [2, 3, 6, 14] fun r13 hkeep => ?_
    obtain ⟨e2_13, e3_13, e6_13, e14_13, -⟩ := hkeep
    simp [go_sem, e2_3, e3_3, e6_3] at e2_13 e3_13 e6_13 e14_13
    clear e2_3 e3_3 e6_3
    refine Wp.condT (by go_simp) ?_
    refine Wp.seqRegion (.inl rfl) (by kernel_rfl) fun K' gd hK hg => ?_
    clear hg
    go_simp
    refine hK _ _ ?_
    clear hK K' gd
    refine Wp.keep [4, 5] fun r14 hkeep => ?_
    obtain ⟨e4_14, e5_14, -⟩ := hkeep
    simp [go_sem, e2_13, e3_13, e6_13, e14_13] at e4_14 e5_14
    clear e2_13 e3_13 e6_13 e14_13
    refine Wp.ret ?_
    refine thenK_ret ?_
    refine endM_tmp2 Try.results26 (by decide) (by decide) (trivial) fun wz hS => ?_
    rw [e4_14, e5_14]
    exact ⟨_, rfl, by rw [if_neg h0]; exact World.ownsRow_nil _ _ _ _, Shut.ext hE2 hS⟩
end Go.Proofs.Ytnfagcccgmakdaa
namespace Go.Proofs.Ytnfagcccgmakdaa
open Go.RowKit Go.Wk Go.Proofs
attribute [local irreducible] Go.Wk.Wops Go.Wk.Wp Go.Wk.Mtree Go.Wk.Mops
set_option maxHeartbeats 4000000

theorem heap0 (w : World) (X Y Z : Obj) {n : Nat} (hn : n = w.heap.size) : (((w.alloc X).alloc Y).alloc Z).drew.heap[n]? = some X := by
  subst hn
  exact ((Below.heap_alloc _ Z _ (by simp; omega)).trans (Below.heap_alloc _ Y _ (by simp))).trans (World.alloc_heap_new w X)
theorem heap1 (w : World) (X Y Z : Obj) {n : Nat} (hn : n = w.heap.size + 1) : (((w.alloc X).alloc Y).alloc Z).drew.heap[n]? = some Y := by
  subst hn
  have h := World.alloc_heap_new (w.alloc X) Y
  rw [World.size_alloc] at h
  exact (Below.heap_alloc _ Z _ (by simp)).trans h
theorem heap2 (w : World) (X Y Z : Obj) {n : Nat} (hn : n = w.heap.size + 1 + 1) : (((w.alloc X).alloc Y).alloc Z).drew.heap[n]? = some Z := by
  subst hn
  have h := World.alloc_heap_new ((w.alloc X).alloc Y) Z
  rw [World.size_alloc, World.size_alloc] at h
  exact h
/-- block b: a row of n cells of our own -/
def RowB (w : World) (b : Nat) (e : TypeId) (n : Nat) : Prop := ∃ cur, w.heap[b]? = some (.cells cur e (0, 0)) ∧ cur.size = n
theorem RowB.lt {w : World} {b n : Nat} {e : TypeId} (h : RowB w b e n) : b < w.heap.size := by
  obtain ⟨cur, h1, -⟩ := h; exact (Array.getElem?_eq_some_iff.1 h1).1
theorem RowB.of_block {w w' : World} {b n : Nat} {e : TypeId} (h : RowB w b e n) (hb : w'.heap[b]? = w.heap[b]?) : RowB w' b e n := by
  obtain ⟨cur, h1, h2⟩ := h; exact ⟨cur, hb.trans h1, h2⟩
theorem RowB.ext {w w' : World} {b n : Nat} {e : TypeId} (h : RowB w b e n) (hE : Ext w w') : RowB w' b e n := h.of_block (hE.block b h.lt)
theorem RowB.grown {w w' : World} {b n : Nat} {e : TypeId} {r : Option Nat} (h : RowB w b e n) (hg : w.grownBy w' r) (hr : r ≠ some b) : RowB w' b e n := h.of_block (hg.block b h.lt (fun e => hr e.symm))
theorem RowB.set {w : World} {b n : Nat} {e : TypeId} (h : RowB w b e n) (a : Addr) (ha : a.spot = none) (v : Value) : RowB (w.setCell a v) b e n := by
  obtain ⟨cur, h1, h2⟩ := h
  obtain ⟨b', k, s⟩ := a
  simp only at ha; subst ha
  by_cases hb : b = b'
  · subst hb; exact ⟨_, heap_setCell_same w b k cur e v h1, by simpa using h2⟩
  · exact ⟨cur, (heap_setCell_other w ⟨b', k, none⟩ b v hb).trans h1, h2⟩
theorem RowB.ne {w : World} {b b' n n' : Nat} {e e' : TypeId} (h : RowB w b e n) (h' : RowB w b' e' n') (he : e ≠ e') : b ≠ b' := by
  rintro rfl
  obtain ⟨cur, h1, -⟩ := h
  obtain ⟨cur', h1', -⟩ := h'
  rw [h1] at h1'; injection h1' with h1'; injection h1' with _ h2
  exact he h2
theorem RowB.frozen {w : World} {b n : Nat} {e : TypeId} (h : RowB w b e n) (k : Nat) : w.frozen? ⟨b, k, none⟩ = false := by
  obtain ⟨cur, h1, -⟩ := h; exact frozen_of_row w b k cur e h1
/-- a copied order: all of it lies in blocks of its own, from base on -/
structure CopyF (w : World) (base : Nat) (a : OA) (o : Ord) : Prop where
  ord : OrdF w w.heap.size a o
  rC : RowB w a.cb 3 o.m
  rR : RowB w a.rb 37 (o.n * 3)
  rT : ∀ i, i < o.n → RowB w (a.tb i) 3 (a.tc i)
  zC : a.co = 0 ∧ a.cc = o.m
  zR : a.ro = 0 ∧ a.rc = o.n ∧ a.rA = some ⟨a.rb, 0, none⟩
  zT : ∀ i, i < o.n → a.to_ i = 0
  gC : base ≤ a.cb
  gR : base ≤ a.rb
  gT : ∀ i, i < o.n → base ≤ a.tb i
  ne : ∀ i, i < o.n → a.tb i ≠ a.cb
  inj : ∀ i j, i < o.n → j < o.n → a.tb i = a.tb j → i = j
def runC (a : OA) (o : Ord) (j : Nat) : Value :=
  if j % 3 = 0 then .int .i64 (o.ID (j / 3)) else if j % 3 = 1 then .int .i64 (o.A (j / 3)) else .slice (some ⟨a.tb (j / 3), a.to_ (j / 3), none⟩) o.m (a.tc (j / 3))
def runCs (a : OA) (o : Ord) : List Value := (List.range (o.n * 3)).map (runC a o)
theorem runC_0 (a : OA) (o : Ord) (i : Nat) : runC a o (i * 3) = .int .i64 (o.ID i) := by
  unfold runC; rw [if_pos (by omega), show i * 3 / 3 = i by omega]
theorem runC_1 (a : OA) (o : Ord) (i : Nat) : runC a o (i * 3 + 1) = .int .i64 (o.A i) := by
  unfold runC; rw [if_neg (by omega), if_pos (by omega), show (i * 3 + 1) / 3 = i by omega]
theorem runC_2 (a : OA) (o : Ord) (i : Nat) : runC a o (i * 3 + 2) = .slice (some ⟨a.tb i, a.to_ i, none⟩) o.m (a.tc i) := by
  unfold runC; rw [if_neg (by omega), if_neg (by omega), show (i * 3 + 2) / 3 = i by omega]
theorem runCs_get (a : OA) (o : Ord) {j : Nat} (h : j < o.n * 3) : (runCs a o)[j]? = some (runC a o j) := by
  unfold runCs; rw [List.getElem?_map, List.getElem?_range h]; rfl
theorem runCs_src {w : World} {B : Nat} {a : OA} {o : Ord} (hO : OrdF w B a o) : ∀ j v, (runCs a o)[j]? = some v → w.cell? ((⟨a.rb, a.ro, none⟩ : Addr).add j) = some v := by
  intro j v hv
  have hj : j < o.n * 3 := by have := (List.getElem?_eq_some_iff.1 hv).1; simpa [runCs] using this
  rw [runCs_get a o hj] at hv; injection hv with hv; subst hv
  rw [Addr.add_lit]
  have hi : j / 3 < o.n := by omega
  unfold runC
  split
  · have := hO.hI _ hi; rwa [show a.ro + j / 3 * 3 = a.ro + j by omega] at this
  · split
    · have := hO.hA _ hi; rwa [show a.ro + j / 3 * 3 + 1 = a.ro + j by omega] at this
    · have := hO.hT _ hi; rwa [show a.ro + j / 3 * 3 + 2 = a.ro + j by omega] at this
theorem runCs_one (a : OA) (o : Ord) : ∀ v ∈ runCs a o, v.oneCell' = true := by
  intro v hv
  obtain ⟨j, -, rfl⟩ := List.mem_map.1 hv
  unfold runC; split
  · rfl
  · split <;> rfl
theorem runCs_len (a : OA) (o : Ord) : (runCs a o).length = o.n * 3 := by simp [runCs]
def copL (o : Ord) : List Value := (List.range o.m).map fun j => .int .i64 (o.C j)
def takL (o : Ord) (i : Nat) : List Value := (List.range o.m).map fun j => .int .i64 (o.T i j)
theorem intL_src {w : World} {b c m : Nat} {f : Nat → Int} (h : ∀ j, j < m → w.cell? ⟨b, c + j, none⟩ = some (.int .i64 (f j))) : ∀ j v, ((List.range m).map fun j => Value.int .i64 (f j))[j]? = some v → w.cell? ((⟨b, c, none⟩ : Addr).add j) = some v := by
  intro j v hv
  have hj : j < m := by have := (List.getElem?_eq_some_iff.1 hv).1; simpa using this
  rw [List.getElem?_map, List.getElem?_range hj] at hv
  injection hv with hv; subst hv
  rw [Addr.add_lit]; exact h j hj
theorem intL_one {m : Nat} {f : Nat → Int} : ∀ v ∈ (List.range m).map fun j => Value.int .i64 (f j), v.oneCell' = true := by
  intro v hv
  obtain ⟨j, -, rfl⟩ := List.mem_map.1 hv
  rfl
theorem intL_get {m : Nat} {f : Nat → Int} {j : Nat} (h : j < m) : ((List.range m).map fun j => Value.int .i64 (f j))[j]? = some (.int .i64 (f j)) := by
  rw [List.getElem?_map, List.getElem?_range h]; rfl
/-- what the loop of copied keeps -/
structure CopI (w wk : World) (S : Nat) (a : OA) (o : Ord) (b3 cb rb : Nat) (tb tc : Nat → Nat) (k : Nat) : Prop where
  ext : Ext w wk
  size : S ≤ wk.heap.size
  q2 : wk.cell? ⟨w.heap.size + 1, 0, none⟩ = some (.slice none 0 0) ∧ wk.cell? ⟨w.heap.size + 1, 1, none⟩ = some (.slice none 0 0) ∧ ∀ k, wk.frozen? ⟨w.heap.size + 1, k, none⟩ = false
  c0 : wk.cell? ⟨b3, 0, none⟩ = some (.slice (some ⟨cb, 0, none⟩) o.m o.m)
  c1 : wk.cell? ⟨b3, 1, none⟩ = some (.slice (some ⟨rb, 0, none⟩) o.n o.n)
  rC : RowB wk cb 3 o.m
  cC : ∀ j, j < o.m → wk.cell? ⟨cb, j, none⟩ = some (.int .i64 (o.C j))
  rR : RowB wk rb 37 (o.n * 3)
  cI : ∀ i, i < o.n → wk.cell? ⟨rb, i * 3, none⟩ = some (.int .i64 (o.ID i))
  cA : ∀ i, i < o.n → wk.cell? ⟨rb, i * 3 + 1, none⟩ = some (.int .i64 (o.A i))
  cT : ∀ i, i < o.n → wk.cell? ⟨rb, i * 3 + 2, none⟩ = some (if i < k then .slice (some ⟨tb i, 0, none⟩) o.m (tc i) else .slice (some ⟨a.tb i, a.to_ i, none⟩) o.m (a.tc i))
  rT : ∀ i, i < k → RowB wk (tb i) 3 (tc i)
  cTT : ∀ i j, i < k → j < o.m → wk.cell? ⟨tb i, j, none⟩ = some (.int .i64 (o.T i j))
  cap : ∀ i, i < k → o.m ≤ tc i
  gT : ∀ i, i < k → S ≤ tb i
  up : ∀ i j, i < j → j < k → tb i < tb j
theorem CopI.copy {w wk : World} {S : Nat} {a : OA} {o : Ord} {b3 cb rb : Nat} {tb tc : Nat → Nat} (ho : OrdOk o) (h : CopI w wk S a o b3 cb rb tb tc o.n) (h1 : w.heap.size + 2 ≤ cb) (h2 : w.heap.size + 2 ≤ rb) (h3 : cb < S) (h4 : w.heap.size + 2 ≤ S) :
    CopyF wk w.heap.size ⟨cb, 0, o.m, some ⟨rb, 0, none⟩, rb, 0, o.n, tb, fun _ => 0, tc⟩ o := by
  have ecT : ∀ i, i < o.n → wk.cell? ⟨rb, i * 3 + 2, none⟩ = some (.slice (some ⟨tb i, 0, none⟩) o.m (tc i)) := fun i hi => by rw [h.cT i hi, if_pos hi]
  refine ⟨⟨ho.hm1, ho.hm2, ho.hn2, ?_, fun _ => rfl, ?_, ?_, ?_, ?_, h.rC.lt, fun _ => h.rR.lt, fun i hi => (h.rT i hi).lt, Nat.le_refl _, Nat.le_refl _, h.cap, ho.vC, ho.vA, ho.vT⟩, h.rC, h.rR, h.rT, ⟨rfl, rfl⟩, ⟨rfl, rfl, rfl⟩, fun _ _ => rfl, Nat.le_trans (by omega) h1, Nat.le_trans (by omega) h2, fun i hi => Nat.le_trans (by omega) (h.gT i hi), fun i hi => ?_, ?_⟩
  · intro j hj; simp only [Nat.zero_add]; exact h.cC j hj
  · intro i hi; simp only [Nat.zero_add]; exact h.cI i hi
  · intro i hi; simp only [Nat.zero_add]; exact h.cA i hi
  · intro i hi; simp only [Nat.zero_add]; exact ecT i hi
  · intro i j hi hj; simp only [Nat.zero_add]; exact h.cTT i j hi hj
  · have := h.gT i hi; show tb i ≠ cb; omega
  · intro i j hi hj e
    show i = j
    have e : tb i = tb j := e
    rcases Nat.lt_trichotomy i j with hlt | rfl | hlt
    · have := h.up i j hlt hj; omega
    · rfl
    · have := h.up j i hlt hi; omega
/-- one more runner has its own pieces -/
theorem CopI.step {w wk w1 : World} {S : Nat} {a : OA} {o : Ord} {b3 cb rb : Nat} {tb tc : Nat → Nat} {k : Nat} {v : Value} (ho : OrdOk o) (h : CopI w wk S a o b3 cb rb tb tc k) (hk : k < o.n) (hS : w.heap.size + 2 ≤ S) (hrb : w.heap.size + 2 ≤ rb) (hrS : rb < S) (h3 : b3 ≠ rb) (hc : cb ≠ rb)
    (hown : w1.ownsRow wk.heap.size 3 1 v o.m (takL o k)) (hE : Ext wk w1) : ∃ g c, v = .slice (some ⟨g, 0, none⟩) o.m c ∧ CopI w (w1.setCell ⟨rb, k * 3 + 2, none⟩ v) S a o b3 cb rb (fun i => if i = k then g else tb i) (fun i => if i = k then c else tc i) (k + 1) := by
  rcases hown.2 with ⟨rfl, hn⟩ | ⟨g, cap, cur, rfl, hb, hg, hnc, hcm, hcs, htake⟩
  · exact absurd hn (by have := ho.hm1; omega)
  refine ⟨g, cap, rfl, ?_⟩
  have hgs : g < w1.heap.size := (Array.getElem?_eq_some_iff.1 hg).1
  have hwS := h.size
  have hsz := hE.size
  have cell : ∀ {b i : Nat} {u : Value}, b ≠ rb → wk.cell? ⟨b, i, none⟩ = some u → (w1.setCell ⟨rb, k * 3 + 2, none⟩ (.slice (some ⟨g, 0, none⟩) o.m cap)).cell? ⟨b, i, none⟩ = some u := fun hb hc => (setCell_blk (Ne.symm hb)).trans (hE.cell hc)
  have cellr : ∀ {i : Nat} {u : Value}, i ≠ k * 3 + 2 → wk.cell? ⟨rb, i, none⟩ = some u → (w1.setCell ⟨rb, k * 3 + 2, none⟩ (.slice (some ⟨g, 0, none⟩) o.m cap)).cell? ⟨rb, i, none⟩ = some u := fun hb hc => (setCell_off (Ne.symm hb)).trans (hE.cell hc)
  have row : ∀ {b n : Nat} {e : TypeId}, RowB wk b e n → RowB (w1.setCell ⟨rb, k * 3 + 2, none⟩ (.slice (some ⟨g, 0, none⟩) o.m cap)) b e n := fun hr => (hr.ext hE).set _ rfl _
  have hgw : RowB w1 g 3 cap := ⟨cur, hg, by simpa using hcs⟩
  refine ⟨Below.setCell (Below.trans h.ext (Below.mono hE h.ext.size)) (by show w.heap.size ≤ rb; omega) _, by simp; omega, ⟨cell (by omega) h.q2.1, cell (by omega) h.q2.2.1, fun j => ?_⟩, cell h3 h.c0, cell h3 h.c1, row h.rC, fun j hj => cell hc (h.cC j hj), row h.rR, fun i hi => cellr (by omega) (h.cI i hi), fun i hi => cellr (by omega) (h.cA i hi), ?_, ?_, ?_, ?_, ?_, ?_⟩
  · rw [World.frozen?_setCell]; exact (World.frozen?_of_block (a := ⟨w.heap.size + 1, j, none⟩) (hE.block _ (show w.heap.size + 1 < wk.heap.size from cell_lt h.q2.1))).trans (h.q2.2.2 j)
  · intro i hi
    by_cases hik : i = k
    · subst hik
      rw [if_pos (Nat.lt_succ_self _), if_pos rfl, if_pos rfl]
      exact World.cell?_setCell_same' _ _ _ (by rw [hE.cell (h.cT i hi)]; rfl)
    · have e := cellr (i := i * 3 + 2) (by omega) (h.cT i hi)
      rw [e]
      by_cases hlt : i < k
      · rw [if_pos hlt, if_pos (by omega), if_neg hik, if_neg hik]
      · rw [if_neg hlt, if_neg (by omega)]
  · intro i hi
    by_cases hik : i = k
    · subst hik; rw [if_pos rfl, if_pos rfl]; exact hgw.set _ rfl _
    · rw [if_neg hik, if_neg hik]; exact row (h.rT i (by omega))
  · intro i j hi hj
    by_cases hik : i = k
    · subst hik
      rw [if_pos rfl, setCell_blk (by omega)]
      have := World.ownsRow.cells hown (g := g) rfl j (.int .i64 (o.T i j)) (intL_get hj)
      rw [Addr.add_lit, Nat.zero_add] at this
      exact this
    · rw [if_neg hik]
      exact cell (by have := h.gT i (by omega); omega) (h.cTT i j (by omega) hj)
  · intro i hi
    by_cases hik : i = k
    · rw [if_pos hik]; exact hnc
    · rw [if_neg hik]; exact h.cap i (by omega)
  · intro i hi
    by_cases hik : i = k
    · rw [if_pos hik]; omega
    · rw [if_neg hik]; exact h.gT i (by omega)
  · intro i j hij hj
    by_cases hjk : j = k
    · subst hjk
      rw [if_pos rfl, if_neg (by omega)]
      have := (h.rT i hij).lt; omega
    · rw [if_neg hjk, if_neg (by omega)]; exact h.up i j hij (by omega)
theorem CopyF.other {w w' : World} {base : Nat} {a : OA} {o : Ord} (h : CopyF w base a o) (hs : w.heap.size ≤ w'.heap.size) (hb : ∀ k, (k = a.cb ∨ k = a.rb ∨ ∃ i, i < o.n ∧ k = a.tb i) → w'.heap[k]? = w.heap[k]?) : CopyF w' base a o := by
  have bC := hb a.cb (.inl rfl)
  have bR := hb a.rb (.inr (.inl rfl))
  have bT : ∀ i, i < o.n → w'.heap[a.tb i]? = w.heap[a.tb i]? := fun i hi => hb _ (.inr (.inr ⟨i, hi, rfl⟩))
  have hO := h.ord
  exact { h with
    ord := { hO.more hs with
      hC := fun j hj => (World.cell?_of_block (a := ⟨a.cb, a.co + j, none⟩) bC).trans (hO.hC j hj)
      hI := fun i hi => (World.cell?_of_block (a := ⟨a.rb, a.ro + i * 3, none⟩) bR).trans (hO.hI i hi)
      hA := fun i hi => (World.cell?_of_block (a := ⟨a.rb, a.ro + i * 3 + 1, none⟩) bR).trans (hO.hA i hi)
      hT := fun i hi => (World.cell?_of_block (a := ⟨a.rb, a.ro + i * 3 + 2, none⟩) bR).trans (hO.hT i hi)
      hTT := fun i j hi hj => (World.cell?_of_block (a := ⟨a.tb i, a.to_ i + j, none⟩) (bT i hi)).trans (hO.hTT i j hi hj) }
    rC := h.rC.of_block bC
    rR := h.rR.of_block bR
    rT := fun i hi => (h.rT i hi).of_block (bT i hi) }
theorem CopyF.ext {w w' : World} {base : Nat} {a : OA} {o : Ord} (h : CopyF w base a o) (hE : Ext w w') : CopyF w' base a o :=
  h.other hE.size fun k hk => by
    rcases hk with rfl | rfl | ⟨i, hi, rfl⟩
    · exact hE.block _ h.rC.lt
    · exact hE.block _ h.rR.lt
    · exact hE.block _ (h.rT i hi).lt
theorem CopyF.less {w : World} {base b2 : Nat} {a : OA} {o : Ord} (h : CopyF w base a o) (hb : b2 ≤ base) : CopyF w b2 a o :=
  { h with gC := Nat.le_trans hb h.gC, gR := Nat.le_trans hb h.gR, gT := fun i hi => Nat.le_trans hb (h.gT i hi) }
/-- a cell elsewhere is written -/
theorem CopyF.away {w : World} {base B k : Nat} {a : OA} {o : Ord} {v : Value} (h : CopyF w base a o) (hB : B < base) : CopyF (w.setCell ⟨B, k, none⟩ v) base a o :=
  h.other (by simp) fun k' hk => heap_setCell_other w ⟨B, k, none⟩ k' v (by
    rcases hk with rfl | rfl | ⟨i, hi, rfl⟩
    · have := h.gC; show a.cb ≠ B; omega
    · have := h.gR; show a.rb ≠ B; omega
    · have := h.gT i hi; show a.tb i ≠ B; omega)
theorem copNe {w wk : World} {S : Nat} {a : OA} {o : Ord} {b3 cb rb : Nat} {tb tc : Nat → Nat} {n : Nat} (h1 : w.heap.size + 2 ≤ cb) (h2 : w.heap.size + 2 ≤ rb) (h4 : w.heap.size + 2 ≤ S) (h : CopI w wk S a o b3 cb rb tb tc n) {k : Nat} (hk : k = cb ∨ k = rb ∨ ∃ i, i < n ∧ k = tb i) : k ≠ w.heap.size + 1 := by
  rcases hk with rfl | rfl | ⟨i, hi, rfl⟩
  · omega
  · omega
  · have := h.gT i hi; omega
theorem app_new {P : Program} {t e : TypeId} {size : Nat} (T : ElemT P t e size) {w : World} (b : Addr) (a : Addr) (m c : Nat) (news : List Value) (ty : TypeId) (hl : news.length = m * size) (hnews : ∀ j u, news[j]? = some u → w.cell? (a.add j) = some u)
    (hm : 0 < m) (hm2 : m ≤ 10000000000) :
    ∃ v' w', (Builtin.append_ #[t, t] ty #[.slice (some b) 0 0, .slice (some a) m c]).run P w = .ok v' w' ∧ w'.ownsRow w.heap.size e size v' m news ∧ w.grownBy w' none := by
  obtain ⟨i, z, h1', h2, h3, h4, h5, h6, h7⟩ := T.ex
  have h := run_append_arg_grows (P := P) (w := w) t ty e i z size i.bytes h1' h2 h3 h4 rfl h5 h6 b 0 0 [] (by simp) (by simp) a m c news hl hnews (by omega) (by unfold maxLen; omega) (Nat.le_trans (Nat.mul_le_mul (show 0 + m ≤ 10000000000 by omega) h7) (by decide))
  simpa using h
theorem grown_ext {w w' : World} (h : w.grownBy w' none) : Ext w w' := ⟨h.os, h.tape, h.output, h.size, fun k hk => h.block k hk (by simp)⟩
theorem copied_c (a : OA) (o : Ord) (w : World) (hO : OrdF w w.heap.size a o) :
    CallsV Try.prog 58 #[.agg #[a.cv o, a.rv o]] w fun v w' => ∃ a', v = .agg #[OA.cv a' o, OA.rv a' o] ∧ CopyF w' w.heap.size a' o ∧ Ext w w' := by
  have ho := hO.ok
  have hm := hO.hm2
  have hm1 := hO.hm1
  have hn := hO.hn2
  have hm9 : o.m ≤ 1000000000 := by omega
  have hn9 : o.n ≤ 1000000000 := by omega
  simp only [OA.cv, OA.rv]
  refine Wp.fn Try.func58 rfl Try.ntmps58 (by simp) ?_
  refine Wp.keep [0] fun r1 hkeep => ?_
  obtain ⟨e0_1, -⟩ := hkeep
  simp [go_sem] at e0_1
  refine Wp.seqRegion (.inl rfl) (by kernel_rfl) fun K' gd hK hg => ?_
  clear hg
  go_simp
  refine hK _ _ ?_
  clear hK K' gd
  refine Wp.keep [1, 2] fun r2 hkeep => ?_
  obtain ⟨e1_2, e2_2, -⟩ := hkeep
  simp [go_sem, e0_1] at e1_2 e2_2
  clear e0_1
  refine Wp.seqDrawT (.inl rfl) mixed (.rd [0, 1, 2, 4, 5, 6] (.both (.act 3 false (.both (.act 7 false (.rd [8] (.act 9 false (.act 10 true .done)))) (.act 9 false (.act 7 false (.rd [8] (.act 10 true .done)))))) (.both (.act 7 false (.both (.act 3 false (.rd [8] (.act 9 false (.act 10 true .done)))) (.act 9 false (.act 3 false (.rd [8] (.act 10 true .done)))))) (.act 9 false (.both (.act 3 false (.act 7 false (.rd [8] (.act 10 true .done)))) (.act 7 false (.act 3 false (.rd [8] (.act 10 true .done))))))))) (by kernel_rfl) (fun ρ W => AllEq [1, 2] ρ r2 ∧ (∃ cb rb b3, ρ 3 = .pointer (some ⟨b3, 0, none⟩) ∧ (w.heap.size + 2 ≤ cb ∧ w.heap.size + 2 ≤ rb ∧ w.heap.size + 2 ≤ b3) ∧ Ext ((w.alloc (.cells #[a.cv o, a.rv o] 25)).alloc (.cells #[.slice none 0 0, .slice none 0 0] 25)) W ∧ W.heap[b3]? = some (.cells #[.slice (some ⟨cb, 0, none⟩) o.m o.m, .slice (some ⟨rb, 0, none⟩) o.n o.n] 25 (0, 0)) ∧ W.heap[cb]? = some (.cells (madeC Try.prog 3 o.m) 3 (0, 0)) ∧ W.heap[rb]? = some (.cells (madeC Try.prog 37 o.n) 37 (0, 0)))) (fun K' gd hK hg => ?_) ?_
  · skip
    clear hg
    simp only [pickT, nth, List.map_cons, List.map_nil]
    apply Mtree.reads
    · intro w' hE'
      have hC' := hE'.cellsS
      go_simp
      with_reducible rfl
    refine Mtree.two ?_ ?_
    · skip
      refine Mtree.step fun K1 hK1 => ?_
      go_simp
      refine hK1 _ _ (by first | exact (Ext.refl _).alloc _ | exact Ext.refl _) ?_
      clear hK1 K1
      refine Mtree.two ?_ ?_
      · skip
        refine Mtree.step fun K1 hK1 => ?_
        go_simp
        refine hK1 _ _ (by first | exact (Ext.refl _).alloc _ | exact Ext.refl _) ?_
        clear hK1 K1
        apply Mtree.reads
        · intro w' hE'
          have hC' := hE'.cellsS
          go_simp
          with_reducible rfl
        refine Mtree.step fun K1 hK1 => ?_
        go_simp
        refine hK1 _ _ (by first | exact (Ext.refl _).alloc _ | exact Ext.refl _) ?_
        clear hK1 K1
        refine Mtree.stepT fun K1 hK1 => ?_
        go_simp
        refine hK1 _ _ ?_
        clear hK1 K1
        refine Mtree.fin ?_
        refine hK _ _ ⟨by simp [AllEq, go_sem], ?_⟩
        exact ⟨w.heap.size + 1 + 1, w.heap.size + 1 + 1 + 1, w.heap.size + 1 + 1 + 1 + 1, by go_simp, by omega, (by repeat (first | assumption | exact Ext.refl _ | refine Ext.drew ?_ | refine Ext.alloc ?_ _ | refine Ext.trans ?_ (by assumption))), heap2 _ _ _ _ (by simp), heap0 _ _ _ _ (by simp), heap1 _ _ _ _ (by simp)⟩
      · skip
        refine Mtree.step fun K1 hK1 => ?_
        go_simp
        refine hK1 _ _ (by first | exact (Ext.refl _).alloc _ | exact Ext.refl _) ?_
        clear hK1 K1
        refine Mtree.step fun K1 hK1 => ?_
        go_simp
        refine hK1 _ _ (by first | exact (Ext.refl _).alloc _ | exact Ext.refl _) ?_
        clear hK1 K1
        apply Mtree.reads
        · intro w' hE'
          have hC' := hE'.cellsS
          go_simp
          with_reducible rfl
        refine Mtree.stepT fun K1 hK1 => ?_
        go_simp
        refine hK1 _ _ ?_
        clear hK1 K1
        refine Mtree.fin ?_
        refine hK _ _ ⟨by simp [AllEq, go_sem], ?_⟩
        exact ⟨w.heap.size + 1 + 1, w.heap.size + 1 + 1 + 1 + 1, w.heap.size + 1 + 1 + 1, by go_simp, by omega, (by repeat (first | assumption | exact Ext.refl _ | refine Ext.drew ?_ | refine Ext.alloc ?_ _ | refine Ext.trans ?_ (by assumption))), heap1 _ _ _ _ (by simp), heap0 _ _ _ _ (by simp), heap2 _ _ _ _ (by simp)⟩
    · skip
      refine Mtree.two ?_ ?_
      · skip
        refine Mtree.step fun K1 hK1 => ?_
        go_simp
        refine hK1 _ _ (by first | exact (Ext.refl _).alloc _ | exact Ext.refl _) ?_
        clear hK1 K1
        refine Mtree.two ?_ ?_
        · skip
          refine Mtree.step fun K1 hK1 => ?_
          go_simp
          refine hK1 _ _ (by first | exact (Ext.refl _).alloc _ | exact Ext.refl _) ?_
          clear hK1 K1
          apply Mtree.reads
          · intro w' hE'
            have hC' := hE'.cellsS
            go_simp
            with_reducible rfl
          refine Mtree.step fun K1 hK1 => ?_
          go_simp
          refine hK1 _ _ (by first | exact (Ext.refl _).alloc _ | exact Ext.refl _) ?_
          clear hK1 K1
          refine Mtree.stepT fun K1 hK1 => ?_
          go_simp
          refine hK1 _ _ ?_
          clear hK1 K1
          refine Mtree.fin ?_
          refine hK _ _ ⟨by simp [AllEq, go_sem], ?_⟩
          exact ⟨w.heap.size + 1 + 1 + 1, w.heap.size + 1 + 1, w.heap.size + 1 + 1 + 1 + 1, by go_simp, by omega, (by repeat (first | assumption | exact Ext.refl _ | refine Ext.drew ?_ | refine Ext.alloc ?_ _ | refine Ext.trans ?_ (by assumption))), heap2 _ _ _ _ (by simp), heap1 _ _ _ _ (by simp), heap0 _ _ _ _ (by simp)⟩
        · skip
          refine Mtree.step fun K1 hK1 => ?_
          go_simp
          refine hK1 _ _ (by first | exact (Ext.refl _).alloc _ | exact Ext.refl _) ?_
          clear hK1 K1
          refine Mtree.step fun K1 hK1 => ?_
          go_simp
          refine hK1 _ _ (by first | exact (Ext.refl _).alloc _ | exact Ext.refl _) ?_
          clear hK1 K1
          apply Mtree.reads
          · intro w' hE'
            have hC' := hE'.cellsS
            go_simp
            with_reducible rfl
          refine Mtree.stepT fun K1 hK1 => ?_
          go_simp
          refine hK1 _ _ ?_
          clear hK1 K1
          refine Mtree.fin ?_
          refine hK _ _ ⟨by simp [AllEq, go_sem], ?_⟩
          exact ⟨w.heap.size + 1 + 1 + 1 + 1, w.heap.size + 1 + 1, w.heap.size + 1 + 1 + 1, by go_simp, by omega, (by repeat (first | assumption | exact Ext.refl _ | refine Ext.drew ?_ | refine Ext.alloc ?_ _ | refine Ext.trans ?_ (by assumption))), heap1 _ _ _ _ (by simp), heap2 _ _ _ _ (by simp), heap0 _ _ _ _ (by simp)⟩
      · skip
        refine Mtree.step fun K1 hK1 => ?_
        go_simp
        refine hK1 _ _ (by first | exact (Ext.refl _).alloc _ | exact Ext.refl _) ?_
        clear hK1 K1
        refine Mtree.two ?_ ?_
        · skip
          refine Mtree.step fun K1 hK1 => ?_
          go_simp
          refine hK1 _ _ (by first | exact (Ext.refl _).alloc _ | exact Ext.refl _) ?_
          clear hK1 K1
          refine Mtree.step fun K1 hK1 => ?_
          go_simp
          refine hK1 _ _ (by first | exact (Ext.refl _).alloc _ | exact Ext.refl _) ?_
          clear hK1 K1
          apply Mtree.reads
          · intro w' hE'
            have hC' := hE'.cellsS
            go_simp
            with_reducible rfl
          refine Mtree.stepT fun K1 hK1 => ?_
          go_simp
          refine hK1 _ _ ?_
          clear hK1 K1
          refine Mtree.fin ?_
          refine hK _ _ ⟨by simp [AllEq, go_sem], ?_⟩
          exact ⟨w.heap.size + 1 + 1 + 1, w.heap.size + 1 + 1 + 1 + 1, w.heap.size + 1 + 1, by go_simp, by omega, (by repeat (first | assumption | exact Ext.refl _ | refine Ext.drew ?_ | refine Ext.alloc ?_ _ | refine Ext.trans ?_ (by assumption))), heap0 _ _ _ _ (by simp), heap1 _ _ _ _ (by simp), heap2 _ _ _ _ (by simp)⟩
        · skip
          refine Mtree.step fun K1 hK1 => ?_
          go_simp
          refine hK1 _ _ (by first | exact (Ext.refl _).alloc _ | exact Ext.refl _) ?_
          clear hK1 K1
          refine Mtree.step fun K1 hK1 => ?_
          go_simp
          refine hK1 _ _ (by first | exact (Ext.refl _).alloc _ | exact Ext.refl _) ?_
          clear hK1 K1
          apply Mtree.reads
          · intro w' hE'
            have hC' := hE'.cellsS
            go_simp
            with_reducible rfl
          refine Mtree.stepT fun K1 hK1 => ?_
          go_simp
          refine hK1 _ _ ?_
          clear hK1 K1
          refine Mtree.fin ?_
          refine hK _ _ ⟨by simp [AllEq, go_sem], ?_⟩
          exact ⟨w.heap.size + 1 + 1 + 1 + 1, w.heap.size + 1 + 1 + 1, w.heap.size + 1 + 1, by go_simp, by omega, (by repeat (first | assumption | exact Ext.refl _ | refine Ext.drew ?_ | refine Ext.alloc ?_ _ | refine Ext.trans ?_ (by assumption))), heap0 _ _ _ _ (by simp), heap2 _ _ _ _ (by simp), heap1 _ _ _ _ (by simp)⟩
  · rintro r3 W ⟨hA, ⟨cb, rb, b3, e3, ⟨g1, g2, g3⟩, h1, h2, h3, h4⟩⟩
    obtain ⟨e1_3, e2_3, -⟩ := hA
    rw [e1_2] at e1_3
    rw [e2_2] at e2_3
    clear e1_2 e2_2
    have q0 : W.cell? ⟨w.heap.size, 0, none⟩ = some (a.cv o) := h1.cell (by go_simp)
    have q1 : W.cell? ⟨w.heap.size, 1, none⟩ = some (a.rv o) := h1.cell (by go_simp)
    have q2 : W.cell? ⟨w.heap.size + 1, 0, none⟩ = some (.slice none 0 0) := h1.cell (by go_simp)
    have q3 : W.cell? ⟨w.heap.size + 1, 1, none⟩ = some (.slice none 0 0) := h1.cell (by go_simp)
    have q4 : ∀ k, W.frozen? ⟨w.heap.size + 1, k, none⟩ = false := fun k => (World.frozen?_of_block (a := ⟨w.heap.size + 1, k, none⟩) (Below.block h1 _ (by simp))).trans (by have := frozen_nw (w.alloc (.cells #[a.cv o, a.rv o] 25)) #[.slice none 0 0, .slice none 0 0] 25 k; simpa using this)
    have hE0 : Ext w W := (by repeat (first | assumption | exact Ext.refl _ | refine Ext.drew ?_ | refine Ext.alloc ?_ _ | refine Ext.trans ?_ (by assumption)))
    have hO0 := hO.ext hE0
    have k0 := cell_of_row W b3 0 _ _ _ h2
    have k1 := cell_of_row W b3 1 _ _ _ h2
    simp only [OA.cv, OA.rv] at q0 q1
    refine Wp.seqRegion (.inl rfl) (by kernel_rfl) fun K' gd hK hg => ?_
    clear hg
    refine Wops.cut 4 fun K1 hK1 => ?_
    simp only [List.take_succ_cons, List.take_zero]
    go_simp
    refine hK1 _ _ ?_
    clear hK1 K1
    simp only [List.drop_succ_cons, List.drop_zero]
    obtain ⟨W1, hrun, j1, j2, j3⟩ := copy_whole ints_T 3 (g := cb) (n := o.m) (dCap := o.m) (sCap := a.cc) (sp := some ⟨a.cb, a.co, none⟩) (copL o) h3 (by rw [madeC_size ints_T]) (by simp [copL]) (fun _ => ⟨_, rfl, intL_src (hO0.hC)⟩) intL_one
    refine Wops.law rfl (exec_copy2 rfl hrun (by go_simp) (by go_simp)) ?_
    simp only [updO_some, Wops_nil]
    refine hK _ _ ?_
    clear hK K' gd
    refine Wp.keep [1, 2, 3] fun r4 hkeep => ?_
    obtain ⟨e1_4, e2_4, e3_4, -⟩ := hkeep
    simp [go_sem, e1_3, e2_3, e3] at e1_4 e2_4 e3_4
    clear e1_3 e2_3 e3
    have hcW : cb < W.heap.size := (Array.getElem?_eq_some_iff.1 h3).1
    have hrW : rb < W.heap.size := (Array.getElem?_eq_some_iff.1 h4).1
    have h3W : b3 < W.heap.size := (Array.getElem?_eq_some_iff.1 h2).1
    have ncr : cb ≠ rb := RowB.ne ⟨_, h3, rfl⟩ ⟨_, h4, rfl⟩ (by decide)
    have nc3 : b3 ≠ cb := RowB.ne ⟨_, h2, rfl⟩ ⟨_, h3, rfl⟩ (by decide)
    have nr3 : b3 ≠ rb := RowB.ne ⟨_, h2, rfl⟩ ⟨_, h4, rfl⟩ (by decide)
    have hE1 : Ext w W1 := Go.RowKit.Below.grown hE0 j2 (Below.size hE0) (fun k e => by injection e; omega)
    have hO1 := hO.ext hE1
    have i2 := (j2.block b3 h3W (fun e => nc3 (by injection e))).trans h2
    have i4 := (j2.block rb hrW (fun e => ncr (Option.some.inj e).symm)).trans h4
    have q0' := j2.cell q0 (fun e => by have e := Option.some.inj e; dsimp only at e; omega)
    have q1' := j2.cell q1 (fun e => by have e := Option.some.inj e; dsimp only at e; omega)
    have k0 := cell_of_row W1 b3 0 _ _ _ i2
    have k1 := cell_of_row W1 b3 1 _ _ _ i2
    refine Wp.seqRegion (.inl rfl) (by kernel_rfl) fun K' gd hK hg => ?_
    clear hg
    refine Wops.cut 4 fun K1 hK1 => ?_
    simp only [List.take_succ_cons, List.take_zero]
    go_simp
    refine hK1 _ _ ?_
    clear hK1 K1
    simp only [List.drop_succ_cons, List.drop_zero]
    obtain ⟨W2, hrun, l1, l2, l3⟩ := copy_whole runs_T 3 (g := rb) (n := o.n) (dCap := o.n) (sCap := a.rc) (sp := a.rA) (runCs a o) i4 (by rw [madeC_size runs_T]) (runCs_len a o) (fun h => ⟨_, hO1.hr h, runCs_src hO1⟩) (runCs_one a o)
    refine Wops.law rfl (exec_copy2 rfl hrun (by go_simp) (by go_simp)) ?_
    simp only [updO_some, Wops_nil]
    refine hK _ _ ?_
    clear hK K' gd
    refine Wp.keep [2, 3] fun r5 hkeep => ?_
    obtain ⟨e2_5, e3_5, -⟩ := hkeep
    simp [go_sem, e1_4, e2_4, e3_4] at e2_5 e3_5
    clear e1_4 e2_4 e3_4
    have hE2 : Ext w W2 := Go.RowKit.Below.grown hE1 l2 (Below.size hE1) (fun k e => by injection e; omega)
    have p2 := (l2.block b3 (by omega) (fun e => nr3 (by injection e))).trans i2
    have p3 := (l2.block cb (by omega) (fun e => ncr (by injection e))).trans j1
    have k2 := cell_of_row W2 b3 0 _ _ _ p2
    have k3 := cell_of_row W2 b3 1 _ _ _ p2
    have e0 : w.heap.size + 1 < W.heap.size := by omega
    have e1 : w.heap.size + 1 ≠ cb := by omega
    have e2 : w.heap.size + 1 ≠ rb := by omega
    have hbl : W2.heap[w.heap.size + 1]? = W.heap[w.heap.size + 1]? := (l2.block (w.heap.size + 1) (by omega) (fun e => e2 (by injection e))).trans (j2.block (w.heap.size + 1) e0 (fun e => e1 (by injection e)))
    have hI0 : CopI w W2 W2.heap.size a o b3 cb rb (fun _ => 0) (fun _ => 0) 0 := ⟨hE2, Nat.le_refl _, ⟨(World.cell?_of_block (a := ⟨w.heap.size + 1, 0, none⟩) hbl).trans q2, (World.cell?_of_block (a := ⟨w.heap.size + 1, 1, none⟩) hbl).trans q3, fun k => (World.frozen?_of_block (a := ⟨w.heap.size + 1, k, none⟩) hbl).trans (q4 k)⟩, k2, k3, ⟨_, p3, by simp [copL]⟩, fun j hj => by rw [cell_of_row W2 cb j _ _ _ p3, List.getElem?_toArray]; exact intL_get (f := o.C) hj, ⟨_, l1, by simp [runCs_len]⟩, fun i hi => by rw [cell_of_row W2 rb _ _ _ _ l1]; simpa [runC_0] using runCs_get a o (show i * 3 < o.n * 3 by omega), fun i hi => by rw [cell_of_row W2 rb _ _ _ _ l1]; simpa [runC_1] using runCs_get a o (show i * 3 + 1 < o.n * 3 by omega), fun i hi => by rw [cell_of_row W2 rb _ _ _ _ l1, if_neg (Nat.not_lt_zero _)]; simpa [runC_2] using runCs_get a o (show i * 3 + 2 < o.n * 3 by omega), fun i hi => absurd hi (Nat.not_lt_zero _), fun i j hi => absurd hi (Nat.not_lt_zero _), fun i hi => absurd hi (Nat.not_lt_zero _), fun i hi => absurd hi (Nat.not_lt_zero _), fun i j _ hi => absurd hi (Nat.not_lt_zero _)⟩
    refine Wp.seq ?_
    refine Wp.seqRegion (.inl rfl) (by kernel_rfl) fun K' gd hK hg => ?_
    clear hg
    go_simp
    refine hK _ _ ?_
    clear hK K' gd
    refine Wp.keep [2, 3, 27, 28] fun r6 hkeep => ?_
    obtain ⟨e2_6, e3_6, e27_6, e28_6, -⟩ := hkeep
    simp [go_sem, e2_5, e3_5] at e2_6 e3_6 e27_6 e28_6
    clear e2_5 e3_5
    refine Wp.block ?_
    refine Wp.loop (fun k ρ ds wk => AllEq [2, 3, 27] ρ r6 ∧ ds = [] ∧ (∃ tb tc, ρ 28 = .int .i64 (k : Int) ∧ CopI w wk W2.heap.size a o b3 cb rb tb tc k)) (o.n) ?_ ?_
    · refine ⟨AllEq.refl _ _, rfl, ?_⟩
      exact ⟨_, _, by rw [e28_6]; rfl, hI0⟩
    · rintro k r7 _ wk hk ⟨hA, rfl, ⟨tb, tc, e28, hI⟩⟩
      obtain ⟨e2_7, e3_7, e27_7, -⟩ := hA
      rw [e2_6] at e2_7
      rw [e3_6] at e3_7
      rw [e27_6] at e27_7
      refine Wp.seqRegion (.inl rfl) (by kernel_rfl) fun K' gd hK hg => ?_
      clear hg
      go_simp
      refine hK _ _ ?_
      clear hK K' gd
      refine Wp.keep [2, 3, 27, 28, 29] fun r8 hkeep => ?_
      obtain ⟨e2_8, e3_8, e27_8, e28_8, e29_8, -⟩ := hkeep
      simp [go_sem, e2_7, e3_7, e27_7, e28] at e2_8 e3_8 e27_8 e28_8 e29_8
      clear e2_7 e3_7 e27_7 e28
      refine Wp.seq ?_
      by_cases h : k < o.n
      · refine Wp.condT (by go_simp) ?_
        have d0 := hI.c0
        have d1 := hI.c1
        have d2 : wk.cell? ⟨rb, k * 3 + 2, none⟩ = some (.slice (some ⟨a.tb k, a.to_ k, none⟩) o.m (a.tc k)) := by rw [hI.cT k h, if_neg (Nat.lt_irrefl _)]
        have hOk := hO.ext hI.ext
        have d3 := hI.rR.frozen (k * 3 + 2)
        refine Wp.skip ?_
        refine thenK_normal ?_
        refine Wp.seq ?_
        refine Wp.block ?_
        refine Wp.seqRegion (.inl rfl) (by kernel_rfl) fun K' gd hK hg => ?_
        clear hg
        go_simp
        refine hK _ _ ?_
        clear hK K' gd
        refine Wp.keep [2, 3, 4, 27, 28] fun r9 hkeep => ?_
        obtain ⟨e2_9, e3_9, e4_9, e27_9, e28_9, -⟩ := hkeep
        simp [go_sem, e2_8, e3_8, e27_8, e28_8, e29_8] at e2_9 e3_9 e4_9 e27_9 e28_9
        clear e2_8 e3_8 e27_8 e28_8 e29_8
        refine Wp.seqRegion (.inl rfl) (by kernel_rfl) fun K' gd hK hg => ?_
        clear hg
        go_simp
        refine hK _ _ ?_
        clear hK K' gd
        refine Wp.keep [2, 3, 5, 27, 28] fun r10 hkeep => ?_
        obtain ⟨e2_10, e3_10, e5_10, e27_10, e28_10, -⟩ := hkeep
        simp [go_sem, e2_9, e3_9, e4_9, e27_9, e28_9] at e2_10 e3_10 e5_10 e27_10 e28_10
        clear e2_9 e3_9 e4_9 e27_9 e28_9
        refine Wp.loneDrawT (.inl rfl) mixed (.rd [1, 2, 3, 4, 5, 6, 7, 8, 9] (.both (.act 0 false (.act 10 true (.act 11 true (.act 12 true (.act 13 true .done))))) (.act 10 true (.act 0 false (.act 11 true (.act 12 true (.act 13 true .done))))))) (by kernel_rfl) (fun ρ W => AllEq [2, 3, 27, 28] ρ r10 ∧ (∃ tb tc, CopI w W W2.heap.size a o b3 cb rb tb tc (k + 1))) (fun K' gd hK hg => ?_) ?_
        · skip
          clear hg
          simp only [pickT, nth, List.map_cons, List.map_nil]
          apply Mtree.reads
          · intro w' hE'
            have hC' := hE'.cellsS
            go_simp
            with_reducible rfl
          refine Mtree.two ?_ ?_
          · skip
            refine Mtree.step fun K1 hK1 => ?_
            go_simp
            refine hK1 _ _ (by first | exact (Ext.refl _).alloc _ | exact Ext.refl _) ?_
            clear hK1 K1
            refine Mtree.stepT fun K1 hK1 => ?_
            obtain ⟨v', w1, hrun, hown, hgr⟩ := app_new (w := wk.drew) ints_T ⟨a.tb k, a.to_ k, none⟩ ⟨a.tb k, a.to_ k, none⟩ o.m (a.tc k) (takL o k) 22 (by simp [takL]) (intL_src (fun j hj => hOk.hTT k j h hj)) hm1 (by omega)
            have hEw : Ext wk w1 := Below.trans ((Ext.refl wk).drew) (grown_ext hgr)
            obtain ⟨g, c, rfl, hI2⟩ := CopI.step ho hI h (by have := Below.size hE0; omega) g2 (by omega) nr3 ncr hown hEw
            have d5 := hEw.cell d2
            have d6 := (hEw.frozen d2).trans d3
            refine if_pos_of rfl (Wstep.law (exec_append2 rfl hrun (by go_simp) (by go_simp)) ?_)
            refine hK1 _ _ ?_
            clear hK1 K1
            refine Mtree.stepT fun K1 hK1 => ?_
            go_simp
            refine hK1 _ _ ?_
            clear hK1 K1
            refine Mtree.stepT fun K1 hK1 => ?_
            go_simp
            refine hK1 _ _ ?_
            clear hK1 K1
            refine Mtree.stepT fun K1 hK1 => ?_
            go_simp
            refine hK1 _ _ ?_
            clear hK1 K1
            refine Mtree.fin ?_
            refine hK _ _ ⟨by simp [AllEq, go_sem], ?_⟩
            exact ⟨_, _, hI2⟩
          · skip
            refine Mtree.stepT fun K1 hK1 => ?_
            obtain ⟨v', w1, hrun, hown, hgr⟩ := app_new (w := wk.drew) ints_T ⟨a.tb k, a.to_ k, none⟩ ⟨a.tb k, a.to_ k, none⟩ o.m (a.tc k) (takL o k) 22 (by simp [takL]) (intL_src (fun j hj => hOk.hTT k j h hj)) hm1 (by omega)
            have hEw : Ext wk w1 := Below.trans ((Ext.refl wk).drew) (grown_ext hgr)
            obtain ⟨g, c, rfl, hI2⟩ := CopI.step ho hI h (by have := Below.size hE0; omega) g2 (by omega) nr3 ncr hown hEw
            have d5 := hEw.cell d2
            have d6 := (hEw.frozen d2).trans d3
            refine if_pos_of rfl (Wstep.law (exec_append2 rfl hrun (by go_simp) (by go_simp)) ?_)
            refine hK1 _ _ ?_
            clear hK1 K1
            refine Mtree.step fun K1 hK1 => ?_
            go_simp
            refine hK1 _ _ (by first | exact (Ext.refl _).alloc _ | exact Ext.refl _) ?_
            clear hK1 K1
            refine Mtree.stepT fun K1 hK1 => ?_
            go_simp
            refine hK1 _ _ ?_
            clear hK1 K1
            refine Mtree.stepT fun K1 hK1 => ?_
            go_simp
            refine hK1 _ _ ?_
            clear hK1 K1
            refine Mtree.stepT fun K1 hK1 => ?_
            go_simp
            refine hK1 _ _ ?_
            clear hK1 K1
            refine Mtree.fin ?_
            refine hK _ _ ⟨by simp [AllEq, go_sem], ?_⟩
            exact ⟨_, _, hI2⟩
        · rintro r11 W ⟨hA, ⟨tb2, tc2, hI2⟩⟩
          obtain ⟨e2_11, e3_11, e27_11, e28_11, -⟩ := hA
          rw [e2_10] at e2_11
          rw [e3_10] at e3_11
          rw [e27_10] at e27_11
          rw [e28_10] at e28_11
          clear e2_10 e3_10 e5_10 e27_10 e28_10
          refine Ends.mk ?_
          refine blockK_normal ?_
          refine thenK_normal ?_
          refine Wp.loneRegion (.inl rfl) (by kernel_rfl) fun K' gd hK hg => ?_
          clear hg
          go_simp
          refine hK _ _ ?_
          clear hK K' gd
          refine Ends.keep [2, 3, 27, 28] fun r12 hkeep => ?_
          obtain ⟨e2_12, e3_12, e27_12, e28_12, -⟩ := hkeep
          simp [go_sem, e2_11, e3_11, e27_11, e28_11] at e2_12 e3_12 e27_12 e28_12
          clear e2_11 e3_11 e27_11 e28_11
          refine Ends.mk ?_
          refine thenK_normal ⟨by omega, ⟨by rw [e2_12, e2_6], by rw [e3_12, e3_6], by rw [e27_12, e27_6], trivial⟩, rfl, ?_⟩
          exact ⟨_, _, by rw [e28_12, IntWalk.i64_in _ (by omega)]; rfl, hI2⟩
      · refine Wp.condF (by go_simp) ?_
        obtain rfl : k = o.n := by omega
        have d0 := hI.c0
        have d1 := hI.c1
        obtain ⟨d2, d3, d4⟩ := hI.q2
        have d5 := d4 0
        have d6 := d4 1
        have hF := hI.copy ho g1 g2 (by omega) (by have := Below.size hE0; omega)
        refine Wp.exit ?_
        refine thenK_exit ?_
        refine thenK_exit ?_
        refine blockK_here ?_
        refine thenK_normal ?_
        refine Wp.seqRegion (.inl rfl) (by kernel_rfl) fun K' gd hK hg => ?_
        clear hg
        go_simp
        refine hK _ _ ?_
        clear hK K' gd
        refine Wp.keep [2] fun r13 hkeep => ?_
        obtain ⟨e2_13, -⟩ := hkeep
        simp [go_sem, e2_8, e3_8, e27_8, e28_8, e29_8] at e2_13
        clear e2_8 e3_8 e27_8 e28_8 e29_8
        refine Wp.ret ?_
        refine endK_cell (v := .agg #[.slice (some ⟨cb, 0, none⟩) o.m o.m, .slice (some ⟨rb, 0, none⟩) o.n o.n]) Try.results58 (by decide) e2_13 (by go_simp) ?_
        exact ⟨_, rfl, CopyF.other hF (by simp) (fun k' hk => (heap_setCell_other _ ⟨w.heap.size + 1, 1, none⟩ k' _ (copNe g1 g2 (by omega) hI hk)).trans (heap_setCell_other _ ⟨w.heap.size + 1, 0, none⟩ k' _ (copNe g1 g2 (by omega) hI hk))), Below.setCell (Below.setCell hI.ext (Nat.le_succ _) _) (Nat.le_succ _) _⟩
end Go.Proofs.Ytnfagcccgmakdaa
namespace Go.Proofs.Ytnfagcccgmakdaa
open Go.RowKit Go.Wk Go.Proofs
attribute [local irreducible] Go.Wk.Wops Go.Wk.Wp Go.Wk.Mtree Go.Wk.Mops
set_option maxHeartbeats 4000000

def Ord.setC (o : Ord) (j : Nat) (c : Int) : Ord := { o with cop := o.cop.set j c }
def Run.setT (r : Run) (j : Nat) (t : Int) : Run := { r with takes := r.takes.set j t }
def Ord.setT (o : Ord) (i j : Nat) (t : Int) : Ord := { o with runs := o.runs.set i ((o.runs[i]?.getD default).setT j t) }
section
variable {o : Ord}
theorem setC_m (j : Nat) (c : Int) : (o.setC j c).m = o.m := by simp [Ord.setC, Ord.m]
theorem setC_n (j : Nat) (c : Int) : (o.setC j c).n = o.n := rfl
theorem setC_C {j : Nat} (c : Int) (hj : j < o.m) (j' : Nat) : (o.setC j c).C j' = if j' = j then c else o.C j' := by
  unfold Ord.setC Ord.C
  rw [List.getElem?_set]
  by_cases h : j = j'
  · subst h; rw [if_pos rfl, if_pos rfl, if_pos (show j < o.cop.length from hj)]; rfl
  · rw [if_neg h, if_neg (Ne.symm h)]
theorem setC_T (j : Nat) (c : Int) (i j' : Nat) : (o.setC j c).T i j' = o.T i j' := rfl
theorem setC_A (j : Nat) (c : Int) (i : Nat) : (o.setC j c).A i = o.A i := rfl
theorem setC_ID (j : Nat) (c : Int) (i : Nat) : (o.setC j c).ID i = o.ID i := rfl
theorem setT_m (i j : Nat) (t : Int) : (o.setT i j t).m = o.m := rfl
theorem setT_n (i j : Nat) (t : Int) : (o.setT i j t).n = o.n := by simp [Ord.setT, Ord.n]
theorem setT_C (i j : Nat) (t : Int) (j' : Nat) : (o.setT i j t).C j' = o.C j' := rfl
theorem setT_run (i j : Nat) (t : Int) (i' : Nat) : (o.setT i j t).runs[i']?.getD default = if i' = i ∧ i < o.n then (o.runs[i]?.getD default).setT j t else o.runs[i']?.getD default := by
  unfold Ord.setT Ord.n
  dsimp only
  rw [List.getElem?_set]
  by_cases h : i = i'
  · subst h
    rw [if_pos rfl]
    by_cases hi : i < o.runs.length
    · rw [if_pos hi, if_pos ⟨rfl, hi⟩]; rfl
    · rw [if_neg hi, if_neg (fun h => hi h.2)]
      rw [List.getElem?_eq_none (by omega)]
  · rw [if_neg h, if_neg (fun h' => h h'.1.symm)]
theorem setT_A (i j : Nat) (t : Int) (i' : Nat) : (o.setT i j t).A i' = o.A i' := by
  unfold Ord.A; rw [setT_run]
  split
  · rename_i h; obtain ⟨rfl, -⟩ := h; rfl
  · rfl
theorem setT_ID (i j : Nat) (t : Int) (i' : Nat) : (o.setT i j t).ID i' = o.ID i' := by
  unfold Ord.ID; rw [setT_run]
  split
  · rename_i h; obtain ⟨rfl, -⟩ := h; rfl
  · rfl
theorem setT_T {i j : Nat} (t : Int) (hi : i < o.n) (hl : j < (o.runs[i]?.getD default).takes.length) (i' j' : Nat) : (o.setT i j t).T i' j' = if i' = i ∧ j' = j then t else o.T i' j' := by
  unfold Ord.T; rw [setT_run]
  by_cases h : i' = i
  · subst h
    rw [if_pos ⟨rfl, hi⟩]
    unfold Run.setT
    dsimp only
    rw [List.getElem?_set]
    by_cases h2 : j = j'
    · subst h2; rw [if_pos rfl, if_pos hl]; simp
    · rw [if_neg h2, if_neg (fun h => h2 h.2.symm)]
  · rw [if_neg (fun h' => h h'.1), if_neg (fun h' => h h'.1)]
end
theorem OrdGood.takes_len {o : Ord} (h : OrdGood o) {i : Nat} (hi : i < o.n) : (o.runs[i]?.getD default).takes.length = o.m := by
  have hi' : i < o.runs.length := hi
  rw [List.getElem?_eq_getElem hi']
  exact (h.runs _ (List.getElem_mem hi')).len
theorem OrdGood.setC {o : Ord} (h : OrdGood o) (j : Nat) {c : Int} (hc : 1 ≤ c ∧ c ≤ 20) : OrdGood (o.setC j c) := by
  have hl : (o.setC j c).cop.length = o.cop.length := by simp [Ord.setC]
  refine ⟨by rw [hl]; exact h.m1, by rw [hl]; exact h.m2, h.n2, fun x hx => ?_, fun r hr => by rw [hl]; exact h.runs r hr, h.ids⟩
  rcases List.mem_or_eq_of_mem_set hx with hx | rfl
  · exact h.cop x hx
  · exact hc
theorem OrdGood.setT {o : Ord} (h : OrdGood o) {i : Nat} (j : Nat) (hi : i < o.n) {t : Int} (ht : 1 ≤ t ∧ t ≤ 60) : OrdGood (o.setT i j t) := by
  have hi' : i < o.runs.length := hi
  have hr0 := h.runs _ (List.getElem_mem hi')
  have hg : o.runs[i]?.getD default = o.runs[i] := by rw [List.getElem?_eq_getElem hi']; rfl
  refine ⟨h.m1, h.m2, by rw [show (o.setT i j t).runs.length = o.runs.length by simp [Ord.setT]]; exact h.n2, h.cop, fun r hr => ?_, ?_⟩
  · rcases List.mem_or_eq_of_mem_set hr with hr | rfl
    · exact h.runs r hr
    · rw [hg]
      refine ⟨hr0.id, hr0.arr, ?_, fun x hx => ?_⟩
      · show (o.runs[i].takes.set j t).length = _; rw [List.length_set]; exact hr0.len
      · rcases List.mem_or_eq_of_mem_set hx with hx | rfl
        · exact hr0.takes x hx
        · exact ht
  · have : (o.setT i j t).runs.map (·.id) = o.runs.map (·.id) := by
      unfold Ord.setT
      rw [List.map_set, hg]
      show (o.runs.map (·.id)).set i o.runs[i].id = _
      apply List.ext_getElem
      · simp
      · intro k h1 h2
        rw [List.getElem_set]
        split
        · rename_i e; subst e; simp
        · rfl
    rw [this]; exact h.ids
/-- a right order, read as a value -/
theorem OrdF.orderV {w : World} {B : Nat} {a : OA} {o : Ord} (hO : OrdF w B a o) (hg : OrdGood o) : OrderV w B (.agg #[a.cv o, a.rv o]) o := by
  refine ⟨_, _, rfl, ⟨_, _, rfl, fun _ => ⟨_, _, rfl, hO.bC, fun j hj => ?_⟩, hO.hcc⟩, ⟨_, _, fun k => .slice (some ⟨a.tb k, a.to_ k, none⟩) o.m (a.tc k), rfl, fun hne => ?_, fun k hk => ?_, hO.hrc⟩⟩
  · have := hO.hC j hj
    unfold Ord.C at this; rw [List.getElem?_eq_getElem hj] at this; exact this
  · have hn : 0 < o.n := List.length_pos_iff.2 hne
    refine ⟨_, _, hO.hr hn, hO.bR hn, fun k hk => ?_⟩
    have h1 := hO.hI k hk
    have h2 := hO.hA k hk
    have h3 := hO.hT k hk
    unfold Ord.ID at h1; unfold Ord.A at h2
    rw [List.getElem?_eq_getElem hk] at h1 h2
    exact ⟨h1, h2, h3⟩
  · have h := rvs_ints hO hg k (by rw [rvs_len]; exact hk)
    rw [rvs_get] at h
    have hl : (o.runs[k]?.getD default).takes.length = o.m := hg.takes_len hk
    simp only [hl] at h
    rw [List.getElem?_eq_getElem hk] at h
    exact h.2
theorem CopyF.setC {w : World} {base : Nat} {a : OA} {o : Ord} (h : CopyF w base a o) {j : Nat} (hj : j < o.m) {c : Int} (hc : 1 ≤ c ∧ c ≤ 20) : CopyF (w.setCell ⟨a.cb, j, none⟩ (.int .i64 c)) base a (o.setC j c) := by
  have hO := h.ord
  obtain ⟨z1, z2⟩ := h.zC
  have ncr : a.cb ≠ a.rb := h.rC.ne h.rR (by decide)
  have row : ∀ {b n : Nat} {e : TypeId}, RowB w b e n → RowB (w.setCell ⟨a.cb, j, none⟩ (.int .i64 c)) b e n := fun hr => hr.set _ rfl _
  have e1 : (o.setC j c).m = o.m := setC_m j c
  have e2 : (o.setC j c).n = o.n := rfl
  refine ⟨⟨by rw [e1]; exact hO.hm1, by rw [e1]; exact hO.hm2, hO.hn2, fun j' hj' => ?_, hO.hr, fun i hi => (setCell_blk ncr).trans (hO.hI i hi), fun i hi => (setCell_blk ncr).trans (hO.hA i hi), fun i hi => by rw [e1]; exact (setCell_blk ncr).trans (hO.hT i hi), fun i j' hi hj' => (setCell_blk (Ne.symm (h.ne i hi))).trans (hO.hTT i j' hi (by rw [e1] at hj'; exact hj')), by simpa using hO.bC, fun hn => by simpa using hO.bR hn, fun i hi => by simpa using hO.bT i hi, by rw [e1]; exact hO.hcc, hO.hrc, fun i hi => by rw [e1]; exact hO.htc i hi, fun j' hj' => ?_, hO.vA, fun i j' hi hj' => hO.vT i j' hi (by rw [e1] at hj'; exact hj')⟩, by rw [e1]; exact row h.rC, row h.rR, fun i hi => row (h.rT i hi), by rw [e1]; exact h.zC, h.zR, h.zT, h.gC, h.gR, h.gT, h.ne, h.inj⟩
  · rw [e1] at hj'
    rw [z1, Nat.zero_add, setC_C c hj]
    by_cases e : j' = j
    · subst e; rw [if_pos rfl]
      exact World.cell?_setCell_same' _ _ _ (by have := hO.hC j' hj'; rw [z1, Nat.zero_add] at this; rw [this]; rfl)
    · rw [if_neg e, setCell_off (Ne.symm e)]
      have := hO.hC j' hj'; rwa [z1, Nat.zero_add] at this
  · rw [e1] at hj'; rw [setC_C c hj]; split
    · exact hc
    · exact hO.vC j' hj'
theorem CopyF.setT {w : World} {base : Nat} {a : OA} {o : Ord} (hg : OrdGood o) (h : CopyF w base a o) {i j : Nat} (hi : i < o.n) (hj : j < o.m) {t : Int} (ht : 1 ≤ t ∧ t ≤ 60) : CopyF (w.setCell ⟨a.tb i, j, none⟩ (.int .i64 t)) base a (o.setT i j t) := by
  have hO := h.ord
  have z1 := h.zT
  have ntr : a.tb i ≠ a.rb := (h.rT i hi).ne h.rR (by decide)
  have row : ∀ {b n : Nat} {e : TypeId}, RowB w b e n → RowB (w.setCell ⟨a.tb i, j, none⟩ (.int .i64 t)) b e n := fun hr => hr.set _ rfl _
  have e2 : (o.setT i j t).n = o.n := setT_n i j t
  have hl : j < (o.runs[i]?.getD default).takes.length := by rw [hg.takes_len hi]; exact hj
  have hrv : ∀ i', i' < (o.setT i j t).n → i' < o.n := fun i' h' => by rw [e2] at h'; exact h'
  refine ⟨⟨hO.hm1, hO.hm2, by rw [e2]; exact hO.hn2, fun j' hj' => (setCell_blk (h.ne i hi)).trans (hO.hC j' hj'), fun hn => hO.hr (by rw [e2] at hn; exact hn), fun i' hi' => by rw [setT_ID]; exact (setCell_blk ntr).trans (hO.hI i' (hrv i' hi')), fun i' hi' => by rw [setT_A]; exact (setCell_blk ntr).trans (hO.hA i' (hrv i' hi')), fun i' hi' => (setCell_blk ntr).trans (hO.hT i' (hrv i' hi')), fun i' j' hi' hj' => ?_, by simpa using hO.bC, fun hn => by simpa using hO.bR (by rw [e2] at hn; exact hn), fun i' hi' => by simpa using hO.bT i' (hrv i' hi'), hO.hcc, by rw [e2]; exact hO.hrc, fun i' hi' => hO.htc i' (hrv i' hi'), hO.vC, fun i' hi' => by rw [setT_A]; exact hO.vA i' (hrv i' hi'), fun i' j' hi' hj' => ?_⟩, row h.rC, by rw [e2]; exact row h.rR, fun i' hi' => row (h.rT i' (hrv i' hi')), h.zC, by rw [e2]; exact h.zR, fun i' hi' => h.zT i' (hrv i' hi'), h.gC, h.gR, fun i' hi' => h.gT i' (hrv i' hi'), fun i' hi' => h.ne i' (hrv i' hi'), fun i' j' hi' hj' => h.inj i' j' (hrv i' hi') (hrv j' hj')⟩
  · have hi2 := hrv i' hi'
    have hj2 : j' < o.m := hj'
    have c0 := hO.hTT i' j' hi2 hj2
    rw [setT_T t hi hl]
    rw [z1 i' hi2, Nat.zero_add] at c0 ⊢
    by_cases e : i' = i ∧ j' = j
    · obtain ⟨rfl, rfl⟩ := e
      rw [if_pos ⟨rfl, rfl⟩]
      exact World.cell?_setCell_same' _ _ _ (by rw [c0]; rfl)
    · rw [if_neg e]
      by_cases e2 : i' = i
      · subst e2
        rw [setCell_off (fun e3 => e ⟨rfl, e3.symm⟩)]; exact c0
      · rw [setCell_blk (fun e3 => e2 (h.inj i' i hi2 hi e3.symm))]; exact c0
  · rw [setT_T t hi hl]; split
    · exact ht
    · exact hO.vT i' j' (hrv i' hi') hj'
theorem with_c (a : OA) (o : Ord) (j : Nat) (c : Int) (w : World) (hO : OrdF w w.heap.size a o) (hj : j < o.m) (hc : 1 ≤ c ∧ c ≤ 20) :
    CallsV Try.prog 98 #[.agg #[a.cv o, a.rv o], .int .i64 (j : Int), .int .i64 c] w fun v w' => ∃ a', v = .agg #[OA.cv a' (o.setC j c), OA.rv a' (o.setC j c)] ∧ CopyF w' w.heap.size a' (o.setC j c) ∧ Ext w w' := by
  refine Wp.fn Try.func98 rfl Try.ntmps98 (by simp) ?_
  refine Wp.keep [0, 1, 2] fun r1 hkeep => ?_
  obtain ⟨e0_1, e1_1, e2_1, -⟩ := hkeep
  simp [go_sem] at e0_1 e1_1 e2_1
  refine Wp.seqRegion (.inl rfl) (by kernel_rfl) fun K' gd hK hg => ?_
  clear hg
  go_simp
  refine hK _ _ ?_
  clear hK K' gd
  refine Wp.keep [1, 2, 3, 6] fun r2 hkeep => ?_
  obtain ⟨e1_2, e2_2, e3_2, e6_2, -⟩ := hkeep
  simp [go_sem, e0_1, e1_1, e2_1] at e1_2 e2_2 e3_2 e6_2
  clear e0_1 e1_1 e2_1
  refine Wp.seqRegion (.inl rfl) (by kernel_rfl) fun K' gd hK hg => ?_
  clear hg
  go_simp
  refine Wcall (.inl rfl) (copied_c a o _ (hO.ext (by repeat (first | assumption | exact Ext.refl _ | refine Ext.drew ?_ | refine Ext.alloc ?_ _ | refine Ext.trans ?_ (by assumption))))) ?_
  rintro v w2 ⟨a', rfl, hF, hE⟩
  simp only [OA.cv, OA.rv]
  have x0 : w2.cell? ⟨w.heap.size, 0, none⟩ = some (a.cv o) := hE.cell (by go_simp)
  have x1 : w2.cell? ⟨w.heap.size, 1, none⟩ = some (a.rv o) := hE.cell (by go_simp)
  have y0 : w2.cell? ⟨w.heap.size + 1, 0, none⟩ = some (.slice none 0 0) := hE.cell (by go_simp)
  have y1 : w2.cell? ⟨w.heap.size + 1, 1, none⟩ = some (.slice none 0 0) := hE.cell (by go_simp)
  have z8 := hE.frozenS
  go_simp
  refine hK _ _ ?_
  clear hK K' gd
  refine Wp.keep [1, 2, 3, 6] fun r3 hkeep => ?_
  obtain ⟨e1_3, e2_3, e3_3, e6_3, -⟩ := hkeep
  simp [go_sem, e1_2, e2_2, e3_2, e6_2] at e1_3 e2_3 e3_3 e6_3
  clear e1_2 e2_2 e3_2 e6_2
  simp only [World.size_alloc] at hF
  have hE0 : Ext w w2 := (by repeat (first | assumption | exact Ext.refl _ | refine Ext.drew ?_ | refine Ext.alloc ?_ _ | refine Ext.trans ?_ (by assumption)))
  have hF3 := (hF.away (B := w.heap.size) (k := 0) (v := .slice (some ⟨a'.cb, a'.co, none⟩) o.m a'.cc) (by omega)).away (B := w.heap.size) (k := 1) (v := .slice a'.rA o.n a'.rc) (by omega)
  have u0 : ((w2.setCell ⟨w.heap.size, 0, none⟩ (.slice (some ⟨a'.cb, a'.co, none⟩) o.m a'.cc)).setCell ⟨w.heap.size, 1, none⟩ (.slice a'.rA o.n a'.rc)).cell? ⟨w.heap.size, 0, none⟩ = some (.slice (some ⟨a'.cb, a'.co, none⟩) o.m a'.cc) := by rw [setCell_off (by decide)]; exact World.cell?_setCell_same' _ _ _ (by rw [x0]; rfl)
  have u1 : ((w2.setCell ⟨w.heap.size, 0, none⟩ (.slice (some ⟨a'.cb, a'.co, none⟩) o.m a'.cc)).setCell ⟨w.heap.size, 1, none⟩ (.slice a'.rA o.n a'.rc)).cell? ⟨w.heap.size, 1, none⟩ = some (.slice a'.rA o.n a'.rc) := World.cell?_setCell_same' _ _ _ (by rw [setCell_off (by decide), x1]; rfl)
  have y2 := (setCell_blk (k := 1) (v := .slice a'.rA o.n a'.rc) (show w.heap.size ≠ w.heap.size + 1 by omega)).trans ((setCell_blk (k := 0) (v := .slice (some ⟨a'.cb, a'.co, none⟩) o.m a'.cc) (show w.heap.size ≠ w.heap.size + 1 by omega)).trans y0)
  have y3 := (setCell_blk (k := 1) (v := .slice a'.rA o.n a'.rc) (show w.heap.size ≠ w.heap.size + 1 by omega)).trans ((setCell_blk (k := 0) (v := .slice (some ⟨a'.cb, a'.co, none⟩) o.m a'.cc) (show w.heap.size ≠ w.heap.size + 1 by omega)).trans y1)
  have fz : ∀ k, ((w2.setCell ⟨w.heap.size, 0, none⟩ (.slice (some ⟨a'.cb, a'.co, none⟩) o.m a'.cc)).setCell ⟨w.heap.size, 1, none⟩ (.slice a'.rA o.n a'.rc)).frozen? ⟨w.heap.size + 1, k, none⟩ = false := fun k => by rw [World.frozen?_setCell, World.frozen?_setCell]; exact (World.frozen?_of_block (a := ⟨w.heap.size + 1, k, none⟩) (hE.block _ (by simp))).trans (by have := frozen_nw (w.alloc (.cells #[a.cv o, a.rv o] 25)) #[.slice none 0 0, .slice none 0 0] 25 k; simpa using this)
  have hE3 : Ext w ((w2.setCell ⟨w.heap.size, 0, none⟩ (.slice (some ⟨a'.cb, a'.co, none⟩) o.m a'.cc)).setCell ⟨w.heap.size, 1, none⟩ (.slice a'.rA o.n a'.rc)) := Below.setCell (Below.setCell hE0 (Nat.le_refl _) _) (Nat.le_refl _) _
  clear x0 x1 y0 y1 z8 hE hF hE0
  generalize (w2.setCell ⟨w.heap.size, 0, none⟩ (.slice (some ⟨a'.cb, a'.co, none⟩) o.m a'.cc)).setCell ⟨w.heap.size, 1, none⟩ (.slice a'.rA o.n a'.rc) = W3 at *
  obtain ⟨zc, zc'⟩ := hF3.zC
  have fc := hF3.rC.frozen j
  have c1 := hF3.ord.hC j hj
  rw [zc, Nat.zero_add] at c1
  have ncb : a'.cb ≠ w.heap.size := by have := hF3.gC; omega
  have ncb1 : a'.cb ≠ w.heap.size + 1 := by have := hF3.gC; omega
  refine Wp.seqRegion (.inl rfl) (by kernel_rfl) fun K' gd hK hg => ?_
  clear hg
  go_simp
  refine hK _ _ ?_
  clear hK K' gd
  refine Wp.keep [3, 6] fun r4 hkeep => ?_
  obtain ⟨e3_4, e6_4, -⟩ := hkeep
  simp [go_sem, e1_3, e2_3, e3_3, e6_3] at e3_4 e6_4
  clear e1_3 e2_3 e3_3 e6_3
  have hF4 := hF3.setC hj hc
  have v0 := (setCell_blk (k := j) (v := .int .i64 c) ncb).trans u0
  have v1 := (setCell_blk (k := j) (v := .int .i64 c) ncb).trans u1
  have v2 := (setCell_blk (k := j) (v := .int .i64 c) ncb1).trans y2
  have v3 := (setCell_blk (k := j) (v := .int .i64 c) ncb1).trans y3
  have fz2 : ∀ k, (W3.setCell ⟨a'.cb, j, none⟩ (.int .i64 c)).frozen? ⟨w.heap.size + 1, k, none⟩ = false := fun k => by rw [World.frozen?_setCell]; exact fz k
  have hE4 : Ext w (W3.setCell ⟨a'.cb, j, none⟩ (.int .i64 c)) := Below.setCell hE3 (by have := hF3.gC; show w.heap.size ≤ a'.cb; omega) _
  clear u0 u1 y2 y3 fz hE3 hF3 fc c1
  generalize W3.setCell ⟨a'.cb, j, none⟩ (.int .i64 c) = W4 at *
  have f0 := fz2 0
  have f1 := fz2 1
  refine Wp.seqRegion (.inl rfl) (by kernel_rfl) fun K' gd hK hg => ?_
  clear hg
  go_simp
  refine hK _ _ ?_
  clear hK K' gd
  refine Wp.keep [6] fun r5 hkeep => ?_
  obtain ⟨e6_5, -⟩ := hkeep
  simp [go_sem, e3_4, e6_4] at e6_5
  clear e3_4 e6_4
  refine Wp.ret ?_
  refine endK_cell (v := .agg #[.slice (some ⟨a'.cb, 0, none⟩) o.m o.m, .slice a'.rA o.n a'.rc]) Try.results98 (by decide) e6_5 (by go_simp) ?_
  refine ⟨a', by simp only [OA.cv, OA.rv, setC_m, setC_n, zc, zc'], ((hF4.away (by omega)).away (by omega)).less (by omega), Below.setCell (Below.setCell hE4 (Nat.le_succ _) _) (Nat.le_succ _) _⟩
end Go.Proofs.Ytnfagcccgmakdaa
namespace Go.Proofs.Ytnfagcccgmakdaa
open Go.RowKit Go.Wk Go.Proofs
attribute [local irreducible] Go.Wk.Wops Go.Wk.Wp Go.Wk.Mtree Go.Wk.Mops
set_option maxHeartbeats 4000000

def okPiece (o : Ord) (x : Int) : Bool := decide (0 ≤ x ∧ x ≤ (o.m : Int) - 1)
def noOrd : Ord := ⟨[], []⟩
theorem noOrdV (w : World) (B : Nat) : OrderV w B (.agg #[.slice none 0 0, .slice none 0 0]) noOrd :=
  ⟨_, _, rfl, ⟨none, 0, rfl, fun h => absurd rfl h, Nat.le_refl _⟩, ⟨none, 0, fun _ => .nilFunc, rfl, fun h => absurd rfl h, fun k h => absurd h (Nat.not_lt_zero _), Nat.le_refl _⟩⟩
theorem okPiece_nat {o : Ord} {x : Int} (h : okPiece o x = true) : ∃ j : Nat, x = j ∧ j < o.m := by
  unfold okPiece at h
  have := of_decide_eq_true h
  exact ⟨x.toNat, by omega, by omega⟩
def moreE (o : Ord) (x : Int) : Int := if askS o (okPiece o x) = 0 then (if o.C x.toNat = 20 then 2 else 0) else askS o (okPiece o x)
def moreO (o : Ord) (x : Int) : Ord := if moreE o x = 0 then o.setC x.toNat (o.C x.toNat + 1) else noOrd
theorem moreE_zero {o : Ord} {x : Int} (h : moreE o x = 0) : OrdGood o ∧ okPiece o x = true ∧ o.C x.toNat ≠ 20 := by
  unfold moreE at h
  split at h
  · rename_i h0
    split at h
    · cases h
    · rename_i h1; exact ⟨(askS_zero.1 h0).1, (askS_zero.1 h0).2, h1⟩
  · rename_i h0; exact absurd h h0
theorem moreO_good {o : Ord} {x : Int} (h : moreE o x = 0) : OrdGood (moreO o x) := by
  obtain ⟨h1, h2, h3⟩ := moreE_zero h
  obtain ⟨j, rfl, hj⟩ := okPiece_nat h2
  unfold moreO; rw [if_pos h]
  have := h1.ok.vC j hj
  simp only [Int.toNat_natCast] at h3 ⊢
  exact h1.setC j (by omega)
theorem OrderV.slices {w : World} {B : Nat} {v : Value} {o : Ord} (h : OrderV w B v o) : ∃ cA cc rA rc, v = .agg #[.slice cA o.cop.length cc, .slice rA o.runs.length rc] := by
  obtain ⟨_, _, rfl, ⟨cA, cc, rfl, -⟩, ⟨rA, rc, tv, rfl, -⟩⟩ := h
  exact ⟨_, _, _, _, rfl⟩
theorem More_c (v : Value) (o : Ord) (x : Int) (w : World) (hV : OrderV w w.heap.size v o) (hf : Fits o) :
    CallsV Try.prog 96 #[v, .int .i64 x] w fun v w' => ∃ v0, v = .tuple #[v0, .int .i64 (moreE o x)] ∧ OrderV w' w'.heap.size v0 (moreO o x) ∧ Ext w w' := by
  obtain ⟨cv, rv, rfl, hV2⟩ := hV
  have hV : OrderV w w.heap.size (.agg #[cv, rv]) o := ⟨cv, rv, rfl, hV2⟩
  refine Wp.fn Try.func96 rfl Try.ntmps96 (by simp) ?_
  refine Wp.keep [0, 1] fun r1 hkeep => ?_
  obtain ⟨e0_1, e1_1, -⟩ := hkeep
  simp [go_sem] at e0_1 e1_1
  refine Wp.seqRegion (.inl rfl) (by kernel_rfl) fun K' gd hK hg => ?_
  clear hg
  go_simp
  refine hK _ _ ?_
  clear hK K' gd
  refine Wp.keep [2, 3, 4] fun r2 hkeep => ?_
  obtain ⟨e2_2, e3_2, e4_2, -⟩ := hkeep
  simp [go_sem, e0_1, e1_1] at e2_2 e3_2 e4_2
  clear e0_1 e1_1
  refine Wp.seq ?_
  refine Wp.seqRegion (.inl rfl) (by kernel_rfl) fun K' gd hK hg => ?_
  clear hg
  go_simp
  refine Wcall (.inl rfl) (asked_c _ o (okPiece o x) 116 #[.pointer (some ⟨w.heap.size + 1, 0, none⟩), .pointer (some ⟨w.heap.size, 0, none⟩)] _ (hV.ext (by repeat (first | assumption | exact Ext.refl _ | refine Ext.drew ?_ | refine Ext.alloc ?_ _ | refine Ext.trans ?_ (by assumption)))) hf (enters_of Try.func116 (by kernel_rfl) rfl) (fun _ W hW => askM_c _ _ cv rv o x W (hV.ext (by repeat (first | assumption | exact Ext.refl _ | refine Ext.drew ?_ | refine Ext.alloc ?_ _ | refine Ext.trans ?_ (by assumption)))) hf (hW.cell (by go_simp)) (hW.cell (by go_simp)))) ?_
  rintro v w2 ⟨rfl, hE⟩
  have hE2 : Ext w w2 := (by repeat (first | assumption | exact Ext.refl _ | refine Ext.drew ?_ | refine Ext.alloc ?_ _ | refine Ext.trans ?_ (by assumption)))
  have hc := hE.cellsS
  have hz := hE.frozenS
  go_simp
  refine hK _ _ ?_
  clear hK K' gd
  refine Wp.keep [2, 3, 4, 6] fun r3 hkeep => ?_
  obtain ⟨e2_3, e3_3, e4_3, e6_3, -⟩ := hkeep
  simp [go_sem, e2_2, e3_2, e4_2] at e2_3 e3_3 e4_3 e6_3
  clear e2_2 e3_2 e4_2
  have y0 : w2.cell? ⟨w.heap.size + 1 + 1, 0, none⟩ = some (.slice none 0 0) := hE.cell (by go_simp)
  have y1 : w2.cell? ⟨w.heap.size + 1 + 1, 1, none⟩ = some (.slice none 0 0) := hE.cell (by go_simp)
  have fz : ∀ k, w2.frozen? ⟨w.heap.size + 1 + 1, k, none⟩ = false := fun k => (World.frozen?_of_block (a := ⟨w.heap.size + 1 + 1, k, none⟩) (hE.block _ (by simp))).trans (by have := frozen_nw ((w.alloc (.cells #[cv, rv] 25)).alloc (.cells #[.int .i64 x] 3)) #[.slice none 0 0, .slice none 0 0] 25 k; simpa using this)
  have f0 := fz 0
  have f1 := fz 1
  by_cases h0 : askS o (okPiece o x) = 0
  · skip
    refine Wp.seqRegion (.inl rfl) (by kernel_rfl) fun K' gd hK hg => ?_
    clear hg
    go_simp
    refine hK _ _ ?_
    clear hK K' gd
    refine Wp.keep [2, 3, 4, 6, 11] fun r4 hkeep => ?_
    obtain ⟨e2_4, e3_4, e4_4, e6_4, e11_4, -⟩ := hkeep
    simp [go_sem, e2_3, e3_3, e4_3, e6_3] at e2_4 e3_4 e4_4 e6_4 e11_4
    clear e2_3 e3_3 e4_3 e6_3
    refine Wp.condF (by go_simp) ?_
    have hg := (askS_zero.1 h0).1
    obtain ⟨j, rfl, hj⟩ := okPiece_nat (askS_zero.1 h0).2
    obtain ⟨a, rfl, rfl, hO⟩ := (hV.ext hE2).ordF2 hg
    have c3 := hO.hC j hj
    have vC := hO.vC j hj
    have x0 : w2.cell? ⟨w.heap.size, 0, none⟩ = some (a.cv o) := hE.cell (by go_simp)
    have x1 : w2.cell? ⟨w.heap.size, 1, none⟩ = some (a.rv o) := hE.cell (by go_simp)
    have x2 : w2.cell? ⟨w.heap.size + 1, 0, none⟩ = some (.int .i64 (j : Int)) := hE.cell (by go_simp)
    clear hc
    simp only [OA.cv, OA.rv] at x0 x1
    have b4 : (j : Int) < (o.m : Int) := by omega
    have hw : IntKind.i64.wrap (o.C j + 1) = o.C j + 1 := IntWalk.i64_in _ (by omega)
    refine Wp.skip ?_
    refine thenK_normal ?_
    refine Wp.seq ?_
    refine Wp.seqRegion (.inl rfl) (by kernel_rfl) fun K' gd hK hg => ?_
    clear hg
    go_simp
    refine hK _ _ ?_
    clear hK K' gd
    refine Wp.keep [2, 3, 4, 19] fun r5 hkeep => ?_
    obtain ⟨e2_5, e3_5, e4_5, e19_5, -⟩ := hkeep
    simp [go_sem, e2_4, e3_4, e4_4, e6_4, e11_4] at e2_5 e3_5 e4_5 e19_5
    clear e2_4 e3_4 e4_4 e6_4 e11_4
    by_cases h20 : o.C j = 20
    · refine Wp.condT (by go_simp) ?_
      refine Wp.seqRegion (.inl rfl) (by kernel_rfl) fun K' gd hK hg => ?_
      clear hg
      go_simp
      refine hK _ _ ?_
      clear hK K' gd
      refine Wp.keep [4, 5] fun r6 hkeep => ?_
      obtain ⟨e4_6, e5_6, -⟩ := hkeep
      simp [go_sem, e2_5, e3_5, e4_5, e19_5] at e4_6 e5_6
      clear e2_5 e3_5 e4_5 e19_5
      refine Wp.ret ?_
      refine thenK_ret ?_
      refine endK_cell_tmp (v := .agg #[.slice none 0 0, .slice none 0 0]) Try.results96 (by decide) (by decide) e4_6 (by go_simp) ?_
      rw [e5_6]
      have he : moreE o j = 2 := by unfold moreE; rw [if_pos h0, Int.toNat_natCast, if_pos h20]
      refine ⟨_, by rw [he], ?_, Below.setCell (Below.setCell hE2 (show w.heap.size ≤ w.heap.size + 1 + 1 by omega) _) (show w.heap.size ≤ w.heap.size + 1 + 1 by omega) _⟩
      unfold moreO; rw [he, if_neg (by decide)]; exact noOrdV _ _
    · refine Wp.condF (by go_simp) ?_
      refine Wp.skip ?_
      refine thenK_normal ?_
      refine Wp.seqDraw (.inl rfl) mixed [([0, 1, 2, 3, 4], none), ([5, 6, 7], some (8, false)), ([], some (9, true)), ([], some (10, true))] (by kernel_rfl) fun K' gd hK hg => ?_
      clear hg
      simp only [pick, nth, List.map_cons, List.map_nil, Option.map_none, Option.map_some]
      apply Mops.none
      · intro w' hE'
        have hC' := hE'.cellsS
        go_simp
        with_reducible rfl
      apply Mops.act
      · intro w' hE'
        have hC' := hE'.cellsS
        go_simp
        with_reducible rfl
      intro K1 hK1
      go_simp
      refine Wcall (.inl rfl) (with_c a o j (o.C j + 1) _ (hO.ext (by repeat (first | assumption | exact Ext.refl _ | refine Ext.drew ?_ | refine Ext.alloc ?_ _ | refine Ext.trans ?_ (by assumption)))) hj (by omega)) ?_
      rintro v w3 ⟨a', rfl, hF, hE3⟩
      simp only [OA.cv, OA.rv]
      have y0' := hE3.cell (cell_drew y0)
      have y1' := hE3.cell (cell_drew y1)
      have f0' := (hE3.frozen (cell_drew y0)).trans f0
      have f1' := (hE3.frozen (cell_drew y1)).trans f1
      go_simp
      refine hK1 _ _ (by first | assumption | exact Ext.refl _) ?_
      clear hK1 K1
      apply Mops.last
      · exact fun _ _ => Rops_done
      intro K1 hK1
      go_simp
      refine hK1 _ _ ?_
      clear hK1 K1
      apply Mops.last
      · exact fun _ _ => Rops_done
      intro K1 hK1
      go_simp
      refine hK1 _ _ ?_
      clear hK1 K1
      refine Mops.done ?_
      refine hK _ _ ?_
      clear hK K' gd
      refine Wp.keep [4, 5] fun r7 hkeep => ?_
      obtain ⟨e4_7, e5_7, -⟩ := hkeep
      simp [go_sem, e2_5, e3_5, e4_5, e19_5] at e4_7 e5_7
      clear e2_5 e3_5 e4_5 e19_5
      refine Wp.ret ?_
      refine endK_cell_tmp (v := .agg #[.slice (some ⟨a'.cb, a'.co, none⟩) (o.setC j (o.C j + 1)).m a'.cc, .slice a'.rA (o.setC j (o.C j + 1)).n a'.rc]) Try.results96 (by decide) (by decide) e4_7 (by go_simp) ?_
      rw [e5_7]
      have he : moreE o j = 0 := by unfold moreE; rw [if_pos h0, Int.toNat_natCast, if_neg h20]
      refine ⟨_, by rw [he], ?_, Below.setCell (Below.setCell (show Ext w w3 from (by repeat (first | assumption | exact Ext.refl _ | refine Ext.drew ?_ | refine Ext.alloc ?_ _ | refine Ext.trans ?_ (by assumption)))) (show w.heap.size ≤ w.heap.size + 1 + 1 by omega) _) (show w.heap.size ≤ w.heap.size + 1 + 1 by omega) _⟩
      have hmg := moreO_good he
      unfold moreO at hmg ⊢
      rw [if_pos he, Int.toNat_natCast] at hmg ⊢
      exact ((hF.away (by have := cell_lt y0; simpa using this)).away (by have := cell_lt y0; simpa using this)).ord.orderV hmg
  · skip
    refine Wp.seqRegion (.inl rfl) (by kernel_rfl) fun K' gd hK hg => ?_
    clear hg
    go_simp
    refine hK _ _ ?_
    clear hK K' gd
    refine Wp.keep [2, 3, 4, 6, 11] fun r8 hkeep => ?_
    obtain ⟨e2_8, e3_8, e4_8, e6_8, e11_8, -⟩ := hkeep
    simp [go_sem, e2_3, e3_3, e4_3, e6_3] at e2_8 e3_8 e4_8 e6_8 e11_8
    clear e2_3 e3_3 e4_3 e6_3
    refine Wp.condT (by go_simp) ?_
    refine Wp.seqRegion (.inl rfl) (by kernel_rfl) fun K' gd hK hg => ?_
    clear hg
    go_simp
    refine hK _ _ ?_
    clear hK K' gd
    refine Wp.keep [4, 5] fun r9 hkeep => ?_
    obtain ⟨e4_9, e5_9, -⟩ := hkeep
    simp [go_sem, e2_8, e3_8, e4_8, e6_8, e11_8] at e4_9 e5_9
    clear e2_8 e3_8 e4_8 e6_8 e11_8
    refine Wp.ret ?_
    refine thenK_ret ?_
    refine endK_cell_tmp (v := .agg #[.slice none 0 0, .slice none 0 0]) Try.results96 (by decide) (by decide) e4_9 (by go_simp) ?_
    rw [e5_9]
    have he : moreE o x = askS o (okPiece o x) := by unfold moreE; rw [if_neg h0]
    refine ⟨_, by rw [he], ?_, Below.setCell (Below.setCell hE2 (show w.heap.size ≤ w.heap.size + 1 + 1 by omega) _) (show w.heap.size ≤ w.heap.size + 1 + 1 by omega) _⟩
    unfold moreO; rw [he, if_neg h0]; exact noOrdV _ _
def saveV (o : Ord) (x : Int) : Int := if moreE o x = 0 then endS o - endS (moreO o x) else 0
theorem Save_c (v : Value) (o : Ord) (x : Int) (w : World) (hV : OrderV w w.heap.size v o) (hf : Fits o) :
    CallsV Try.prog 44 #[v, .int .i64 x] w fun v w' => v = .tuple #[.int .i64 (saveV o x), .int .i64 (moreE o x)] ∧ Ext w w' := by
  obtain ⟨cv, rv, rfl, hV2⟩ := hV
  have hV : OrderV w w.heap.size (.agg #[cv, rv]) o := ⟨cv, rv, rfl, hV2⟩
  refine Wp.fn Try.func44 rfl Try.ntmps44 (by simp) ?_
  refine Wp.keep [0, 1] fun r1 hkeep => ?_
  obtain ⟨e0_1, e1_1, -⟩ := hkeep
  simp [go_sem] at e0_1 e1_1
  refine Wp.seqRegion (.inl rfl) (by kernel_rfl) fun K' gd hK hg => ?_
  clear hg
  go_simp
  refine hK _ _ ?_
  clear hK K' gd
  refine Wp.keep [1, 2] fun r2 hkeep => ?_
  obtain ⟨e1_2, e2_2, -⟩ := hkeep
  simp [go_sem, e0_1, e1_1] at e1_2 e2_2
  clear e0_1 e1_1
  refine Wp.seqRegion (.inl rfl) (by kernel_rfl) fun K' gd hK hg => ?_
  clear hg
  go_simp
  refine Wcall (.inl rfl) (More_c _ o x _ (hV.ext (by repeat (first | assumption | exact Ext.refl _ | refine Ext.drew ?_ | refine Ext.alloc ?_ _ | refine Ext.trans ?_ (by assumption)))) hf) ?_
  rintro v w2 ⟨v0, rfl, hVm, hE⟩
  obtain ⟨cA2, cc2, rA2, rc2, rfl⟩ := hVm.slices
  obtain ⟨cv2, hcv2⟩ : ∃ u, u = Value.slice cA2 (moreO o x).cop.length cc2 := ⟨_, rfl⟩
  obtain ⟨rv2, hrv2⟩ : ∃ u, u = Value.slice rA2 (moreO o x).runs.length rc2 := ⟨_, rfl⟩
  have hE2 : Ext w w2 := (by repeat (first | assumption | exact Ext.refl _ | refine Ext.drew ?_ | refine Ext.alloc ?_ _ | refine Ext.trans ?_ (by assumption)))
  have x0 : w2.cell? ⟨w.heap.size, 0, none⟩ = some cv := hE.cell (by go_simp)
  have x1 : w2.cell? ⟨w.heap.size, 1, none⟩ = some rv := hE.cell (by go_simp)
  go_simp
  refine hK _ _ ?_
  clear hK K' gd
  refine Wp.keep [2, 6, 7] fun r3 hkeep => ?_
  obtain ⟨e2_3, e6_3, e7_3, -⟩ := hkeep
  simp [go_sem, e1_2, e2_2] at e2_3 e6_3 e7_3
  clear e1_2 e2_2
  rw [← hcv2, ← hrv2] at hVm
  have p0 := cell_al (.cells #[cv2, rv2] 25) x0
  have p1 := cell_al (.cells #[cv2, rv2] 25) x1
  by_cases h0 : moreE o x = 0
  · skip
    refine Wp.seq ?_
    refine Wp.seqRegion (.inl rfl) (by kernel_rfl) fun K' gd hK hg => ?_
    clear hg
    go_simp
    refine hK _ _ ?_
    clear hK K' gd
    refine Wp.keep [2, 6, 7, 15] fun r4 hkeep => ?_
    obtain ⟨e2_4, e6_4, e7_4, e15_4, -⟩ := hkeep
    simp [go_sem, e2_3, e6_3, e7_3] at e2_4 e6_4 e7_4 e15_4
    clear e2_3 e6_3 e7_3
    refine Wp.condF (by go_simp) ?_
    have hg := (moreE_zero h0).1
    have hgm := moreO_good h0
    have ho := hg.ok
    have hom := hgm.ok
    obtain ⟨a, rfl, rfl, hO⟩ := (hV.ext hE2).ordF2 hg
    obtain ⟨am, hcv3, hrv3, hOm⟩ := hVm.ordF2 hgm
    rw [hcv2] at hcv3
    rw [hrv2] at hrv3
    rw [hcv3, hrv3]
    have e1 := endS_ok ho
    have e2 := endS_ok hom
    have hw : IntKind.i64.wrap (endS o - endS (moreO o x)) = endS o - endS (moreO o x) := IntWalk.i64_in _ (by omega)
    refine Wp.skip ?_
    refine thenK_normal ?_
    refine Wp.seqDraw (.inl rfl) mixed [([0, 3], some (1, false)), ([], some (2, false)), ([], some (4, false)), ([], some (5, false)), ([6, 7, 8], none)] (by kernel_rfl) fun K' gd hK hg => ?_
    clear hg
    simp only [pick, nth, List.map_cons, List.map_nil, Option.map_none, Option.map_some]
    apply Mops.act
    · intro w' hE'
      have hC' := hE'.cellsS
      go_simp
      with_reducible rfl
    intro K1 hK1
    go_simp
    refine Wcall (.inl rfl) (timed_c a o _ (hO.ext (by repeat (first | assumption | exact Ext.refl _ | refine Ext.drew ?_ | refine Ext.alloc ?_ _ | refine Ext.trans ?_ (by assumption))))) ?_
    rintro v w3 ⟨b, rfl, hR, hE3⟩
    go_simp
    refine hK1 _ _ (by first | assumption | exact Ext.refl _) ?_
    clear hK1 K1
    apply Mops.act
    · exact fun _ _ => Rops_done
    intro K1 hK1
    go_simp
    refine Wcall (.inl rfl) (end_c a o b _ ((hO.ext (by repeat (first | assumption | exact Ext.refl _ | refine Ext.drew ?_ | refine Ext.alloc ?_ _ | refine Ext.trans ?_ (by assumption)))).ext hE3) hR) ?_
    rintro v w4 ⟨rfl, hE4⟩
    have hE24 : Ext w2 w4 := (by repeat (first | assumption | exact Ext.refl _ | refine Ext.drew ?_ | refine Ext.alloc ?_ _ | refine Ext.trans ?_ (by assumption)))
    have n0 : w4.cell? ⟨w2.heap.size, 0, none⟩ = some (am.cv (moreO o x)) := hE4.cell (hE3.cell (by go_simp))
    have n1 : w4.cell? ⟨w2.heap.size, 1, none⟩ = some (am.rv (moreO o x)) := hE4.cell (hE3.cell (by go_simp))
    go_simp
    refine hK1 _ _ (by first | assumption | exact Ext.refl _) ?_
    clear hK1 K1
    apply Mops.act
    · exact fun _ _ => Rops_done
    intro K1 hK1
    go_simp
    refine Wcall (.inl rfl) (timed_c am (moreO o x) _ (hOm.ext (by repeat (first | assumption | exact Ext.refl _ | refine Ext.drew ?_ | refine Ext.alloc ?_ _ | refine Ext.trans ?_ (by assumption))))) ?_
    rintro v w5 ⟨b2, rfl, hR2, hE5⟩
    go_simp
    refine hK1 _ _ (by first | assumption | exact Ext.refl _) ?_
    clear hK1 K1
    apply Mops.act
    · exact fun _ _ => Rops_done
    intro K1 hK1
    go_simp
    refine Wcall (.inl rfl) (end_c am (moreO o x) b2 _ ((hOm.ext (by repeat (first | assumption | exact Ext.refl _ | refine Ext.drew ?_ | refine Ext.alloc ?_ _ | refine Ext.trans ?_ (by assumption)))).ext hE5) hR2) ?_
    rintro v w6 ⟨rfl, hE6⟩
    go_simp
    refine hK1 _ _ (by first | assumption | exact Ext.refl _) ?_
    clear hK1 K1
    apply Mops.none
    · intro w' hE'
      have hC' := hE'.cellsS
      go_simp
      with_reducible rfl
    refine Mops.done ?_
    refine hK _ _ ?_
    clear hK K' gd
    refine Wp.keep [4, 5] fun r5 hkeep => ?_
    obtain ⟨e4_5, e5_5, -⟩ := hkeep
    simp [go_sem, e2_4, e6_4, e7_4, e15_4] at e4_5 e5_5
    clear e2_4 e6_4 e7_4 e15_4
    refine Wp.ret ?_
    refine endK_tmp2 Try.results44 (by decide) (by decide) ?_
    rw [e4_5, e5_5]
    exact ⟨by rw [saveV, if_pos h0, h0], (by repeat (first | assumption | exact Ext.refl _ | refine Ext.drew ?_ | refine Ext.alloc ?_ _ | refine Ext.trans ?_ (by assumption)))⟩
  · skip
    refine Wp.seq ?_
    refine Wp.seqRegion (.inl rfl) (by kernel_rfl) fun K' gd hK hg => ?_
    clear hg
    go_simp
    refine hK _ _ ?_
    clear hK K' gd
    refine Wp.keep [2, 6, 7, 15] fun r6 hkeep => ?_
    obtain ⟨e2_6, e6_6, e7_6, e15_6, -⟩ := hkeep
    simp [go_sem, e2_3, e6_3, e7_3] at e2_6 e6_6 e7_6 e15_6
    clear e2_3 e6_3 e7_3
    refine Wp.condT (by go_simp) ?_
    refine Wp.seqRegion (.inl rfl) (by kernel_rfl) fun K' gd hK hg => ?_
    clear hg
    go_simp
    refine hK _ _ ?_
    clear hK K' gd
    refine Wp.keep [4, 5] fun r7 hkeep => ?_
    obtain ⟨e4_7, e5_7, -⟩ := hkeep
    simp [go_sem, e2_6, e6_6, e7_6, e15_6] at e4_7 e5_7
    clear e2_6 e6_6 e7_6 e15_6
    refine Wp.ret ?_
    refine thenK_ret ?_
    refine endK_tmp2 Try.results44 (by decide) (by decide) ?_
    rw [e4_7, e5_7]
    exact ⟨by rw [saveV, if_neg h0], (by repeat (first | assumption | exact Ext.refl _ | refine Ext.drew ?_ | refine Ext.alloc ?_ _ | refine Ext.trans ?_ (by assumption)))⟩
end Go.Proofs.Ytnfagcccgmakdaa
namespace Go.Proofs.Ytnfagcccgmakdaa
open Go.RowKit Go.Wk Go.Proofs
attribute [local irreducible] Go.Wk.Wops Go.Wk.Wp Go.Wk.Mtree Go.Wk.Mops
set_option maxHeartbeats 4000000

/-- the first number from k on (f of them) of which p holds -/
def firstUp (p : Nat → Bool) : Nat → Nat → Option Nat
  | 0, _ => none
  | f + 1, k => if p k then some k else firstUp p f (k + 1)
def needP (o : Ord) (j : Nat) (d : Int) (k : Nat) : Bool := decide (endS (o.setC j ((k : Int) + 1)) ≤ d)
def needR (o : Ord) (j : Nat) (d : Int) : Option Nat := firstUp (needP o j d) 20 0
def needN (o : Ord) (x d : Int) : Int := if askS o (okPiece o x && okDay d) = 0 then (match needR o x.toNat d with | some k => (k : Int) + 1 | none => 0) else 0
def needE (o : Ord) (x d : Int) : Int := if askS o (okPiece o x && okDay d) = 0 then (match needR o x.toNat d with | some _ => 0 | none => 5) else askS o (okPiece o x && okDay d)
theorem Need_c (v : Value) (o : Ord) (x d : Int) (w : World) (hV : OrderV w w.heap.size v o) (hf : Fits o) :
    CallsV Try.prog 45 #[v, .int .i64 x, .int .i64 d] w fun v w' => v = .tuple #[.int .i64 (needN o x d), .int .i64 (needE o x d)] ∧ Ext w w' := by
  obtain ⟨cv, rv, rfl, hV2⟩ := hV
  have hV : OrderV w w.heap.size (.agg #[cv, rv]) o := ⟨cv, rv, rfl, hV2⟩
  refine Wp.fn Try.func45 rfl Try.ntmps45 (by simp) ?_
  refine Wp.keep [0, 1, 2] fun r1 hkeep => ?_
  obtain ⟨e0_1, e1_1, e2_1, -⟩ := hkeep
  simp [go_sem] at e0_1 e1_1 e2_1
  refine Wp.seqRegion (.inl rfl) (by kernel_rfl) fun K' gd hK hg => ?_
  clear hg
  go_simp
  refine hK _ _ ?_
  clear hK K' gd
  refine Wp.keep [3, 4, 5] fun r2 hkeep => ?_
  obtain ⟨e3_2, e4_2, e5_2, -⟩ := hkeep
  simp [go_sem, e0_1, e1_1, e2_1] at e3_2 e4_2 e5_2
  clear e0_1 e1_1 e2_1
  refine Wp.seq ?_
  refine Wp.seqRegion (.inl rfl) (by kernel_rfl) fun K' gd hK hg => ?_
  clear hg
  go_simp
  refine Wcall (.inl rfl) (asked_c _ o (okPiece o x && okDay d) 97 #[.pointer (some ⟨w.heap.size + 1, 0, none⟩), .pointer (some ⟨w.heap.size, 0, none⟩), .pointer (some ⟨w.heap.size + 1 + 1, 0, none⟩)] _ (hV.ext (by repeat (first | assumption | exact Ext.refl _ | refine Ext.drew ?_ | refine Ext.alloc ?_ _ | refine Ext.trans ?_ (by assumption)))) hf (enters_of Try.func97 (by kernel_rfl) rfl) (fun _ W hW => askN_c _ _ _ cv rv o x d W (hV.ext (by repeat (first | assumption | exact Ext.refl _ | refine Ext.drew ?_ | refine Ext.alloc ?_ _ | refine Ext.trans ?_ (by assumption)))) hf (hW.cell (by go_simp)) (hW.cell (by go_simp)) (hW.cell (by go_simp)))) ?_
  rintro v w2 ⟨rfl, hE⟩
  have hE2 : Ext w w2 := (by repeat (first | assumption | exact Ext.refl _ | refine Ext.drew ?_ | refine Ext.alloc ?_ _ | refine Ext.trans ?_ (by assumption)))
  have x0 : w2.cell? ⟨w.heap.size, 0, none⟩ = some cv := hE.cell (by go_simp)
  have x1 : w2.cell? ⟨w.heap.size, 1, none⟩ = some rv := hE.cell (by go_simp)
  have x2 : w2.cell? ⟨w.heap.size + 1, 0, none⟩ = some (.int .i64 x) := hE.cell (by go_simp)
  have x3 : w2.cell? ⟨w.heap.size + 1 + 1, 0, none⟩ = some (.int .i64 d) := hE.cell (by go_simp)
  go_simp
  refine hK _ _ ?_
  clear hK K' gd
  refine Wp.keep [3, 4, 5, 8] fun r3 hkeep => ?_
  obtain ⟨e3_3, e4_3, e5_3, e8_3, -⟩ := hkeep
  simp [go_sem, e3_2, e4_2, e5_2] at e3_3 e4_3 e5_3 e8_3
  clear e3_2 e4_2 e5_2
  by_cases h0 : askS o (okPiece o x && okDay d) = 0
  · skip
    refine Wp.seqRegion (.inl rfl) (by kernel_rfl) fun K' gd hK hg => ?_
    clear hg
    go_simp
    refine hK _ _ ?_
    clear hK K' gd
    refine Wp.keep [3, 4, 5, 8, 14] fun r4 hkeep => ?_
    obtain ⟨e3_4, e4_4, e5_4, e8_4, e14_4, -⟩ := hkeep
    simp [go_sem, e3_3, e4_3, e5_3, e8_3] at e3_4 e4_4 e5_4 e8_4 e14_4
    clear e3_3 e4_3 e5_3 e8_3
    refine Wp.condF (by go_simp) ?_
    have hg := (askS_zero.1 h0).1
    have hok := (askS_zero.1 h0).2
    rw [Bool.and_eq_true] at hok
    obtain ⟨j, rfl, hj⟩ := okPiece_nat hok.1
    obtain ⟨a, rfl, rfl, hO⟩ := (hV.ext hE2).ordF2 hg
    refine Wp.skip ?_
    refine thenK_normal ?_
    refine Wp.seq ?_
    refine Wp.seqRegion (.inl rfl) (by kernel_rfl) fun K' gd hK hg => ?_
    clear hg
    go_simp
    refine hK _ _ ?_
    clear hK K' gd
    refine Wp.keep [3, 4, 5, 9] fun r5 hkeep => ?_
    obtain ⟨e3_5, e4_5, e5_5, e9_5, -⟩ := hkeep
    simp [go_sem, e3_4, e4_4, e5_4, e8_4, e14_4] at e3_5 e4_5 e5_5 e9_5
    clear e3_4 e4_4 e5_4 e8_4 e14_4
    refine Wp.block ?_
    refine Wp.loop (fun k ρ ds wk => AllEq [3, 4, 5] ρ r5 ∧ ds = [] ∧ (ρ 9 = .int .i64 ((k : Int) + 1) ∧ Ext w2 wk ∧ needR o j d = firstUp (needP o j d) (20 - k) k)) (20) ?_ ?_
    · refine ⟨AllEq.refl _ _, rfl, ?_⟩
      exact ⟨by rw [e9_5]; rfl, Ext.refl _, rfl⟩
    · rintro k r6 _ wk hk ⟨hA, rfl, ⟨e9, hEk, hN⟩⟩
      obtain ⟨e3_6, e4_6, e5_6, -⟩ := hA
      rw [e3_5] at e3_6
      rw [e4_5] at e4_6
      rw [e5_5] at e5_6
      have y0 := hEk.cell x0
      have y1 := hEk.cell x1
      have y2 := hEk.cell x2
      have y3 := hEk.cell x3
      have hOk := hO.ext hEk
      refine Wp.seq ?_
      refine Wp.seqRegion (.inl rfl) (by kernel_rfl) fun K' gd hK hg => ?_
      clear hg
      go_simp
      refine hK _ _ ?_
      clear hK K' gd
      refine Wp.keep [3, 4, 5, 9, 17] fun r7 hkeep => ?_
      obtain ⟨e3_7, e4_7, e5_7, e9_7, e17_7, -⟩ := hkeep
      simp [go_sem, e3_6, e4_6, e5_6, e9] at e3_7 e4_7 e5_7 e9_7 e17_7
      clear e3_6 e4_6 e5_6 e9
      by_cases h : (k : Int) + 1 ≤ 20
      · refine Wp.condT (by go_simp) ?_
        refine Wp.skip ?_
        refine thenK_normal ?_
        refine Wp.seq ?_
        refine Wp.block ?_
        refine Wp.seqDraw (.inl rfl) mixed [([0, 1, 2, 6], some (3, false)), ([], some (4, false)), ([], some (5, false)), ([7], none)] (by kernel_rfl) fun K' gd hK hg => ?_
        clear hg
        simp only [pick, nth, List.map_cons, List.map_nil, Option.map_none, Option.map_some]
        apply Mops.act
        · intro w' hE'
          have hC' := hE'.cellsS
          go_simp
          with_reducible rfl
        intro K1 hK1
        go_simp
        refine Wcall (.inl rfl) (with_c a o j ((k : Int) + 1) _ (hOk.ext (by repeat (first | assumption | exact Ext.refl _ | refine Ext.drew ?_ | refine Ext.alloc ?_ _ | refine Ext.trans ?_ (by assumption)))) hj (by omega)) ?_
        rintro v w3 ⟨a', rfl, hF, hE3⟩
        have hE3' : Ext wk w3 := (by repeat (first | assumption | exact Ext.refl _ | refine Ext.drew ?_ | refine Ext.alloc ?_ _ | refine Ext.trans ?_ (by assumption)))
        have y3' := hE3'.cell y3
        have hg' := (hg.setC j (c := (k : Int) + 1) (by omega)).ok
        have he := endS_ok hg'
        go_simp
        refine hK1 _ _ (by first | assumption | exact Ext.refl _) ?_
        clear hK1 K1
        apply Mops.act
        · exact fun _ _ => Rops_done
        intro K1 hK1
        go_simp
        refine Wcall (.inl rfl) (timed_c a' (o.setC j ((k : Int) + 1)) _ hF.ord) ?_
        rintro v w4 ⟨b, rfl, hR, hE4⟩
        go_simp
        refine hK1 _ _ (by first | assumption | exact Ext.refl _) ?_
        clear hK1 K1
        apply Mops.act
        · exact fun _ _ => Rops_done
        intro K1 hK1
        go_simp
        refine Wcall (.inl rfl) (end_c a' (o.setC j ((k : Int) + 1)) b _ (hF.ord.ext hE4) hR) ?_
        rintro v w5 ⟨rfl, hE5⟩
        have y4 := hE5.cell (hE4.cell y3')
        go_simp
        refine hK1 _ _ (by first | assumption | exact Ext.refl _) ?_
        clear hK1 K1
        apply Mops.none
        · intro w' hE'
          have hC' := hE'.cellsS
          go_simp
          with_reducible rfl
        refine Mops.done ?_
        refine hK _ _ ?_
        clear hK K' gd
        refine Wp.keep [3, 4, 5, 9, 27] fun r8 hkeep => ?_
        obtain ⟨e3_8, e4_8, e5_8, e9_8, e27_8, -⟩ := hkeep
        simp [go_sem, e3_7, e4_7, e5_7, e9_7, e17_7] at e3_8 e4_8 e5_8 e9_8 e27_8
        clear e3_7 e4_7 e5_7 e9_7 e17_7
        by_cases hq : endS (o.setC j ((k : Int) + 1)) ≤ d
        · refine Wp.condT (by go_simp) ?_
          have hr : needR o j d = some k := by rw [hN, show 20 - k = (20 - k - 1) + 1 by omega]; unfold firstUp; rw [if_pos (by unfold needP; exact decide_eq_true hq)]
          refine Wp.seqRegion (.inl rfl) (by kernel_rfl) fun K' gd hK hg => ?_
          clear hg
          go_simp
          refine hK _ _ ?_
          clear hK K' gd
          refine Wp.keep [6, 7] fun r9 hkeep => ?_
          obtain ⟨e6_9, e7_9, -⟩ := hkeep
          simp [go_sem, e3_8, e4_8, e5_8, e9_8, e27_8] at e6_9 e7_9
          clear e3_8 e4_8 e5_8 e9_8 e27_8
          refine Wp.ret ?_
          refine blockK_ret ?_
          refine thenK_ret ?_
          refine thenK_ret ?_
          refine blockK_ret ?_
          refine thenK_ret ?_
          refine endK_tmp2 Try.results45 (by decide) (by decide) ?_
          rw [e6_9, e7_9]
          refine ⟨by unfold needN needE; rw [if_pos h0, if_pos h0, Int.toNat_natCast, hr], (by repeat (first | assumption | exact Ext.refl _ | refine Ext.drew ?_ | refine Ext.alloc ?_ _ | refine Ext.trans ?_ (by assumption)))⟩
        · refine Wp.condF (by go_simp) ?_
          refine Wp.skip ?_
          refine blockK_normal ?_
          refine thenK_normal ?_
          refine Wp.loneRegion (.inl rfl) (by kernel_rfl) fun K' gd hK hg => ?_
          clear hg
          go_simp
          refine hK _ _ ?_
          clear hK K' gd
          refine Ends.keep [3, 4, 5, 9] fun r10 hkeep => ?_
          obtain ⟨e3_10, e4_10, e5_10, e9_10, -⟩ := hkeep
          simp [go_sem, e3_8, e4_8, e5_8, e9_8, e27_8] at e3_10 e4_10 e5_10 e9_10
          clear e3_8 e4_8 e5_8 e9_8 e27_8
          refine Ends.mk ?_
          refine thenK_normal ⟨by omega, ⟨by rw [e3_10, e3_5], by rw [e4_10, e4_5], by rw [e5_10, e5_5], trivial⟩, rfl, ?_⟩
          exact ⟨by rw [e9_10, IntWalk.i64_in _ (by omega)]; rfl, (by repeat (first | assumption | exact Ext.refl _ | refine Ext.drew ?_ | refine Ext.alloc ?_ _ | refine Ext.trans ?_ (by assumption))), by rw [hN, show 20 - k = (20 - (k + 1)) + 1 by omega]; conv => lhs; unfold firstUp; rw [if_neg (by unfold needP; simpa using hq)]⟩
      · refine Wp.condF (by go_simp) ?_
        obtain rfl : k = 20 := by omega
        refine Wp.exit ?_
        refine thenK_exit ?_
        refine thenK_exit ?_
        refine blockK_here ?_
        refine thenK_normal ?_
        refine Wp.seqRegion (.inl rfl) (by kernel_rfl) fun K' gd hK hg => ?_
        clear hg
        go_simp
        refine hK _ _ ?_
        clear hK K' gd
        refine Wp.keep [6, 7] fun r11 hkeep => ?_
        obtain ⟨e6_11, e7_11, -⟩ := hkeep
        simp [go_sem, e3_7, e4_7, e5_7, e9_7, e17_7] at e6_11 e7_11
        clear e3_7 e4_7 e5_7 e9_7 e17_7
        refine Wp.ret ?_
        refine endK_tmp2 Try.results45 (by decide) (by decide) ?_
        rw [e6_11, e7_11]
        refine ⟨by unfold needN needE; rw [if_pos h0, if_pos h0, Int.toNat_natCast, hN]; rfl, (by repeat (first | assumption | exact Ext.refl _ | refine Ext.drew ?_ | refine Ext.alloc ?_ _ | refine Ext.trans ?_ (by assumption)))⟩
  · skip
    refine Wp.seqRegion (.inl rfl) (by kernel_rfl) fun K' gd hK hg => ?_
    clear hg
    go_simp
    refine hK _ _ ?_
    clear hK K' gd
    refine Wp.keep [3, 4, 5, 8, 14] fun r12 hkeep => ?_
    obtain ⟨e3_12, e4_12, e5_12, e8_12, e14_12, -⟩ := hkeep
    simp [go_sem, e3_3, e4_3, e5_3, e8_3] at e3_12 e4_12 e5_12 e8_12 e14_12
    clear e3_3 e4_3 e5_3 e8_3
    refine Wp.condT (by go_simp) ?_
    refine Wp.seqRegion (.inl rfl) (by kernel_rfl) fun K' gd hK hg => ?_
    clear hg
    go_simp
    refine hK _ _ ?_
    clear hK K' gd
    refine Wp.keep [6, 7] fun r13 hkeep => ?_
    obtain ⟨e6_13, e7_13, -⟩ := hkeep
    simp [go_sem, e3_12, e4_12, e5_12, e8_12, e14_12] at e6_13 e7_13
    clear e3_12 e4_12 e5_12 e8_12 e14_12
    refine Wp.ret ?_
    refine thenK_ret ?_
    refine endK_tmp2 Try.results45 (by decide) (by decide) ?_
    rw [e6_13, e7_13]
    exact ⟨by unfold needN needE; rw [if_neg h0, if_neg h0], hE2⟩
end Go.Proofs.Ytnfagcccgmakdaa
namespace Go.Proofs.Ytnfagcccgmakdaa
open Go.RowKit Go.Wk Go.Proofs
attribute [local irreducible] Go.Wk.Wops Go.Wk.Wp Go.Wk.Mtree Go.Wk.Mops
set_option maxHeartbeats 4000000

/-- a variable is set to a copied order -/
theorem rebox {w2 : World} {B base : Nat} {a : OA} {o : Ord} (hB : B < base) (hF : CopyF w2 base a o) (x0 : (w2.cell? ⟨B, 0, none⟩).isSome = true) (x1 : (w2.cell? ⟨B, 1, none⟩).isSome = true) :
    ∃ W3, W3 = (w2.setCell ⟨B, 0, none⟩ (.slice (some ⟨a.cb, a.co, none⟩) o.m a.cc)).setCell ⟨B, 1, none⟩ (.slice a.rA o.n a.rc) ∧ CopyF W3 base a o ∧ W3.cell? ⟨B, 0, none⟩ = some (.slice (some ⟨a.cb, a.co, none⟩) o.m a.cc) ∧ W3.cell? ⟨B, 1, none⟩ = some (.slice a.rA o.n a.rc) ∧
      (∀ k, k ≠ B → W3.heap[k]? = w2.heap[k]?) ∧ (∀ w, Ext w w2 → w.heap.size ≤ B → Ext w W3) ∧ W3.heap.size = w2.heap.size := by
  refine ⟨_, rfl, (hF.away hB).away hB, ?_, World.cell?_setCell_same' _ _ _ (by rw [setCell_off (by decide)]; exact x1), fun k hk => (heap_setCell_other _ ⟨B, 1, none⟩ k _ hk).trans (heap_setCell_other _ ⟨B, 0, none⟩ k _ hk), fun w h hw => Below.setCell (Below.setCell h hw _) hw _, by simp⟩
  rw [setCell_off (by decide)]; exact World.cell?_setCell_same' _ _ _ x0
theorem cell_same {w w' : World} {b k : Nat} {v : Value} (hb : w'.heap[b]? = w.heap[b]?) (h : w.cell? ⟨b, k, none⟩ = some v) : w'.cell? ⟨b, k, none⟩ = some v := (World.cell?_of_block (a := ⟨b, k, none⟩) hb).trans h
theorem fz_same {w w' : World} {b k : Nat} {v : Bool} (hb : w'.heap[b]? = w.heap[b]?) (h : w.frozen? ⟨b, k, none⟩ = v) : w'.frozen? ⟨b, k, none⟩ = v := (World.frozen?_of_block (a := ⟨b, k, none⟩) hb).trans h

theorem fz_ext {w1 w2 : World} (hE : Ext w1 w2) {b : Nat} (hb : b < w1.heap.size) (h : ∀ k, w1.frozen? ⟨b, k, none⟩ = false) : ∀ k, w2.frozen? ⟨b, k, none⟩ = false := fun k => fz_same (hE.block b hb) (h k)
theorem frz_al {w : World} {b : Nat} (x : Obj) (hb : b < w.heap.size) (h : ∀ k, w.frozen? ⟨b, k, none⟩ = false) : ∀ k, (w.alloc x).frozen? ⟨b, k, none⟩ = false := fun k => fz_same (Below.heap_alloc w x _ hb) (h k)
theorem frz_nw (w : World) (cs : Array Value) (t : TypeId) {n : Nat} (hn : n = w.heap.size) : ∀ k, (w.alloc (.cells cs t)).frozen? ⟨n, k, none⟩ = false := fun k => by subst hn; exact frozen_nw w cs t k
def okDelay (o : Ord) (i j d : Int) : Bool := isStint o i j && decide (0 ≤ d ∧ d ≤ 60)
def delayE (o : Ord) (i j d : Int) : Int := if askS o (okDelay o i j d) = 0 then (if o.T i.toNat j.toNat + d > 60 then 2 else 0) else askS o (okDelay o i j d)
def delayO (o : Ord) (i j d : Int) : Ord := if delayE o i j d = 0 then o.setT i.toNat j.toNat (o.T i.toNat j.toNat + d) else noOrd
theorem delayE_zero {o : Ord} {i j d : Int} (h : delayE o i j d = 0) : OrdGood o ∧ isStint o i j = true ∧ (0 ≤ d ∧ d ≤ 60) ∧ o.T i.toNat j.toNat + d ≤ 60 := by
  unfold delayE at h
  split at h
  · rename_i h0
    have h1 := (askS_zero.1 h0).2
    unfold okDelay at h1
    rw [Bool.and_eq_true] at h1
    split at h
    · cases h
    · rename_i h2; exact ⟨(askS_zero.1 h0).1, h1.1, of_decide_eq_true h1.2, by omega⟩
  · rename_i h0; exact absurd h h0
theorem delayO_good {o : Ord} {i j d : Int} (h : delayE o i j d = 0) : OrdGood (delayO o i j d) := by
  obtain ⟨h1, h2, h3, h4⟩ := delayE_zero h
  obtain ⟨i, j, rfl, rfl, hi, hj⟩ := isStint_nat h2
  unfold delayO; rw [if_pos h]
  have := h1.ok.vT i j hi hj
  simp only [Int.toNat_natCast] at h4 ⊢
  exact h1.setT j hi (by omega)
theorem Delayed_c (v : Value) (o : Ord) (i j d : Int) (w : World) (hV : OrderV w w.heap.size v o) (hf : Fits o) :
    CallsV Try.prog 20 #[v, .agg #[.int .i64 i, .int .i64 j], .int .i64 d] w fun v w' => ∃ v0, v = .tuple #[v0, .int .i64 (delayE o i j d)] ∧ OrderV w' w'.heap.size v0 (delayO o i j d) ∧ Ext w w' := by
  obtain ⟨cv, rv, rfl, hV2⟩ := hV
  have hV : OrderV w w.heap.size (.agg #[cv, rv]) o := ⟨cv, rv, rfl, hV2⟩
  refine Wp.fn Try.func20 rfl Try.ntmps20 (by simp) ?_
  refine Wp.keep [0, 1, 2] fun r1 hkeep => ?_
  obtain ⟨e0_1, e1_1, e2_1, -⟩ := hkeep
  simp [go_sem] at e0_1 e1_1 e2_1
  refine Wp.seqRegion (.inl rfl) (by kernel_rfl) fun K' gd hK hg => ?_
  clear hg
  go_simp
  refine hK _ _ ?_
  clear hK K' gd
  refine Wp.keep [3, 4, 5, 6] fun r2 hkeep => ?_
  obtain ⟨e3_2, e4_2, e5_2, e6_2, -⟩ := hkeep
  simp [go_sem, e0_1, e1_1, e2_1] at e3_2 e4_2 e5_2 e6_2
  clear e0_1 e1_1 e2_1
  refine Wp.seq ?_
  refine Wp.seqRegion (.inl rfl) (by kernel_rfl) fun K' gd hK hg => ?_
  clear hg
  go_simp
  refine Wcall (.inl rfl) (asked_c _ o (okDelay o i j d) 56 #[.pointer (some ⟨w.heap.size, 0, none⟩), .pointer (some ⟨w.heap.size + 1, 0, none⟩), .pointer (some ⟨w.heap.size + 1 + 1, 0, none⟩)] _ (hV.ext (by repeat (first | assumption | exact Ext.refl _ | refine Ext.drew ?_ | refine Ext.alloc ?_ _ | refine Ext.trans ?_ (by assumption)))) hf (enters_of Try.func56 (by kernel_rfl) rfl) (fun _ W hW => askD_c _ _ _ cv rv o i j d W (hV.ext (by repeat (first | assumption | exact Ext.refl _ | refine Ext.drew ?_ | refine Ext.alloc ?_ _ | refine Ext.trans ?_ (by assumption)))) hf (hW.cell (by go_simp)) (hW.cell (by go_simp)) (hW.cell (by go_simp)) (hW.cell (by go_simp)) (hW.cell (by go_simp)))) ?_
  rintro v w2 ⟨rfl, hE⟩
  have hE2 : Ext w w2 := (by repeat (first | assumption | exact Ext.refl _ | refine Ext.drew ?_ | refine Ext.alloc ?_ _ | refine Ext.trans ?_ (by assumption)))
  have x0 : w2.cell? ⟨w.heap.size, 0, none⟩ = some cv := hE.cell (by go_simp)
  have x1 : w2.cell? ⟨w.heap.size, 1, none⟩ = some rv := hE.cell (by go_simp)
  have x2 : w2.cell? ⟨w.heap.size + 1, 0, none⟩ = some (.int .i64 i) := hE.cell (by go_simp)
  have x3 : w2.cell? ⟨w.heap.size + 1, 1, none⟩ = some (.int .i64 j) := hE.cell (by go_simp)
  have x4 : w2.cell? ⟨w.heap.size + 1 + 1, 0, none⟩ = some (.int .i64 d) := hE.cell (by go_simp)
  go_simp
  refine hK _ _ ?_
  clear hK K' gd
  refine Wp.keep [3, 4, 5, 6, 8] fun r3 hkeep => ?_
  obtain ⟨e3_3, e4_3, e5_3, e6_3, e8_3, -⟩ := hkeep
  simp [go_sem, e3_2, e4_2, e5_2, e6_2] at e3_3 e4_3 e5_3 e6_3 e8_3
  clear e3_2 e4_2 e5_2 e6_2
  have y0 : w2.cell? ⟨w.heap.size + 1 + 1 + 1, 0, none⟩ = some (.slice none 0 0) := hE.cell (by go_simp)
  have y1 : w2.cell? ⟨w.heap.size + 1 + 1 + 1, 1, none⟩ = some (.slice none 0 0) := hE.cell (by go_simp)
  have fz := fz_ext hE (b := w.heap.size + 1 + 1 + 1) (by simp) (by intro k; go_simp)
  have fy := fz_ext hE (b := w.heap.size) (by simp only [World.size_alloc]; omega) (frz_al _ (by simp only [World.size_alloc]; omega) (frz_al _ (by simp only [World.size_alloc]; omega) (frz_al _ (by simp only [World.size_alloc]; omega) (frz_nw w _ _ rfl))))
  have f0 := fz 0
  have f1 := fz 1
  by_cases h0 : askS o (okDelay o i j d) = 0
  · skip
    refine Wp.seqRegion (.inl rfl) (by kernel_rfl) fun K' gd hK hg => ?_
    clear hg
    go_simp
    refine hK _ _ ?_
    clear hK K' gd
    refine Wp.keep [3, 4, 5, 6, 8, 14] fun r4 hkeep => ?_
    obtain ⟨e3_4, e4_4, e5_4, e6_4, e8_4, e14_4, -⟩ := hkeep
    simp [go_sem, e3_3, e4_3, e5_3, e6_3, e8_3] at e3_4 e4_4 e5_4 e6_4 e8_4 e14_4
    clear e3_3 e4_3 e5_3 e6_3 e8_3
    refine Wp.condF (by go_simp) ?_
    have hg := (askS_zero.1 h0).1
    have hok := (askS_zero.1 h0).2
    unfold okDelay at hok
    rw [Bool.and_eq_true] at hok
    have hd := of_decide_eq_true hok.2
    obtain ⟨i, j, rfl, rfl, hi, hj⟩ := isStint_nat hok.1
    obtain ⟨a, rfl, rfl, hO⟩ := (hV.ext hE2).ordF2 hg
    have vT := hO.vT i j hi hj
    have hw : IntKind.i64.wrap (o.T i j + d) = o.T i j + d := IntWalk.i64_in _ (by omega)
    have b3 : (i : Int) < (o.n : Int) := by omega
    have b4 : (j : Int) < (o.m : Int) := by omega
    refine Wp.skip ?_
    refine thenK_normal ?_
    refine Wp.seqRegion (.inl rfl) (by kernel_rfl) fun K' gd hK hg => ?_
    clear hg
    go_simp
    refine Wcall (.inl rfl) (copied_c a o _ hO) ?_
    rintro v w3 ⟨a', rfl, hF, hE3⟩
    simp only [OA.cv, OA.rv]
    have hE3' : Ext w w3 := (by repeat (first | assumption | exact Ext.refl _ | refine Ext.drew ?_ | refine Ext.alloc ?_ _ | refine Ext.trans ?_ (by assumption)))
    have x0' := hE3.cell x0
    have x1' := hE3.cell x1
    have fx0 := (hE3.frozen x0).trans (fy 0)
    have fx1 := (hE3.frozen x1).trans (fy 1)
    go_simp
    refine hK _ _ ?_
    clear hK K' gd
    refine Wp.keep [3, 4, 5, 6] fun r5 hkeep => ?_
    obtain ⟨e3_5, e4_5, e5_5, e6_5, -⟩ := hkeep
    simp [go_sem, e3_4, e4_4, e5_4, e6_4, e8_4, e14_4] at e3_5 e4_5 e5_5 e6_5
    clear e3_4 e4_4 e5_4 e6_4 e8_4 e14_4
    have hw2 : w.heap.size + 4 ≤ w2.heap.size := by have := cell_lt y0; simp at this; omega
    obtain ⟨W3, hW3, hF3, u0, u1, hb3, hx3, hs3⟩ := rebox (B := w.heap.size) (by omega) hF (by rw [x0']; rfl) (by rw [x1']; rfl)
    rw [← hW3]
    have k2 := cell_same (hb3 (w.heap.size + 1) (by omega)) (hE3.cell x2)
    have k3 := cell_same (hb3 (w.heap.size + 1) (by omega)) (hE3.cell x3)
    have k4 := cell_same (hb3 (w.heap.size + 1 + 1) (by omega)) (hE3.cell x4)
    have k5 := cell_same (hb3 (w.heap.size + 1 + 1 + 1) (by omega)) (hE3.cell y0)
    have k6 := cell_same (hb3 (w.heap.size + 1 + 1 + 1) (by omega)) (hE3.cell y1)
    have k7 := fz_same (hb3 (w.heap.size + 1 + 1 + 1) (by omega)) ((hE3.frozen y0).trans f0)
    have k8 := fz_same (hb3 (w.heap.size + 1 + 1 + 1) (by omega)) ((hE3.frozen y1).trans f1)
    have hEW := hx3 w hE3' (Nat.le_refl _)
    clear x0 x1 x2 x3 x4 y0 y1 fz f0 f1 fy fx0 fx1 x0' x1' hF hW3 hb3 hx3 hE3 hE3' hE
    obtain ⟨zr, zr', zA⟩ := hF3.zR
    have zt := hF3.zT i hi
    have c1 := hF3.ord.hT i hi
    have c2 := hF3.ord.hTT i j hi hj
    have c3 := (hF3.rT i hi).frozen j
    rw [zr, Nat.zero_add, zt] at c1
    rw [zt, Nat.zero_add] at c2
    refine Wp.seqDraw (.inl rfl) mixed [([0, 1, 2, 3, 4], none), ([5, 6, 7, 8, 9], none), ([10], none)] (by kernel_rfl) fun K' gd hK hg => ?_
    clear hg
    simp only [pick, nth, List.map_cons, List.map_nil, Option.map_none, Option.map_some]
    apply Mops.none
    · intro w' hE'
      have hC' := hE'.cellsS
      go_simp
      with_reducible rfl
    apply Mops.none
    · intro w' hE'
      have hC' := hE'.cellsS
      go_simp
      with_reducible rfl
    apply Mops.none
    · intro w' hE'
      have hC' := hE'.cellsS
      go_simp
      with_reducible rfl
    refine Mops.done ?_
    refine hK _ _ ?_
    clear hK K' gd
    refine Wp.keep [3, 5, 6, 9] fun r6 hkeep => ?_
    obtain ⟨e3_6, e5_6, e6_6, e9_6, -⟩ := hkeep
    simp [go_sem, e3_5, e4_5, e5_5, e6_5] at e3_6 e5_6 e6_6 e9_6
    clear e3_5 e4_5 e5_5 e6_5
    refine Wp.seq ?_
    refine Wp.seqDraw (.inl rfl) mixed [([0, 1, 2, 3, 4], none), ([5], some (6, true))] (by kernel_rfl) fun K' gd hK hg => ?_
    clear hg
    simp only [pick, nth, List.map_cons, List.map_nil, Option.map_none, Option.map_some]
    apply Mops.none
    · intro w' hE'
      have hC' := hE'.cellsS
      go_simp
      with_reducible rfl
    apply Mops.last
    · intro w' hE'
      have hC' := hE'.cellsS
      go_simp
      with_reducible rfl
    intro K1 hK1
    go_simp
    refine hK1 _ _ ?_
    clear hK1 K1
    refine Mops.done ?_
    refine hK _ _ ?_
    clear hK K' gd
    refine Wp.keep [3, 6, 9] fun r7 hkeep => ?_
    obtain ⟨e3_7, e6_7, e9_7, -⟩ := hkeep
    simp [go_sem, e3_6, e5_6, e6_6, e9_6] at e3_7 e6_7 e9_7
    clear e3_6 e5_6 e6_6 e9_6
    have nb0 : a'.tb i ≠ w.heap.size := by have := hF3.gT i hi; omega
    have nb1 : a'.tb i ≠ w.heap.size + 1 + 1 + 1 := by have := hF3.gT i hi; omega
    have m1 : (W3.setCell ⟨a'.tb i, j, none⟩ (.int .i64 (o.T i j + d))).cell? ⟨a'.tb i, j, none⟩ = some (.int .i64 (o.T i j + d)) := World.cell?_setCell_same' _ _ _ (by rw [c2]; rfl)
    have v0 := (setCell_blk (k := j) (v := .int .i64 (o.T i j + d)) nb0).trans u0
    have v1 := (setCell_blk (k := j) (v := .int .i64 (o.T i j + d)) nb0).trans u1
    have v5 := (setCell_blk (k := j) (v := .int .i64 (o.T i j + d)) nb1).trans k5
    have v6 := (setCell_blk (k := j) (v := .int .i64 (o.T i j + d)) nb1).trans k6
    have v7 : (W3.setCell ⟨a'.tb i, j, none⟩ (.int .i64 (o.T i j + d))).frozen? ⟨w.heap.size + 1 + 1 + 1, 0, none⟩ = false := by rw [World.frozen?_setCell]; exact k7
    have v8 : (W3.setCell ⟨a'.tb i, j, none⟩ (.int .i64 (o.T i j + d))).frozen? ⟨w.heap.size + 1 + 1 + 1, 1, none⟩ = false := by rw [World.frozen?_setCell]; exact k8
    have hE4 : Ext w (W3.setCell ⟨a'.tb i, j, none⟩ (.int .i64 (o.T i j + d))) := Below.setCell hEW (by have := hF3.gT i hi; show w.heap.size ≤ a'.tb i; omega) _
    have hF4 : ¬ o.T i j + d > 60 → CopyF (W3.setCell ⟨a'.tb i, j, none⟩ (.int .i64 (o.T i j + d))) w2.heap.size a' (o.setT i j (o.T i j + d)) := fun hq => hF3.setT hg hi hj (by omega)
    clear u0 u1 k2 k3 k4 k5 k6 k7 k8 hEW hF3 c1 c2 c3 hs3
    generalize W3.setCell ⟨a'.tb i, j, none⟩ (.int .i64 (o.T i j + d)) = W4 at *
    refine Wp.seqRegion (.inl rfl) (by kernel_rfl) fun K' gd hK hg => ?_
    clear hg
    go_simp
    refine hK _ _ ?_
    clear hK K' gd
    refine Wp.keep [3, 6, 38] fun r8 hkeep => ?_
    obtain ⟨e3_8, e6_8, e38_8, -⟩ := hkeep
    simp [go_sem, e3_7, e6_7, e9_7] at e3_8 e6_8 e38_8
    clear e3_7 e6_7 e9_7
    by_cases hq : o.T i j + d > 60
    · refine Wp.condT (by go_simp) ?_
      refine Wp.seqRegion (.inl rfl) (by kernel_rfl) fun K' gd hK hg => ?_
      clear hg
      go_simp
      refine hK _ _ ?_
      clear hK K' gd
      refine Wp.keep [6, 7] fun r9 hkeep => ?_
      obtain ⟨e6_9, e7_9, -⟩ := hkeep
      simp [go_sem, e3_8, e6_8, e38_8] at e6_9 e7_9
      clear e3_8 e6_8 e38_8
      refine Wp.ret ?_
      refine thenK_ret ?_
      refine endK_cell_tmp (v := .agg #[.slice none 0 0, .slice none 0 0]) Try.results20 (by decide) (by decide) e6_9 (by go_simp) ?_
      rw [e7_9]
      have he : delayE o i j d = 2 := by unfold delayE; rw [if_pos h0, Int.toNat_natCast, Int.toNat_natCast, if_pos hq]
      refine ⟨_, by rw [he], ?_, (by repeat (first | assumption | exact Ext.refl _ | refine Ext.drew ?_ | refine Ext.alloc ?_ _ | refine Ext.setC ?_ (by omega) _ | refine Ext.trans ?_ (by assumption)))⟩
      unfold delayO; rw [he, if_neg (by decide)]; exact noOrdV _ _
    · refine Wp.condF (by go_simp) ?_
      refine Wp.skip ?_
      refine thenK_normal ?_
      refine Wp.seqRegion (.inl rfl) (by kernel_rfl) fun K' gd hK hg => ?_
      clear hg
      go_simp
      refine hK _ _ ?_
      clear hK K' gd
      refine Wp.keep [6, 7] fun r10 hkeep => ?_
      obtain ⟨e6_10, e7_10, -⟩ := hkeep
      simp [go_sem, e3_8, e6_8, e38_8] at e6_10 e7_10
      clear e3_8 e6_8 e38_8
      refine Wp.ret ?_
      refine endK_cell_tmp (v := .agg #[.slice (some ⟨a'.cb, a'.co, none⟩) o.m a'.cc, .slice a'.rA o.n a'.rc]) Try.results20 (by decide) (by decide) e6_10 (by go_simp) ?_
      rw [e7_10]
      have he : delayE o i j d = 0 := by unfold delayE; rw [if_pos h0, Int.toNat_natCast, Int.toNat_natCast, if_neg hq]
      have hgd := delayO_good he
      have hF5 := hF4 hq
      refine ⟨_, by rw [he], ?_, (by repeat (first | assumption | exact Ext.refl _ | refine Ext.drew ?_ | refine Ext.alloc ?_ _ | refine Ext.setC ?_ (by omega) _ | refine Ext.trans ?_ (by assumption)))⟩
      unfold delayO at hgd ⊢
      rw [if_pos he, Int.toNat_natCast, Int.toNat_natCast] at hgd ⊢
      have hv : Value.agg #[.slice (some ⟨a'.cb, a'.co, none⟩) o.m a'.cc, .slice a'.rA o.n a'.rc] = .agg #[a'.cv (o.setT i j (o.T i j + d)), a'.rv (o.setT i j (o.T i j + d))] := by simp only [OA.cv, OA.rv, setT_m, setT_n]
      rw [hv]; exact ((hF5.away (by omega)).away (by omega)).ord.orderV hgd
  · skip
    refine Wp.seqRegion (.inl rfl) (by kernel_rfl) fun K' gd hK hg => ?_
    clear hg
    go_simp
    refine hK _ _ ?_
    clear hK K' gd
    refine Wp.keep [3, 4, 5, 6, 8, 14] fun r11 hkeep => ?_
    obtain ⟨e3_11, e4_11, e5_11, e6_11, e8_11, e14_11, -⟩ := hkeep
    simp [go_sem, e3_3, e4_3, e5_3, e6_3, e8_3] at e3_11 e4_11 e5_11 e6_11 e8_11 e14_11
    clear e3_3 e4_3 e5_3 e6_3 e8_3
    refine Wp.condT (by go_simp) ?_
    refine Wp.seqRegion (.inl rfl) (by kernel_rfl) fun K' gd hK hg => ?_
    clear hg
    go_simp
    refine hK _ _ ?_
    clear hK K' gd
    refine Wp.keep [6, 7] fun r12 hkeep => ?_
    obtain ⟨e6_12, e7_12, -⟩ := hkeep
    simp [go_sem, e3_11, e4_11, e5_11, e6_11, e8_11, e14_11] at e6_12 e7_12
    clear e3_11 e4_11 e5_11 e6_11 e8_11 e14_11
    refine Wp.ret ?_
    refine thenK_ret ?_
    refine endK_cell_tmp (v := .agg #[.slice none 0 0, .slice none 0 0]) Try.results20 (by decide) (by decide) e6_12 (by go_simp) ?_
    rw [e7_12]
    have he : delayE o i j d = askS o (okDelay o i j d) := by unfold delayE; rw [if_neg h0]
    refine ⟨_, by rw [he], ?_, (by repeat (first | assumption | exact Ext.refl _ | refine Ext.drew ?_ | refine Ext.alloc ?_ _ | refine Ext.setC ?_ (by omega) _ | refine Ext.trans ?_ (by assumption)))⟩
    unfold delayO; rw [he, if_neg h0]; exact noOrdV _ _
end Go.Proofs.Ytnfagcccgmakdaa
namespace Go.Proofs.Ytnfagcccgmakdaa
open Go.RowKit Go.Wk Go.Proofs
attribute [local irreducible] Go.Wk.Wops Go.Wk.Wp Go.Wk.Mtree Go.Wk.Mops
set_option maxHeartbeats 1000000

theorem cell_nn (w : World) (cs : Array Value) (t : TypeId) (i : Nat) {n : Nat} (hn : n = w.heap.size) {v : Value} (hv : cs[i]? = some v) : (w.alloc (.cells cs t)).cell? ⟨n, i, none⟩ = some v := by
  subst hn; rw [cell_nw]; exact hv
theorem reach_leaf {w W0 : World} {b1 b2 ba bb : Nat} {a a' : OA} {o o' : Ord} {ta tb : Nat → Nat → Int} (hE : Ext w W0) (h1 : w.heap.size < b1) (h2 : w.heap.size < b2) (hne : b1 ≠ b2) (c1 : W0.cell? ⟨b1, 0, none⟩ = some (.pointer none)) (c2 : W0.cell? ⟨b2, 0, none⟩ = some (.pointer none))
    (hRa : RowF W0 ba a o ta) (hRb : RowF W0 bb a' o' tb) (q0 : W0.cell? ⟨w.heap.size, 0, none⟩ = some (a.cv o)) (q1 : W0.cell? ⟨w.heap.size, 1, none⟩ = some (a.rv o)) :
    Ext w ((W0.setCell ⟨b1, 0, none⟩ (.pointer (some ⟨ba, 0, none⟩))).setCell ⟨b2, 0, none⟩ (.pointer (some ⟨bb, 0, none⟩))) ∧
    ((W0.setCell ⟨b1, 0, none⟩ (.pointer (some ⟨ba, 0, none⟩))).setCell ⟨b2, 0, none⟩ (.pointer (some ⟨bb, 0, none⟩))).cell? ⟨b1, 0, none⟩ = some (.pointer (some ⟨ba, 0, none⟩)) ∧
    ((W0.setCell ⟨b1, 0, none⟩ (.pointer (some ⟨ba, 0, none⟩))).setCell ⟨b2, 0, none⟩ (.pointer (some ⟨bb, 0, none⟩))).cell? ⟨b2, 0, none⟩ = some (.pointer (some ⟨bb, 0, none⟩)) ∧
    RowF ((W0.setCell ⟨b1, 0, none⟩ (.pointer (some ⟨ba, 0, none⟩))).setCell ⟨b2, 0, none⟩ (.pointer (some ⟨bb, 0, none⟩))) ba a o ta ∧ RowF ((W0.setCell ⟨b1, 0, none⟩ (.pointer (some ⟨ba, 0, none⟩))).setCell ⟨b2, 0, none⟩ (.pointer (some ⟨bb, 0, none⟩))) bb a' o' tb ∧
    ((W0.setCell ⟨b1, 0, none⟩ (.pointer (some ⟨ba, 0, none⟩))).setCell ⟨b2, 0, none⟩ (.pointer (some ⟨bb, 0, none⟩))).cell? ⟨w.heap.size, 0, none⟩ = some (a.cv o) ∧ ((W0.setCell ⟨b1, 0, none⟩ (.pointer (some ⟨ba, 0, none⟩))).setCell ⟨b2, 0, none⟩ (.pointer (some ⟨bb, 0, none⟩))).cell? ⟨w.heap.size, 1, none⟩ = some (a.rv o) := by
  have ne : ∀ {b b' : Nat} {a : OA} {o : Ord} {t : Nat → Nat → Int}, RowF W0 b a o t → W0.cell? ⟨b', 0, none⟩ = some (.pointer none) → b ≠ b' := fun hR hc e => by
    subst e; have := hR.c0; rw [hc] at this; simp only [OA.cv] at this; cases this
  refine ⟨(hE.setC (Nat.le_of_lt h1) _).setC (Nat.le_of_lt h2) _, ?_, ?_, ?_, ?_, ?_, ?_⟩
  · rw [setCell_blk (Ne.symm hne)]; exact World.cell?_setCell_same' _ _ _ (by rw [c1]; rfl)
  · exact World.cell?_setCell_same' _ _ _ (by rw [setCell_blk hne, c2]; rfl)
  · exact hRa.of_block ((heap_setCell_other _ ⟨b2, 0, none⟩ ba _ (ne hRa c2)).trans (heap_setCell_other _ ⟨b1, 0, none⟩ ba _ (ne hRa c1)))
  · exact hRb.of_block ((heap_setCell_other _ ⟨b2, 0, none⟩ bb _ (ne hRb c2)).trans (heap_setCell_other _ ⟨b1, 0, none⟩ bb _ (ne hRb c1)))
  · exact (setCell_blk (by omega)).trans ((setCell_blk (by omega)).trans q0)
  · exact (setCell_blk (by omega)).trans ((setCell_blk (by omega)).trans q1)
theorem reach1_c (o o' : Ord) (a a' : OA) (b1 b2 ba bb i j : Nat) (w : World) (ho : OrdOk o) (h1 : w.cell? ⟨b1, 0, none⟩ = some (.pointer (some ⟨ba, 0, none⟩))) (h2 : w.cell? ⟨b2, 0, none⟩ = some (.pointer (some ⟨bb, 0, none⟩)))
    (hRa : RowF w ba a o (begA o)) (hRb : RowF w bb a' o' (begA o')) (hi : i < o.n) (hj : j < o.m) :
    CallsV Try.prog 60 #[.agg #[.int .i64 (i : Int), .int .i64 (j : Int)], .pointer (some ⟨b2, 0, none⟩), .pointer (some ⟨b1, 0, none⟩)] w fun v w' => v = .bool (decide (begA o' i j > begA o i j)) ∧ Ext w w' := by
  have hm := ho.hm2
  have hn := ho.hn2
  have c1 := hRa.ct i j (by omega) (by omega)
  have c2 := hRb.ct i j (by omega) (by omega)
  have b1' : (i : Int) < 20 := by omega
  have b2' : (j : Int) < 15 := by omega
  refine Wp.fn Try.func60 rfl Try.ntmps60 (by simp) ?_
  refine Wp.keep [0, 1, 2] fun r1 hkeep => ?_
  obtain ⟨e0_1, e1_1, e2_1, -⟩ := hkeep
  simp [go_sem] at e0_1 e1_1 e2_1
  refine Wp.seqRegion (.inl rfl) (by kernel_rfl) fun K' gd hK hg => ?_
  clear hg
  go_simp
  refine hK _ _ ?_
  clear hK K' gd
  refine Wp.keep [1, 2, 3] fun r2 hkeep => ?_
  obtain ⟨e1_2, e2_2, e3_2, -⟩ := hkeep
  simp [go_sem, e0_1, e1_1, e2_1] at e1_2 e2_2 e3_2
  clear e0_1 e1_1 e2_1
  refine Wp.seqDraw (.inl rfl) mixed [([0, 1, 2, 3, 4], none), ([5, 6, 7, 8, 9], none), ([10, 11, 12, 13, 14], none), ([15, 16, 17, 18, 19], none), ([20, 21], none)] (by kernel_rfl) fun K' gd hK hg => ?_
  clear hg
  simp only [pick, nth, List.map_cons, List.map_nil, Option.map_none, Option.map_some]
  apply Mops.none
  · intro w' hE'
    have hC' := hE'.cellsS
    go_simp
    with_reducible rfl
  apply Mops.none
  · intro w' hE'
    have hC' := hE'.cellsS
    go_simp
    with_reducible rfl
  apply Mops.none
  · intro w' hE'
    have hC' := hE'.cellsS
    go_simp
    with_reducible rfl
  apply Mops.none
  · intro w' hE'
    have hC' := hE'.cellsS
    go_simp
    with_reducible rfl
  apply Mops.none
  · intro w' hE'
    have hC' := hE'.cellsS
    go_simp
    with_reducible rfl
  refine Mops.done ?_
  refine hK _ _ ?_
  clear hK K' gd
  refine Wp.keep [4] fun r3 hkeep => ?_
  obtain ⟨e4_3, -⟩ := hkeep
  simp [go_sem, e1_2, e2_2, e3_2] at e4_3
  clear e1_2 e2_2 e3_2
  refine Wp.ret ?_
  refine endK_tmp Try.results60 (by decide) ?_
  rw [e4_3]
  exact ⟨rfl, (by repeat (first | assumption | exact Ext.refl _ | refine Ext.drew ?_ | refine Ext.alloc ?_ _ | refine Ext.trans ?_ (by assumption)))⟩
def reachL (o : Ord) (i j d : Int) : List (Int × Int) := ((stintsL o.n o.m).filter fun x => decide (begA (delayO o i j d) x.1 x.2 > begA o x.1 x.2)).map zS
theorem Reach_c (v : Value) (o : Ord) (i j d : Int) (w : World) (hV : OrderV w w.heap.size v o) (hf : Fits o) :
    CallsV Try.prog 21 #[v, .agg #[.int .i64 i, .int .i64 j], .int .i64 d] w fun v w' => ∃ t, v = .tuple #[t, .int .i64 (delayE o i j d)] ∧ OwnS w' w.heap.size t (if delayE o i j d = 0 then reachL o i j d else []) ∧ Ext w w' := by
  obtain ⟨cv, rv, rfl, hV2⟩ := hV
  have hV : OrderV w w.heap.size (.agg #[cv, rv]) o := ⟨cv, rv, rfl, hV2⟩
  refine Wp.fn Try.func21 rfl Try.ntmps21 (by simp) ?_
  refine Wp.keep [0, 1, 2] fun r1 hkeep => ?_
  obtain ⟨e0_1, e1_1, e2_1, -⟩ := hkeep
  simp [go_sem] at e0_1 e1_1 e2_1
  refine Wp.seqRegion (.inl rfl) (by kernel_rfl) fun K' gd hK hg => ?_
  clear hg
  go_simp
  refine hK _ _ ?_
  clear hK K' gd
  refine Wp.keep [2, 3, 4] fun r2 hkeep => ?_
  obtain ⟨e2_2, e3_2, e4_2, -⟩ := hkeep
  simp [go_sem, e0_1, e1_1, e2_1] at e2_2 e3_2 e4_2
  clear e0_1 e1_1 e2_1
  refine Wp.seqRegion (.inl rfl) (by kernel_rfl) fun K' gd hK hg => ?_
  clear hg
  go_simp
  refine Wcall (.inl rfl) (Delayed_c _ o i j d _ (hV.ext (by repeat (first | assumption | exact Ext.refl _ | refine Ext.drew ?_ | refine Ext.alloc ?_ _ | refine Ext.trans ?_ (by assumption)))) hf) ?_
  rintro v w2 ⟨v0, rfl, hVm, hE⟩
  obtain ⟨cA2, cc2, rA2, rc2, rfl⟩ := hVm.slices
  have hE2 : Ext w w2 := (by repeat (first | assumption | exact Ext.refl _ | refine Ext.drew ?_ | refine Ext.alloc ?_ _ | refine Ext.trans ?_ (by assumption)))
  have x0 : w2.cell? ⟨w.heap.size, 0, none⟩ = some cv := hE.cell (by go_simp)
  have x1 : w2.cell? ⟨w.heap.size, 1, none⟩ = some rv := hE.cell (by go_simp)
  go_simp
  refine hK _ _ ?_
  clear hK K' gd
  refine Wp.keep [3, 8, 9] fun r3 hkeep => ?_
  obtain ⟨e3_3, e8_3, e9_3, -⟩ := hkeep
  simp [go_sem, e2_2, e3_2, e4_2] at e3_3 e8_3 e9_3
  clear e2_2 e3_2 e4_2
  by_cases h0 : delayE o i j d = 0
  · skip
    refine Wp.seq ?_
    refine Wp.seqRegion (.inl rfl) (by kernel_rfl) fun K' gd hK hg => ?_
    clear hg
    go_simp
    refine hK _ _ ?_
    clear hK K' gd
    refine Wp.keep [3, 8, 9, 20] fun r4 hkeep => ?_
    obtain ⟨e3_4, e8_4, e9_4, e20_4, -⟩ := hkeep
    simp [go_sem, e3_3, e8_3, e9_3] at e3_4 e8_4 e9_4 e20_4
    clear e3_3 e8_3 e9_3
    refine Wp.condF (by go_simp) ?_
    have hg := (delayE_zero h0).1
    have hgm := delayO_good h0
    have ho := hg.ok
    have hom := hgm.ok
    obtain ⟨a, rfl, rfl, hO⟩ := (hV.ext hE2).ordF2 hg
    obtain ⟨am, hcv3, hrv3, hOm⟩ := hVm.ordF2 hgm
    rw [hcv3, hrv3]
    obtain ⟨om, hom3⟩ : ∃ om, delayO o i j d = om := ⟨_, rfl⟩
    rw [hom3] at hcv3 hrv3 hOm hgm hom ⊢
    have p0 := cell_al (.cells #[am.cv om, am.rv om] 25) x0
    have p1 := cell_al (.cells #[am.cv om, am.rv om] 25) x1
    have p2 := cell_nn w2 #[am.cv om, am.rv om] 25 0 rfl (v := am.cv om) rfl
    have p3 := cell_nn w2 #[am.cv om, am.rv om] 25 1 rfl (v := am.rv om) rfl
    have hO3 : OrdF (w2.alloc (.cells #[am.cv om, am.rv om] 25)) (w2.alloc (.cells #[am.cv om, am.rv om] 25)).heap.size a o := hO.ext (by repeat (first | assumption | exact Ext.refl _ | refine Ext.drew ?_ | refine Ext.alloc ?_ _ | refine Ext.trans ?_ (by assumption)))
    have hOm3 : OrdF (w2.alloc (.cells #[am.cv om, am.rv om] 25)) (w2.alloc (.cells #[am.cv om, am.rv om] 25)).heap.size am om := hOm.ext (by repeat (first | assumption | exact Ext.refl _ | refine Ext.drew ?_ | refine Ext.alloc ?_ _ | refine Ext.trans ?_ (by assumption)))
    have hE3 : Ext w (w2.alloc (.cells #[am.cv om, am.rv om] 25)) := (by repeat (first | assumption | exact Ext.refl _ | refine Ext.drew ?_ | refine Ext.alloc ?_ _ | refine Ext.trans ?_ (by assumption)))
    have n1 : w.heap.size < w2.heap.size := cell_lt x0
    have n2 : w2.heap.size < (w2.alloc (.cells #[am.cv om, am.rv om] 25)).heap.size := by simp
    clear hE hE2 hO hOm hVm
    generalize w2.heap.size = n8 at *
    generalize w2.alloc (.cells #[am.cv om, am.rv om] 25) = W3 at *
    refine Wp.skip ?_
    refine thenK_normal ?_
    refine Wp.seqDrawT (.inl rfl) mixed (.rd [0, 2] (.both (.act 1 false (.both (.act 3 false (.both (.act 4 false (.act 5 false (.act 6 true (.act 7 true .done)))) (.act 5 false (.act 4 false (.act 6 true (.act 7 true .done)))))) (.both (.act 4 false (.both (.act 3 false (.act 5 false (.act 6 true (.act 7 true .done)))) (.act 5 false (.act 3 false (.act 6 true (.act 7 true .done)))))) (.act 5 false (.both (.act 3 false (.act 4 false (.act 6 true (.act 7 true .done)))) (.act 4 false (.act 3 false (.act 6 true (.act 7 true .done))))))))) (.both (.act 4 false (.both (.act 1 false (.both (.act 3 false (.act 5 false (.act 6 true (.act 7 true .done)))) (.act 5 false (.act 3 false (.act 6 true (.act 7 true .done)))))) (.act 5 false (.act 1 false (.act 3 false (.act 6 true (.act 7 true .done))))))) (.act 5 false (.both (.act 1 false (.both (.act 3 false (.act 4 false (.act 6 true (.act 7 true .done)))) (.act 4 false (.act 3 false (.act 6 true (.act 7 true .done)))))) (.act 4 false (.act 1 false (.act 3 false (.act 6 true (.act 7 true .done)))))))))) (by kernel_rfl) (fun ρ W => AllEq [3] ρ r4 ∧ (∃ ba bb b1 b2, ρ 10 = .pointer (some ⟨b1, 0, none⟩) ∧ ρ 11 = .pointer (some ⟨b2, 0, none⟩) ∧ Ext w W ∧ W.cell? ⟨b1, 0, none⟩ = some (.pointer (some ⟨ba, 0, none⟩)) ∧ W.cell? ⟨b2, 0, none⟩ = some (.pointer (some ⟨bb, 0, none⟩)) ∧ RowF W ba a o (begA o) ∧ RowF W bb am om (begA om) ∧ W.cell? ⟨w.heap.size, 0, none⟩ = some (a.cv o) ∧ W.cell? ⟨w.heap.size, 1, none⟩ = some (a.rv o))) (fun K' gd hK hg => ?_) ?_
    · skip
      clear hg
      simp only [pickT, nth, List.map_cons, List.map_nil]
      apply Mtree.reads
      · intro w' hE'
        have hC' := hE'.cellsS
        go_simp
        with_reducible rfl
      refine Mtree.two ?_ ?_
      · skip
        refine Mtree.step fun K1 hK1 => ?_
        go_simp
        refine Wcall (.inl rfl) (timed_c a o _ (hO3.ext (by repeat (first | assumption | exact Ext.refl _ | refine Ext.drew ?_ | refine Ext.alloc ?_ _ | refine Ext.trans ?_ (by assumption))))) ?_
        rintro v u1 ⟨ba, rfl, hRa, hEa⟩
        have s1 := Below.size hEa
        go_simp
        refine hK1 _ _ (by assumption) ?_
        clear hK1 K1
        refine Mtree.two ?_ ?_
        · skip
          refine Mtree.step fun K1 hK1 => ?_
          go_simp
          refine Wcall (.inl rfl) (timed_c am om _ (hOm3.ext (by repeat (first | assumption | exact Ext.refl _ | refine Ext.drew ?_ | refine Ext.alloc ?_ _ | refine Ext.trans ?_ (by assumption))))) ?_
          rintro v u2 ⟨bb, rfl, hRb, hEb⟩
          have s2 := Below.size hEb
          go_simp
          refine hK1 _ _ (by assumption) ?_
          clear hK1 K1
          refine Mtree.two ?_ ?_
          · skip
            refine Mtree.step fun K1 hK1 => ?_
            go_simp
            refine hK1 _ _ (by first | exact (Ext.refl _).alloc _ | exact Ext.refl _) ?_
            clear hK1 K1
            first | refine Mtree.abs fun V5 hV5 sV5 hVc hVf => ?_ | refine Mtree.absD fun V5 hV5 sV5 hVc hVf => ?_
            have cV5 := hVc 0 _ rfl
            have fV5 := hVf 0
            clear hVc hVf
            refine Mtree.step fun K1 hK1 => ?_
            go_simp
            refine hK1 _ _ (by first | exact (Ext.refl _).alloc _ | exact Ext.refl _) ?_
            clear hK1 K1
            first | refine Mtree.abs fun V6 hV6 sV6 hVc hVf => ?_ | refine Mtree.absD fun V6 hV6 sV6 hVc hVf => ?_
            have cV6 := hVc 0 _ rfl
            have fV6 := hVf 0
            clear hVc hVf
            have fc7 := (Ext.frozen hV6 cV5).trans fV5
            have c7 := Ext.cell hV6 cV5
            refine Mtree.stepT fun K1 hK1 => ?_
            go_simp
            refine hK1 _ _ ?_
            clear hK1 K1
            refine Mtree.stepT fun K1 hK1 => ?_
            go_simp
            refine hK1 _ _ ?_
            clear hK1 K1
            refine Mtree.fin ?_
            refine hK _ _ ⟨by simp [AllEq, go_sem], ?_⟩
            exact ⟨ba, bb, _, _, by go_simp, by go_simp, reach_leaf (by repeat (first | assumption | exact Ext.refl _ | refine Ext.drew ?_ | refine Ext.alloc ?_ _ | refine Ext.trans ?_ (by assumption))) (by (try simp only [World.size_drew] at s1); omega) (by (try simp only [World.size_drew] at s1); omega) (by (try simp only [World.size_drew] at s1); omega) (by first | assumption | exact Ext.cell (by assumption) (by assumption) | exact Ext.cell (by assumption) (Ext.cell (by assumption) (by assumption)) | exact Ext.cell (by assumption) (Ext.cell (by assumption) (Ext.cell (by assumption) (by assumption))) | exact Ext.cell (by assumption) (Ext.cell (by assumption) (Ext.cell (by assumption) (Ext.cell (by assumption) (by assumption))))) (by first | assumption | exact Ext.cell (by assumption) (by assumption) | exact Ext.cell (by assumption) (Ext.cell (by assumption) (by assumption)) | exact Ext.cell (by assumption) (Ext.cell (by assumption) (Ext.cell (by assumption) (by assumption))) | exact Ext.cell (by assumption) (Ext.cell (by assumption) (Ext.cell (by assumption) (Ext.cell (by assumption) (by assumption))))) (hRa.ext (by repeat (first | assumption | exact Ext.refl _ | refine Ext.drew ?_ | refine Ext.alloc ?_ _ | refine Ext.trans ?_ (by assumption)))) (hRb.ext (by repeat (first | assumption | exact Ext.refl _ | refine Ext.drew ?_ | refine Ext.alloc ?_ _ | refine Ext.trans ?_ (by assumption)))) (by first | assumption | exact Ext.cell (by assumption) (by assumption) | exact Ext.cell (by assumption) (Ext.cell (by assumption) (by assumption)) | exact Ext.cell (by assumption) (Ext.cell (by assumption) (Ext.cell (by assumption) (by assumption))) | exact Ext.cell (by assumption) (Ext.cell (by assumption) (Ext.cell (by assumption) (Ext.cell (by assumption) (by assumption))))) (by first | assumption | exact Ext.cell (by assumption) (by assumption) | exact Ext.cell (by assumption) (Ext.cell (by assumption) (by assumption)) | exact Ext.cell (by assumption) (Ext.cell (by assumption) (Ext.cell (by assumption) (by assumption))) | exact Ext.cell (by assumption) (Ext.cell (by assumption) (Ext.cell (by assumption) (Ext.cell (by assumption) (by assumption)))))⟩
          · skip
            refine Mtree.step fun K1 hK1 => ?_
            go_simp
            refine hK1 _ _ (by first | exact (Ext.refl _).alloc _ | exact Ext.refl _) ?_
            clear hK1 K1
            first | refine Mtree.abs fun V8 hV8 sV8 hVc hVf => ?_ | refine Mtree.absD fun V8 hV8 sV8 hVc hVf => ?_
            have cV8 := hVc 0 _ rfl
            have fV8 := hVf 0
            clear hVc hVf
            refine Mtree.step fun K1 hK1 => ?_
            go_simp
            refine hK1 _ _ (by first | exact (Ext.refl _).alloc _ | exact Ext.refl _) ?_
            clear hK1 K1
            first | refine Mtree.abs fun V9 hV9 sV9 hVc hVf => ?_ | refine Mtree.absD fun V9 hV9 sV9 hVc hVf => ?_
            have cV9 := hVc 0 _ rfl
            have fV9 := hVf 0
            clear hVc hVf
            have fc10 := (Ext.frozen hV9 cV8).trans fV8
            have c10 := Ext.cell hV9 cV8
            refine Mtree.stepT fun K1 hK1 => ?_
            go_simp
            refine hK1 _ _ ?_
            clear hK1 K1
            refine Mtree.stepT fun K1 hK1 => ?_
            go_simp
            refine hK1 _ _ ?_
            clear hK1 K1
            refine Mtree.fin ?_
            refine hK _ _ ⟨by simp [AllEq, go_sem], ?_⟩
            exact ⟨ba, bb, _, _, by go_simp, by go_simp, reach_leaf (by repeat (first | assumption | exact Ext.refl _ | refine Ext.drew ?_ | refine Ext.alloc ?_ _ | refine Ext.trans ?_ (by assumption))) (by (try simp only [World.size_drew] at s1); omega) (by (try simp only [World.size_drew] at s1); omega) (by (try simp only [World.size_drew] at s1); omega) (by first | assumption | exact Ext.cell (by assumption) (by assumption) | exact Ext.cell (by assumption) (Ext.cell (by assumption) (by assumption)) | exact Ext.cell (by assumption) (Ext.cell (by assumption) (Ext.cell (by assumption) (by assumption))) | exact Ext.cell (by assumption) (Ext.cell (by assumption) (Ext.cell (by assumption) (Ext.cell (by assumption) (by assumption))))) (by first | assumption | exact Ext.cell (by assumption) (by assumption) | exact Ext.cell (by assumption) (Ext.cell (by assumption) (by assumption)) | exact Ext.cell (by assumption) (Ext.cell (by assumption) (Ext.cell (by assumption) (by assumption))) | exact Ext.cell (by assumption) (Ext.cell (by assumption) (Ext.cell (by assumption) (Ext.cell (by assumption) (by assumption))))) (hRa.ext (by repeat (first | assumption | exact Ext.refl _ | refine Ext.drew ?_ | refine Ext.alloc ?_ _ | refine Ext.trans ?_ (by assumption)))) (hRb.ext (by repeat (first | assumption | exact Ext.refl _ | refine Ext.drew ?_ | refine Ext.alloc ?_ _ | refine Ext.trans ?_ (by assumption)))) (by first | assumption | exact Ext.cell (by assumption) (by assumption) | exact Ext.cell (by assumption) (Ext.cell (by assumption) (by assumption)) | exact Ext.cell (by assumption) (Ext.cell (by assumption) (Ext.cell (by assumption) (by assumption))) | exact Ext.cell (by assumption) (Ext.cell (by assumption) (Ext.cell (by assumption) (Ext.cell (by assumption) (by assumption))))) (by first | assumption | exact Ext.cell (by assumption) (by assumption) | exact Ext.cell (by assumption) (Ext.cell (by assumption) (by assumption)) | exact Ext.cell (by assumption) (Ext.cell (by assumption) (Ext.cell (by assumption) (by assumption))) | exact Ext.cell (by assumption) (Ext.cell (by assumption) (Ext.cell (by assumption) (Ext.cell (by assumption) (by assumption)))))⟩
        · skip
          refine Mtree.two ?_ ?_
          · skip
            refine Mtree.step fun K1 hK1 => ?_
            go_simp
            refine hK1 _ _ (by first | exact (Ext.refl _).alloc _ | exact Ext.refl _) ?_
            clear hK1 K1
            first | refine Mtree.abs fun V11 hV11 sV11 hVc hVf => ?_ | refine Mtree.absD fun V11 hV11 sV11 hVc hVf => ?_
            have cV11 := hVc 0 _ rfl
            have fV11 := hVf 0
            clear hVc hVf
            refine Mtree.two ?_ ?_
            · skip
              refine Mtree.step fun K1 hK1 => ?_
              go_simp
              refine Wcall (.inl rfl) (timed_c am om _ (hOm3.ext (by repeat (first | assumption | exact Ext.refl _ | refine Ext.drew ?_ | refine Ext.alloc ?_ _ | refine Ext.trans ?_ (by assumption))))) ?_
              rintro v u2 ⟨bb, rfl, hRb, hEb⟩
              have s2 := Below.size hEb
              go_simp
              refine hK1 _ _ (by assumption) ?_
              clear hK1 K1
              have fc12 := (Ext.frozen hEb cV11).trans fV11
              have c12 := Ext.cell hEb cV11
              refine Mtree.step fun K1 hK1 => ?_
              go_simp
              refine hK1 _ _ (by first | exact (Ext.refl _).alloc _ | exact Ext.refl _) ?_
              clear hK1 K1
              first | refine Mtree.abs fun V13 hV13 sV13 hVc hVf => ?_ | refine Mtree.absD fun V13 hV13 sV13 hVc hVf => ?_
              have cV13 := hVc 0 _ rfl
              have fV13 := hVf 0
              clear hVc hVf
              have fc14 := (Ext.frozen hV13 c12).trans fc12
              have c14 := Ext.cell hV13 c12
              refine Mtree.stepT fun K1 hK1 => ?_
              go_simp
              refine hK1 _ _ ?_
              clear hK1 K1
              refine Mtree.stepT fun K1 hK1 => ?_
              go_simp
              refine hK1 _ _ ?_
              clear hK1 K1
              refine Mtree.fin ?_
              refine hK _ _ ⟨by simp [AllEq, go_sem], ?_⟩
              exact ⟨ba, bb, _, _, by go_simp, by go_simp, reach_leaf (by repeat (first | assumption | exact Ext.refl _ | refine Ext.drew ?_ | refine Ext.alloc ?_ _ | refine Ext.trans ?_ (by assumption))) (by (try simp only [World.size_drew] at s1); omega) (by (try simp only [World.size_drew] at s1); omega) (by (try simp only [World.size_drew] at s1); omega) (by first | assumption | exact Ext.cell (by assumption) (by assumption) | exact Ext.cell (by assumption) (Ext.cell (by assumption) (by assumption)) | exact Ext.cell (by assumption) (Ext.cell (by assumption) (Ext.cell (by assumption) (by assumption))) | exact Ext.cell (by assumption) (Ext.cell (by assumption) (Ext.cell (by assumption) (Ext.cell (by assumption) (by assumption))))) (by first | assumption | exact Ext.cell (by assumption) (by assumption) | exact Ext.cell (by assumption) (Ext.cell (by assumption) (by assumption)) | exact Ext.cell (by assumption) (Ext.cell (by assumption) (Ext.cell (by assumption) (by assumption))) | exact Ext.cell (by assumption) (Ext.cell (by assumption) (Ext.cell (by assumption) (Ext.cell (by assumption) (by assumption))))) (hRa.ext (by repeat (first | assumption | exact Ext.refl _ | refine Ext.drew ?_ | refine Ext.alloc ?_ _ | refine Ext.trans ?_ (by assumption)))) (hRb.ext (by repeat (first | assumption | exact Ext.refl _ | refine Ext.drew ?_ | refine Ext.alloc ?_ _ | refine Ext.trans ?_ (by assumption)))) (by first | assumption | exact Ext.cell (by assumption) (by assumption) | exact Ext.cell (by assumption) (Ext.cell (by assumption) (by assumption)) | exact Ext.cell (by assumption) (Ext.cell (by assumption) (Ext.cell (by assumption) (by assumption))) | exact Ext.cell (by assumption) (Ext.cell (by assumption) (Ext.cell (by assumption) (Ext.cell (by assumption) (by assumption))))) (by first | assumption | exact Ext.cell (by assumption) (by assumption) | exact Ext.cell (by assumption) (Ext.cell (by assumption) (by assumption)) | exact Ext.cell (by assumption) (Ext.cell (by assumption) (Ext.cell (by assumption) (by assumption))) | exact Ext.cell (by assumption) (Ext.cell (by assumption) (Ext.cell (by assumption) (Ext.cell (by assumption) (by assumption)))))⟩
            · skip
              refine Mtree.step fun K1 hK1 => ?_
              go_simp
              refine hK1 _ _ (by first | exact (Ext.refl _).alloc _ | exact Ext.refl _) ?_
              clear hK1 K1
              first | refine Mtree.abs fun V15 hV15 sV15 hVc hVf => ?_ | refine Mtree.absD fun V15 hV15 sV15 hVc hVf => ?_
              have cV15 := hVc 0 _ rfl
              have fV15 := hVf 0
              clear hVc hVf
              have fc16 := (Ext.frozen hV15 cV11).trans fV11
              have c16 := Ext.cell hV15 cV11
              refine Mtree.step fun K1 hK1 => ?_
              go_simp
              refine Wcall (.inl rfl) (timed_c am om _ (hOm3.ext (by repeat (first | assumption | exact Ext.refl _ | refine Ext.drew ?_ | refine Ext.alloc ?_ _ | refine Ext.trans ?_ (by assumption))))) ?_
              rintro v u2 ⟨bb, rfl, hRb, hEb⟩
              have s2 := Below.size hEb
              go_simp
              refine hK1 _ _ (by assumption) ?_
              clear hK1 K1
              have fc17 := (Ext.frozen hEb c16).trans fc16
              have c17 := Ext.cell hEb c16
              have fc18 := (Ext.frozen hEb cV15).trans fV15
              have c18 := Ext.cell hEb cV15
              refine Mtree.stepT fun K1 hK1 => ?_
              go_simp
              refine hK1 _ _ ?_
              clear hK1 K1
              refine Mtree.stepT fun K1 hK1 => ?_
              go_simp
              refine hK1 _ _ ?_
              clear hK1 K1
              refine Mtree.fin ?_
              refine hK _ _ ⟨by simp [AllEq, go_sem], ?_⟩
              exact ⟨ba, bb, _, _, by go_simp, by go_simp, reach_leaf (by repeat (first | assumption | exact Ext.refl _ | refine Ext.drew ?_ | refine Ext.alloc ?_ _ | refine Ext.trans ?_ (by assumption))) (by (try simp only [World.size_drew] at s1); omega) (by (try simp only [World.size_drew] at s1); omega) (by (try simp only [World.size_drew] at s1); omega) (by first | assumption | exact Ext.cell (by assumption) (by assumption) | exact Ext.cell (by assumption) (Ext.cell (by assumption) (by assumption)) | exact Ext.cell (by assumption) (Ext.cell (by assumption) (Ext.cell (by assumption) (by assumption))) | exact Ext.cell (by assumption) (Ext.cell (by assumption) (Ext.cell (by assumption) (Ext.cell (by assumption) (by assumption))))) (by first | assumption | exact Ext.cell (by assumption) (by assumption) | exact Ext.cell (by assumption) (Ext.cell (by assumption) (by assumption)) | exact Ext.cell (by assumption) (Ext.cell (by assumption) (Ext.cell (by assumption) (by assumption))) | exact Ext.cell (by assumption) (Ext.cell (by assumption) (Ext.cell (by assumption) (Ext.cell (by assumption) (by assumption))))) (hRa.ext (by repeat (first | assumption | exact Ext.refl _ | refine Ext.drew ?_ | refine Ext.alloc ?_ _ | refine Ext.trans ?_ (by assumption)))) (hRb.ext (by repeat (first | assumption | exact Ext.refl _ | refine Ext.drew ?_ | refine Ext.alloc ?_ _ | refine Ext.trans ?_ (by assumption)))) (by first | assumption | exact Ext.cell (by assumption) (by assumption) | exact Ext.cell (by assumption) (Ext.cell (by assumption) (by assumption)) | exact Ext.cell (by assumption) (Ext.cell (by assumption) (Ext.cell (by assumption) (by assumption))) | exact Ext.cell (by assumption) (Ext.cell (by assumption) (Ext.cell (by assumption) (Ext.cell (by assumption) (by assumption))))) (by first | assumption | exact Ext.cell (by assumption) (by assumption) | exact Ext.cell (by assumption) (Ext.cell (by assumption) (by assumption)) | exact Ext.cell (by assumption) (Ext.cell (by assumption) (Ext.cell (by assumption) (by assumption))) | exact Ext.cell (by assumption) (Ext.cell (by assumption) (Ext.cell (by assumption) (Ext.cell (by assumption) (by assumption)))))⟩
          · skip
            refine Mtree.step fun K1 hK1 => ?_
            go_simp
            refine hK1 _ _ (by first | exact (Ext.refl _).alloc _ | exact Ext.refl _) ?_
            clear hK1 K1
            first | refine Mtree.abs fun V19 hV19 sV19 hVc hVf => ?_ | refine Mtree.absD fun V19 hV19 sV19 hVc hVf => ?_
            have cV19 := hVc 0 _ rfl
            have fV19 := hVf 0
            clear hVc hVf
            refine Mtree.two ?_ ?_
            · skip
              refine Mtree.step fun K1 hK1 => ?_
              go_simp
              refine Wcall (.inl rfl) (timed_c am om _ (hOm3.ext (by repeat (first | assumption | exact Ext.refl _ | refine Ext.drew ?_ | refine Ext.alloc ?_ _ | refine Ext.trans ?_ (by assumption))))) ?_
              rintro v u2 ⟨bb, rfl, hRb, hEb⟩
              have s2 := Below.size hEb
              go_simp
              refine hK1 _ _ (by assumption) ?_
              clear hK1 K1
              have fc20 := (Ext.frozen hEb cV19).trans fV19
              have c20 := Ext.cell hEb cV19
              refine Mtree.step fun K1 hK1 => ?_
              go_simp
              refine hK1 _ _ (by first | exact (Ext.refl _).alloc _ | exact Ext.refl _) ?_
              clear hK1 K1
              first | refine Mtree.abs fun V21 hV21 sV21 hVc hVf => ?_ | refine Mtree.absD fun V21 hV21 sV21 hVc hVf => ?_
              have cV21 := hVc 0 _ rfl
              have fV21 := hVf 0
              clear hVc hVf
              have fc22 := (Ext.frozen hV21 c20).trans fc20
              have c22 := Ext.cell hV21 c20
              refine Mtree.stepT fun K1 hK1 => ?_
              go_simp
              refine hK1 _ _ ?_
              clear hK1 K1
              refine Mtree.stepT fun K1 hK1 => ?_
              go_simp
              refine hK1 _ _ ?_
              clear hK1 K1
              refine Mtree.fin ?_
              refine hK _ _ ⟨by simp [AllEq, go_sem], ?_⟩
              exact ⟨ba, bb, _, _, by go_simp, by go_simp, reach_leaf (by repeat (first | assumption | exact Ext.refl _ | refine Ext.drew ?_ | refine Ext.alloc ?_ _ | refine Ext.trans ?_ (by assumption))) (by (try simp only [World.size_drew] at s1); omega) (by (try simp only [World.size_drew] at s1); omega) (by (try simp only [World.size_drew] at s1); omega) (by first | assumption | exact Ext.cell (by assumption) (by assumption) | exact Ext.cell (by assumption) (Ext.cell (by assumption) (by assumption)) | exact Ext.cell (by assumption) (Ext.cell (by assumption) (Ext.cell (by assumption) (by assumption))) | exact Ext.cell (by assumption) (Ext.cell (by assumption) (Ext.cell (by assumption) (Ext.cell (by assumption) (by assumption))))) (by first | assumption | exact Ext.cell (by assumption) (by assumption) | exact Ext.cell (by assumption) (Ext.cell (by assumption) (by assumption)) | exact Ext.cell (by assumption) (Ext.cell (by assumption) (Ext.cell (by assumption) (by assumption))) | exact Ext.cell (by assumption) (Ext.cell (by assumption) (Ext.cell (by assumption) (Ext.cell (by assumption) (by assumption))))) (hRa.ext (by repeat (first | assumption | exact Ext.refl _ | refine Ext.drew ?_ | refine Ext.alloc ?_ _ | refine Ext.trans ?_ (by assumption)))) (hRb.ext (by repeat (first | assumption | exact Ext.refl _ | refine Ext.drew ?_ | refine Ext.alloc ?_ _ | refine Ext.trans ?_ (by assumption)))) (by first | assumption | exact Ext.cell (by assumption) (by assumption) | exact Ext.cell (by assumption) (Ext.cell (by assumption) (by assumption)) | exact Ext.cell (by assumption) (Ext.cell (by assumption) (Ext.cell (by assumption) (by assumption))) | exact Ext.cell (by assumption) (Ext.cell (by assumption) (Ext.cell (by assumption) (Ext.cell (by assumption) (by assumption))))) (by first | assumption | exact Ext.cell (by assumption) (by assumption) | exact Ext.cell (by assumption) (Ext.cell (by assumption) (by assumption)) | exact Ext.cell (by assumption) (Ext.cell (by assumption) (Ext.cell (by assumption) (by assumption))) | exact Ext.cell (by assumption) (Ext.cell (by assumption) (Ext.cell (by assumption) (Ext.cell (by assumption) (by assumption)))))⟩
            · skip
              refine Mtree.step fun K1 hK1 => ?_
              go_simp
              refine hK1 _ _ (by first | exact (Ext.refl _).alloc _ | exact Ext.refl _) ?_
              clear hK1 K1
              first | refine Mtree.abs fun V23 hV23 sV23 hVc hVf => ?_ | refine Mtree.absD fun V23 hV23 sV23 hVc hVf => ?_
              have cV23 := hVc 0 _ rfl
              have fV23 := hVf 0
              clear hVc hVf
              have fc24 := (Ext.frozen hV23 cV19).trans fV19
              have c24 := Ext.cell hV23 cV19
              refine Mtree.step fun K1 hK1 => ?_
              go_simp
              refine Wcall (.inl rfl) (timed_c am om _ (hOm3.ext (by repeat (first | assumption | exact Ext.refl _ | refine Ext.drew ?_ | refine Ext.alloc ?_ _ | refine Ext.trans ?_ (by assumption))))) ?_
              rintro v u2 ⟨bb, rfl, hRb, hEb⟩
              have s2 := Below.size hEb
              go_simp
              refine hK1 _ _ (by assumption) ?_
              clear hK1 K1
              have fc25 := (Ext.frozen hEb c24).trans fc24
              have c25 := Ext.cell hEb c24
              have fc26 := (Ext.frozen hEb cV23).trans fV23
              have c26 := Ext.cell hEb cV23
              refine Mtree.stepT fun K1 hK1 => ?_
              go_simp
              refine hK1 _ _ ?_
              clear hK1 K1
              refine Mtree.stepT fun K1 hK1 => ?_
              go_simp
              refine hK1 _ _ ?_
              clear hK1 K1
              refine Mtree.fin ?_
              refine hK _ _ ⟨by simp [AllEq, go_sem], ?_⟩
              exact ⟨ba, bb, _, _, by go_simp, by go_simp, reach_leaf (by repeat (first | assumption | exact Ext.refl _ | refine Ext.drew ?_ | refine Ext.alloc ?_ _ | refine Ext.trans ?_ (by assumption))) (by (try simp only [World.size_drew] at s1); omega) (by (try simp only [World.size_drew] at s1); omega) (by (try simp only [World.size_drew] at s1); omega) (by first | assumption | exact Ext.cell (by assumption) (by assumption) | exact Ext.cell (by assumption) (Ext.cell (by assumption) (by assumption)) | exact Ext.cell (by assumption) (Ext.cell (by assumption) (Ext.cell (by assumption) (by assumption))) | exact Ext.cell (by assumption) (Ext.cell (by assumption) (Ext.cell (by assumption) (Ext.cell (by assumption) (by assumption))))) (by first | assumption | exact Ext.cell (by assumption) (by assumption) | exact Ext.cell (by assumption) (Ext.cell (by assumption) (by assumption)) | exact Ext.cell (by assumption) (Ext.cell (by assumption) (Ext.cell (by assumption) (by assumption))) | exact Ext.cell (by assumption) (Ext.cell (by assumption) (Ext.cell (by assumption) (Ext.cell (by assumption) (by assumption))))) (hRa.ext (by repeat (first | assumption | exact Ext.refl _ | refine Ext.drew ?_ | refine Ext.alloc ?_ _ | refine Ext.trans ?_ (by assumption)))) (hRb.ext (by repeat (first | assumption | exact Ext.refl _ | refine Ext.drew ?_ | refine Ext.alloc ?_ _ | refine Ext.trans ?_ (by assumption)))) (by first | assumption | exact Ext.cell (by assumption) (by assumption) | exact Ext.cell (by assumption) (Ext.cell (by assumption) (by assumption)) | exact Ext.cell (by assumption) (Ext.cell (by assumption) (Ext.cell (by assumption) (by assumption))) | exact Ext.cell (by assumption) (Ext.cell (by assumption) (Ext.cell (by assumption) (Ext.cell (by assumption) (by assumption))))) (by first | assumption | exact Ext.cell (by assumption) (by assumption) | exact Ext.cell (by assumption) (Ext.cell (by assumption) (by assumption)) | exact Ext.cell (by assumption) (Ext.cell (by assumption) (Ext.cell (by assumption) (by assumption))) | exact Ext.cell (by assumption) (Ext.cell (by assumption) (Ext.cell (by assumption) (Ext.cell (by assumption) (by assumption)))))⟩
      · skip
        refine Mtree.two ?_ ?_
        · skip
          refine Mtree.step fun K1 hK1 => ?_
          go_simp
          refine hK1 _ _ (by first | exact (Ext.refl _).alloc _ | exact Ext.refl _) ?_
          clear hK1 K1
          first | refine Mtree.abs fun V27 hV27 sV27 hVc hVf => ?_ | refine Mtree.absD fun V27 hV27 sV27 hVc hVf => ?_
          have cV27 := hVc 0 _ rfl
          have fV27 := hVf 0
          clear hVc hVf
          refine Mtree.two ?_ ?_
          · skip
            refine Mtree.step fun K1 hK1 => ?_
            go_simp
            refine Wcall (.inl rfl) (timed_c a o _ (hO3.ext (by repeat (first | assumption | exact Ext.refl _ | refine Ext.drew ?_ | refine Ext.alloc ?_ _ | refine Ext.trans ?_ (by assumption))))) ?_
            rintro v u1 ⟨ba, rfl, hRa, hEa⟩
            have s1 := Below.size hEa
            go_simp
            refine hK1 _ _ (by assumption) ?_
            clear hK1 K1
            have fc28 := (Ext.frozen hEa cV27).trans fV27
            have c28 := Ext.cell hEa cV27
            refine Mtree.two ?_ ?_
            · skip
              refine Mtree.step fun K1 hK1 => ?_
              go_simp
              refine Wcall (.inl rfl) (timed_c am om _ (hOm3.ext (by repeat (first | assumption | exact Ext.refl _ | refine Ext.drew ?_ | refine Ext.alloc ?_ _ | refine Ext.trans ?_ (by assumption))))) ?_
              rintro v u2 ⟨bb, rfl, hRb, hEb⟩
              have s2 := Below.size hEb
              go_simp
              refine hK1 _ _ (by assumption) ?_
              clear hK1 K1
              have fc29 := (Ext.frozen hEb c28).trans fc28
              have c29 := Ext.cell hEb c28
              refine Mtree.step fun K1 hK1 => ?_
              go_simp
              refine hK1 _ _ (by first | exact (Ext.refl _).alloc _ | exact Ext.refl _) ?_
              clear hK1 K1
              first | refine Mtree.abs fun V30 hV30 sV30 hVc hVf => ?_ | refine Mtree.absD fun V30 hV30 sV30 hVc hVf => ?_
              have cV30 := hVc 0 _ rfl
              have fV30 := hVf 0
              clear hVc hVf
              have fc31 := (Ext.frozen hV30 c29).trans fc29
              have c31 := Ext.cell hV30 c29
              refine Mtree.stepT fun K1 hK1 => ?_
              go_simp
              refine hK1 _ _ ?_
              clear hK1 K1
              refine Mtree.stepT fun K1 hK1 => ?_
              go_simp
              refine hK1 _ _ ?_
              clear hK1 K1
              refine Mtree.fin ?_
              refine hK _ _ ⟨by simp [AllEq, go_sem], ?_⟩
              exact ⟨ba, bb, _, _, by go_simp, by go_simp, reach_leaf (by repeat (first | assumption | exact Ext.refl _ | refine Ext.drew ?_ | refine Ext.alloc ?_ _ | refine Ext.trans ?_ (by assumption))) (by (try simp only [World.size_drew] at s1); omega) (by (try simp only [World.size_drew] at s1); omega) (by (try simp only [World.size_drew] at s1); omega) (by first | assumption | exact Ext.cell (by assumption) (by assumption) | exact Ext.cell (by assumption) (Ext.cell (by assumption) (by assumption)) | exact Ext.cell (by assumption) (Ext.cell (by assumption) (Ext.cell (by assumption) (by assumption))) | exact Ext.cell (by assumption) (Ext.cell (by assumption) (Ext.cell (by assumption) (Ext.cell (by assumption) (by assumption))))) (by first | assumption | exact Ext.cell (by assumption) (by assumption) | exact Ext.cell (by assumption) (Ext.cell (by assumption) (by assumption)) | exact Ext.cell (by assumption) (Ext.cell (by assumption) (Ext.cell (by assumption) (by assumption))) | exact Ext.cell (by assumption) (Ext.cell (by assumption) (Ext.cell (by assumption) (Ext.cell (by assumption) (by assumption))))) (hRa.ext (by repeat (first | assumption | exact Ext.refl _ | refine Ext.drew ?_ | refine Ext.alloc ?_ _ | refine Ext.trans ?_ (by assumption)))) (hRb.ext (by repeat (first | assumption | exact Ext.refl _ | refine Ext.drew ?_ | refine Ext.alloc ?_ _ | refine Ext.trans ?_ (by assumption)))) (by first | assumption | exact Ext.cell (by assumption) (by assumption) | exact Ext.cell (by assumption) (Ext.cell (by assumption) (by assumption)) | exact Ext.cell (by assumption) (Ext.cell (by assumption) (Ext.cell (by assumption) (by assumption))) | exact Ext.cell (by assumption) (Ext.cell (by assumption) (Ext.cell (by assumption) (Ext.cell (by assumption) (by assumption))))) (by first | assumption | exact Ext.cell (by assumption) (by assumption) | exact Ext.cell (by assumption) (Ext.cell (by assumption) (by assumption)) | exact Ext.cell (by assumption) (Ext.cell (by assumption) (Ext.cell (by assumption) (by assumption))) | exact Ext.cell (by assumption) (Ext.cell (by assumption) (Ext.cell (by assumption) (Ext.cell (by assumption) (by assumption)))))⟩
            · skip
              refine Mtree.step fun K1 hK1 => ?_
              go_simp
              refine hK1 _ _ (by first | exact (Ext.refl _).alloc _ | exact Ext.refl _) ?_
              clear hK1 K1
              first | refine Mtree.abs fun V32 hV32 sV32 hVc hVf => ?_ | refine Mtree.absD fun V32 hV32 sV32 hVc hVf => ?_
              have cV32 := hVc 0 _ rfl
              have fV32 := hVf 0
              clear hVc hVf
              have fc33 := (Ext.frozen hV32 c28).trans fc28
              have c33 := Ext.cell hV32 c28
              refine Mtree.step fun K1 hK1 => ?_
              go_simp
              refine Wcall (.inl rfl) (timed_c am om _ (hOm3.ext (by repeat (first | assumption | exact Ext.refl _ | refine Ext.drew ?_ | refine Ext.alloc ?_ _ | refine Ext.trans ?_ (by assumption))))) ?_
              rintro v u2 ⟨bb, rfl, hRb, hEb⟩
              have s2 := Below.size hEb
              go_simp
              refine hK1 _ _ (by assumption) ?_
              clear hK1 K1
              have fc34 := (Ext.frozen hEb c33).trans fc33
              have c34 := Ext.cell hEb c33
              have fc35 := (Ext.frozen hEb cV32).trans fV32
              have c35 := Ext.cell hEb cV32
              refine Mtree.stepT fun K1 hK1 => ?_
              go_simp
              refine hK1 _ _ ?_
              clear hK1 K1
              refine Mtree.stepT fun K1 hK1 => ?_
              go_simp
              refine hK1 _ _ ?_
              clear hK1 K1
              refine Mtree.fin ?_
              refine hK _ _ ⟨by simp [AllEq, go_sem], ?_⟩
              exact ⟨ba, bb, _, _, by go_simp, by go_simp, reach_leaf (by repeat (first | assumption | exact Ext.refl _ | refine Ext.drew ?_ | refine Ext.alloc ?_ _ | refine Ext.trans ?_ (by assumption))) (by (try simp only [World.size_drew] at s1); omega) (by (try simp only [World.size_drew] at s1); omega) (by (try simp only [World.size_drew] at s1); omega) (by first | assumption | exact Ext.cell (by assumption) (by assumption) | exact Ext.cell (by assumption) (Ext.cell (by assumption) (by assumption)) | exact Ext.cell (by assumption) (Ext.cell (by assumption) (Ext.cell (by assumption) (by assumption))) | exact Ext.cell (by assumption) (Ext.cell (by assumption) (Ext.cell (by assumption) (Ext.cell (by assumption) (by assumption))))) (by first | assumption | exact Ext.cell (by assumption) (by assumption) | exact Ext.cell (by assumption) (Ext.cell (by assumption) (by assumption)) | exact Ext.cell (by assumption) (Ext.cell (by assumption) (Ext.cell (by assumption) (by assumption))) | exact Ext.cell (by assumption) (Ext.cell (by assumption) (Ext.cell (by assumption) (Ext.cell (by assumption) (by assumption))))) (hRa.ext (by repeat (first | assumption | exact Ext.refl _ | refine Ext.drew ?_ | refine Ext.alloc ?_ _ | refine Ext.trans ?_ (by assumption)))) (hRb.ext (by repeat (first | assumption | exact Ext.refl _ | refine Ext.drew ?_ | refine Ext.alloc ?_ _ | refine Ext.trans ?_ (by assumption)))) (by first | assumption | exact Ext.cell (by assumption) (by assumption) | exact Ext.cell (by assumption) (Ext.cell (by assumption) (by assumption)) | exact Ext.cell (by assumption) (Ext.cell (by assumption) (Ext.cell (by assumption) (by assumption))) | exact Ext.cell (by assumption) (Ext.cell (by assumption) (Ext.cell (by assumption) (Ext.cell (by assumption) (by assumption))))) (by first | assumption | exact Ext.cell (by assumption) (by assumption) | exact Ext.cell (by assumption) (Ext.cell (by assumption) (by assumption)) | exact Ext.cell (by assumption) (Ext.cell (by assumption) (Ext.cell (by assumption) (by assumption))) | exact Ext.cell (by assumption) (Ext.cell (by assumption) (Ext.cell (by assumption) (Ext.cell (by assumption) (by assumption)))))⟩
          · skip
            refine Mtree.step fun K1 hK1 => ?_
            go_simp
            refine hK1 _ _ (by first | exact (Ext.refl _).alloc _ | exact Ext.refl _) ?_
            clear hK1 K1
            first | refine Mtree.abs fun V36 hV36 sV36 hVc hVf => ?_ | refine Mtree.absD fun V36 hV36 sV36 hVc hVf => ?_
            have cV36 := hVc 0 _ rfl
            have fV36 := hVf 0
            clear hVc hVf
            have fc37 := (Ext.frozen hV36 cV27).trans fV27
            have c37 := Ext.cell hV36 cV27
            refine Mtree.step fun K1 hK1 => ?_
            go_simp
            refine Wcall (.inl rfl) (timed_c a o _ (hO3.ext (by repeat (first | assumption | exact Ext.refl _ | refine Ext.drew ?_ | refine Ext.alloc ?_ _ | refine Ext.trans ?_ (by assumption))))) ?_
            rintro v u1 ⟨ba, rfl, hRa, hEa⟩
            have s1 := Below.size hEa
            go_simp
            refine hK1 _ _ (by assumption) ?_
            clear hK1 K1
            have fc38 := (Ext.frozen hEa c37).trans fc37
            have c38 := Ext.cell hEa c37
            have fc39 := (Ext.frozen hEa cV36).trans fV36
            have c39 := Ext.cell hEa cV36
            refine Mtree.step fun K1 hK1 => ?_
            go_simp
            refine Wcall (.inl rfl) (timed_c am om _ (hOm3.ext (by repeat (first | assumption | exact Ext.refl _ | refine Ext.drew ?_ | refine Ext.alloc ?_ _ | refine Ext.trans ?_ (by assumption))))) ?_
            rintro v u2 ⟨bb, rfl, hRb, hEb⟩
            have s2 := Below.size hEb
            go_simp
            refine hK1 _ _ (by assumption) ?_
            clear hK1 K1
            have fc40 := (Ext.frozen hEb c38).trans fc38
            have c40 := Ext.cell hEb c38
            have fc41 := (Ext.frozen hEb c39).trans fc39
            have c41 := Ext.cell hEb c39
            refine Mtree.stepT fun K1 hK1 => ?_
            go_simp
            refine hK1 _ _ ?_
            clear hK1 K1
            refine Mtree.stepT fun K1 hK1 => ?_
            go_simp
            refine hK1 _ _ ?_
            clear hK1 K1
            refine Mtree.fin ?_
            refine hK _ _ ⟨by simp [AllEq, go_sem], ?_⟩
            exact ⟨ba, bb, _, _, by go_simp, by go_simp, reach_leaf (by repeat (first | assumption | exact Ext.refl _ | refine Ext.drew ?_ | refine Ext.alloc ?_ _ | refine Ext.trans ?_ (by assumption))) (by (try simp only [World.size_drew] at s1); omega) (by (try simp only [World.size_drew] at s1); omega) (by (try simp only [World.size_drew] at s1); omega) (by first | assumption | exact Ext.cell (by assumption) (by assumption) | exact Ext.cell (by assumption) (Ext.cell (by assumption) (by assumption)) | exact Ext.cell (by assumption) (Ext.cell (by assumption) (Ext.cell (by assumption) (by assumption))) | exact Ext.cell (by assumption) (Ext.cell (by assumption) (Ext.cell (by assumption) (Ext.cell (by assumption) (by assumption))))) (by first | assumption | exact Ext.cell (by assumption) (by assumption) | exact Ext.cell (by assumption) (Ext.cell (by assumption) (by assumption)) | exact Ext.cell (by assumption) (Ext.cell (by assumption) (Ext.cell (by assumption) (by assumption))) | exact Ext.cell (by assumption) (Ext.cell (by assumption) (Ext.cell (by assumption) (Ext.cell (by assumption) (by assumption))))) (hRa.ext (by repeat (first | assumption | exact Ext.refl _ | refine Ext.drew ?_ | refine Ext.alloc ?_ _ | refine Ext.trans ?_ (by assumption)))) (hRb.ext (by repeat (first | assumption | exact Ext.refl _ | refine Ext.drew ?_ | refine Ext.alloc ?_ _ | refine Ext.trans ?_ (by assumption)))) (by first | assumption | exact Ext.cell (by assumption) (by assumption) | exact Ext.cell (by assumption) (Ext.cell (by assumption) (by assumption)) | exact Ext.cell (by assumption) (Ext.cell (by assumption) (Ext.cell (by assumption) (by assumption))) | exact Ext.cell (by assumption) (Ext.cell (by assumption) (Ext.cell (by assumption) (Ext.cell (by assumption) (by assumption))))) (by first | assumption | exact Ext.cell (by assumption) (by assumption) | exact Ext.cell (by assumption) (Ext.cell (by assumption) (by assumption)) | exact Ext.cell (by assumption) (Ext.cell (by assumption) (Ext.cell (by assumption) (by assumption))) | exact Ext.cell (by assumption) (Ext.cell (by assumption) (Ext.cell (by assumption) (Ext.cell (by assumption) (by assumption)))))⟩
        · skip
          refine Mtree.step fun K1 hK1 => ?_
          go_simp
          refine hK1 _ _ (by first | exact (Ext.refl _).alloc _ | exact Ext.refl _) ?_
          clear hK1 K1
          first | refine Mtree.abs fun V42 hV42 sV42 hVc hVf => ?_ | refine Mtree.absD fun V42 hV42 sV42 hVc hVf => ?_
          have cV42 := hVc 0 _ rfl
          have fV42 := hVf 0
          clear hVc hVf
          refine Mtree.two ?_ ?_
          · skip
            refine Mtree.step fun K1 hK1 => ?_
            go_simp
            refine Wcall (.inl rfl) (timed_c a o _ (hO3.ext (by repeat (first | assumption | exact Ext.refl _ | refine Ext.drew ?_ | refine Ext.alloc ?_ _ | refine Ext.trans ?_ (by assumption))))) ?_
            rintro v u1 ⟨ba, rfl, hRa, hEa⟩
            have s1 := Below.size hEa
            go_simp
            refine hK1 _ _ (by assumption) ?_
            clear hK1 K1
            have fc43 := (Ext.frozen hEa cV42).trans fV42
            have c43 := Ext.cell hEa cV42
            refine Mtree.two ?_ ?_
            · skip
              refine Mtree.step fun K1 hK1 => ?_
              go_simp
              refine Wcall (.inl rfl) (timed_c am om _ (hOm3.ext (by repeat (first | assumption | exact Ext.refl _ | refine Ext.drew ?_ | refine Ext.alloc ?_ _ | refine Ext.trans ?_ (by assumption))))) ?_
              rintro v u2 ⟨bb, rfl, hRb, hEb⟩
              have s2 := Below.size hEb
              go_simp
              refine hK1 _ _ (by assumption) ?_
              clear hK1 K1
              have fc44 := (Ext.frozen hEb c43).trans fc43
              have c44 := Ext.cell hEb c43
              refine Mtree.step fun K1 hK1 => ?_
              go_simp
              refine hK1 _ _ (by first | exact (Ext.refl _).alloc _ | exact Ext.refl _) ?_
              clear hK1 K1
              first | refine Mtree.abs fun V45 hV45 sV45 hVc hVf => ?_ | refine Mtree.absD fun V45 hV45 sV45 hVc hVf => ?_
              have cV45 := hVc 0 _ rfl
              have fV45 := hVf 0
              clear hVc hVf
              have fc46 := (Ext.frozen hV45 c44).trans fc44
              have c46 := Ext.cell hV45 c44
              refine Mtree.stepT fun K1 hK1 => ?_
              go_simp
              refine hK1 _ _ ?_
              clear hK1 K1
              refine Mtree.stepT fun K1 hK1 => ?_
              go_simp
              refine hK1 _ _ ?_
              clear hK1 K1
              refine Mtree.fin ?_
              refine hK _ _ ⟨by simp [AllEq, go_sem], ?_⟩
              exact ⟨ba, bb, _, _, by go_simp, by go_simp, reach_leaf (by repeat (first | assumption | exact Ext.refl _ | refine Ext.drew ?_ | refine Ext.alloc ?_ _ | refine Ext.trans ?_ (by assumption))) (by (try simp only [World.size_drew] at s1); omega) (by (try simp only [World.size_drew] at s1); omega) (by (try simp only [World.size_drew] at s1); omega) (by first | assumption | exact Ext.cell (by assumption) (by assumption) | exact Ext.cell (by assumption) (Ext.cell (by assumption) (by assumption)) | exact Ext.cell (by assumption) (Ext.cell (by assumption) (Ext.cell (by assumption) (by assumption))) | exact Ext.cell (by assumption) (Ext.cell (by assumption) (Ext.cell (by assumption) (Ext.cell (by assumption) (by assumption))))) (by first | assumption | exact Ext.cell (by assumption) (by assumption) | exact Ext.cell (by assumption) (Ext.cell (by assumption) (by assumption)) | exact Ext.cell (by assumption) (Ext.cell (by assumption) (Ext.cell (by assumption) (by assumption))) | exact Ext.cell (by assumption) (Ext.cell (by assumption) (Ext.cell (by assumption) (Ext.cell (by assumption) (by assumption))))) (hRa.ext (by repeat (first | assumption | exact Ext.refl _ | refine Ext.drew ?_ | refine Ext.alloc ?_ _ | refine Ext.trans ?_ (by assumption)))) (hRb.ext (by repeat (first | assumption | exact Ext.refl _ | refine Ext.drew ?_ | refine Ext.alloc ?_ _ | refine Ext.trans ?_ (by assumption)))) (by first | assumption | exact Ext.cell (by assumption) (by assumption) | exact Ext.cell (by assumption) (Ext.cell (by assumption) (by assumption)) | exact Ext.cell (by assumption) (Ext.cell (by assumption) (Ext.cell (by assumption) (by assumption))) | exact Ext.cell (by assumption) (Ext.cell (by assumption) (Ext.cell (by assumption) (Ext.cell (by assumption) (by assumption))))) (by first | assumption | exact Ext.cell (by assumption) (by assumption) | exact Ext.cell (by assumption) (Ext.cell (by assumption) (by assumption)) | exact Ext.cell (by assumption) (Ext.cell (by assumption) (Ext.cell (by assumption) (by assumption))) | exact Ext.cell (by assumption) (Ext.cell (by assumption) (Ext.cell (by assumption) (Ext.cell (by assumption) (by assumption)))))⟩
            · skip
              refine Mtree.step fun K1 hK1 => ?_
              go_simp
              refine hK1 _ _ (by first | exact (Ext.refl _).alloc _ | exact Ext.refl _) ?_
              clear hK1 K1
              first | refine Mtree.abs fun V47 hV47 sV47 hVc hVf => ?_ | refine Mtree.absD fun V47 hV47 sV47 hVc hVf => ?_
              have cV47 := hVc 0 _ rfl
              have fV47 := hVf 0
              clear hVc hVf
              have fc48 := (Ext.frozen hV47 c43).trans fc43
              have c48 := Ext.cell hV47 c43
              refine Mtree.step fun K1 hK1 => ?_
              go_simp
              refine Wcall (.inl rfl) (timed_c am om _ (hOm3.ext (by repeat (first | assumption | exact Ext.refl _ | refine Ext.drew ?_ | refine Ext.alloc ?_ _ | refine Ext.trans ?_ (by assumption))))) ?_
              rintro v u2 ⟨bb, rfl, hRb, hEb⟩
              have s2 := Below.size hEb
              go_simp
              refine hK1 _ _ (by assumption) ?_
              clear hK1 K1
              have fc49 := (Ext.frozen hEb c48).trans fc48
              have c49 := Ext.cell hEb c48
              have fc50 := (Ext.frozen hEb cV47).trans fV47
              have c50 := Ext.cell hEb cV47
              refine Mtree.stepT fun K1 hK1 => ?_
              go_simp
              refine hK1 _ _ ?_
              clear hK1 K1
              refine Mtree.stepT fun K1 hK1 => ?_
              go_simp
              refine hK1 _ _ ?_
              clear hK1 K1
              refine Mtree.fin ?_
              refine hK _ _ ⟨by simp [AllEq, go_sem], ?_⟩
              exact ⟨ba, bb, _, _, by go_simp, by go_simp, reach_leaf (by repeat (first | assumption | exact Ext.refl _ | refine Ext.drew ?_ | refine Ext.alloc ?_ _ | refine Ext.trans ?_ (by assumption))) (by (try simp only [World.size_drew] at s1); omega) (by (try simp only [World.size_drew] at s1); omega) (by (try simp only [World.size_drew] at s1); omega) (by first | assumption | exact Ext.cell (by assumption) (by assumption) | exact Ext.cell (by assumption) (Ext.cell (by assumption) (by assumption)) | exact Ext.cell (by assumption) (Ext.cell (by assumption) (Ext.cell (by assumption) (by assumption))) | exact Ext.cell (by assumption) (Ext.cell (by assumption) (Ext.cell (by assumption) (Ext.cell (by assumption) (by assumption))))) (by first | assumption | exact Ext.cell (by assumption) (by assumption) | exact Ext.cell (by assumption) (Ext.cell (by assumption) (by assumption)) | exact Ext.cell (by assumption) (Ext.cell (by assumption) (Ext.cell (by assumption) (by assumption))) | exact Ext.cell (by assumption) (Ext.cell (by assumption) (Ext.cell (by assumption) (Ext.cell (by assumption) (by assumption))))) (hRa.ext (by repeat (first | assumption | exact Ext.refl _ | refine Ext.drew ?_ | refine Ext.alloc ?_ _ | refine Ext.trans ?_ (by assumption)))) (hRb.ext (by repeat (first | assumption | exact Ext.refl _ | refine Ext.drew ?_ | refine Ext.alloc ?_ _ | refine Ext.trans ?_ (by assumption)))) (by first | assumption | exact Ext.cell (by assumption) (by assumption) | exact Ext.cell (by assumption) (Ext.cell (by assumption) (by assumption)) | exact Ext.cell (by assumption) (Ext.cell (by assumption) (Ext.cell (by assumption) (by assumption))) | exact Ext.cell (by assumption) (Ext.cell (by assumption) (Ext.cell (by assumption) (Ext.cell (by assumption) (by assumption))))) (by first | assumption | exact Ext.cell (by assumption) (by assumption) | exact Ext.cell (by assumption) (Ext.cell (by assumption) (by assumption)) | exact Ext.cell (by assumption) (Ext.cell (by assumption) (Ext.cell (by assumption) (by assumption))) | exact Ext.cell (by assumption) (Ext.cell (by assumption) (Ext.cell (by assumption) (Ext.cell (by assumption) (by assumption)))))⟩
          · skip
            refine Mtree.step fun K1 hK1 => ?_
            go_simp
            refine hK1 _ _ (by first | exact (Ext.refl _).alloc _ | exact Ext.refl _) ?_
            clear hK1 K1
            first | refine Mtree.abs fun V51 hV51 sV51 hVc hVf => ?_ | refine Mtree.absD fun V51 hV51 sV51 hVc hVf => ?_
            have cV51 := hVc 0 _ rfl
            have fV51 := hVf 0
            clear hVc hVf
            have fc52 := (Ext.frozen hV51 cV42).trans fV42
            have c52 := Ext.cell hV51 cV42
            refine Mtree.step fun K1 hK1 => ?_
            go_simp
            refine Wcall (.inl rfl) (timed_c a o _ (hO3.ext (by repeat (first | assumption | exact Ext.refl _ | refine Ext.drew ?_ | refine Ext.alloc ?_ _ | refine Ext.trans ?_ (by assumption))))) ?_
            rintro v u1 ⟨ba, rfl, hRa, hEa⟩
            have s1 := Below.size hEa
            go_simp
            refine hK1 _ _ (by assumption) ?_
            clear hK1 K1
            have fc53 := (Ext.frozen hEa c52).trans fc52
            have c53 := Ext.cell hEa c52
            have fc54 := (Ext.frozen hEa cV51).trans fV51
            have c54 := Ext.cell hEa cV51
            refine Mtree.step fun K1 hK1 => ?_
            go_simp
            refine Wcall (.inl rfl) (timed_c am om _ (hOm3.ext (by repeat (first | assumption | exact Ext.refl _ | refine Ext.drew ?_ | refine Ext.alloc ?_ _ | refine Ext.trans ?_ (by assumption))))) ?_
            rintro v u2 ⟨bb, rfl, hRb, hEb⟩
            have s2 := Below.size hEb
            go_simp
            refine hK1 _ _ (by assumption) ?_
            clear hK1 K1
            have fc55 := (Ext.frozen hEb c53).trans fc53
            have c55 := Ext.cell hEb c53
            have fc56 := (Ext.frozen hEb c54).trans fc54
            have c56 := Ext.cell hEb c54
            refine Mtree.stepT fun K1 hK1 => ?_
            go_simp
            refine hK1 _ _ ?_
            clear hK1 K1
            refine Mtree.stepT fun K1 hK1 => ?_
            go_simp
            refine hK1 _ _ ?_
            clear hK1 K1
            refine Mtree.fin ?_
            refine hK _ _ ⟨by simp [AllEq, go_sem], ?_⟩
            exact ⟨ba, bb, _, _, by go_simp, by go_simp, reach_leaf (by repeat (first | assumption | exact Ext.refl _ | refine Ext.drew ?_ | refine Ext.alloc ?_ _ | refine Ext.trans ?_ (by assumption))) (by (try simp only [World.size_drew] at s1); omega) (by (try simp only [World.size_drew] at s1); omega) (by (try simp only [World.size_drew] at s1); omega) (by first | assumption | exact Ext.cell (by assumption) (by assumption) | exact Ext.cell (by assumption) (Ext.cell (by assumption) (by assumption)) | exact Ext.cell (by assumption) (Ext.cell (by assumption) (Ext.cell (by assumption) (by assumption))) | exact Ext.cell (by assumption) (Ext.cell (by assumption) (Ext.cell (by assumption) (Ext.cell (by assumption) (by assumption))))) (by first | assumption | exact Ext.cell (by assumption) (by assumption) | exact Ext.cell (by assumption) (Ext.cell (by assumption) (by assumption)) | exact Ext.cell (by assumption) (Ext.cell (by assumption) (Ext.cell (by assumption) (by assumption))) | exact Ext.cell (by assumption) (Ext.cell (by assumption) (Ext.cell (by assumption) (Ext.cell (by assumption) (by assumption))))) (hRa.ext (by repeat (first | assumption | exact Ext.refl _ | refine Ext.drew ?_ | refine Ext.alloc ?_ _ | refine Ext.trans ?_ (by assumption)))) (hRb.ext (by repeat (first | assumption | exact Ext.refl _ | refine Ext.drew ?_ | refine Ext.alloc ?_ _ | refine Ext.trans ?_ (by assumption)))) (by first | assumption | exact Ext.cell (by assumption) (by assumption) | exact Ext.cell (by assumption) (Ext.cell (by assumption) (by assumption)) | exact Ext.cell (by assumption) (Ext.cell (by assumption) (Ext.cell (by assumption) (by assumption))) | exact Ext.cell (by assumption) (Ext.cell (by assumption) (Ext.cell (by assumption) (Ext.cell (by assumption) (by assumption))))) (by first | assumption | exact Ext.cell (by assumption) (by assumption) | exact Ext.cell (by assumption) (Ext.cell (by assumption) (by assumption)) | exact Ext.cell (by assumption) (Ext.cell (by assumption) (Ext.cell (by assumption) (by assumption))) | exact Ext.cell (by assumption) (Ext.cell (by assumption) (Ext.cell (by assumption) (Ext.cell (by assumption) (by assumption)))))⟩
    · rintro r57 W ⟨hA, ⟨ba, bb, b1, b2, e10, e11, h1, h2, h3, h4, h5, h6, h7⟩⟩
      obtain ⟨e3_57, -⟩ := hA
      rw [e3_4] at e3_57
      clear e3_4 e8_4 e9_4 e20_4
      refine Wp.seqRegion (.inl rfl) (by kernel_rfl) fun K' gd hK hg => ?_
      clear hg
      go_simp
      refine Wcall (.inl rfl) (chosen_c a o (fun x => decide (begA om x.1 x.2 > begA o x.1 x.2)) 60 #[.pointer (some ⟨b2, 0, none⟩), .pointer (some ⟨b1, 0, none⟩)] _ (by have := ho.hn2; omega) (by have := ho.hm2; omega) (enters_of Try.func60 (by kernel_rfl) rfl) (fun x hx1 hx2 W2 hW => reach1_c o om a am b1 b2 ba bb x.1 x.2 W2 ho (hW.cell h2) (hW.cell h3) (h4.ext hW) (h5.ext hW) hx1 hx2)) ?_
      rintro v w5 ⟨hL, hE5⟩
      go_simp
      refine hK _ _ ?_
      clear hK K' gd
      refine Wp.keep [6, 7] fun r58 hkeep => ?_
      obtain ⟨e6_58, e7_58, -⟩ := hkeep
      simp [go_sem, e3_57, e10, e11] at e6_58 e7_58
      clear e3_57 e10 e11
      refine Wp.ret ?_
      refine endK_tmp2 Try.results21 (by decide) (by decide) ?_
      rw [e6_58, e7_58]
      refine ⟨_, by rw [h0], ?_, (by repeat (first | assumption | exact Ext.refl _ | refine Ext.drew ?_ | refine Ext.alloc ?_ _ | refine Ext.trans ?_ (by assumption)))⟩
      rw [if_pos h0, reachL, hom3]; exact ownsRow_less hL (Below.size h1)
  · skip
    refine Wp.seq ?_
    refine Wp.seqRegion (.inl rfl) (by kernel_rfl) fun K' gd hK hg => ?_
    clear hg
    go_simp
    refine hK _ _ ?_
    clear hK K' gd
    refine Wp.keep [3, 8, 9, 20] fun r59 hkeep => ?_
    obtain ⟨e3_59, e8_59, e9_59, e20_59, -⟩ := hkeep
    simp [go_sem, e3_3, e8_3, e9_3] at e3_59 e8_59 e9_59 e20_59
    clear e3_3 e8_3 e9_3
    refine Wp.condT (by go_simp) ?_
    refine Wp.seqRegion (.inl rfl) (by kernel_rfl) fun K' gd hK hg => ?_
    clear hg
    go_simp
    refine hK _ _ ?_
    clear hK K' gd
    refine Wp.keep [6, 7] fun r60 hkeep => ?_
    obtain ⟨e6_60, e7_60, -⟩ := hkeep
    simp [go_sem, e3_59, e8_59, e9_59, e20_59] at e6_60 e7_60
    clear e3_59 e8_59 e9_59 e20_59
    refine Wp.ret ?_
    refine thenK_ret ?_
    refine endK_tmp2 Try.results21 (by decide) (by decide) ?_
    rw [e6_60, e7_60]
    exact ⟨_, rfl, by rw [if_neg h0]; exact World.ownsRow_nil _ _ _ _, (by repeat (first | assumption | exact Ext.refl _ | refine Ext.drew ?_ | refine Ext.alloc ?_ _ | refine Ext.trans ?_ (by assumption)))⟩
end Go.Proofs.Ytnfagcccgmakdaa
