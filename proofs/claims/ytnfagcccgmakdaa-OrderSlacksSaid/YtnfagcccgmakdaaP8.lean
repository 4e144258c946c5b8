/- A stint that takes more days. OrderReaches. -/
import Derived.Test.YtnfagcccgmakdaaP7
set_option linter.all false
namespace Go.Proofs.Ytnfagcccgmakdaa
open Go.RowKit Go.Wk Go.Proofs
attribute [local irreducible] Go.Wk.Wops Go.Wk.Wp Go.Wk.Mtree Go.Wk.Mops
set_option maxHeartbeats 4000000

/-- o' is o, but one stint takes more days -/
structure More1 (o o' : Ord) (si sj : Nat) (d : Int) : Prop where
  n : o'.n = o.n
  m : o'.m = o.m
  C : ∀ j, o'.C j = o.C j
  A : ∀ i, o'.A i = o.A i
  T : ∀ i j, o'.T i j = if i = si ∧ j = sj then o.T si sj + d else o.T i j
  d0 : 0 ≤ d
section
variable {o o' : Ord} {si sj : Nat} {d : Int}
theorem More1.T_le (h : More1 o o' si sj d) (i j : Nat) : o.T i j ≤ o'.T i j := by
  have := h.d0
  rw [h.T]; split
  · rename_i e; obtain ⟨rfl, rfl⟩ := e; omega
  · exact Int.le_refl _
theorem More1.lower (h : More1 o o' si sj d) (ho : OrdOk o) (ho' : OrdOk o') {i j : Nat} (hi : i < o.n) (hj : j < o.m) : begA o i j ≤ begA o' i j := by
  have hk := beg_keeps ho'
  refine beg_least ho (t := begA o') ⟨fun i hi => ?_, fun i j hi hj => ?_, fun i k j hi hj hc => ?_⟩ (fun i j hi hj => (begA_ok ho' (by rw [h.n]; exact hi) (by rw [h.m]; exact hj)).1) _ i j rfl hi hj
  · have := hk.arr i (by rw [h.n]; exact hi); rwa [h.A] at this
  · have := hk.piece i j (by rw [h.n]; exact hi) (by rw [h.m]; exact hj); have := h.T_le i j; omega
  · have := hk.copy i k j (by rw [h.n]; exact hi) (by rw [h.m]; exact hj) (by rw [h.C]; exact hc); have := h.T_le k j; omega
theorem idx_piece {m i j si sj : Nat} (hj : j + 1 < m) : i * m + j < i * m + (j + 1) := by omega
theorem More1.upper (h : More1 o o' si sj d) (ho : OrdOk o) (ho' : OrdOk o') {i j : Nat} (hi : i < o.n) (hj : j < o.m) : begA o' i j ≤ begA o i j + (if i * o.m + j ≤ si * o.m + sj then 0 else d) := by
  have hk := beg_keeps ho
  have hd := h.d0
  have hn := h.n
  have hm := h.m
  refine beg_least ho' (t := fun i j => begA o i j + (if i * o.m + j ≤ si * o.m + sj then 0 else d)) ⟨fun i hi => ?_, fun i j hi hj => ?_, fun i k j hi hj hc => ?_⟩ (fun i j hi hj => ?_) _ i j rfl (by omega) (by omega)
  · have := hk.arr i (by omega)
    rw [h.A]; split <;> omega
  · have h1 := hk.piece i j (by omega) (by omega)
    rw [h.T]
    by_cases e : i = si ∧ j = sj
    · obtain ⟨rfl, rfl⟩ := e
      rw [if_pos (Nat.le_refl _), if_pos ⟨rfl, rfl⟩, if_neg (by omega)]; omega
    · rw [if_neg e]; split <;> split <;> omega
  · have h1 := hk.copy i k j (by omega) (by omega) (by rw [← h.C]; exact hc)
    have hC := (ho'.vC j hj).1
    have hik : k < i := by omega
    have hx : k * o.m + j < i * o.m + j := by
      have := Nat.mul_lt_mul_of_pos_right hik (show 0 < o.m by omega)
      omega
    rw [h.T]
    by_cases e : k = si ∧ j = sj
    · obtain ⟨rfl, rfl⟩ := e
      rw [if_pos (Nat.le_refl _), if_pos ⟨rfl, rfl⟩, if_neg (by omega)]; omega
    · rw [if_neg e]; split <;> split <;> omega
  · have := (begA_ok ho (i := i) (j := j) (by omega) (by omega)).1
    split <;> omega
theorem More1.end_le (h : More1 o o' si sj d) (ho : OrdOk o) (ho' : OrdOk o') (hs : si < o.n ∧ sj < o.m) : endS o ≤ endS o' ∧ endS o' ≤ endS o + d := by
  have hd := h.d0
  have hn := h.n
  have hm := h.m
  refine ⟨_root_.Go.Proofs.Ytnfagcccgmakdaa.end_le end_nonneg fun i j hi hj => ?_, _root_.Go.Proofs.Ytnfagcccgmakdaa.end_le (by have := end_nonneg (o := o); omega) fun i j hi hj => ?_⟩
  · have h1 := h.lower ho ho' hi hj
    have h2 := h.T_le i j
    have h3 := end_ge (o := o') (i := i) (j := j) (by omega) (by omega)
    omega
  · have h1 := h.upper ho ho' (i := i) (j := j) (by omega) (by omega)
    have h3 := end_ge (o := o) (i := i) (j := j) (by omega) (by omega)
    rw [h.T]
    by_cases e : i = si ∧ j = sj
    · obtain ⟨rfl, rfl⟩ := e
      rw [if_pos ⟨rfl, rfl⟩]
      rw [if_pos (Nat.le_refl _)] at h1; omega
    · rw [if_neg e]; split at h1 <;> omega
end
theorem delay_more {o : Ord} (hg : OrdGood o) {si sj : Nat} {d : Int} (hi : si < o.n) (hj : sj < o.m) (hd : 0 ≤ d) : More1 o (o.setT si sj (o.T si sj + d)) si sj d :=
  ⟨setT_n _ _ _, setT_m _ _ _, fun j => setT_C _ _ _ j, fun i => setT_A _ _ _ i, fun i j => setT_T _ hi (by rw [hg.takes_len hi]; exact hj) i j, hd⟩
theorem stint_nat {o : Ord} {i j : Nat} (hi : i < o.n) (hj : j < o.m) : isStint o (i : Int) (j : Int) = true := by
  unfold isStint; simp; omega
theorem delayE_good {o : Ord} (hg : OrdGood o) {i j : Nat} {d : Int} (hi : i < o.n) (hj : j < o.m) (hd : 0 ≤ d ∧ d ≤ 60) : delayE o (i : Int) (j : Int) d = if o.T i j + d > 60 then 2 else 0 := by
  unfold delayE
  rw [if_pos (askS_good hg (by unfold okDelay; rw [stint_nat hi hj, Bool.true_and]; exact decide_eq_true hd)), Int.toNat_natCast, Int.toNat_natCast]
theorem tabL_same {o o' : Ord} (hn : o'.n = o.n) (hm : o'.m = o.m) (t : Nat → Nat → Int) : tabL o' t = tabL o t := by
  unfold tabL
  rw [hn]
  refine List.map_congr_left fun i _ => ?_
  unfold rowL; rw [hm]
theorem zS_inj {a b : Nat × Nat} (h : zS a = zS b) : a = b := by
  obtain ⟨a1, a2⟩ := a
  obtain ⟨b1, b2⟩ := b
  simp only [zS, Prod.mk.injEq] at h
  rw [show a1 = b1 by omega, show a2 = b2 by omega]
theorem mem_chosen {n m i j : Nat} (p : Nat × Nat → Bool) (hi : i < n) (hj : j < m) : ((i : Int), (j : Int)) ∈ ((stintsL n m).filter p).map zS ↔ p (i, j) = true := by
  rw [List.mem_map]
  constructor
  · rintro ⟨x, hx, e⟩
    have : x = (i, j) := zS_inj (e.trans rfl)
    subst this
    exact (List.mem_filter.1 hx).2
  · intro h
    exact ⟨(i, j), List.mem_filter.2 ⟨stintsL_mem.2 ⟨hi, hj⟩, h⟩, rfl⟩
theorem has_c (lv : Value) (l : List SZ) (i j : Int) (w : World) (hL : StintsV w w.heap.size lv l) (hl : l.length ≤ 1000000) :
    CallsV Try.prog 22 #[lv, .agg #[.int .i64 i, .int .i64 j]] w fun v w' => v = .bool (decide ((i, j) ∈ l)) ∧ Ext w w' := by
  obtain ⟨A1, c1, rfl, hx, -⟩ := id hL
  refine Wp.fn Try.func22 rfl Try.ntmps22 (by simp) ?_
  refine Wp.keep [0, 1] fun r1 hkeep => ?_
  obtain ⟨e0_1, e1_1, -⟩ := hkeep
  simp [go_sem] at e0_1 e1_1
  refine Wp.seqRegion (.inl rfl) (by kernel_rfl) fun K' gd hK hg => ?_
  clear hg
  go_simp
  refine hK _ _ ?_
  clear hK K' gd
  refine Wp.keep [0, 3] fun r2 hkeep => ?_
  obtain ⟨e0_2, e3_2, -⟩ := hkeep
  simp [go_sem, e0_1, e1_1] at e0_2 e3_2
  clear e0_1 e1_1
  refine Wp.seq ?_
  refine Wp.seqRegion (.inl rfl) (by kernel_rfl) fun K' gd hK hg => ?_
  clear hg
  go_simp
  refine hK _ _ ?_
  clear hK K' gd
  refine Wp.keep [0, 3, 5] fun r3 hkeep => ?_
  obtain ⟨e0_3, e3_3, e5_3, -⟩ := hkeep
  simp [go_sem, e0_2, e3_2] at e0_3 e3_3 e5_3
  clear e0_2 e3_2
  refine Wp.block ?_
  refine Wp.loop (fun k ρ ds wk => AllEq [0, 3] ρ r3 ∧ ds = [] ∧ (ρ 5 = .int .i64 (k : Int) ∧ Ext w wk ∧ wk.cell? ⟨w.heap.size, 0, none⟩ = some (.int .i64 i) ∧ wk.cell? ⟨w.heap.size, 1, none⟩ = some (.int .i64 j) ∧ (∀ q (h1 : q < l.length), q < k → l[q] ≠ (i, j)))) (l.length) ?_ ?_
  · refine ⟨AllEq.refl _ _, rfl, ?_⟩
    exact ⟨by rw [e5_3]; rfl, (by repeat (first | assumption | exact Ext.refl _ | refine Ext.drew ?_ | refine Ext.alloc ?_ _ | refine Ext.trans ?_ (by assumption))), by go_simp, by go_simp, fun j _ h => absurd h (Nat.not_lt_zero _)⟩
  · rintro k r4 _ wk hk ⟨hA, rfl, ⟨e5, hEk, x0, x1, hq⟩⟩
    obtain ⟨e0_4, e3_4, -⟩ := hA
    rw [e0_3] at e0_4
    rw [e3_3] at e3_4
    refine Wp.seq ?_
    refine Wp.seqRegion (.inl rfl) (by kernel_rfl) fun K' gd hK hg => ?_
    clear hg
    go_simp
    refine hK _ _ ?_
    clear hK K' gd
    refine Wp.keep [0, 3, 5, 9] fun r5 hkeep => ?_
    obtain ⟨e0_5, e3_5, e5_5, e9_5, -⟩ := hkeep
    simp [go_sem, e0_4, e3_4, e5] at e0_5 e3_5 e5_5 e9_5
    clear e0_4 e3_4 e5
    by_cases h : k < l.length
    · refine Wp.condT (by go_simp) ?_
      obtain ⟨b1, o1, rfl, d1, d2⟩ := StintsV.at hL h
      have d1 := hEk.cell d1
      have d2 := hEk.cell d2
      obtain ⟨⟨y1, y2⟩, hy0⟩ : ∃ y, l[k] = y := ⟨_, rfl⟩
      rw [hy0] at d1 d2
      have b3 : (k : Int) < (l.length : Int) := by omega
      by_cases he : y1 = i
      · skip
        by_cases he2 : y2 = j
        · skip
          subst he he2
          refine Wp.skip ?_
          refine thenK_normal ?_
          refine Wp.seq ?_
          refine Wp.block ?_
          refine Wp.seqDraw (.inl rfl) mixed [([0, 1, 2, 3, 4], none), ([5], none)] (by kernel_rfl) fun K' gd hK hg => ?_
          clear hg
          simp only [pick, nth, List.map_cons, List.map_nil, Option.map_none, Option.map_some]
          apply Mops.none
          · intro w' hE'
            have hC' := hE'.cellsS
            go_simp
            with_reducible rfl
          apply Mops.none
          · intro w' hE'
            have hC' := hE'.cellsS
            go_simp
            with_reducible rfl
          refine Mops.done ?_
          refine hK _ _ ?_
          clear hK K' gd
          refine Wp.keep [0, 3, 5, 17] fun r6 hkeep => ?_
          obtain ⟨e0_6, e3_6, e5_6, e17_6, -⟩ := hkeep
          simp [go_sem, e0_5, e3_5, e5_5, e9_5] at e0_6 e3_6 e5_6 e17_6
          clear e0_5 e3_5 e5_5 e9_5
          refine Wp.condT (by go_simp) ?_
          refine Wp.seqRegion (.inl rfl) (by kernel_rfl) fun K' gd hK hg => ?_
          clear hg
          go_simp
          refine hK _ _ ?_
          clear hK K' gd
          refine Wp.keep [4] fun r7 hkeep => ?_
          obtain ⟨e4_7, -⟩ := hkeep
          simp [go_sem, e0_6, e3_6, e5_6, e17_6] at e4_7
          clear e0_6 e3_6 e5_6 e17_6
          refine Wp.ret ?_
          refine blockK_ret ?_
          refine thenK_ret ?_
          refine thenK_ret ?_
          refine blockK_ret ?_
          refine thenK_ret ?_
          refine endK_tmp Try.results22 (by decide) ?_
          rw [e4_7]
          refine ⟨?_, (by repeat (first | assumption | exact Ext.refl _ | refine Ext.drew ?_ | refine Ext.alloc ?_ _ | refine Ext.trans ?_ (by assumption)))⟩
          rw [decide_eq_true (by rw [← hy0]; exact List.getElem_mem h)]
        · skip
          subst he
          refine Wp.skip ?_
          refine thenK_normal ?_
          refine Wp.seq ?_
          refine Wp.block ?_
          refine Wp.seqDraw (.inl rfl) mixed [([0, 1, 2, 3, 4], none), ([5], none)] (by kernel_rfl) fun K' gd hK hg => ?_
          clear hg
          simp only [pick, nth, List.map_cons, List.map_nil, Option.map_none, Option.map_some]
          apply Mops.none
          · intro w' hE'
            have hC' := hE'.cellsS
            go_simp
            with_reducible rfl
          apply Mops.none
          · intro w' hE'
            have hC' := hE'.cellsS
            go_simp
            with_reducible rfl
          refine Mops.done ?_
          refine hK _ _ ?_
          clear hK K' gd
          refine Wp.keep [0, 3, 5, 17] fun r8 hkeep => ?_
          obtain ⟨e0_8, e3_8, e5_8, e17_8, -⟩ := hkeep
          simp [go_sem, e0_5, e3_5, e5_5, e9_5] at e0_8 e3_8 e5_8 e17_8
          clear e0_5 e3_5 e5_5 e9_5
          refine Wp.condF (by go_simp) ?_
          refine Wp.skip ?_
          refine blockK_normal ?_
          refine thenK_normal ?_
          refine Wp.loneRegion (.inl rfl) (by kernel_rfl) fun K' gd hK hg => ?_
          clear hg
          go_simp
          refine hK _ _ ?_
          clear hK K' gd
          refine Ends.keep [0, 3, 5] fun r9 hkeep => ?_
          obtain ⟨e0_9, e3_9, e5_9, -⟩ := hkeep
          simp [go_sem, e0_8, e3_8, e5_8, e17_8] at e0_9 e3_9 e5_9
          clear e0_8 e3_8 e5_8 e17_8
          refine Ends.mk ?_
          refine thenK_normal ⟨by omega, ⟨by rw [e0_9, e0_3], by rw [e3_9, e3_3], trivial⟩, rfl, ?_⟩
          refine ⟨by rw [e5_9, IntWalk.i64_in _ (by omega)]; rfl, (by repeat (first | assumption | exact Ext.refl _ | refine Ext.drew ?_ | refine Ext.alloc ?_ _ | refine Ext.trans ?_ (by assumption))), by go_simp, by go_simp, fun q h1 hj => ?_⟩
          by_cases e : q = k
          · subst e; rw [hy0]; intro e; injection e with e1 e2; exact he2 e2
          · exact hq q h1 (by omega)
      · skip
        refine Wp.skip ?_
        refine thenK_normal ?_
        refine Wp.seq ?_
        refine Wp.block ?_
        refine Wp.seqDraw (.inl rfl) mixed [([0, 1, 2, 3, 4], none), ([5], none)] (by kernel_rfl) fun K' gd hK hg => ?_
        clear hg
        simp only [pick, nth, List.map_cons, List.map_nil, Option.map_none, Option.map_some]
        apply Mops.none
        · intro w' hE'
          have hC' := hE'.cellsS
          go_simp
          with_reducible rfl
        apply Mops.none
        · intro w' hE'
          have hC' := hE'.cellsS
          go_simp
          with_reducible rfl
        refine Mops.done ?_
        refine hK _ _ ?_
        clear hK K' gd
        refine Wp.keep [0, 3, 5, 17] fun r10 hkeep => ?_
        obtain ⟨e0_10, e3_10, e5_10, e17_10, -⟩ := hkeep
        simp [go_sem, e0_5, e3_5, e5_5, e9_5] at e0_10 e3_10 e5_10 e17_10
        clear e0_5 e3_5 e5_5 e9_5
        refine Wp.condF (by go_simp) ?_
        refine Wp.skip ?_
        refine blockK_normal ?_
        refine thenK_normal ?_
        refine Wp.loneRegion (.inl rfl) (by kernel_rfl) fun K' gd hK hg => ?_
        clear hg
        go_simp
        refine hK _ _ ?_
        clear hK K' gd
        refine Ends.keep [0, 3, 5] fun r11 hkeep => ?_
        obtain ⟨e0_11, e3_11, e5_11, -⟩ := hkeep
        simp [go_sem, e0_10, e3_10, e5_10, e17_10] at e0_11 e3_11 e5_11
        clear e0_10 e3_10 e5_10 e17_10
        refine Ends.mk ?_
        refine thenK_normal ⟨by omega, ⟨by rw [e0_11, e0_3], by rw [e3_11, e3_3], trivial⟩, rfl, ?_⟩
        refine ⟨by rw [e5_11, IntWalk.i64_in _ (by omega)]; rfl, (by repeat (first | assumption | exact Ext.refl _ | refine Ext.drew ?_ | refine Ext.alloc ?_ _ | refine Ext.trans ?_ (by assumption))), by go_simp, by go_simp, fun q h1 hj => ?_⟩
        by_cases e : q = k
        · subst e; rw [hy0]; intro e; injection e with e1 e2; exact he e1
        · exact hq q h1 (by omega)
    · refine Wp.condF (by go_simp) ?_
      refine Wp.exit ?_
      refine thenK_exit ?_
      refine thenK_exit ?_
      refine blockK_here ?_
      refine thenK_normal ?_
      refine Wp.seqRegion (.inl rfl) (by kernel_rfl) fun K' gd hK hg => ?_
      clear hg
      go_simp
      refine hK _ _ ?_
      clear hK K' gd
      refine Wp.keep [4] fun r12 hkeep => ?_
      obtain ⟨e4_12, -⟩ := hkeep
      simp [go_sem, e0_5, e3_5, e5_5, e9_5] at e4_12
      clear e0_5 e3_5 e5_5 e9_5
      refine Wp.ret ?_
      refine endK_tmp Try.results22 (by decide) ?_
      rw [e4_12]
      refine ⟨?_, hEk⟩
      rw [decide_eq_false (fun h' => ?_)]
      obtain ⟨q, h1, h2⟩ := List.getElem_of_mem h'
      exact hq q h1 (by omega) h2
theorem Delayed_g (v : Value) (o : Ord) (i j : Nat) (d : Int) (w : World) (hV : OrderV w w.heap.size v o) (hg : OrdGood o) (hi : i < o.n) (hj : j < o.m) (hd : 0 ≤ d ∧ o.T i j + d ≤ 60) :
    CallsV Try.prog 20 #[v, .agg #[.int .i64 (i : Int), .int .i64 (j : Int)], .int .i64 d] w fun v w' => ∃ v0, v = .tuple #[v0, .int .i64 0] ∧ OrderV w' w'.heap.size v0 (o.setT i j (o.T i j + d)) ∧ Ext w w' :=
  (Delayed_c v o i j d w hV hg.fits).mono fun _ _ ⟨v0, h1, h2, h3⟩ => by
    have ht := (hg.ok.vT i j hi hj).1
    have he : delayE o (i : Int) (j : Int) d = 0 := by rw [delayE_good hg hi hj (by omega), if_neg (by omega)]
    unfold delayO at h2
    rw [he] at h1 h2; rw [if_pos rfl, Int.toNat_natCast, Int.toNat_natCast] at h2
    exact ⟨v0, h1, h2, h3⟩
theorem Reach_g (v : Value) (o : Ord) (i j : Nat) (d : Int) (w : World) (hV : OrderV w w.heap.size v o) (hg : OrdGood o) (hi : i < o.n) (hj : j < o.m) (hd : 0 ≤ d ∧ o.T i j + d ≤ 60) :
    CallsV Try.prog 21 #[v, .agg #[.int .i64 (i : Int), .int .i64 (j : Int)], .int .i64 d] w fun v w' => ∃ t, v = .tuple #[t, .int .i64 0] ∧ StintsV w' w'.heap.size t (((stintsL o.n o.m).filter fun x => decide (begA (o.setT i j (o.T i j + d)) x.1 x.2 > begA o x.1 x.2)).map zS) ∧ Ext w w' :=
  (Reach_c v o i j d w hV hg.fits).mono fun _ _ ⟨t, h1, h2, h3⟩ => by
    have ht := (hg.ok.vT i j hi hj).1
    have he : delayE o (i : Int) (j : Int) d = 0 := by rw [delayE_good hg hi hj (by omega), if_neg (by omega)]
    unfold reachL delayO at h2
    rw [he] at h1 h2; rw [if_pos rfl, if_pos rfl, Int.toNat_natCast, Int.toNat_natCast] at h2
    exact ⟨t, h1, h2.stintsV, h3⟩
theorem Delayed_x (v : Value) (o : Ord) (i j : Nat) (d : Int) (w : World) (hV : OrderV w w.heap.size v o) (hg : OrdGood o) (hi : i < o.n) (hj : j < o.m) (hd : 0 ≤ d ∧ d ≤ 60) (hx : 60 < o.T i j + d) :
    CallsV Try.prog 20 #[v, .agg #[.int .i64 (i : Int), .int .i64 (j : Int)], .int .i64 d] w fun v w' => ∃ A1 n1 c1 A2 n2 c2, v = .tuple #[.agg #[.slice A1 n1 c1, .slice A2 n2 c2], .int .i64 2] ∧ Ext w w' :=
  (Delayed_c v o i j d w hV hg.fits).mono fun _ _ ⟨v0, h1, h2, h3⟩ => by
    have he : delayE o (i : Int) (j : Int) d = 2 := by rw [delayE_good hg hi hj hd, if_pos (by omega)]
    rw [he] at h1
    obtain ⟨A1, n1, c1, A2, n2, c2, rfl, -⟩ := h2.two
    exact ⟨A1, n1, c1, A2, n2, c2, h1, h3⟩
theorem Reach_x (v : Value) (o : Ord) (i j : Nat) (d : Int) (w : World) (hV : OrderV w w.heap.size v o) (hg : OrdGood o) (hi : i < o.n) (hj : j < o.m) (hd : 0 ≤ d ∧ d ≤ 60) (hx : 60 < o.T i j + d) :
    CallsV Try.prog 21 #[v, .agg #[.int .i64 (i : Int), .int .i64 (j : Int)], .int .i64 d] w fun v w' => ∃ t, v = .tuple #[t, .int .i64 2] ∧ Ext w w' :=
  (Reach_c v o i j d w hV hg.fits).mono fun _ _ ⟨t, h1, h2, h3⟩ => by
    have he : delayE o (i : Int) (j : Int) d = 2 := by rw [delayE_good hg hi hj hd, if_pos (by omega)]
    rw [he] at h1
    exact ⟨t, h1, h3⟩
end Go.Proofs.Ytnfagcccgmakdaa
namespace Go.Proofs.Ytnfagcccgmakdaa
open Go.RowKit Go.Wk Go.Proofs
attribute [local irreducible] Go.Wk.Wops Go.Wk.Wp Go.Wk.Mtree Go.Wk.Mops
set_option maxHeartbeats 4000000

theorem mod_nat {a : Int} {n : Nat} (ha : 0 ≤ a) (hn : 0 < n) : ∃ s : Nat, a.tmod (n : Int) = (s : Int) ∧ s < n := by
  refine ⟨(a % n).toNat, ?_, ?_⟩
  · rw [Int.tmod_eq_emod_of_nonneg ha]
    have := Int.emod_nonneg a (show (n : Int) ≠ 0 by omega)
    omega
  · have := Int.emod_lt_of_pos a (show (0 : Int) < n by omega)
    have := Int.emod_nonneg a (show (n : Int) ≠ 0 by omega)
    omega
theorem TabH.same {w : World} {v : Value} {o o' : Ord} {t : Nat → Nat → Int} (h : TabH w v o' t) (hn : o'.n = o.n) (hm : o'.m = o.m) : TabH w v o t := by
  obtain ⟨h1, b, ob, c, rb, ro, rc, hv, h2⟩ := h
  rw [tabL_same hn hm] at h1
  rw [hn] at hv h2
  rw [hm] at h2
  exact ⟨h1, b, ob, c, rb, ro, rc, hv, h2⟩
theorem has_p (lv : Value) (n m : Nat) (p : Nat × Nat → Bool) (i j : Nat) (w : World) (hL : StintsV w w.heap.size lv (((stintsL n m).filter p).map zS)) (hi : i < n) (hj : j < m) (hn : n ≤ 1000) (hm : m ≤ 1000) :
    CallsV Try.prog 22 #[lv, .agg #[.int .i64 (i : Int), .int .i64 (j : Int)]] w fun v w' => v = .bool (p (i, j)) ∧ Ext w w' :=
  (has_c lv _ i j w hL (by
    rw [List.length_map]
    have h1 := List.length_filter_le p (stintsL n m)
    rw [stintsL_len] at h1
    have h2 := Nat.mul_le_mul hn hm
    omega)).mono fun _ _ ⟨h1, h3⟩ => by
    refine ⟨?_, h3⟩
    rw [h1]; congr 1
    by_cases hp : p (i, j) = true
    · rw [hp]; exact decide_eq_true ((mem_chosen p hi hj).2 hp)
    · rw [Bool.not_eq_true] at hp
      rw [hp]; exact decide_eq_false fun h => by rw [(mem_chosen p hi hj).1 h] at hp; cases hp
theorem reaches_c (v : Value) (o : Ord) (a b more : Int) (w : World) (hV : OrderV w w.heap.size v o) (hf : Fits o) (ha : 0 ≤ a ∧ a ≤ 255) (hb : 0 ≤ b ∧ b ≤ 255) (hm : 0 ≤ more ∧ more ≤ 255) :
    CallsV Try.prog 4 #[v, .int .u8 a, .int .u8 b, .int .u8 more] w fun v w' => v = .bool true ∧ Ext w w' := by
  obtain ⟨A1, n1, c1, A2, n2, c2, rfl, hV⟩ := hV.two
  refine Wp.fn Try.func4 rfl Try.ntmps4 (by simp) ?_
  refine Wp.keep [0, 1, 2, 3] fun r1 hkeep => ?_
  obtain ⟨e0_1, e1_1, e2_1, e3_1, -⟩ := hkeep
  simp [go_sem] at e0_1 e1_1 e2_1 e3_1
  by_cases hs : SmallP o
  · skip
    refine Wp.seqRegion (.inl rfl) (by kernel_rfl) fun K' gd hK hg => ?_
    clear hg
    go_simp
    refine hK _ _ ?_
    clear hK K' gd
    refine Wp.keep [1, 2, 3, 4] fun r2 hkeep => ?_
    obtain ⟨e1_2, e2_2, e3_2, e4_2, -⟩ := hkeep
    simp [go_sem, e0_1, e1_1, e2_1, e3_1] at e1_2 e2_2 e3_2 e4_2
    clear e0_1 e1_1 e2_1 e3_1
    refine Wp.seq ?_
    refine Wp.seqRegion (.inl rfl) (by kernel_rfl) fun K' gd hK hg => ?_
    clear hg
    go_simp
    refine Wcall (.inl rfl) (small_T hs _ (hV.ext (by repeat (first | assumption | exact Ext.refl _ | refine Ext.drew ?_ | refine Ext.alloc ?_ _ | refine Ext.trans ?_ (by assumption)))) hf) ?_
    rintro v w2 ⟨rfl, hE⟩
    have hE2 : Ext w w2 := (by repeat (first | assumption | exact Ext.refl _ | refine Ext.drew ?_ | refine Ext.alloc ?_ _ | refine Ext.trans ?_ (by assumption)))
    have x0 : w2.cell? ⟨w.heap.size, 0, none⟩ = some (.slice A1 n1 c1) := hE.cell (by go_simp)
    have x1 : w2.cell? ⟨w.heap.size, 1, none⟩ = some (.slice A2 n2 c2) := hE.cell (by go_simp)
    go_simp
    refine hK _ _ ?_
    clear hK K' gd
    refine Wp.keep [1, 2, 3, 4, 27] fun r3 hkeep => ?_
    obtain ⟨e1_3, e2_3, e3_3, e4_3, e27_3, -⟩ := hkeep
    simp [go_sem, e1_2, e2_2, e3_2, e4_2] at e1_3 e2_3 e3_3 e4_3 e27_3
    clear e1_2 e2_2 e3_2 e4_2
    refine Wp.condF (by go_simp) ?_
    have hg := hs.good
    have ho := hg.ok
    have hn := hs.n
    have hV2 := hV.ext hE2
    have hend := endS_ok ho
    have hm1 := ho.hm1
    have hm8 := hs.m
    obtain ⟨p, hcv, hrv, hO⟩ := hV.ordF2 hg
    simp only [OA.cv, OA.rv] at hcv hrv
    injection hcv with p1 p2 p3
    injection hrv with p4 p5 p6
    subst p1 p2 p3 p5 p6
    have hrA := hO.hr hn.1
    rw [hrA] at p4
    subst p4
    obtain ⟨si, hsi, hsn⟩ := mod_nat ha.1 hn.1
    obtain ⟨sj, hsj, hsm⟩ := mod_nat (n := o.m) hb.1 (by omega)
    have hwa : IntKind.i64.wrap a = a := IntWalk.i64_in _ (by omega)
    have hwb : IntKind.i64.wrap b = b := IntWalk.i64_in _ (by omega)
    have hn0 : ¬ o.n = 0 := by omega
    have hm0 : ¬ o.m = 0 := by omega
    refine Wp.skip ?_
    refine thenK_normal ?_
    refine Wp.seqDrawT (.inl rfl) mixed (.rd [0, 1, 2, 3, 4, 5, 6, 7, 8, 9, 10, 11] (.both (.act 12 false (.act 13 false (.act 14 true .done))) (.act 13 false (.act 12 false (.act 14 true .done))))) (by kernel_rfl) (fun ρ W => AllEq [3, 4] ρ r3 ∧ (∃ sb, ρ 9 = .pointer (some ⟨sb, 0, none⟩) ∧ W.cell? ⟨sb, 0, none⟩ = some (.int .i64 (si : Int)) ∧ W.cell? ⟨sb, 1, none⟩ = some (.int .i64 (sj : Int)) ∧ Ext w2 W)) (fun K' gd hK hg => ?_) ?_
    · skip
      clear hg
      simp only [pickT, nth, List.map_cons, List.map_nil]
      apply Mtree.reads
      · intro w' hE'
        have hC' := hE'.cellsS
        go_simp
        with_reducible rfl
      refine Mtree.two ?_ ?_
      · skip
        refine Mtree.step fun K1 hK1 => ?_
        go_simp
        refine Wcall (.inl rfl) (at_c (si : Int) (sj : Int) _) ?_
        rintro v w3 ⟨rfl, hE3⟩
        go_simp
        refine hK1 _ _ (by assumption) ?_
        clear hK1 K1
        refine Mtree.step fun K1 hK1 => ?_
        go_simp
        refine hK1 _ _ (by first | exact (Ext.refl _).alloc _ | exact Ext.refl _) ?_
        clear hK1 K1
        first | refine Mtree.abs fun V4 hV4 sV4 hVc hVf => ?_ | refine Mtree.absD fun V4 hV4 sV4 hVc hVf => ?_
        have cV4_0 := hVc 0 _ rfl
        have fV4_0 := hVf 0
        have cV4_1 := hVc 1 _ rfl
        have fV4_1 := hVf 1
        clear hVc hVf
        refine Mtree.stepT fun K1 hK1 => ?_
        go_simp
        refine hK1 _ _ ?_
        clear hK1 K1
        refine Mtree.fin ?_
        refine hK _ _ ⟨by simp [AllEq, go_sem], ?_⟩
        have hsz : w2.heap.size ≤ w3.heap.size := (Below.size hE3 : w2.drew.heap.size ≤ w3.heap.size)
        exact ⟨_, rfl, by go_simp, by go_simp, (by repeat (first | assumption | exact Ext.refl _ | refine Ext.drew ?_ | refine Ext.alloc ?_ _ | refine Ext.setC ?_ (by omega) _ | refine Ext.trans ?_ (by assumption)))⟩
      · skip
        refine Mtree.step fun K1 hK1 => ?_
        go_simp
        refine hK1 _ _ (by first | exact (Ext.refl _).alloc _ | exact Ext.refl _) ?_
        clear hK1 K1
        first | refine Mtree.abs fun V5 hV5 sV5 hVc hVf => ?_ | refine Mtree.absD fun V5 hV5 sV5 hVc hVf => ?_
        have cV5_0 := hVc 0 _ rfl
        have fV5_0 := hVf 0
        have cV5_1 := hVc 1 _ rfl
        have fV5_1 := hVf 1
        clear hVc hVf
        refine Mtree.step fun K1 hK1 => ?_
        go_simp
        refine Wcall (.inl rfl) (at_c (si : Int) (sj : Int) _) ?_
        rintro v w3 ⟨rfl, hE3⟩
        go_simp
        refine hK1 _ _ (by assumption) ?_
        clear hK1 K1
        have fc6 := (Ext.frozen hE3 cV5_0).trans fV5_0
        have c6 := Ext.cell hE3 cV5_0
        have fc7 := (Ext.frozen hE3 cV5_1).trans fV5_1
        have c7 := Ext.cell hE3 cV5_1
        refine Mtree.stepT fun K1 hK1 => ?_
        go_simp
        refine hK1 _ _ ?_
        clear hK1 K1
        refine Mtree.fin ?_
        refine hK _ _ ⟨by simp [AllEq, go_sem], ?_⟩
        exact ⟨_, rfl, by go_simp, by go_simp, (by repeat (first | assumption | exact Ext.refl _ | refine Ext.drew ?_ | refine Ext.alloc ?_ _ | refine Ext.setC ?_ (by omega) _ | refine Ext.trans ?_ (by assumption)))⟩
    · rintro r8 W ⟨hA, sb, e9, s0, s1, hE3⟩
      obtain ⟨e3_8, e4_8, -⟩ := hA
      rw [e3_3] at e3_8
      rw [e4_3] at e4_8
      clear e1_3 e2_3 e3_3 e4_3 e27_3
      have x0 := hE3.cell x0
      have x1 := hE3.cell x1
      have hV3 := hV2.ext hE3
      clear hE hwa hwb hsi hsj
      obtain ⟨d, hd, hd2⟩ := mod_nat (n := 30) hm.1 (by omega)
      have hwm : IntKind.i64.wrap more = more := IntWalk.i64_in _ (by omega)
      have hd' : more.tmod 30 = (d : Int) := hd
      refine Wp.seqRegion (.inl rfl) (by kernel_rfl) fun K' gd hK hg => ?_
      clear hg
      go_simp
      refine hK _ _ ?_
      clear hK K' gd
      refine Wp.keep [4, 9, 10] fun r9 hkeep => ?_
      obtain ⟨e4_9, e9_9, e10_9, -⟩ := hkeep
      simp [go_sem, e3_8, e4_8, e9] at e4_9 e9_9 e10_9
      clear e3_8 e4_8 e9
      clear hd hd' hwm
      have hTs := ho.vT si sj hsn hsm
      by_cases hx : o.T si sj + (d : Int) ≤ 60
      · skip
        refine Wp.seqRegion (.inl rfl) (by kernel_rfl) fun K' gd hK hg => ?_
        clear hg
        go_simp
        refine Wcall (.inl rfl) (Delayed_g _ o si sj d _ hV3 hg hsn hsm ⟨by omega, hx⟩) ?_
        rintro v w4 ⟨v0, rfl, hVd, hE4⟩
        obtain ⟨B1, k1, q1, B2, k2, q2, rfl, hVd⟩ := hVd.two
        have x0 := hE4.cell x0
        have x1 := hE4.cell x1
        have s0 := hE4.cell s0
        have s1 := hE4.cell s1
        have hV4 := hV3.ext hE4
        go_simp
        refine hK _ _ ?_
        clear hK K' gd
        refine Wp.keep [4, 9, 10, 11, 12] fun r10 hkeep => ?_
        obtain ⟨e4_10, e9_10, e10_10, e11_10, e12_10, -⟩ := hkeep
        simp [go_sem, e4_9, e9_9, e10_9] at e4_10 e9_10 e10_10 e11_10 e12_10
        clear e4_9 e9_9 e10_9
        refine Wp.seqRegion (.inl rfl) (by kernel_rfl) fun K' gd hK hg => ?_
        clear hg
        go_simp
        refine Wcall (.inl rfl) (Reach_g _ o si sj d _ (hV4.ext (by repeat (first | assumption | exact Ext.refl _ | refine Ext.drew ?_ | refine Ext.alloc ?_ _ | refine Ext.trans ?_ (by assumption)))) hg hsn hsm ⟨by omega, hx⟩) ?_
        rintro v w5 ⟨tR, rfl, hR, hE5⟩
        have y0 : w5.cell? ⟨w4.heap.size, 0, none⟩ = some (.slice B1 k1 q1) := hE5.cell (by go_simp)
        have y1 : w5.cell? ⟨w4.heap.size, 1, none⟩ = some (.slice B2 k2 q2) := hE5.cell (by go_simp)
        have hE45 : Ext w4 w5 := (by repeat (first | assumption | exact Ext.refl _ | refine Ext.drew ?_ | refine Ext.alloc ?_ _ | refine Ext.trans ?_ (by assumption)))
        have x0 := hE45.cell x0
        have x1 := hE45.cell x1
        have s0 := hE45.cell s0
        have s1 := hE45.cell s1
        have hV5 := hV4.ext hE45
        have hVd := hVd.ext hE45
        go_simp
        refine hK _ _ ?_
        clear hK K' gd
        refine Wp.keep [4, 10, 11, 12, 13, 14] fun r11 hkeep => ?_
        obtain ⟨e4_11, e10_11, e11_11, e12_11, e13_11, e14_11, -⟩ := hkeep
        simp [go_sem, e4_10, e9_10, e10_10, e11_10, e12_10] at e4_11 e10_11 e11_11 e12_11 e13_11 e14_11
        clear e4_10 e9_10 e10_10 e11_10 e12_10
        refine Wp.seq ?_
        refine Wp.seqRegion (.inl rfl) (by kernel_rfl) fun K' gd hK hg => ?_
        clear hg
        go_simp
        refine hK _ _ ?_
        clear hK K' gd
        refine Wp.keep [4, 10, 11, 12, 13, 14, 60] fun r12 hkeep => ?_
        obtain ⟨e4_12, e10_12, e11_12, e12_12, e13_12, e14_12, e60_12, -⟩ := hkeep
        simp [go_sem, e4_11, e10_11, e11_11, e12_11, e13_11, e14_11] at e4_12 e10_12 e11_12 e12_12 e13_12 e14_12 e60_12
        clear e4_11 e10_11 e11_11 e12_11 e13_11 e14_11
        refine Wp.condF (by go_simp) ?_
        obtain ⟨od, hod⟩ : ∃ od, o.setT si sj (o.T si sj + (d : Int)) = od := ⟨_, rfl⟩
        have hM : More1 o od si sj d := by rw [← hod]; exact delay_more hg hsn hsm (by omega)
        have hgd : OrdGood od := by rw [← hod]; exact hg.setT sj hsn (by omega)
        rw [hod] at hVd hR
        clear hod hE5
        have hnn := hM.n
        have hmm := hM.m
        refine Wp.skip ?_
        refine thenK_normal ?_
        refine Wp.seqRegion (.inl rfl) (by kernel_rfl) fun K' gd hK hg => ?_
        clear hg
        go_simp
        refine Wcall (.inl rfl) (Times_g _ o _ hV5 hg hn.1) ?_
        rintro v w6 ⟨t1, rfl, hT1, hE6⟩
        have x0 := hE6.cell x0
        have x1 := hE6.cell x1
        have y0 := hE6.cell y0
        have y1 := hE6.cell y1
        have hV6 := hV5.ext hE6
        go_simp
        refine hK _ _ ?_
        clear hK K' gd
        refine Wp.keep [4, 10, 11, 13, 14, 15, 16] fun r13 hkeep => ?_
        obtain ⟨e4_13, e10_13, e11_13, e13_13, e14_13, e15_13, e16_13, -⟩ := hkeep
        simp [go_sem, e4_12, e10_12, e11_12, e12_12, e13_12, e14_12, e60_12] at e4_13 e10_13 e11_13 e13_13 e14_13 e15_13 e16_13
        clear e4_12 e10_12 e11_12 e12_12 e13_12 e14_12 e60_12
        refine Wp.seqRegion (.inl rfl) (by kernel_rfl) fun K' gd hK hg => ?_
        clear hg
        go_simp
        refine Wcall (.inl rfl) (Times_g _ od _ (hVd.ext (by repeat (first | assumption | exact Ext.refl _ | refine Ext.drew ?_ | refine Ext.alloc ?_ _ | refine Ext.trans ?_ (by assumption)))) hgd (by omega)) ?_
        rintro v w7 ⟨t2, rfl, hT2, hE7⟩
        have x0 := hE7.cell x0
        have x1 := hE7.cell x1
        have y0 := hE7.cell y0
        have y1 := hE7.cell y1
        have hV7 := hV6.ext hE7
        go_simp
        refine hK _ _ ?_
        clear hK K' gd
        refine Wp.keep [4, 10, 11, 13, 14, 15, 16, 17, 18] fun r14 hkeep => ?_
        obtain ⟨e4_14, e10_14, e11_14, e13_14, e14_14, e15_14, e16_14, e17_14, e18_14, -⟩ := hkeep
        simp [go_sem, e4_13, e10_13, e11_13, e13_13, e14_13, e15_13, e16_13] at e4_14 e10_14 e11_14 e13_14 e14_14 e15_14 e16_14 e17_14 e18_14
        clear e4_13 e10_13 e11_13 e13_13 e14_13 e15_13 e16_13
        refine Wp.seqRegion (.inl rfl) (by kernel_rfl) fun K' gd hK hg => ?_
        clear hg
        go_simp
        refine Wcall (.inl rfl) (End_g _ o _ hV7 hg) ?_
        rintro v w8 ⟨rfl, hE8⟩
        have x0 := hE8.cell x0
        have x1 := hE8.cell x1
        have y0 := hE8.cell y0
        have y1 := hE8.cell y1
        have hV8 := hV7.ext hE8
        go_simp
        refine hK _ _ ?_
        clear hK K' gd
        refine Wp.keep [4, 10, 11, 13, 14, 15, 16, 17, 18, 19, 20] fun r15 hkeep => ?_
        obtain ⟨e4_15, e10_15, e11_15, e13_15, e14_15, e15_15, e16_15, e17_15, e18_15, e19_15, e20_15, -⟩ := hkeep
        simp [go_sem, e4_14, e10_14, e11_14, e13_14, e14_14, e15_14, e16_14, e17_14, e18_14] at e4_15 e10_15 e11_15 e13_15 e14_15 e15_15 e16_15 e17_15 e18_15 e19_15 e20_15
        clear e4_14 e10_14 e11_14 e13_14 e14_14 e15_14 e16_14 e17_14 e18_14
        refine Wp.seqRegion (.inl rfl) (by kernel_rfl) fun K' gd hK hg => ?_
        clear hg
        go_simp
        refine Wcall (.inl rfl) (End_g _ od _ (hVd.ext (by repeat (first | assumption | exact Ext.refl _ | refine Ext.drew ?_ | refine Ext.alloc ?_ _ | refine Ext.trans ?_ (by assumption)))) hgd) ?_
        rintro v w9 ⟨rfl, hE9⟩
        have x0 := hE9.cell x0
        have x1 := hE9.cell x1
        have hV9 := hV8.ext hE9
        go_simp
        refine hK _ _ ?_
        clear hK K' gd
        refine Wp.keep [4, 10, 13, 14, 15, 16, 17, 18, 19, 20, 21, 22] fun r16 hkeep => ?_
        obtain ⟨e4_16, e10_16, e13_16, e14_16, e15_16, e16_16, e17_16, e18_16, e19_16, e20_16, e21_16, e22_16, -⟩ := hkeep
        simp [go_sem, e4_15, e10_15, e11_15, e13_15, e14_15, e15_15, e16_15, e17_15, e18_15, e19_15, e20_15] at e4_16 e10_16 e13_16 e14_16 e15_16 e16_16 e17_16 e18_16 e19_16 e20_16 e21_16 e22_16
        clear e4_15 e10_15 e11_15 e13_15 e14_15 e15_15 e16_15 e17_15 e18_15 e19_15 e20_15
        refine Wp.seq ?_
        have hle := hM.end_le ho hgd.ok ⟨hsn, hsm⟩
        have hws : IntKind.i64.wrap (endS o + (d : Int)) = endS o + (d : Int) := IntWalk.i64_in _ (by omega)
        have hl1 : ¬ endS od < endS o := by omega
        have hl2 : ¬ endS o + (d : Int) < endS od := by omega
        have hT2 := hT2.same hnn hmm
        refine Wp.seqRegion (.inl rfl) (by kernel_rfl) fun K' gd hK hg => ?_
        have g2 : gd 2 = some 93 := hg 2
        have g6 : gd 6 = some 97 := hg 6
        have g10 : gd 10 = some 101 := hg 10
        have g14 : gd 14 = some 105 := hg 14
        have g18 : gd 18 = some 109 := hg 18
        have g24 : gd 24 = some 115 := hg 24
        have g30 : gd 30 = some 121 := hg 30
        have g35 : gd 35 = some 126 := hg 35
        clear hg
        go_simp
        refine Wcall (.inl rfl) (wide_g _ _ o _ _ hV9 (hT1.ext (by repeat (first | assumption | exact Ext.refl _ | refine Ext.drew ?_ | refine Ext.alloc ?_ _ | refine Ext.trans ?_ (by assumption)))) (by omega)) ?_
        rintro v w10 ⟨rfl, hE10⟩
        have x0 := hE10.cell x0
        have x1 := hE10.cell x1
        have hV10 := hV9.ext hE10
        go_simp
        refine Wcall (.inl rfl) (wide_g _ _ o _ _ hV10 (hT2.ext (by repeat (first | assumption | exact Ext.refl _ | refine Ext.drew ?_ | refine Ext.alloc ?_ _ | refine Ext.trans ?_ (by assumption)))) (by omega)) ?_
        rintro v w11 ⟨rfl, hE11⟩
        have x0 := hE11.cell x0
        have x1 := hE11.cell x1
        go_simp
        refine hK _ _ ?_
        clear hK K' gd g2 g6 g10 g14 g18 g24 g30 g35
        refine Wp.keep [4, 10, 13, 15, 17, 132] fun r17 hkeep => ?_
        obtain ⟨e4_17, e10_17, e13_17, e15_17, e17_17, e132_17, -⟩ := hkeep
        simp [go_sem, e4_16, e10_16, e13_16, e14_16, e15_16, e16_16, e17_16, e18_16, e19_16, e20_16, e21_16, e22_16] at e4_17 e10_17 e13_17 e15_17 e17_17 e132_17
        clear e4_16 e10_16 e13_16 e14_16 e15_16 e16_16 e17_16 e18_16 e19_16 e20_16 e21_16 e22_16
        refine Wp.condF (by go_simp) ?_
        obtain ⟨-, b1, ob1, c1', rb1, ro1, rc1, rfl, hG1⟩ := hT1.ext (show Ext w6 w11 from (by repeat (first | assumption | exact Ext.refl _ | refine Ext.drew ?_ | refine Ext.alloc ?_ _ | refine Ext.trans ?_ (by assumption))))
        obtain ⟨-, b2, ob2, c2', rb2, ro2, rc2, rfl, hG2⟩ := hT2.ext (show Ext w7 w11 from (by repeat (first | assumption | exact Ext.refl _ | refine Ext.drew ?_ | refine Ext.alloc ?_ _ | refine Ext.trans ?_ (by assumption))))
        have hR := hR.ext (show Ext w5 w11 from (by repeat (first | assumption | exact Ext.refl _ | refine Ext.drew ?_ | refine Ext.alloc ?_ _ | refine Ext.trans ?_ (by assumption))))
        have hEw : Ext w w11 := (by repeat (first | assumption | exact Ext.refl _ | refine Ext.drew ?_ | refine Ext.alloc ?_ _ | refine Ext.trans ?_ (by assumption)))
        clear hws hl1 hl2 hT1 hT2 hE2 hE3 hE4 hE45 hE6 hE7 hE8 hE9 hE10 hE11 hV2 hV3 hV4 hV5 hV6 hV7 hV8 hV9 hV10 s0 s1 y0 y1
        refine Wp.skip ?_
        refine thenK_normal ?_
        refine Wp.seq ?_
        refine Wp.seqRegion (.inl rfl) (by kernel_rfl) fun K' gd hK hg => ?_
        clear hg
        go_simp
        refine hK _ _ ?_
        clear hK K' gd
        refine Wp.keep [4, 10, 13, 15, 17, 23] fun r18 hkeep => ?_
        obtain ⟨e4_18, e10_18, e13_18, e15_18, e17_18, e23_18, -⟩ := hkeep
        simp [go_sem, e4_17, e10_17, e13_17, e15_17, e17_17, e132_17] at e4_18 e10_18 e13_18 e15_18 e17_18 e23_18
        clear e4_17 e10_17 e13_17 e15_17 e17_17 e132_17
        refine Wp.block ?_
        refine Wp.loop (fun i ρ ds wi => AllEq [4, 10, 13, 15, 17] ρ r18 ∧ ds = [] ∧ (ρ 23 = .int .i64 (i : Int) ∧ Ext w11 wi)) (o.n) ?_ ?_
        · refine ⟨AllEq.refl _ _, rfl, ?_⟩
          exact ⟨by rw [e23_18]; rfl, (by repeat (first | assumption | exact Ext.refl _ | refine Ext.drew ?_ | refine Ext.alloc ?_ _ | refine Ext.trans ?_ (by assumption)))⟩
        · rintro i r19 _ wi hi ⟨hA, rfl, ⟨e23, hEi⟩⟩
          obtain ⟨e4_19, e10_19, e13_19, e15_19, e17_19, -⟩ := hA
          rw [e4_18] at e4_19
          rw [e10_18] at e10_19
          rw [e13_18] at e13_19
          rw [e15_18] at e15_19
          rw [e17_18] at e17_19
          have z1 := hEi.cell x1
          refine Wp.seq ?_
          refine Wp.seqRegion (.inl rfl) (by kernel_rfl) fun K' gd hK hg => ?_
          clear hg
          go_simp
          refine hK _ _ ?_
          clear hK K' gd
          refine Wp.keep [4, 10, 13, 15, 17, 23, 137] fun r20 hkeep => ?_
          obtain ⟨e4_20, e10_20, e13_20, e15_20, e17_20, e23_20, e137_20, -⟩ := hkeep
          simp [go_sem, e4_19, e10_19, e13_19, e15_19, e17_19, e23] at e4_20 e10_20 e13_20 e15_20 e17_20 e23_20 e137_20
          clear e4_19 e10_19 e13_19 e15_19 e17_19 e23
          by_cases h : i < o.n
          · refine Wp.condT (by go_simp) ?_
            refine Wp.skip ?_
            refine thenK_normal ?_
            refine Wp.seq ?_
            refine Wp.block ?_
            refine Wp.seqRegion (.inl rfl) (by kernel_rfl) fun K' gd hK hg => ?_
            clear hg
            go_simp
            refine hK _ _ ?_
            clear hK K' gd
            refine Wp.keep [4, 10, 13, 15, 17, 23, 24] fun r21 hkeep => ?_
            obtain ⟨e4_21, e10_21, e13_21, e15_21, e17_21, e23_21, e24_21, -⟩ := hkeep
            simp [go_sem, e4_20, e10_20, e13_20, e15_20, e17_20, e23_20, e137_20] at e4_21 e10_21 e13_21 e15_21 e17_21 e23_21 e24_21
            clear e4_20 e10_20 e13_20 e15_20 e17_20 e23_20 e137_20
            refine Wp.block ?_
            refine Wp.loop (fun j ρ ds wj => AllEq [4, 10, 13, 15, 17, 23] ρ r21 ∧ ds = [] ∧ (ρ 24 = .int .i64 (j : Int) ∧ Ext w11 wj)) (o.m) ?_ ?_
            · refine ⟨AllEq.refl _ _, rfl, ?_⟩
              exact ⟨by rw [e24_21]; rfl, (by repeat (first | assumption | exact Ext.refl _ | refine Ext.drew ?_ | refine Ext.alloc ?_ _ | refine Ext.trans ?_ (by assumption)))⟩
            · rintro j r22 _ wj hj ⟨hA, rfl, ⟨e24, hEj⟩⟩
              obtain ⟨e4_22, e10_22, e13_22, e15_22, e17_22, e23_22, -⟩ := hA
              rw [e4_21] at e4_22
              rw [e10_21] at e10_22
              rw [e13_21] at e13_22
              rw [e15_21] at e15_22
              rw [e17_21] at e17_22
              rw [e23_21] at e23_22
              have z0 := hEj.cell x0
              have b3 : (i : Int) < (o.n : Int) := by omega
              refine Wp.seq ?_
              refine Wp.seqRegion (.inl rfl) (by kernel_rfl) fun K' gd hK hg => ?_
              clear hg
              go_simp
              refine hK _ _ ?_
              clear hK K' gd
              refine Wp.keep [4, 10, 13, 15, 17, 23, 24, 144] fun r23 hkeep => ?_
              obtain ⟨e4_23, e10_23, e13_23, e15_23, e17_23, e23_23, e24_23, e144_23, -⟩ := hkeep
              simp [go_sem, e4_22, e10_22, e13_22, e15_22, e17_22, e23_22, e24] at e4_23 e10_23 e13_23 e15_23 e17_23 e23_23 e24_23 e144_23
              clear e4_22 e10_22 e13_22 e15_22 e17_22 e23_22 e24
              by_cases h2 : j < o.m
              · refine Wp.condT (by go_simp) ?_
                have g1 := (hG1.ext hEj).row i h
                have g2 := (hG1.ext hEj).cell i j h h2
                have g3 := (hG2.ext hEj).row i h
                have g4 := (hG2.ext hEj).cell i j h h2
                have b4 : (j : Int) < (o.m : Int) := by omega
                have k1 := hM.lower ho hgd.ok h h2
                have k2 := hM.upper ho hgd.ok h h2
                have k3 := begA_ok ho h h2
                obtain ⟨q, hq⟩ : ∃ q, decide (begA od i j > begA o i j) = q := ⟨_, rfl⟩
                obtain ⟨x, hx⟩ : ∃ x, begA od i j = x := ⟨_, rfl⟩
                obtain ⟨y, hy⟩ : ∃ y, begA o i j = y := ⟨_, rfl⟩
                rw [hx] at g4 k1 k2
                rw [hy] at g2 k1 k2 k3
                have k4 : x ≤ y + (d : Int) := by split at k2 <;> omega
                have k5 : ¬ x < y := by omega
                have k6 : ¬ y + (d : Int) < x := by omega
                have hws : IntKind.i64.wrap (y + (d : Int)) = y + (d : Int) := IntWalk.i64_in _ (by omega)
                have hq2 : ∃ _u : Unit, decide (begA od i j > begA o i j) = decide (y < x) := ⟨(), by rw [hx, hy]⟩
                clear k1 k2 k3 k4 hx hy hq
                refine Wp.skip ?_
                refine thenK_normal ?_
                refine Wp.seq ?_
                refine Wp.block ?_
                refine Wp.seqDraw (.inl rfl) mixed [([0, 1, 2, 3, 4], none), ([5, 6, 7, 8, 9], none), ([10, 11, 12, 13, 14], none), ([15], none), ([16, 17, 18, 19, 20], none), ([21, 22, 23, 24, 25], none), ([26, 27, 28, 29, 30], none), ([31, 32, 33, 34], none), ([35, 36, 37, 40, 41], none), ([42, 43, 44, 45, 46], none), ([47, 48, 49, 50, 51], none), ([52, 53, 54], some (38, false)), ([], some (39, false)), ([55, 56], none)] (by kernel_rfl) fun K' gd hK hg => ?_
                have g15 : gd 15 = some 162 := hg 15
                have g34 : gd 34 = some 181 := hg 34
                clear hg
                simp only [pick, nth, List.map_cons, List.map_nil, Option.map_none, Option.map_some]
                apply Mops.none
                · intro w' hE'
                  have hC' := hE'.cellsS
                  go_simp
                  with_reducible rfl
                apply Mops.none
                · intro w' hE'
                  have hC' := hE'.cellsS
                  go_simp
                  with_reducible rfl
                apply Mops.none
                · intro w' hE'
                  have hC' := hE'.cellsS
                  go_simp
                  with_reducible rfl
                apply Mops.none
                · intro w' hE'
                  have hC' := hE'.cellsS
                  go_simp
                  with_reducible rfl
                apply Mops.none
                · intro w' hE'
                  have hC' := hE'.cellsS
                  go_simp
                  with_reducible rfl
                apply Mops.none
                · intro w' hE'
                  have hC' := hE'.cellsS
                  go_simp
                  with_reducible rfl
                apply Mops.none
                · intro w' hE'
                  have hC' := hE'.cellsS
                  go_simp
                  with_reducible rfl
                apply Mops.none
                · intro w' hE'
                  have hC' := hE'.cellsS
                  go_simp
                  with_reducible rfl
                apply Mops.none
                · intro w' hE'
                  have hC' := hE'.cellsS
                  go_simp
                  with_reducible rfl
                apply Mops.none
                · intro w' hE'
                  have hC' := hE'.cellsS
                  go_simp
                  with_reducible rfl
                apply Mops.none
                · intro w' hE'
                  have hC' := hE'.cellsS
                  go_simp
                  with_reducible rfl
                apply Mops.act
                · intro w' hE'
                  have hC' := hE'.cellsS
                  go_simp
                  with_reducible rfl
                intro K1 hK1
                go_simp
                refine Wcall (.inl rfl) (at_c (i : Int) (j : Int) _) ?_
                rintro v w12 ⟨rfl, hE12⟩
                have hE12' := hE12
                go_simp
                refine hK1 _ _ (by first | assumption | exact Ext.refl _) ?_
                clear hK1 K1
                apply Mops.act
                · exact fun _ _ => Rops_done
                intro K1 hK1
                go_simp
                refine Wcall (.inl rfl) (has_p _ o.n o.m _ i j _ (hR.ext (by repeat (first | assumption | exact Ext.refl _ | refine Ext.drew ?_ | refine Ext.alloc ?_ _ | refine Ext.trans ?_ (by assumption)))) h h2 (by omega) (by omega)) ?_
                rintro v w13 ⟨rfl, hE13⟩
                dsimp only
                obtain ⟨-, hq3⟩ := hq2
                rw [hq3]
                clear hq3
                go_simp
                refine hK1 _ _ (by first | assumption | exact Ext.refl _) ?_
                clear hK1 K1
                apply Mops.none
                · intro w' hE'
                  have hC' := hE'.cellsS
                  go_simp
                  with_reducible rfl
                refine Mops.done ?_
                refine hK _ _ ?_
                clear hK K' gd g15 g34
                refine Wp.keep [4, 10, 13, 15, 17, 23, 24, 203] fun r24 hkeep => ?_
                obtain ⟨e4_24, e10_24, e13_24, e15_24, e17_24, e23_24, e24_24, e203_24, -⟩ := hkeep
                simp [go_sem, e4_23, e10_23, e13_23, e15_23, e17_23, e23_23, e24_23, e144_23] at e4_24 e10_24 e13_24 e15_24 e17_24 e23_24 e24_24 e203_24
                clear e4_23 e10_23 e13_23 e15_23 e17_23 e23_23 e24_23 e144_23
                refine Wp.condF (by go_simp) ?_
                refine Wp.skip ?_
                refine blockK_normal ?_
                refine thenK_normal ?_
                refine Wp.loneRegion (.inl rfl) (by kernel_rfl) fun K' gd hK hg => ?_
                clear hg
                go_simp
                refine hK _ _ ?_
                clear hK K' gd
                refine Ends.keep [4, 10, 13, 15, 17, 23, 24] fun r25 hkeep => ?_
                obtain ⟨e4_25, e10_25, e13_25, e15_25, e17_25, e23_25, e24_25, -⟩ := hkeep
                simp [go_sem, e4_24, e10_24, e13_24, e15_24, e17_24, e23_24, e24_24, e203_24] at e4_25 e10_25 e13_25 e15_25 e17_25 e23_25 e24_25
                clear e4_24 e10_24 e13_24 e15_24 e17_24 e23_24 e24_24 e203_24
                refine Ends.mk ?_
                refine thenK_normal ⟨by omega, ⟨by rw [e4_25, e4_21], by rw [e10_25, e10_21], by rw [e13_25, e13_21], by rw [e15_25, e15_21], by rw [e17_25, e17_21], by rw [e23_25, e23_21], trivial⟩, rfl, ?_⟩
                exact ⟨by rw [e24_25, IntWalk.i64_in _ (by omega)]; rfl, (by repeat (first | assumption | exact Ext.refl _ | refine Ext.drew ?_ | refine Ext.alloc ?_ _ | refine Ext.trans ?_ (by assumption)))⟩
              · refine Wp.condF (by go_simp) ?_
                refine Wp.exit ?_
                refine thenK_exit ?_
                refine thenK_exit ?_
                refine blockK_here ?_
                refine blockK_normal ?_
                refine thenK_normal ?_
                refine Wp.loneRegion (.inl rfl) (by kernel_rfl) fun K' gd hK hg => ?_
                clear hg
                go_simp
                refine hK _ _ ?_
                clear hK K' gd
                refine Ends.keep [4, 10, 13, 15, 17, 23] fun r26 hkeep => ?_
                obtain ⟨e4_26, e10_26, e13_26, e15_26, e17_26, e23_26, -⟩ := hkeep
                simp [go_sem, e4_23, e10_23, e13_23, e15_23, e17_23, e23_23, e24_23, e144_23] at e4_26 e10_26 e13_26 e15_26 e17_26 e23_26
                clear e4_23 e10_23 e13_23 e15_23 e17_23 e23_23 e24_23 e144_23
                refine Ends.mk ?_
                refine thenK_normal ⟨by omega, ⟨by rw [e4_26, e4_18], by rw [e10_26, e10_18], by rw [e13_26, e13_18], by rw [e15_26, e15_18], by rw [e17_26, e17_18], trivial⟩, rfl, ?_⟩
                exact ⟨by rw [e23_26, IntWalk.i64_in _ (by omega)]; rfl, (by repeat (first | assumption | exact Ext.refl _ | refine Ext.drew ?_ | refine Ext.alloc ?_ _ | refine Ext.trans ?_ (by assumption)))⟩
          · refine Wp.condF (by go_simp) ?_
            refine Wp.exit ?_
            refine thenK_exit ?_
            refine thenK_exit ?_
            refine blockK_here ?_
            refine thenK_normal ?_
            refine Wp.seqRegion (.inl rfl) (by kernel_rfl) fun K' gd hK hg => ?_
            clear hg
            go_simp
            refine Wcall (.inl rfl) (sanity_c _) ?_
            rintro v w12 ⟨rfl, hE12⟩
            go_simp
            refine hK _ _ ?_
            clear hK K' gd
            refine Wp.keep [8] fun r27 hkeep => ?_
            obtain ⟨e8_27, -⟩ := hkeep
            simp [go_sem, e4_20, e10_20, e13_20, e15_20, e17_20, e23_20, e137_20] at e8_27
            clear e4_20 e10_20 e13_20 e15_20 e17_20 e23_20 e137_20
            refine Wp.ret ?_
            refine endK_tmp Try.results4 (by decide) ?_
            rw [e8_27]
            exact ⟨rfl, (by repeat (first | assumption | exact Ext.refl _ | refine Ext.drew ?_ | refine Ext.alloc ?_ _ | refine Ext.trans ?_ (by assumption)))⟩
      · skip
        refine Wp.seqRegion (.inl rfl) (by kernel_rfl) fun K' gd hK hg => ?_
        clear hg
        go_simp
        refine Wcall (.inl rfl) (Delayed_x _ o si sj d _ hV3 hg hsn hsm (by omega) (by omega)) ?_
        rintro v w4 ⟨B1, k1, q1, B2, k2, q2, rfl, hE4⟩
        have x0 := hE4.cell x0
        have x1 := hE4.cell x1
        have s0 := hE4.cell s0
        have s1 := hE4.cell s1
        have hV4 := hV3.ext hE4
        go_simp
        refine hK _ _ ?_
        clear hK K' gd
        refine Wp.keep [4, 9, 10, 11, 12] fun r28 hkeep => ?_
        obtain ⟨e4_28, e9_28, e10_28, e11_28, e12_28, -⟩ := hkeep
        simp [go_sem, e4_9, e9_9, e10_9] at e4_28 e9_28 e10_28 e11_28 e12_28
        clear e4_9 e9_9 e10_9
        refine Wp.seqRegion (.inl rfl) (by kernel_rfl) fun K' gd hK hg => ?_
        clear hg
        go_simp
        refine Wcall (.inl rfl) (Reach_x _ o si sj d _ (hV4.ext (by repeat (first | assumption | exact Ext.refl _ | refine Ext.drew ?_ | refine Ext.alloc ?_ _ | refine Ext.trans ?_ (by assumption)))) hg hsn hsm (by omega) (by omega)) ?_
        rintro v w5 ⟨t1, rfl, hE5⟩
        go_simp
        refine hK _ _ ?_
        clear hK K' gd
        refine Wp.keep [4, 10, 11, 12, 13, 14] fun r29 hkeep => ?_
        obtain ⟨e4_29, e10_29, e11_29, e12_29, e13_29, e14_29, -⟩ := hkeep
        simp [go_sem, e4_28, e9_28, e10_28, e11_28, e12_28] at e4_29 e10_29 e11_29 e12_29 e13_29 e14_29
        clear e4_28 e9_28 e10_28 e11_28 e12_28
        refine Wp.seq ?_
        refine Wp.seqRegion (.inl rfl) (by kernel_rfl) fun K' gd hK hg => ?_
        clear hg
        go_simp
        refine hK _ _ ?_
        clear hK K' gd
        refine Wp.keep [4, 10, 11, 12, 13, 14, 60] fun r30 hkeep => ?_
        obtain ⟨e4_30, e10_30, e11_30, e12_30, e13_30, e14_30, e60_30, -⟩ := hkeep
        simp [go_sem, e4_29, e10_29, e11_29, e12_29, e13_29, e14_29] at e4_30 e10_30 e11_30 e12_30 e13_30 e14_30 e60_30
        clear e4_29 e10_29 e11_29 e12_29 e13_29 e14_29
        refine Wp.condT (by go_simp) ?_
        refine Wp.seqRegion (.inl rfl) (by kernel_rfl) fun K' gd hK hg => ?_
        have g1 : gd 1 = some 62 := hg 1
        have g6 : gd 6 = some 67 := hg 6
        clear hg
        go_simp
        refine Wcall (.inl rfl) (sanity_c _) ?_
        rintro v w6 ⟨rfl, hE6⟩
        go_simp
        refine hK _ _ ?_
        clear hK K' gd g1 g6
        refine Wp.keep [8] fun r31 hkeep => ?_
        obtain ⟨e8_31, -⟩ := hkeep
        simp [go_sem, e4_30, e10_30, e11_30, e12_30, e13_30, e14_30, e60_30] at e8_31
        clear e4_30 e10_30 e11_30 e12_30 e13_30 e14_30 e60_30
        refine Wp.ret ?_
        refine thenK_ret ?_
        refine endK_tmp Try.results4 (by decide) ?_
        rw [e8_31]
        exact ⟨rfl, (by repeat (first | assumption | exact Ext.refl _ | refine Ext.drew ?_ | refine Ext.alloc ?_ _ | refine Ext.trans ?_ (by assumption)))⟩
  · skip
    refine Wp.seqRegion (.inl rfl) (by kernel_rfl) fun K' gd hK hg => ?_
    clear hg
    go_simp
    refine hK _ _ ?_
    clear hK K' gd
    refine Wp.keep [1, 2, 3, 4] fun r32 hkeep => ?_
    obtain ⟨e1_32, e2_32, e3_32, e4_32, -⟩ := hkeep
    simp [go_sem, e0_1, e1_1, e2_1, e3_1] at e1_32 e2_32 e3_32 e4_32
    clear e0_1 e1_1 e2_1 e3_1
    refine Wp.seq ?_
    refine Wp.seqRegion (.inl rfl) (by kernel_rfl) fun K' gd hK hg => ?_
    clear hg
    go_simp
    refine Wcall (.inl rfl) (small_F hs _ (hV.ext (by repeat (first | assumption | exact Ext.refl _ | refine Ext.drew ?_ | refine Ext.alloc ?_ _ | refine Ext.trans ?_ (by assumption)))) hf) ?_
    rintro v w2 ⟨rfl, hE⟩
    go_simp
    refine hK _ _ ?_
    clear hK K' gd
    refine Wp.keep [1, 2, 3, 4, 27] fun r33 hkeep => ?_
    obtain ⟨e1_33, e2_33, e3_33, e4_33, e27_33, -⟩ := hkeep
    simp [go_sem, e1_32, e2_32, e3_32, e4_32] at e1_33 e2_33 e3_33 e4_33 e27_33
    clear e1_32 e2_32 e3_32 e4_32
    refine Wp.condT (by go_simp) ?_
    refine Wp.seqRegion (.inl rfl) (by kernel_rfl) fun K' gd hK hg => ?_
    clear hg
    go_simp
    refine Wcall (.inl rfl) (sanity_c _) ?_
    rintro v w3 ⟨rfl, hE3⟩
    go_simp
    refine hK _ _ ?_
    clear hK K' gd
    refine Wp.keep [8] fun r34 hkeep => ?_
    obtain ⟨e8_34, -⟩ := hkeep
    simp [go_sem, e1_33, e2_33, e3_33, e4_33, e27_33] at e8_34
    clear e1_33 e2_33 e3_33 e4_33 e27_33
    refine Wp.ret ?_
    refine thenK_ret ?_
    refine endK_tmp Try.results4 (by decide) ?_
    rw [e8_34]
    exact ⟨rfl, (by repeat (first | assumption | exact Ext.refl _ | refine Ext.drew ?_ | refine Ext.alloc ?_ _ | refine Ext.trans ?_ (by assumption)))⟩
end Go.Proofs.Ytnfagcccgmakdaa
