/- The specification's comparisons. The specification's small functions. The specification's times. The specification's shows, IsPath. Tables, read; SameTable. Reverse. Path. -/
import Derived.Test.YtnfagcccgmakdaaGreatP4
set_option linter.all false
namespace Go.Proofs.YtnfagcccgmakdaaGreat
open Go.RowKit Go.Wk Go.Proofs
attribute [local irreducible] Go.Wk.Wops Go.Wk.Wp Go.Wk.Mtree Go.Wk.Mops
set_option maxHeartbeats 4000000
theorem sameI_c (v1 v2 : Value) (xs ys : List Int) (w : World) (h1 : IntsV w w.heap.size v1 xs) (h2 : IntsV w w.heap.size v2 ys) (hl1 : xs.length ≤ 1000000000) (hl2 : ys.length ≤ 1000000000) :
    CallsV Tryz.prog 27 #[v1, v2] w fun v w' => v = .bool (decide (xs = ys)) ∧ Ext w w' := by
  obtain ⟨A1, c1, rfl, hx, -⟩ := h1; obtain ⟨A2, c2, rfl, hy, -⟩ := h2; refine Wp.fn Tryz.func27 rfl Tryz.ntmps27 (by simp) ?_; refine Wp.keep [0, 1] fun r1 hkeep => ?_; obtain ⟨e0_1, e1_1, -⟩ := hkeep; simp [go_sem] at e0_1 e1_1
  by_cases hne : (ys.length : Int) = (xs.length : Int)
  · skip; refine Wp.seqRegion (.inl rfl) (by kernel_rfl) fun K' gd hK hg => ?_; clear hg; go_simp; refine hK _ _ ?_; clear hK K' gd; refine Wp.keep [0, 1] fun r2 hkeep => ?_; obtain ⟨e0_2, e1_2, -⟩ := hkeep; simp [go_sem, e0_1, e1_1] at e0_2 e1_2; clear e0_1 e1_1; refine Wp.seq ?_; refine Wp.seqRegion (.inl rfl) (by kernel_rfl) fun K' gd hK hg => ?_; clear hg; go_simp; refine hK _ _ ?_; clear hK K' gd; refine Wp.keep [0, 1, 10] fun r3 hkeep => ?_; obtain ⟨e0_3, e1_3, e10_3, -⟩ := hkeep; simp [go_sem, e0_2, e1_2] at e0_3 e1_3 e10_3; clear e0_2 e1_2; refine Wp.condF (by go_simp) ?_; have hne' : ys.length = xs.length := by omega
    clear hne; refine Wp.skip ?_; refine thenK_normal ?_; refine Wp.seq ?_; refine Wp.seqRegion (.inl rfl) (by kernel_rfl) fun K' gd hK hg => ?_; clear hg; go_simp; refine hK _ _ ?_; clear hK K' gd; refine Wp.keep [0, 1, 5] fun r4 hkeep => ?_; obtain ⟨e0_4, e1_4, e5_4, -⟩ := hkeep; simp [go_sem, e0_3, e1_3, e10_3] at e0_4 e1_4 e5_4; clear e0_3 e1_3 e10_3; refine Wp.block ?_; refine Wp.loop (fun k ρ ds wk => AllEq [0, 1] ρ r4 ∧ ds = [] ∧ (ρ 5 = .int .i64 (k : Int) ∧ Ext w wk ∧ (∀ j (h1 : j < xs.length) (h2 : j < ys.length), j < k → xs[j] = ys[j]))) (xs.length) ?_ ?_
    · refine ⟨AllEq.refl _ _, rfl, ?_⟩; exact ⟨by rw [e5_4]; rfl, Ext.refl _, fun j _ _ h => absurd h (Nat.not_lt_zero _)⟩
    · rintro k r5 _ wk hk ⟨hA, rfl, ⟨e5, hEk, hq⟩⟩; obtain ⟨e0_5, e1_5, -⟩ := hA; rw [e0_4] at e0_5; rw [e1_4] at e1_5; refine Wp.seq ?_; refine Wp.seqRegion (.inl rfl) (by kernel_rfl) fun K' gd hK hg => ?_; clear hg; go_simp; refine hK _ _ ?_; clear hK K' gd; refine Wp.keep [0, 1, 5, 14] fun r6 hkeep => ?_; obtain ⟨e0_6, e1_6, e5_6, e14_6, -⟩ := hkeep; simp [go_sem, e0_5, e1_5, e5] at e0_6 e1_6 e5_6 e14_6; clear e0_5 e1_5 e5
      by_cases h : k < xs.length
      · refine Wp.condT (by go_simp) ?_; have h' : k < ys.length := by omega
        obtain ⟨b1, o1, rfl, -, hc1⟩ := hx (by intro e; rw [e] at h; exact absurd h (Nat.not_lt_zero _)); obtain ⟨b2, o2, rfl, -, hc2⟩ := hy (by intro e; rw [e] at h'; exact absurd h' (Nat.not_lt_zero _)); have d1 := hEk.cell (hc1 k h); have d2 := hEk.cell (hc2 k h'); obtain ⟨x, hx0⟩ : ∃ x, xs[k] = x := ⟨_, rfl⟩; obtain ⟨y, hy0⟩ : ∃ y, ys[k] = y := ⟨_, rfl⟩; rw [hx0] at d1; rw [hy0] at d2; have b3 : (k : Int) < (xs.length : Int) := by omega
        by_cases he : ¬ x = y
        · skip; refine Wp.skip ?_; refine thenK_normal ?_; refine Wp.seq ?_; refine Wp.block ?_; refine Wp.seqDraw (.inl rfl) mixed [([0, 1, 2, 3, 4], none), ([5, 6, 7, 8], none)] (by kernel_rfl) fun K' gd hK hg => ?_; clear hg; simp only [pick, nth, List.map_cons, List.map_nil, Option.map_none, Option.map_some]; apply Mops.none
          · intro w' hE'; have hC' := hE'.cellsS; go_simp; with_reducible rfl
          apply Mops.none
          · intro w' hE'; have hC' := hE'.cellsS; go_simp; with_reducible rfl
          refine Mops.done ?_; refine hK _ _ ?_; clear hK K' gd; refine Wp.keep [0, 1, 5, 25] fun r7 hkeep => ?_; obtain ⟨e0_7, e1_7, e5_7, e25_7, -⟩ := hkeep; simp [go_sem, e0_6, e1_6, e5_6, e14_6] at e0_7 e1_7 e5_7 e25_7; clear e0_6 e1_6 e5_6 e14_6; refine Wp.condT (by go_simp) ?_; refine Wp.seqRegion (.inl rfl) (by kernel_rfl) fun K' gd hK hg => ?_; clear hg; go_simp; refine hK _ _ ?_; clear hK K' gd; refine Wp.keep [4] fun r8 hkeep => ?_; obtain ⟨e4_8, -⟩ := hkeep; simp [go_sem, e0_7, e1_7, e5_7, e25_7] at e4_8; clear e0_7 e1_7 e5_7 e25_7; refine Wp.ret ?_; refine blockK_ret ?_; refine thenK_ret ?_; refine thenK_ret ?_; refine blockK_ret ?_; refine thenK_ret ?_; refine endK_tmp Tryz.results27 (by decide) ?_; rw [e4_8]; refine ⟨?_, XE⟩; rw [decide_eq_false (fun e => he (by subst e; rw [← hx0, ← hy0]))]
        · skip; rw [Classical.not_not] at he; refine Wp.skip ?_; refine thenK_normal ?_; refine Wp.seq ?_; refine Wp.block ?_; refine Wp.seqDraw (.inl rfl) mixed [([0, 1, 2, 3, 4], none), ([5, 6, 7, 8], none)] (by kernel_rfl) fun K' gd hK hg => ?_; clear hg; simp only [pick, nth, List.map_cons, List.map_nil, Option.map_none, Option.map_some]; apply Mops.none
          · intro w' hE'; have hC' := hE'.cellsS; go_simp; with_reducible rfl
          apply Mops.none
          · intro w' hE'; have hC' := hE'.cellsS; go_simp; with_reducible rfl
          refine Mops.done ?_; refine hK _ _ ?_; clear hK K' gd; refine Wp.keep [0, 1, 5, 25] fun r9 hkeep => ?_; obtain ⟨e0_9, e1_9, e5_9, e25_9, -⟩ := hkeep; simp [go_sem, e0_6, e1_6, e5_6, e14_6] at e0_9 e1_9 e5_9 e25_9; clear e0_6 e1_6 e5_6 e14_6; refine Wp.condF (by go_simp) ?_; refine Wp.skip ?_; refine blockK_normal ?_; refine thenK_normal ?_; refine Wp.loneRegion (.inl rfl) (by kernel_rfl) fun K' gd hK hg => ?_; clear hg; go_simp; refine hK _ _ ?_; clear hK K' gd; refine Ends.keep [0, 1, 5] fun r10 hkeep => ?_; obtain ⟨e0_10, e1_10, e5_10, -⟩ := hkeep; simp [go_sem, e0_9, e1_9, e5_9, e25_9] at e0_10 e1_10 e5_10; clear e0_9 e1_9 e5_9 e25_9; refine Ends.mk ?_; refine thenK_normal ⟨by omega, ⟨by rw [e0_10, e0_4], by rw [e1_10, e1_4], trivial⟩, rfl, ?_⟩; refine ⟨by rw [e5_10, IntWalk.i64_in _ (by omega)]; rfl, XE, fun j h1 h2 hj => ?_⟩
          by_cases e : j = k
          · subst e; rw [hx0, hy0]; exact he
          · exact hq j h1 h2 (by omega)
      · refine Wp.condF (by go_simp) ?_; refine Wp.exit ?_; refine thenK_exit ?_; refine thenK_exit ?_; refine blockK_here ?_; refine thenK_normal ?_; refine Wp.seqRegion (.inl rfl) (by kernel_rfl) fun K' gd hK hg => ?_; clear hg; go_simp; refine hK _ _ ?_; clear hK K' gd; refine Wp.keep [4] fun r11 hkeep => ?_; obtain ⟨e4_11, -⟩ := hkeep; simp [go_sem, e0_6, e1_6, e5_6, e14_6] at e4_11; clear e0_6 e1_6 e5_6 e14_6; refine Wp.ret ?_; refine endK_tmp Tryz.results27 (by decide) ?_; rw [e4_11]; refine ⟨?_, hEk⟩; rw [decide_eq_true (List.ext_getElem hne'.symm (fun j h1 h2 => hq j h1 h2 (by omega)))]
  · skip; have hne2 : ¬ (xs.length : Int) = (ys.length : Int) := fun e => hne e.symm; refine Wp.seqRegion (.inl rfl) (by kernel_rfl) fun K' gd hK hg => ?_; clear hg; go_simp; refine hK _ _ ?_; clear hK K' gd; refine Wp.keep [0, 1] fun r12 hkeep => ?_; obtain ⟨e0_12, e1_12, -⟩ := hkeep; simp [go_sem, e0_1, e1_1] at e0_12 e1_12; clear e0_1 e1_1; refine Wp.seq ?_; refine Wp.seqRegion (.inl rfl) (by kernel_rfl) fun K' gd hK hg => ?_; clear hg; go_simp; refine hK _ _ ?_; clear hK K' gd; refine Wp.keep [0, 1, 10] fun r13 hkeep => ?_; obtain ⟨e0_13, e1_13, e10_13, -⟩ := hkeep; simp [go_sem, e0_12, e1_12] at e0_13 e1_13 e10_13; clear e0_12 e1_12; refine Wp.condT (by go_simp) ?_; refine Wp.seqRegion (.inl rfl) (by kernel_rfl) fun K' gd hK hg => ?_; clear hg; go_simp; refine hK _ _ ?_; clear hK K' gd; refine Wp.keep [4] fun r14 hkeep => ?_; obtain ⟨e4_14, -⟩ := hkeep; simp [go_sem, e0_13, e1_13, e10_13] at e4_14; clear e0_13 e1_13 e10_13; refine Wp.ret ?_; refine thenK_ret ?_; refine endK_tmp Tryz.results27 (by decide) ?_; rw [e4_14]; exact ⟨by rw [decide_eq_false (fun e => hne (by rw [e]))], Ext.refl _⟩
def StintsV (w : World) (B : Nat) (v : Value) (xs : List (Int × Int)) : Prop :=
  ∃ (A : Option Addr) (c : Nat), v = .slice A xs.length c ∧ (xs ≠ [] → ∃ b o, A = some ⟨b, o, none⟩ ∧ b < B ∧ ∀ k (h : k < xs.length), w.cell? ⟨b, o + k * 2, none⟩ = some (.int .i64 xs[k].1) ∧ w.cell? ⟨b, o + k * 2 + 1, none⟩ = some (.int .i64 xs[k].2)) ∧ xs.length ≤ c
theorem StintsV.below {w w' : World} {B : Nat} {v : Value} {xs : List (Int × Int)} (h : StintsV w B v xs) (hb : Below B w w') : StintsV w' B v xs := by
  obtain ⟨A, c, hv, hx, hcap⟩ := h
  exact ⟨A, c, hv, fun hne => by
    obtain ⟨b, o, hA, hlt, hc⟩ := hx hne
    exact ⟨b, o, hA, hlt, fun k hk => ⟨(hb.cell (p := ⟨b, o + k * 2, none⟩) hlt).trans (hc k hk).1, (hb.cell (p := ⟨b, o + k * 2 + 1, none⟩) hlt).trans (hc k hk).2⟩⟩, hcap⟩
theorem StintsV.more {w : World} {B B' : Nat} {v : Value} {xs : List (Int × Int)} (h : StintsV w B v xs) (hB : B ≤ B') : StintsV w B' v xs := by
  obtain ⟨A, c, hv, hx, hcap⟩ := h
  exact ⟨A, c, hv, fun hne => by
    obtain ⟨b, o, hA, hlt, hc⟩ := hx hne
    exact ⟨b, o, hA, by omega, hc⟩, hcap⟩
theorem StintsV.ext {w w' : World} {v : Value} {xs : List (Int × Int)} (h : StintsV w w.heap.size v xs) (hE : Ext w w') : StintsV w' w'.heap.size v xs := (h.below hE).more hE.size
theorem encL_get (xs : List (Int × Int)) : ∀ k (h : k < xs.length), (encL xs)[k * 2]? = some (.int .i64 xs[k].1) ∧ (encL xs)[k * 2 + 1]? = some (.int .i64 xs[k].2) := by
  induction xs with
  | nil => intro k h; exact absurd h (Nat.not_lt_zero _)
  | cons x xs ih =>
    intro k h; have e : encL (x :: xs) = .int .i64 x.1 :: .int .i64 x.2 :: encL xs := rfl
    cases k with
    | zero => rw [e]; exact ⟨rfl, rfl⟩
    | succ k =>
      have := ih k (by simpa using h); rw [e, show (k + 1) * 2 = k * 2 + 1 + 1 by omega]; exact this
theorem OwnS.stintsV {w : World} {base : Nat} {v : Value} {xs : List (Int × Int)} (h : OwnS w base v xs) : StintsV w w.heap.size v xs := by
  rcases h.2 with ⟨rfl, hn⟩ | ⟨g, cap, cur, rfl, hb, hg, hnc, hcm, hcs, htake⟩
  · have : xs = [] := List.eq_nil_of_length_eq_zero hn; subst this; exact ⟨none, 0, rfl, fun h => absurd rfl h, Nat.le_refl _⟩
  · refine ⟨_, cap, rfl, fun _ => ⟨g, 0, rfl, (Array.getElem?_eq_some_iff.1 hg).1, fun k hk => ?_⟩, hnc⟩; obtain ⟨e1, e2⟩ := encL_get xs k hk; have h1 := World.ownsRow.cells h (g := g) rfl (k * 2) _ e1; have h2 := World.ownsRow.cells h (g := g) rfl (k * 2 + 1) _ e2; rw [Addr.add_lit] at h1 h2; exact ⟨h1, h2⟩
theorem sameS_c (v1 v2 : Value) (xs ys : List (Int × Int)) (w : World) (h1 : StintsV w w.heap.size v1 xs) (h2 : StintsV w w.heap.size v2 ys) (hl1 : xs.length ≤ 1000000000) (hl2 : ys.length ≤ 1000000000) :
    CallsV Tryz.prog 28 #[v1, v2] w fun v w' => v = .bool (decide (xs = ys)) ∧ Ext w w' := by
  obtain ⟨A1, c1, rfl, hx, -⟩ := h1; obtain ⟨A2, c2, rfl, hy, -⟩ := h2; refine Wp.fn Tryz.func28 rfl Tryz.ntmps28 (by simp) ?_; refine Wp.keep [0, 1] fun r1 hkeep => ?_; obtain ⟨e0_1, e1_1, -⟩ := hkeep; simp [go_sem] at e0_1 e1_1
  by_cases hne : (ys.length : Int) = (xs.length : Int)
  · skip; refine Wp.seqRegion (.inl rfl) (by kernel_rfl) fun K' gd hK hg => ?_; clear hg; go_simp; refine hK _ _ ?_; clear hK K' gd; refine Wp.keep [0, 1] fun r2 hkeep => ?_; obtain ⟨e0_2, e1_2, -⟩ := hkeep; simp [go_sem, e0_1, e1_1] at e0_2 e1_2; clear e0_1 e1_1; refine Wp.seq ?_; refine Wp.seqRegion (.inl rfl) (by kernel_rfl) fun K' gd hK hg => ?_; clear hg; go_simp; refine hK _ _ ?_; clear hK K' gd; refine Wp.keep [0, 1, 10] fun r3 hkeep => ?_; obtain ⟨e0_3, e1_3, e10_3, -⟩ := hkeep; simp [go_sem, e0_2, e1_2] at e0_3 e1_3 e10_3; clear e0_2 e1_2; refine Wp.condF (by go_simp) ?_; have hne' : ys.length = xs.length := by omega
    clear hne; refine Wp.skip ?_; refine thenK_normal ?_; refine Wp.seq ?_; refine Wp.seqRegion (.inl rfl) (by kernel_rfl) fun K' gd hK hg => ?_; clear hg; go_simp; refine hK _ _ ?_; clear hK K' gd; refine Wp.keep [0, 1, 5] fun r4 hkeep => ?_; obtain ⟨e0_4, e1_4, e5_4, -⟩ := hkeep; simp [go_sem, e0_3, e1_3, e10_3] at e0_4 e1_4 e5_4; clear e0_3 e1_3 e10_3; refine Wp.block ?_; refine Wp.loop (fun k ρ ds wk => AllEq [0, 1] ρ r4 ∧ ds = [] ∧ (ρ 5 = .int .i64 (k : Int) ∧ Ext w wk ∧ (∀ j (h1 : j < xs.length) (h2 : j < ys.length), j < k → xs[j] = ys[j]))) (xs.length) ?_ ?_
    · refine ⟨AllEq.refl _ _, rfl, ?_⟩; exact ⟨by rw [e5_4]; rfl, Ext.refl _, fun j _ _ h => absurd h (Nat.not_lt_zero _)⟩
    · rintro k r5 _ wk hk ⟨hA, rfl, ⟨e5, hEk, hq⟩⟩; obtain ⟨e0_5, e1_5, -⟩ := hA; rw [e0_4] at e0_5; rw [e1_4] at e1_5; refine Wp.seq ?_; refine Wp.seqRegion (.inl rfl) (by kernel_rfl) fun K' gd hK hg => ?_; clear hg; go_simp; refine hK _ _ ?_; clear hK K' gd; refine Wp.keep [0, 1, 5, 14] fun r6 hkeep => ?_; obtain ⟨e0_6, e1_6, e5_6, e14_6, -⟩ := hkeep; simp [go_sem, e0_5, e1_5, e5] at e0_6 e1_6 e5_6 e14_6; clear e0_5 e1_5 e5
      by_cases h : k < xs.length
      · refine Wp.condT (by go_simp) ?_; have h' : k < ys.length := by omega
        obtain ⟨b1, o1, rfl, -, hc1⟩ := hx (by intro e; rw [e] at h; exact absurd h (Nat.not_lt_zero _)); obtain ⟨b2, o2, rfl, -, hc2⟩ := hy (by intro e; rw [e] at h'; exact absurd h' (Nat.not_lt_zero _)); obtain ⟨d1, d3⟩ := hc1 k h; obtain ⟨d2, d4⟩ := hc2 k h'; have d1 := hEk.cell d1; have d2 := hEk.cell d2; have d3 := hEk.cell d3; have d4 := hEk.cell d4; obtain ⟨x, hx0⟩ : ∃ x, xs[k] = x := ⟨_, rfl⟩; obtain ⟨y, hy0⟩ : ∃ y, ys[k] = y := ⟨_, rfl⟩; rw [hx0] at d1 d3; rw [hy0] at d2 d4; have b3 : (k : Int) < (xs.length : Int) := by omega
        obtain ⟨x1, x2⟩ := x; obtain ⟨y1, y2⟩ := y
        by_cases he : x1 = y1
        · skip; subst he
          by_cases he2 : x2 = y2
          · skip; subst he2; refine Wp.skip ?_; refine thenK_normal ?_; refine Wp.seq ?_; refine Wp.block ?_; refine Wp.seqDraw (.inl rfl) mixed [([0, 1, 2, 3, 4], none), ([5, 6, 7, 8], none)] (by kernel_rfl) fun K' gd hK hg => ?_; clear hg; simp only [pick, nth, List.map_cons, List.map_nil, Option.map_none, Option.map_some]; apply Mops.none
            · intro w' hE'; have hC' := hE'.cellsS; go_simp; with_reducible rfl
            apply Mops.none
            · intro w' hE'; have hC' := hE'.cellsS; go_simp; with_reducible rfl
            refine Mops.done ?_; refine hK _ _ ?_; clear hK K' gd; refine Wp.keep [0, 1, 5, 25] fun r7 hkeep => ?_; obtain ⟨e0_7, e1_7, e5_7, e25_7, -⟩ := hkeep; simp [go_sem, e0_6, e1_6, e5_6, e14_6] at e0_7 e1_7 e5_7 e25_7; clear e0_6 e1_6 e5_6 e14_6; refine Wp.condF (by go_simp) ?_; refine Wp.skip ?_; refine blockK_normal ?_; refine thenK_normal ?_; refine Wp.loneRegion (.inl rfl) (by kernel_rfl) fun K' gd hK hg => ?_; clear hg; go_simp; refine hK _ _ ?_; clear hK K' gd; refine Ends.keep [0, 1, 5] fun r8 hkeep => ?_; obtain ⟨e0_8, e1_8, e5_8, -⟩ := hkeep; simp [go_sem, e0_7, e1_7, e5_7, e25_7] at e0_8 e1_8 e5_8; clear e0_7 e1_7 e5_7 e25_7; refine Ends.mk ?_; refine thenK_normal ⟨by omega, ⟨by rw [e0_8, e0_4], by rw [e1_8, e1_4], trivial⟩, rfl, ?_⟩; refine ⟨by rw [e5_8, IntWalk.i64_in _ (by omega)]; rfl, XE, fun j h1 h2 hj => ?_⟩
            by_cases e : j = k
            · subst e; rw [hx0, hy0]
            · exact hq j h1 h2 (by omega)
          · skip; refine Wp.skip ?_; refine thenK_normal ?_; refine Wp.seq ?_; refine Wp.block ?_; refine Wp.seqDraw (.inl rfl) mixed [([0, 1, 2, 3, 4], none), ([5, 6, 7, 8], none)] (by kernel_rfl) fun K' gd hK hg => ?_; clear hg; simp only [pick, nth, List.map_cons, List.map_nil, Option.map_none, Option.map_some]; apply Mops.none
            · intro w' hE'; have hC' := hE'.cellsS; go_simp; with_reducible rfl
            apply Mops.none
            · intro w' hE'; have hC' := hE'.cellsS; go_simp; with_reducible rfl
            refine Mops.done ?_; refine hK _ _ ?_; clear hK K' gd; refine Wp.keep [0, 1, 5, 25] fun r9 hkeep => ?_; obtain ⟨e0_9, e1_9, e5_9, e25_9, -⟩ := hkeep; simp [go_sem, e0_6, e1_6, e5_6, e14_6] at e0_9 e1_9 e5_9 e25_9; clear e0_6 e1_6 e5_6 e14_6; refine Wp.condT (by go_simp) ?_; refine Wp.seqRegion (.inl rfl) (by kernel_rfl) fun K' gd hK hg => ?_; clear hg; go_simp; refine hK _ _ ?_; clear hK K' gd; refine Wp.keep [4] fun r10 hkeep => ?_; obtain ⟨e4_10, -⟩ := hkeep; simp [go_sem, e0_9, e1_9, e5_9, e25_9] at e4_10; clear e0_9 e1_9 e5_9 e25_9; refine Wp.ret ?_; refine blockK_ret ?_; refine thenK_ret ?_; refine thenK_ret ?_; refine blockK_ret ?_; refine thenK_ret ?_; refine endK_tmp Tryz.results28 (by decide) ?_; rw [e4_10]; refine ⟨?_, XE⟩; rw [decide_eq_false (fun e => he2 (by subst e; have e := hx0.symm.trans hy0; injection e))]
        · skip; refine Wp.skip ?_; refine thenK_normal ?_; refine Wp.seq ?_; refine Wp.block ?_; refine Wp.seqDraw (.inl rfl) mixed [([0, 1, 2, 3, 4], none), ([5, 6, 7, 8], none)] (by kernel_rfl) fun K' gd hK hg => ?_; clear hg; simp only [pick, nth, List.map_cons, List.map_nil, Option.map_none, Option.map_some]; apply Mops.none
          · intro w' hE'; have hC' := hE'.cellsS; go_simp; with_reducible rfl
          apply Mops.none
          · intro w' hE'; have hC' := hE'.cellsS; go_simp; with_reducible rfl
          refine Mops.done ?_; refine hK _ _ ?_; clear hK K' gd; refine Wp.keep [0, 1, 5, 25] fun r11 hkeep => ?_; obtain ⟨e0_11, e1_11, e5_11, e25_11, -⟩ := hkeep; simp [go_sem, e0_6, e1_6, e5_6, e14_6] at e0_11 e1_11 e5_11 e25_11; clear e0_6 e1_6 e5_6 e14_6; refine Wp.condT (by go_simp) ?_; refine Wp.seqRegion (.inl rfl) (by kernel_rfl) fun K' gd hK hg => ?_; clear hg; go_simp; refine hK _ _ ?_; clear hK K' gd; refine Wp.keep [4] fun r12 hkeep => ?_; obtain ⟨e4_12, -⟩ := hkeep; simp [go_sem, e0_11, e1_11, e5_11, e25_11] at e4_12; clear e0_11 e1_11 e5_11 e25_11; refine Wp.ret ?_; refine blockK_ret ?_; refine thenK_ret ?_; refine thenK_ret ?_; refine blockK_ret ?_; refine thenK_ret ?_; refine endK_tmp Tryz.results28 (by decide) ?_; rw [e4_12]; refine ⟨?_, XE⟩; rw [decide_eq_false (fun e => he (by subst e; have e := hx0.symm.trans hy0; injection e))]
      · refine Wp.condF (by go_simp) ?_; refine Wp.exit ?_; refine thenK_exit ?_; refine thenK_exit ?_; refine blockK_here ?_; refine thenK_normal ?_; refine Wp.seqRegion (.inl rfl) (by kernel_rfl) fun K' gd hK hg => ?_; clear hg; go_simp; refine hK _ _ ?_; clear hK K' gd; refine Wp.keep [4] fun r13 hkeep => ?_; obtain ⟨e4_13, -⟩ := hkeep; simp [go_sem, e0_6, e1_6, e5_6, e14_6] at e4_13; clear e0_6 e1_6 e5_6 e14_6; refine Wp.ret ?_; refine endK_tmp Tryz.results28 (by decide) ?_; rw [e4_13]; refine ⟨?_, hEk⟩; rw [decide_eq_true (List.ext_getElem hne'.symm (fun j h1 h2 => hq j h1 h2 (by omega)))]
  · skip; have hne2 : ¬ (xs.length : Int) = (ys.length : Int) := fun e => hne e.symm; refine Wp.seqRegion (.inl rfl) (by kernel_rfl) fun K' gd hK hg => ?_; clear hg; go_simp; refine hK _ _ ?_; clear hK K' gd; refine Wp.keep [0, 1] fun r14 hkeep => ?_; obtain ⟨e0_14, e1_14, -⟩ := hkeep; simp [go_sem, e0_1, e1_1] at e0_14 e1_14; clear e0_1 e1_1; refine Wp.seq ?_; refine Wp.seqRegion (.inl rfl) (by kernel_rfl) fun K' gd hK hg => ?_; clear hg; go_simp; refine hK _ _ ?_; clear hK K' gd; refine Wp.keep [0, 1, 10] fun r15 hkeep => ?_; obtain ⟨e0_15, e1_15, e10_15, -⟩ := hkeep; simp [go_sem, e0_14, e1_14] at e0_15 e1_15 e10_15; clear e0_14 e1_14; refine Wp.condT (by go_simp) ?_; refine Wp.seqRegion (.inl rfl) (by kernel_rfl) fun K' gd hK hg => ?_; clear hg; go_simp; refine hK _ _ ?_; clear hK K' gd; refine Wp.keep [4] fun r16 hkeep => ?_; obtain ⟨e4_16, -⟩ := hkeep; simp [go_sem, e0_15, e1_15, e10_15] at e4_16; clear e0_15 e1_15 e10_15; refine Wp.ret ?_; refine thenK_ret ?_; refine endK_tmp Tryz.results28 (by decide) ?_; rw [e4_16]; exact ⟨by rw [decide_eq_false (fun e => hne (by rw [e]))], Ext.refl _⟩
end Go.Proofs.YtnfagcccgmakdaaGreat
namespace Go.Proofs.YtnfagcccgmakdaaGreat
open Go.RowKit Go.Wk Go.Proofs
attribute [local irreducible] Go.Wk.Wops Go.Wk.Wp Go.Wk.Mtree Go.Wk.Mops
set_option maxHeartbeats 4000000
theorem withinR_c (n lo hi : Int) (w : World) :
    CallsV Tryz.prog 91 #[.int .i64 n, .int .i64 lo, .int .i64 hi] w fun v w' => v = .bool (decide (lo ≤ n ∧ n ≤ hi)) ∧ Ext w w' := by
  by_cases h1 : lo ≤ n
  all_goals
  refine Wp.fn Tryz.func91 rfl Tryz.ntmps91 (by simp) ?_; refine Wp.keep [0, 1, 2] fun r1 hkeep => ?_; obtain ⟨e0_1, e1_1, e2_1, -⟩ := hkeep; simp [go_sem] at e0_1 e1_1 e2_1; refine Wp.seqRegion (.inl rfl) (by kernel_rfl) fun K' gd hK hg => ?_; clear hg; go_simp; refine hK _ _ ?_; clear hK K' gd; refine Wp.keep [0, 1, 2] fun r2 hkeep => ?_; obtain ⟨e0_2, e1_2, e2_2, -⟩ := hkeep; simp [go_sem, e0_1, e1_1, e2_1] at e0_2 e1_2 e2_2; clear e0_1 e1_1 e2_1; refine Wp.seqRegion (.inl rfl) (by kernel_rfl) fun K' gd hK hg => ?_; have g3 : gd 3 = some 10 := hg 3; clear hg; go_simp; refine hK _ _ ?_; clear hK K' gd g3; refine Wp.keep [6] fun r3 hkeep => ?_; obtain ⟨e6_3, -⟩ := hkeep; simp [go_sem, e0_2, e1_2, e2_2] at e6_3; clear e0_2 e1_2 e2_2; refine Wp.ret ?_; refine endK_tmp Tryz.results91 (by decide) ?_; rw [e6_3]; refine ⟨?_, Ext.refl _⟩; go_simp
theorem isStintR_c (v : Value) (o : Ord) (i j : Int) (w : World) (hV : OrderV w w.heap.size v o) (hf : Fits o) :
    CallsV Tryz.prog 141 #[v, .agg #[.int .i64 i, .int .i64 j]] w fun v w' => v = .bool (isStint o i j) ∧ Ext w w' := by
  obtain ⟨cA, cc, rA, rc, rfl⟩ := hV.slices; obtain ⟨hf1, hf2, -⟩ := hf; have hw1 : IntKind.i64.wrap ((o.runs.length : Int) - 1) = (o.runs.length : Int) - 1 := IntWalk.i64_in _ (by omega); have hw2 : IntKind.i64.wrap ((o.cop.length : Int) - 1) = (o.cop.length : Int) - 1 := IntWalk.i64_in _ (by omega); refine Wp.fn Tryz.func141 rfl Tryz.ntmps141 (by simp) ?_; refine Wp.keep [0, 1] fun r1 hkeep => ?_; obtain ⟨e0_1, e1_1, -⟩ := hkeep; simp [go_sem] at e0_1 e1_1; refine Wp.seqRegion (.inl rfl) (by kernel_rfl) fun K' gd hK hg => ?_; clear hg; go_simp; refine hK _ _ ?_; clear hK K' gd; refine Wp.keep [2, 3] fun r2 hkeep => ?_; obtain ⟨e2_2, e3_2, -⟩ := hkeep; simp [go_sem, e0_1, e1_1] at e2_2 e3_2; clear e0_1 e1_1; refine Wp.seqRegion (.inl rfl) (by kernel_rfl) fun K' gd hK hg => ?_; clear hg; go_simp; refine Wcall (.inl rfl) (withinR_c i 0 ((o.runs.length : Int) - 1) _) ?_; rintro v w2 ⟨rfl, hE⟩; have x0 : w2.cell? ⟨w.heap.size + 1, 1, none⟩ = some (.int .i64 j) := hE.cell (by go_simp); have x1 : w2.cell? ⟨w.heap.size, 0, none⟩ = some (.slice cA o.cop.length cc) := hE.cell (by go_simp); go_simp; refine hK _ _ ?_; clear hK K' gd; refine Wp.keep [2, 3, 5] fun r3 hkeep => ?_; obtain ⟨e2_3, e3_3, e5_3, -⟩ := hkeep; simp [go_sem, e2_2, e3_2] at e2_3 e3_3 e5_3; clear e2_2 e3_2; refine Wp.seqRegion (.inl rfl) (by kernel_rfl) fun K' gd hK hg => ?_; clear hg; go_simp; refine Wcall (.inl rfl) (withinR_c j 0 ((o.cop.length : Int) - 1) _) ?_; rintro v w3 ⟨rfl, hE3⟩; go_simp; refine hK _ _ ?_; clear hK K' gd
  refine Wp.keep [5, 6] fun r4 hkeep => ?_; obtain ⟨e5_4, e6_4, -⟩ := hkeep; simp [go_sem, e2_3, e3_3, e5_3] at e5_4 e6_4; clear e2_3 e3_3 e5_3
  by_cases h1 : 0 ≤ i ∧ i ≤ (o.runs.length : Int) - 1
  · skip; refine Wp.seqRegion (.inl rfl) (by kernel_rfl) fun K' gd hK hg => ?_; have g1 : gd 1 = some 22 := hg 1; clear hg; go_simp; refine hK _ _ ?_; clear hK K' gd g1; refine Wp.keep [4] fun r5 hkeep => ?_; obtain ⟨e4_5, -⟩ := hkeep; simp [go_sem, e5_4, e6_4] at e4_5; clear e5_4 e6_4; refine Wp.ret ?_; refine endK_tmp Tryz.results141 (by decide) ?_; rw [e4_5]; refine ⟨?_, XE⟩; unfold isStint Ord.n Ord.m; go_simp
  · skip; refine Wp.seqRegion (.inl rfl) (by kernel_rfl) fun K' gd hK hg => ?_; have g1 : gd 1 = some 22 := hg 1; clear hg; go_simp; refine hK _ _ ?_; clear hK K' gd g1; refine Wp.keep [4] fun r6 hkeep => ?_; obtain ⟨e4_6, -⟩ := hkeep; simp [go_sem, e5_4, e6_4] at e4_6; clear e5_4 e6_4; refine Wp.ret ?_; refine endK_tmp Tryz.results141 (by decide) ?_; rw [e4_6]; refine ⟨?_, XE⟩; unfold isStint Ord.n Ord.m; go_simp
theorem takesR_c (a : OA) (o : Ord) (i j : Nat) (w : World) (hO : OrdF w w.heap.size a o) (hi : i < o.n) (hj : j < o.m) :
    CallsV Tryz.prog 100 #[.agg #[a.cv o, a.rv o], .agg #[.int .i64 (i : Int), .int .i64 (j : Int)]] w fun v w' => v = .int .i64 (o.T i j) ∧ Ext w w' := by
  have hrA := hO.hr (by omega); have c2 : ∀ X Y, ((w.alloc X).alloc Y).cell? ⟨a.rb, a.ro + i * 3 + 2, none⟩ = some (.slice (some ⟨a.tb i, a.to_ i, none⟩) o.m (a.tc i)) := fun X Y => cell_al _ (cell_al _ (hO.hT i hi)); have c3 : ∀ X Y, ((w.alloc X).alloc Y).cell? ⟨a.tb i, a.to_ i + j, none⟩ = some (.int .i64 (o.T i j)) := fun X Y => cell_al _ (cell_al _ (hO.hTT i j hi hj)); have b3 : (i : Int) < (o.n : Int) := by omega
  have b4 : (j : Int) < (o.m : Int) := by omega
  simp only [OA.cv, OA.rv]; refine Wp.fn Tryz.func100 rfl Tryz.ntmps100 (by simp) ?_; refine Wp.keep [0, 1] fun r1 hkeep => ?_; obtain ⟨e0_1, e1_1, -⟩ := hkeep; simp [go_sem] at e0_1 e1_1; refine Wp.seqRegion (.inl rfl) (by kernel_rfl) fun K' gd hK hg => ?_; clear hg; go_simp; refine hK _ _ ?_; clear hK K' gd; refine Wp.keep [2, 3] fun r2 hkeep => ?_; obtain ⟨e2_2, e3_2, -⟩ := hkeep; simp [go_sem, e0_1, e1_1] at e2_2 e3_2; clear e0_1 e1_1; refine Wp.seqDraw (.inl rfl) mixed [([0, 1, 2, 3, 4], none), ([5, 6, 7, 8, 9], none), ([10, 11], none)] (by kernel_rfl) fun K' gd hK hg => ?_; clear hg; simp only [pick, nth, List.map_cons, List.map_nil, Option.map_none, Option.map_some]; apply Mops.none
  · intro w' hE'; have hC' := hE'.cellsS; go_simp; with_reducible rfl
  apply Mops.none
  · intro w' hE'; have hC' := hE'.cellsS; go_simp; with_reducible rfl
  apply Mops.none
  · intro w' hE'; have hC' := hE'.cellsS; go_simp; with_reducible rfl
  refine Mops.done ?_; refine hK _ _ ?_; clear hK K' gd; refine Wp.keep [4] fun r3 hkeep => ?_; obtain ⟨e4_3, -⟩ := hkeep; simp [go_sem, e2_2, e3_2] at e4_3; clear e2_2 e3_2; refine Wp.ret ?_; refine endK_tmp Tryz.results100 (by decide) ?_; rw [e4_3]; exact ⟨rfl, XE⟩
theorem stintsR_c (A1 A2 : Option Addr) (n m c1 c2 : Nat) (w : World) (hn : n ≤ 1000) (hm : m ≤ 1000) :
    CallsV Tryz.prog 83 #[.agg #[.slice A1 m c1, .slice A2 n c2]] w fun v w' => OwnS w' w.heap.size v ((stintsL n m).map zS) ∧ Ext w w' := by
  refine Wp.fn Tryz.func83 rfl Tryz.ntmps83 (by simp) ?_; refine Wp.keep [0] fun r1 hkeep => ?_; obtain ⟨e0_1, -⟩ := hkeep; simp [go_sem] at e0_1; refine Wp.seqRegion (.inl rfl) (by kernel_rfl) fun K' gd hK hg => ?_; clear hg; go_simp; refine hK _ _ ?_; clear hK K' gd; refine Wp.keep [1] fun r2 hkeep => ?_; obtain ⟨e1_2, -⟩ := hkeep; simp [go_sem, e0_1] at e1_2; clear e0_1; refine Wp.seqRegion (.inl rfl) (by kernel_rfl) fun K' gd hK hg => ?_; clear hg; go_simp; refine hK _ _ ?_; clear hK K' gd; refine Wp.keep [1, 3] fun r3 hkeep => ?_; obtain ⟨e1_3, e3_3, -⟩ := hkeep; simp [go_sem, e1_2] at e1_3 e3_3; clear e1_2; refine Wp.seq ?_; refine Wp.seqRegion (.inl rfl) (by kernel_rfl) fun K' gd hK hg => ?_; clear hg; go_simp; refine hK _ _ ?_; clear hK K' gd; refine Wp.keep [1, 3, 4] fun r4 hkeep => ?_; obtain ⟨e1_4, e3_4, e4_4, -⟩ := hkeep; simp [go_sem, e1_3, e3_3] at e1_4 e3_4 e4_4; clear e1_3 e3_3; refine Wp.block ?_; refine Wp.loop (fun k ρ ds wk => AllEq [1] ρ r4 ∧ ds = [] ∧ (∃ v3, ρ 4 = .int .i64 (k : Int) ∧ ρ 3 = v3 ∧ OwnS wk (w.heap.size + 1) v3 (((stintsL n m).take (k * m)).map zS) ∧ Ext (w.alloc (.cells #[.slice A1 m c1, .slice A2 n c2] 25)) wk)) (n) ?_ ?_
  · refine ⟨AllEq.refl _ _, rfl, ?_⟩; exact ⟨_, by rw [e4_4]; rfl, e3_4, by rw [Nat.zero_mul]; exact World.ownsRow_nil _ _ _ _, Ext.refl _⟩
  · rintro k r5 _ wk hk ⟨hA, rfl, ⟨v3, e4, e3, i1, hEk⟩⟩; obtain ⟨e1_5, -⟩ := hA; rw [e1_4] at e1_5; have x0 : wk.cell? ⟨w.heap.size, 0, none⟩ = some (.slice A1 m c1) := hEk.cell (by go_simp); have x1 : wk.cell? ⟨w.heap.size, 1, none⟩ = some (.slice A2 n c2) := hEk.cell (by go_simp); have hlt0 : w.heap.size < wk.heap.size := cell_lt x0; refine Wp.seq ?_; refine Wp.seqRegion (.inl rfl) (by kernel_rfl) fun K' gd hK hg => ?_; clear hg; go_simp; refine hK _ _ ?_; clear hK K' gd; refine Wp.keep [1, 3, 4, 10] fun r6 hkeep => ?_; obtain ⟨e1_6, e3_6, e4_6, e10_6, -⟩ := hkeep; simp [go_sem, e1_5, e3, e4] at e1_6 e3_6 e4_6 e10_6; clear e1_5 e3 e4
    by_cases h : k < n
    · refine Wp.condT (by go_simp) ?_; refine Wp.skip ?_; refine thenK_normal ?_; refine Wp.seq ?_; refine Wp.block ?_; refine Wp.seqRegion (.inl rfl) (by kernel_rfl) fun K' gd hK hg => ?_; clear hg; go_simp; refine hK _ _ ?_; clear hK K' gd; refine Wp.keep [1, 3, 4, 5] fun r7 hkeep => ?_; obtain ⟨e1_7, e3_7, e4_7, e5_7, -⟩ := hkeep; simp [go_sem, e1_6, e3_6, e4_6, e10_6] at e1_7 e3_7 e4_7 e5_7; clear e1_6 e3_6 e4_6 e10_6; refine Wp.block ?_; refine Wp.loop (fun j ρ ds wj => AllEq [1, 4] ρ r7 ∧ ds = [] ∧ (∃ v3, ρ 5 = .int .i64 (j : Int) ∧ ρ 3 = v3 ∧ OwnS wj (w.heap.size + 1) v3 (((stintsL n m).take (k * m + j)).map zS) ∧ Ext (w.alloc (.cells #[.slice A1 m c1, .slice A2 n c2] 25)) wj)) (m) ?_ ?_
      · refine ⟨AllEq.refl _ _, rfl, ?_⟩; exact ⟨_, by rw [e5_7]; rfl, e3_7, i1, hEk⟩
      · rintro j r8 _ wj hj ⟨hA, rfl, ⟨v3, e5, e3, j1, hEj⟩⟩; obtain ⟨e1_8, e4_8, -⟩ := hA; rw [e1_7] at e1_8; rw [e4_7] at e4_8; have y0 : wj.cell? ⟨w.heap.size, 0, none⟩ = some (.slice A1 m c1) := hEj.cell (by go_simp); have y1 : wj.cell? ⟨w.heap.size, 1, none⟩ = some (.slice A2 n c2) := hEj.cell (by go_simp); have hltj : w.heap.size < wj.heap.size := cell_lt y0; refine Wp.seq ?_; refine Wp.seqRegion (.inl rfl) (by kernel_rfl) fun K' gd hK hg => ?_; clear hg; go_simp; refine hK _ _ ?_; clear hK K' gd; refine Wp.keep [1, 3, 4, 5, 17] fun r9 hkeep => ?_; obtain ⟨e1_9, e3_9, e4_9, e5_9, e17_9, -⟩ := hkeep; simp [go_sem, e1_8, e3, e4_8, e5] at e1_9 e3_9 e4_9 e5_9 e17_9; clear e1_8 e3 e4_8 e5
        by_cases h2 : j < m
        · refine Wp.condT (by go_simp) ?_; have hget := stintsL_get h h2; have hlen : (((stintsL n m).take (k * m + j)).map zS).length ≤ 1000000 := by rw [List.length_map, List.length_take]; have e2 : n * m ≤ 1000 * 1000 := Nat.mul_le_mul hn hm; rw [stintsL_len]; omega
          refine Wp.skip ?_; refine thenK_normal ?_; refine Wp.seq ?_; refine Wp.block ?_; refine Wp.loneRegion (.inl rfl) (by kernel_rfl) fun K' gd hK hg => ?_; clear hg; refine Wops.cut 5 fun K1 hK1 => ?_; simp only [List.take_succ_cons, List.take_zero]; go_simp; refine hK1 _ _ ?_; clear hK1 K1; simp only [List.drop_succ_cons, List.drop_zero]; obtain ⟨v', w', hrun, hown, hgr, -⟩ := app_run stints_T (ownsRow_ext j1 XE) ⟨wj.heap.size, 0, none⟩ 1 1 [.int .i64 (k : Int), .int .i64 (j : Int)] 45 rfl (news_two (cell_nn _ _ _ 0 rfl rfl) (cell_nn _ _ _ 1 rfl rfl)) (oneCell_ints (by simp)) (by omega) (by simp; omega) (w := wj.alloc (.cells #[.int .i64 (k : Int), .int .i64 (j : Int)] 56)); refine Wops.law rfl (exec_append2 rfl hrun (by go_simp) (by go_simp)) ?_; go_simp; refine hK _ _ ?_; clear hK K' gd; refine Ends.keep [1, 3, 4, 5] fun r10 hkeep => ?_; obtain ⟨e1_10, e3_10, e4_10, e5_10, -⟩ := hkeep; simp [go_sem, e1_9, e3_9, e4_9, e5_9, e17_9] at e1_10 e3_10 e4_10 e5_10; clear e1_9 e3_9 e4_9 e5_9 e17_9; refine Ends.mk ?_; refine blockK_normal ?_; refine thenK_normal ?_; refine Wp.loneRegion (.inl rfl) (by kernel_rfl) fun K' gd hK hg => ?_; clear hg; go_simp; refine hK _ _ ?_; clear hK K' gd; refine Ends.keep [1, 3, 4, 5] fun r11 hkeep => ?_; obtain ⟨e1_11, e3_11, e4_11, e5_11, -⟩ := hkeep; simp [go_sem, e1_10, e3_10, e4_10, e5_10] at e1_11 e3_11 e4_11 e5_11; clear e1_10 e3_10 e4_10 e5_10; refine Ends.mk ?_; refine thenK_normal ⟨by omega, ⟨by rw [e1_11, e1_7], by rw [e4_11, e4_7], trivial⟩, rfl, ?_⟩
          refine ⟨v', by rw [e5_11, IntWalk.i64_in _ (by omega)]; rfl, e3_11, ?_, Below.grown (show Ext _ (wj.alloc (.cells #[.int .i64 (k : Int), .int .i64 (j : Int)] 56)) from hEj.alloc _) (ownsRow_ext j1 ((Ext.refl _).alloc _)) hgr (by simp) (Nat.le_refl _)⟩; rw [show k * m + (j + 1) = k * m + j + 1 by omega, List.take_add_one, hget, List.map_append]
          show World.ownsRow _ _ _ _ _ _ _
          rw [show (some (k, j) : Option (Nat × Nat)).toList.map zS = [((k : Int), (j : Int))] from rfl, encL_add, List.length_append]; exact hown
        · refine Wp.condF (by go_simp) ?_; obtain rfl : j = m := by omega
          refine Wp.exit ?_; refine thenK_exit ?_; refine thenK_exit ?_; refine blockK_here ?_; refine blockK_normal ?_; refine thenK_normal ?_; refine Wp.loneRegion (.inl rfl) (by kernel_rfl) fun K' gd hK hg => ?_; clear hg; go_simp; refine hK _ _ ?_; clear hK K' gd; refine Ends.keep [1, 3, 4] fun r12 hkeep => ?_; obtain ⟨e1_12, e3_12, e4_12, -⟩ := hkeep; simp [go_sem, e1_9, e3_9, e4_9, e5_9, e17_9] at e1_12 e3_12 e4_12; clear e1_9 e3_9 e4_9 e5_9 e17_9; refine Ends.mk ?_; refine thenK_normal ⟨by omega, ⟨by rw [e1_12, e1_4], trivial⟩, rfl, ?_⟩; exact ⟨_, by rw [e4_12, IntWalk.i64_in _ (by omega)]; rfl, e3_12, by rw [Nat.add_mul, Nat.one_mul]; exact j1, hEj⟩
    · refine Wp.condF (by go_simp) ?_; obtain rfl : k = n := by omega
      refine Wp.exit ?_; refine thenK_exit ?_; refine thenK_exit ?_; refine blockK_here ?_; refine thenK_normal ?_; refine Wp.seqRegion (.inl rfl) (by kernel_rfl) fun K' gd hK hg => ?_; clear hg; go_simp; refine hK _ _ ?_; clear hK K' gd; refine Wp.keep [2] fun r13 hkeep => ?_; obtain ⟨e2_13, -⟩ := hkeep; simp [go_sem, e1_6, e3_6, e4_6, e10_6] at e2_13; clear e1_6 e3_6 e4_6 e10_6; refine Wp.ret ?_; refine endK_tmp Tryz.results83 (by decide) ?_; rw [e2_13]; rw [List.take_of_length_le (by rw [stintsL_len]; exact Nat.le_refl _)] at i1; exact ⟨ownsRow_less i1 (Nat.le_succ _), Ext.trans ((Ext.refl _).alloc _) hEk⟩
theorem waits_step (o : Ord) (i j : Nat) : (beforeL o (i, j)).map zS = (if 0 < j then [((i : Int), ((j - 1 : Nat) : Int))] else []) ++ (if o.C j ≤ (i : Int) then [(((i - (o.C j).toNat : Nat) : Int), (j : Int))] else []) := by
  unfold beforeL; rw [List.map_append]
  congr 1
  · split <;> rfl
  · split <;> rfl
theorem waitsR_c (a : OA) (o : Ord) (i j : Nat) (w : World) (hO : OrdF w w.heap.size a o) (hi : i < o.n) (hj : j < o.m) :
    CallsV Tryz.prog 134 #[.agg #[a.cv o, a.rv o], .agg #[.int .i64 (i : Int), .int .i64 (j : Int)]] w fun v w' => OwnS w' w.heap.size v ((beforeL o (i, j)).map zS) ∧ Ext w w' := by
  have hm := hO.hm2; have hn := hO.hn2; have vC := hO.vC j hj; have b4 : (j : Int) < (o.m : Int) := by omega
  simp only [OA.cv, OA.rv]; refine Wp.fn Tryz.func134 rfl Tryz.ntmps134 (by simp) ?_; refine Wp.keep [0, 1] fun r1 hkeep => ?_; obtain ⟨e0_1, e1_1, -⟩ := hkeep; simp [go_sem] at e0_1 e1_1; refine Wp.seqRegion (.inl rfl) (by kernel_rfl) fun K' gd hK hg => ?_; clear hg; go_simp; refine hK _ _ ?_; clear hK K' gd; refine Wp.keep [2, 3] fun r2 hkeep => ?_; obtain ⟨e2_2, e3_2, -⟩ := hkeep; simp [go_sem, e0_1, e1_1] at e2_2 e3_2; clear e0_1 e1_1; have x0 : ((w.alloc (.cells #[.slice (some ⟨a.cb, a.co, none⟩) o.m a.cc, .slice a.rA o.n a.rc] 25)).alloc (.cells #[.int .i64 (i : Int), .int .i64 (j : Int)] 56)).cell? ⟨w.heap.size, 0, none⟩ = some (.slice (some ⟨a.cb, a.co, none⟩) o.m a.cc) := by go_simp
  have x2 : ((w.alloc (.cells #[.slice (some ⟨a.cb, a.co, none⟩) o.m a.cc, .slice a.rA o.n a.rc] 25)).alloc (.cells #[.int .i64 (i : Int), .int .i64 (j : Int)] 56)).cell? ⟨w.heap.size + 1, 0, none⟩ = some (.int .i64 (i : Int)) := by go_simp
  have x3 : ((w.alloc (.cells #[.slice (some ⟨a.cb, a.co, none⟩) o.m a.cc, .slice a.rA o.n a.rc] 25)).alloc (.cells #[.int .i64 (i : Int), .int .i64 (j : Int)] 56)).cell? ⟨w.heap.size + 1, 1, none⟩ = some (.int .i64 (j : Int)) := by go_simp
  have hEV : Ext w ((w.alloc (.cells #[.slice (some ⟨a.cb, a.co, none⟩) o.m a.cc, .slice a.rA o.n a.rc] 25)).alloc (.cells #[.int .i64 (i : Int), .int .i64 (j : Int)] 56)) := XE
  generalize ((w.alloc (.cells #[.slice (some ⟨a.cb, a.co, none⟩) o.m a.cc, .slice a.rA o.n a.rc] 25)).alloc (.cells #[.int .i64 (i : Int), .int .i64 (j : Int)] 56)) = V at *
  have hlV : w.heap.size + 1 < V.heap.size := cell_lt x3; have c0 := (hO.ext hEV).hC j hj
  by_cases h1 : 0 < j
  · skip; refine Wp.seqRegion (.inl rfl) (by kernel_rfl) fun K' gd hK hg => ?_; clear hg; go_simp; refine hK _ _ ?_; clear hK K' gd; refine Wp.keep [2, 3, 5] fun r3 hkeep => ?_; obtain ⟨e2_3, e3_3, e5_3, -⟩ := hkeep; simp [go_sem, e2_2, e3_2] at e2_3 e3_3 e5_3; clear e2_2 e3_2; refine Wp.seq ?_; refine Wp.seqRegion (.inl rfl) (by kernel_rfl) fun K' gd hK hg => ?_; clear hg; go_simp; refine hK _ _ ?_; clear hK K' gd; refine Wp.keep [2, 3, 5, 8] fun r4 hkeep => ?_; obtain ⟨e2_4, e3_4, e5_4, e8_4, -⟩ := hkeep; simp [go_sem, e2_3, e3_3, e5_3] at e2_4 e3_4 e5_4 e8_4; clear e2_3 e3_3 e5_3; refine Wp.condT (by go_simp) ?_; have hwj : IntKind.i64.wrap ((j : Int) - 1) = ((j - 1 : Nat) : Int) := by rw [IntWalk.i64_in _ (by omega)]; omega
    obtain ⟨j1, hj1⟩ : ∃ j1, j - 1 = j1 := ⟨_, rfl⟩; rw [hj1] at hwj; refine Wp.loneRegion (.inl rfl) (by kernel_rfl) fun K' gd hK hg => ?_; clear hg; refine Wops.cut 8 fun K1 hK1 => ?_; simp only [List.take_succ_cons, List.take_zero]; go_simp; refine hK1 _ _ ?_; clear hK1 K1; simp only [List.drop_succ_cons, List.drop_zero]; obtain ⟨v', w', hrun, hown, hgr, -⟩ := app_run stints_T (World.ownsRow_nil _ (w.heap.size) 56 2) ⟨V.heap.size, 0, none⟩ 1 1 [.int .i64 (i : Int), .int .i64 (j1 : Int)] 45 rfl (news_two (cell_nn _ _ _ 0 rfl rfl) (cell_nn _ _ _ 1 rfl rfl)) (oneCell_ints (by simp)) (by omega) (by simp; omega) (w := V.alloc (.cells #[.int .i64 (i : Int), .int .i64 (j1 : Int)] 56)); have hE1 : Ext V w' := Below.grown ((Ext.refl V).alloc _) (World.ownsRow_nil _ V.heap.size 56 2) hgr (Nat.le_refl _) (Nat.le_refl _); have y0 := hE1.cell x0; have y2 := hE1.cell x2; have y3 := hE1.cell x3; have hE1w : Ext w w' := Ext.trans hEV hE1; have c1 := (hO.ext hE1w).hC j hj; have hlw' : w.heap.size + 1 < w'.heap.size := cell_lt y3; refine Wops.law rfl (exec_append2 rfl hrun (by go_simp) (by go_simp)) ?_; go_simp; refine hK _ _ ?_; clear hK K' gd; refine Ends.keep [2, 3, 5] fun r5 hkeep => ?_; obtain ⟨e2_5, e3_5, e5_5, -⟩ := hkeep; simp [go_sem, e2_4, e3_4, e5_4, e8_4] at e2_5 e3_5 e5_5; clear e2_4 e3_4 e5_4 e8_4; refine Ends.mk ?_; refine thenK_normal ?_
    by_cases h2 : o.C j ≤ (i : Int)
    · skip; have hwi : IntKind.i64.wrap ((i : Int) - o.C j) = ((i - (o.C j).toNat : Nat) : Int) := by rw [IntWalk.i64_in _ (by omega)]; omega
      obtain ⟨i1, hi1⟩ : ∃ i1, i - (o.C j).toNat = i1 := ⟨_, rfl⟩; rw [hi1] at hwi; refine Wp.seq ?_; refine Wp.seqDraw (.inl rfl) mixed [([0, 1, 2, 3, 4], none), ([5, 6, 7, 8], none)] (by kernel_rfl) fun K' gd hK hg => ?_; clear hg; simp only [pick, nth, List.map_cons, List.map_nil, Option.map_none, Option.map_some]; apply Mops.none
      · intro w' hE'; have hC' := hE'.cellsS; go_simp; with_reducible rfl
      apply Mops.none
      · intro w' hE'; have hC' := hE'.cellsS; go_simp; with_reducible rfl
      refine Mops.done ?_; refine hK _ _ ?_; clear hK K' gd; refine Wp.keep [2, 3, 5, 26] fun r6 hkeep => ?_; obtain ⟨e2_6, e3_6, e5_6, e26_6, -⟩ := hkeep; simp [go_sem, e2_5, e3_5, e5_5] at e2_6 e3_6 e5_6 e26_6; clear e2_5 e3_5 e5_5; refine Wp.condT (by go_simp) ?_; refine Wp.loneDraw (.inl rfl) mixed [([0, 1, 2, 3, 4], none), ([5, 6, 7, 8, 9], none), ([10, 11, 12], some (13, false)), ([], some (14, true)), ([], some (15, true))] (by kernel_rfl) fun K' gd hK hg => ?_; clear hg; simp only [pick, nth, List.map_cons, List.map_nil, Option.map_none, Option.map_some]; apply Mops.none
      · intro w' hE'; have hC' := hE'.cellsS; go_simp; with_reducible rfl
      apply Mops.none
      · intro w' hE'; have hC' := hE'.cellsS; go_simp; with_reducible rfl
      apply Mops.act
      · intro w' hE'; have hC' := hE'.cellsS; go_simp; with_reducible rfl
      intro K1 hK1; go_simp; refine hK1 _ _ ((Ext.refl _).alloc _) ?_; clear hK1 K1; apply Mops.last
      · exact fun _ _ => Rops_done
      intro K1 hK1; obtain ⟨v'', w'', hrun, hown2, hgr2, -⟩ := app_run stints_T (ownsRow_ext hown (show Ext w' (w'.alloc (.cells #[.int .i64 (i1 : Int), .int .i64 (j : Int)] 56)).drew.drew from XE)) ⟨w'.heap.size, 0, none⟩ 1 1 [.int .i64 (i1 : Int), .int .i64 (j : Int)] 45 rfl (news_two (cell_nn _ _ _ 0 rfl rfl) (cell_nn _ _ _ 1 rfl rfl)) (oneCell_ints (by simp)) (by omega) (by simp; omega); refine if_pos_of rfl (Wstep.law (exec_append2 rfl hrun (by go_simp) (by go_simp)) ?_); refine hK1 _ _ ?_; clear hK1 K1; apply Mops.last
      · exact fun _ _ => Rops_done
      intro K1 hK1; go_simp; refine hK1 _ _ ?_; clear hK1 K1; refine Mops.done ?_; refine hK _ _ ?_; clear hK K' gd; refine Ends.keep [5] fun r7 hkeep => ?_; obtain ⟨e5_7, -⟩ := hkeep; simp [go_sem, e2_6, e3_6, e5_6, e26_6] at e5_7; clear e2_6 e3_6 e5_6 e26_6; refine Ends.mk ?_; refine thenK_normal ?_; refine Wp.seqRegion (.inl rfl) (by kernel_rfl) fun K' gd hK hg => ?_; clear hg; go_simp; refine hK _ _ ?_; clear hK K' gd; refine Wp.keep [4] fun r8 hkeep => ?_; obtain ⟨e4_8, -⟩ := hkeep; simp [go_sem, e5_7] at e4_8; clear e5_7; refine Wp.ret ?_; refine endK_tmp Tryz.results134 (by decide) ?_; rw [e4_8]; refine ⟨?_, Below.grown (show Ext w (w'.alloc (.cells #[.int .i64 (i1 : Int), .int .i64 (j : Int)] 56)).drew.drew from XE) (ownsRow_ext hown (show Ext w' (w'.alloc (.cells #[.int .i64 (i1 : Int), .int .i64 (j : Int)] 56)).drew.drew from XE)) hgr2 (Nat.le_refl _) (Nat.le_refl _)⟩; rw [waits_step, if_pos h1, if_pos h2, hj1, hi1]; exact hown2
    · skip; refine Wp.seq ?_; refine Wp.seqDraw (.inl rfl) mixed [([0, 1, 2, 3, 4], none), ([5, 6, 7, 8], none)] (by kernel_rfl) fun K' gd hK hg => ?_; clear hg; simp only [pick, nth, List.map_cons, List.map_nil, Option.map_none, Option.map_some]; apply Mops.none
      · intro w' hE'; have hC' := hE'.cellsS; go_simp; with_reducible rfl
      apply Mops.none
      · intro w' hE'; have hC' := hE'.cellsS; go_simp; with_reducible rfl
      refine Mops.done ?_; refine hK _ _ ?_; clear hK K' gd; refine Wp.keep [2, 3, 5, 26] fun r9 hkeep => ?_; obtain ⟨e2_9, e3_9, e5_9, e26_9, -⟩ := hkeep; simp [go_sem, e2_5, e3_5, e5_5] at e2_9 e3_9 e5_9 e26_9; clear e2_5 e3_5 e5_5; refine Wp.condF (by go_simp) ?_; refine Wp.skip ?_; refine thenK_normal ?_; refine Wp.seqRegion (.inl rfl) (by kernel_rfl) fun K' gd hK hg => ?_; clear hg; go_simp; refine hK _ _ ?_; clear hK K' gd; refine Wp.keep [4] fun r10 hkeep => ?_; obtain ⟨e4_10, -⟩ := hkeep; simp [go_sem, e2_9, e3_9, e5_9, e26_9] at e4_10; clear e2_9 e3_9 e5_9 e26_9; refine Wp.ret ?_; refine endK_tmp Tryz.results134 (by decide) ?_; rw [e4_10]; refine ⟨?_, XE⟩; rw [waits_step, if_pos h1, if_neg h2, hj1]; exact ownsRow_ext hown XE
  · skip; refine Wp.seqRegion (.inl rfl) (by kernel_rfl) fun K' gd hK hg => ?_; clear hg; go_simp; refine hK _ _ ?_; clear hK K' gd; refine Wp.keep [2, 3, 5] fun r11 hkeep => ?_; obtain ⟨e2_11, e3_11, e5_11, -⟩ := hkeep; simp [go_sem, e2_2, e3_2] at e2_11 e3_11 e5_11; clear e2_2 e3_2; refine Wp.seq ?_; refine Wp.seqRegion (.inl rfl) (by kernel_rfl) fun K' gd hK hg => ?_; clear hg; go_simp; refine hK _ _ ?_; clear hK K' gd; refine Wp.keep [2, 3, 5, 8] fun r12 hkeep => ?_; obtain ⟨e2_12, e3_12, e5_12, e8_12, -⟩ := hkeep; simp [go_sem, e2_11, e3_11, e5_11] at e2_12 e3_12 e5_12 e8_12; clear e2_11 e3_11 e5_11; refine Wp.condF (by go_simp) ?_
    by_cases h2 : o.C j ≤ (i : Int)
    · skip; have hwi : IntKind.i64.wrap ((i : Int) - o.C j) = ((i - (o.C j).toNat : Nat) : Int) := by rw [IntWalk.i64_in _ (by omega)]; omega
      obtain ⟨i1, hi1⟩ : ∃ i1, i - (o.C j).toNat = i1 := ⟨_, rfl⟩; rw [hi1] at hwi; refine Wp.skip ?_; refine thenK_normal ?_; refine Wp.seq ?_; refine Wp.seqDraw (.inl rfl) mixed [([0, 1, 2, 3, 4], none), ([5, 6, 7, 8], none)] (by kernel_rfl) fun K' gd hK hg => ?_; clear hg; simp only [pick, nth, List.map_cons, List.map_nil, Option.map_none, Option.map_some]; apply Mops.none
      · intro w' hE'; have hC' := hE'.cellsS; go_simp; with_reducible rfl
      apply Mops.none
      · intro w' hE'; have hC' := hE'.cellsS; go_simp; with_reducible rfl
      refine Mops.done ?_; refine hK _ _ ?_; clear hK K' gd; refine Wp.keep [2, 3, 5, 26] fun r13 hkeep => ?_; obtain ⟨e2_13, e3_13, e5_13, e26_13, -⟩ := hkeep; simp [go_sem, e2_12, e3_12, e5_12, e8_12] at e2_13 e3_13 e5_13 e26_13; clear e2_12 e3_12 e5_12 e8_12; refine Wp.condT (by go_simp) ?_; refine Wp.loneDraw (.inl rfl) mixed [([0, 1, 2, 3, 4], none), ([5, 6, 7, 8, 9], none), ([10, 11, 12], some (13, false)), ([], some (14, true)), ([], some (15, true))] (by kernel_rfl) fun K' gd hK hg => ?_; clear hg; simp only [pick, nth, List.map_cons, List.map_nil, Option.map_none, Option.map_some]; apply Mops.none
      · intro w' hE'; have hC' := hE'.cellsS; go_simp; with_reducible rfl
      apply Mops.none
      · intro w' hE'; have hC' := hE'.cellsS; go_simp; with_reducible rfl
      apply Mops.act
      · intro w' hE'; have hC' := hE'.cellsS; go_simp; with_reducible rfl
      intro K1 hK1; go_simp; refine hK1 _ _ ((Ext.refl _).alloc _) ?_; clear hK1 K1; apply Mops.last
      · exact fun _ _ => Rops_done
      intro K1 hK1; obtain ⟨v', w', hrun, hown, hgr, -⟩ := app_run stints_T (World.ownsRow_nil _ (w.heap.size) 56 2) ⟨V.heap.size, 0, none⟩ 1 1 [.int .i64 (i1 : Int), .int .i64 (j : Int)] 45 rfl (news_two (cell_nn _ _ _ 0 rfl rfl) (cell_nn _ _ _ 1 rfl rfl)) (oneCell_ints (by simp)) (by omega) (by simp; omega) (w := (V.alloc (.cells #[.int .i64 (i1 : Int), .int .i64 (j : Int)] 56)).drew.drew); refine if_pos_of rfl (Wstep.law (exec_append2 rfl hrun (by go_simp) (by go_simp)) ?_); refine hK1 _ _ ?_; clear hK1 K1; apply Mops.last
      · exact fun _ _ => Rops_done
      intro K1 hK1; go_simp; refine hK1 _ _ ?_; clear hK1 K1; refine Mops.done ?_; refine hK _ _ ?_; clear hK K' gd; refine Ends.keep [5] fun r14 hkeep => ?_; obtain ⟨e5_14, -⟩ := hkeep; simp [go_sem, e2_13, e3_13, e5_13, e26_13] at e5_14; clear e2_13 e3_13 e5_13 e26_13; refine Ends.mk ?_; refine thenK_normal ?_; refine Wp.seqRegion (.inl rfl) (by kernel_rfl) fun K' gd hK hg => ?_; clear hg; go_simp; refine hK _ _ ?_; clear hK K' gd; refine Wp.keep [4] fun r15 hkeep => ?_; obtain ⟨e4_15, -⟩ := hkeep; simp [go_sem, e5_14] at e4_15; clear e5_14; refine Wp.ret ?_; refine endK_tmp Tryz.results134 (by decide) ?_; rw [e4_15]; refine ⟨?_, Below.grown (show Ext w (V.alloc (.cells #[.int .i64 (i1 : Int), .int .i64 (j : Int)] 56)).drew.drew from XE) (World.ownsRow_nil _ w.heap.size 56 2) hgr (Nat.le_refl _) (Nat.le_refl _)⟩; rw [waits_step, if_neg h1, if_pos h2, hi1]; exact hown
    · skip; refine Wp.skip ?_; refine thenK_normal ?_; refine Wp.seq ?_; refine Wp.seqDraw (.inl rfl) mixed [([0, 1, 2, 3, 4], none), ([5, 6, 7, 8], none)] (by kernel_rfl) fun K' gd hK hg => ?_; clear hg; simp only [pick, nth, List.map_cons, List.map_nil, Option.map_none, Option.map_some]; apply Mops.none
      · intro w' hE'; have hC' := hE'.cellsS; go_simp; with_reducible rfl
      apply Mops.none
      · intro w' hE'; have hC' := hE'.cellsS; go_simp; with_reducible rfl
      refine Mops.done ?_; refine hK _ _ ?_; clear hK K' gd; refine Wp.keep [2, 3, 5, 26] fun r16 hkeep => ?_; obtain ⟨e2_16, e3_16, e5_16, e26_16, -⟩ := hkeep; simp [go_sem, e2_12, e3_12, e5_12, e8_12] at e2_16 e3_16 e5_16 e26_16; clear e2_12 e3_12 e5_12 e8_12; refine Wp.condF (by go_simp) ?_; refine Wp.skip ?_; refine thenK_normal ?_; refine Wp.seqRegion (.inl rfl) (by kernel_rfl) fun K' gd hK hg => ?_; clear hg; go_simp; refine hK _ _ ?_; clear hK K' gd; refine Wp.keep [4] fun r17 hkeep => ?_; obtain ⟨e4_17, -⟩ := hkeep; simp [go_sem, e2_16, e3_16, e5_16, e26_16] at e4_17; clear e2_16 e3_16 e5_16 e26_16; refine Wp.ret ?_; refine endK_tmp Tryz.results134 (by decide) ?_; rw [e4_17]; refine ⟨?_, XE⟩; rw [waits_step, if_neg h1, if_neg h2]; exact World.ownsRow_nil _ _ _ _
end Go.Proofs.YtnfagcccgmakdaaGreat
namespace Go.Proofs.YtnfagcccgmakdaaGreat
open Go.RowKit Go.Wk Go.Proofs
attribute [local irreducible] Go.Wk.Wops Go.Wk.Wp Go.Wk.Mtree Go.Wk.Mops
set_option maxHeartbeats 4000000
theorem row_own_ne {w : World} {b n S size n' : Nat} {e e' : TypeId} {v : Value} {xs : List Value} (h : RowB w b e n) (ho : w.ownsRow S e' size v n' xs) (he : e ≠ e') : v.ownBlock ≠ some b := by
  intro hb
  rcases ho.2 with ⟨rfl, -⟩ | ⟨g, cap, cur, rfl, -, hg, -, -, hcs, -⟩
  · cases hb
  · have hb := Option.some.inj hb; subst hb; exact RowB.ne h ⟨cur, hg, hcs⟩ he rfl
def rowsV (n m : Nat) (rb : Nat → Nat) : List Value := (List.range n).map fun k => .slice (some ⟨rb k, 0, none⟩) m m
structure TabW (w : World) (S : Nat) (v : Value) (n m : Nat) (rb : Nat → Nat) (t : Nat → Nat → Int) : Prop where
  own : w.ownsRow S 22 1 v n (rowsV n m rb)
  row : ∀ k, k < n → RowB w (rb k) 3 m
  cell : ∀ k j, k < n → j < m → w.cell? ⟨rb k, j, none⟩ = some (.int .i64 (t k j))
  ge : ∀ k, k < n → S ≤ rb k
  up : ∀ i j, i < j → j < n → rb i < rb j
theorem TabW.ext {w w' : World} {S n m : Nat} {v : Value} {rb : Nat → Nat} {t : Nat → Nat → Int} (h : TabW w S v n m rb t) (hE : Ext w w') : TabW w' S v n m rb t :=
  ⟨ownsRow_ext h.own hE, fun k hk => (h.row k hk).ext hE, fun k j hk hj => hE.cell (h.cell k j hk hj), h.ge, h.up⟩
theorem TabW.slice {w : World} {S n m : Nat} {v : Value} {rb : Nat → Nat} {t : Nat → Nat → Int} (h : TabW w S v n m rb t) : ∃ A c, v = .slice A n c := by
  rcases h.own.2 with ⟨rfl, hn⟩ | ⟨g, cap, cur, rfl, -⟩
  · exact ⟨none, 0, by rw [hn]⟩
  · exact ⟨_, _, rfl⟩
theorem TabW.rowCell {w : World} {S n m c k : Nat} {A : Option Addr} {rb : Nat → Nat} {t : Nat → Nat → Int} (h : TabW w S (.slice A n c) n m rb t) (hk : k < n) : ∃ g, A = some ⟨g, 0, none⟩ ∧ w.cell? ⟨g, k, none⟩ = some (.slice (some ⟨rb k, 0, none⟩) m m) := by
  rcases h.own.2 with ⟨-, hn⟩ | ⟨g, cap, cur, hv, -⟩
  · omega
  · injection hv with hA h2 h3
    subst hA; have := World.ownsRow.cells h.own (g := g) rfl k (.slice (some ⟨rb k, 0, none⟩) m m) (by unfold rowsV; rw [List.getElem?_map, List.getElem?_range hk]; rfl); rw [Addr.add_lit, Nat.zero_add] at this; exact ⟨g, rfl, this⟩
theorem TabW.set {w : World} {S n m : Nat} {v : Value} {rb : Nat → Nat} {t : Nat → Nat → Int} (h : TabW w S v n m rb t) {i j : Nat} (hi : i < n) (hj : j < m) (x : Int) :
    TabW (w.setCell ⟨rb i, j, none⟩ (.int .i64 x)) S v n m rb (fun i' j' => if i' = i ∧ j' = j then x else t i' j') := by
  refine ⟨ownsRow_setCell_other h.own (row_own_ne (h.row i hi) h.own (by decide)) _, fun k hk => (h.row k hk).set _ rfl _, fun k j' hk hj' => ?_, h.ge, h.up⟩
  by_cases e : k = i
  · subst e
    by_cases e2 : j' = j
    · subst e2; rw [if_pos ⟨rfl, rfl⟩]; exact World.cell?_setCell_same' _ _ _ (by rw [h.cell k j' hk hj']; rfl)
    · rw [if_neg (fun h => e2 h.2), setCell_off (Ne.symm e2)]; exact h.cell k j' hk hj'
  · rw [if_neg (fun h => e h.1), setCell_blk]
    · exact h.cell k j' hk hj'
    · intro e2
      rcases Nat.lt_or_gt_of_ne e with hlt | hlt
      · have := h.up k i hlt hi; omega
      · have := h.up i k hlt hk; omega
theorem TabW.tab {w : World} {S : Nat} {v : Value} {o : Ord} {rb : Nat → Nat} {t : Nat → Nat → Int} (h : TabW w S v o.n o.m rb t) (hm : o.m ≤ 15) : OwnTab w S v (tabL o t) := by
  refine ⟨rowsV o.n o.m rb, by rw [tabL_len]; exact h.own, fun i hi => ?_⟩; rw [tabL_len] at hi; refine ⟨.slice (some ⟨rb i, 0, none⟩) o.m o.m, by unfold rowsV; rw [List.getElem?_map, List.getElem?_range hi]; rfl, ?_⟩; have := RowB.own (f := t i) (h.row i hi) (by omega) (h.ge i hi) (fun j hj => h.cell i j hi hj)
  simpa [tabL, rowL] using this
theorem TabW.push {w w' : World} {S n m b : Nat} {v v' : Value} {rb : Nat → Nat} {t : Nat → Nat → Int} (h : TabW w S v n m rb t) (hb : RowB w b 3 m) (hz : ∀ j, j < m → w.cell? ⟨b, j, none⟩ = some (.int .i64 (t n j))) (hS : S ≤ b) (hup : ∀ k, k < n → rb k < b)
    (hown : w'.ownsRow S 22 1 v' (n + 1) (rowsV n m rb ++ [.slice (some ⟨b, 0, none⟩) m m])) (hg : w.grownBy w' v.ownBlock) : TabW w' S v' (n + 1) m (fun k => if k = n then b else rb k) t := by
  have hrow : ∀ {b n : Nat}, RowB w b 3 n → RowB w' b 3 n := fun hr => hr.grown hg (row_own_ne hr h.own (by decide)); have hcell : ∀ {b n j : Nat} {u : Value}, RowB w b 3 n → w.cell? ⟨b, j, none⟩ = some u → w'.cell? ⟨b, j, none⟩ = some u := fun hr hc => hg.cell hc (fun e => row_own_ne hr h.own (by decide) e.symm); refine ⟨?_, fun k hk => ?_, fun k j hk hj => ?_, fun k hk => ?_, fun i j hij hj => ?_⟩
  · have e : rowsV (n + 1) m (fun k => if k = n then b else rb k) = rowsV n m rb ++ [.slice (some ⟨b, 0, none⟩) m m] := by
      unfold rowsV; rw [List.range_succ, List.map_append]
      congr 1
      · apply List.map_congr_left; intro k hk
        dsimp only
        rw [if_neg (by have := List.mem_range.1 hk; omega)]
      · simp
    rw [e]; exact hown
  · by_cases e : k = n
    · rw [if_pos e]; exact hrow hb
    · rw [if_neg e]; exact hrow (h.row k (by omega))
  · by_cases e : k = n
    · rw [if_pos e, e]; exact hcell hb (hz j hj)
    · rw [if_neg e]; exact hcell (h.row k (by omega)) (h.cell k j (by omega) hj)
  · by_cases e : k = n
    · rw [if_pos e]; exact hS
    · rw [if_neg e]; exact h.ge k (by omega)
  · by_cases e : j = n
    · rw [if_pos e, if_neg (by omega)]; exact hup i (by omega)
    · rw [if_neg e, if_neg (by omega)]; exact h.up i j hij (by omega)
theorem OwnS.at {w : World} {base n c : Nat} {A : Option Addr} {xs : List (Nat × Nat)} (h : OwnS w base (.slice A n c) (xs.map zS)) {k : Nat} {x : Nat × Nat} (hx : xs[k]? = some x) : ∃ b, A = some ⟨b, 0, none⟩ ∧ w.cell? ⟨b, k * 2, none⟩ = some (.int .i64 (x.1 : Int)) ∧ w.cell? ⟨b, k * 2 + 1, none⟩ = some (.int .i64 (x.2 : Int)) := by
  obtain ⟨hk, hxk⟩ := List.getElem?_eq_some_iff.1 hx
  rcases h.2 with ⟨hv, hn⟩ | ⟨g, cap, cur, hv, hb, hg, hnc, hcm, hcs, htake⟩
  · rw [List.length_map] at hn; omega
  · injection hv with h1 h2 h3
    subst h1; have hk' : k < (xs.map zS).length := by rw [List.length_map]; exact hk
    obtain ⟨e1, e2⟩ := encL_get (xs.map zS) k hk'; rw [List.getElem_map, hxk] at e1 e2; have h := h; rw [h2] at h; have q1 := World.ownsRow.cells h (g := g) rfl (k * 2) _ e1; have q2 := World.ownsRow.cells h (g := g) rfl (k * 2 + 1) _ e2; rw [Addr.add_lit, Nat.zero_add] at q1 q2; exact ⟨g, rfl, q1, q2⟩
theorem OwnS.slice {w : World} {base : Nat} {v : Value} {xs : List (Nat × Nat)} (h : OwnS w base v (xs.map zS)) : ∃ A c, v = .slice A xs.length c := by
  rcases h.2 with ⟨rfl, hn⟩ | ⟨g, cap, cur, rfl, -⟩
  · rw [List.length_map] at hn; exact ⟨none, 0, by rw [hn]⟩
  · rw [List.length_map]; exact ⟨_, _, rfl⟩
theorem timesR_c (a : OA) (o : Ord) (w : World) (hO : OrdF w w.heap.size a o) :
    CallsV Tryz.prog 71 #[.agg #[a.cv o, a.rv o]] w fun v w' => OwnTab w' w.heap.size v (tabL o (begA o)) ∧ Ext w w' := by
  have ho := hO.ok; have hm := hO.hm2; have hm1 := hO.hm1; have hn := hO.hn2; have hm9 : o.m ≤ 1000000000 := by omega
  simp only [OA.cv, OA.rv]; refine Wp.fn Tryz.func71 rfl Tryz.ntmps71 (by simp) ?_; refine Wp.keep [0] fun r1 hkeep => ?_; obtain ⟨e0_1, -⟩ := hkeep; simp [go_sem] at e0_1; have x0 := cell_nn w #[.slice (some ⟨a.cb, a.co, none⟩) o.m a.cc, .slice a.rA o.n a.rc] 25 0 rfl (v := .slice (some ⟨a.cb, a.co, none⟩) o.m a.cc) rfl; have x1 := cell_nn w #[.slice (some ⟨a.cb, a.co, none⟩) o.m a.cc, .slice a.rA o.n a.rc] 25 1 rfl (v := .slice a.rA o.n a.rc) rfl; have hEV : Ext w (w.alloc (.cells #[.slice (some ⟨a.cb, a.co, none⟩) o.m a.cc, .slice a.rA o.n a.rc] 25)) := XE; refine Wp.seqRegion (.inl rfl) (by kernel_rfl) fun K' gd hK hg => ?_; clear hg; go_simp; refine hK _ _ ?_; clear hK K' gd; refine Wp.keep [1] fun r2 hkeep => ?_; obtain ⟨e1_2, -⟩ := hkeep; simp [go_sem, e0_1] at e1_2; clear e0_1; refine Wp.seqRegion (.inl rfl) (by kernel_rfl) fun K' gd hK hg => ?_; clear hg; go_simp; refine hK _ _ ?_; clear hK K' gd; refine Wp.keep [1, 3] fun r3 hkeep => ?_; obtain ⟨e1_3, e3_3, -⟩ := hkeep; simp [go_sem, e1_2] at e1_3 e3_3; clear e1_2; refine Wp.seq ?_
  generalize w.alloc (.cells #[.slice (some ⟨a.cb, a.co, none⟩) o.m a.cc, .slice a.rA o.n a.rc] 25) = V at *
  have hlV : w.heap.size < V.heap.size := cell_lt x0; refine Wp.seqRegion (.inl rfl) (by kernel_rfl) fun K' gd hK hg => ?_; clear hg; go_simp; refine hK _ _ ?_; clear hK K' gd; refine Wp.keep [1, 3, 4] fun r4 hkeep => ?_; obtain ⟨e1_4, e3_4, e4_4, -⟩ := hkeep; simp [go_sem, e1_3, e3_3] at e1_4 e3_4 e4_4; clear e1_3 e3_3; refine Wp.block ?_; refine Wp.loop (fun k ρ ds wk => AllEq [1] ρ r4 ∧ ds = [] ∧ (∃ v3 rb, ρ 4 = .int .i64 (k : Int) ∧ ρ 3 = v3 ∧ TabW wk V.heap.size v3 k o.m rb (fun _ _ => 0) ∧ Ext V wk)) (o.n) ?_ ?_
  · refine ⟨AllEq.refl _ _, rfl, ?_⟩; exact ⟨_, fun _ => 0, by rw [e4_4]; rfl, e3_4, ⟨World.ownsRow_nil _ _ _ _, fun k hk => absurd hk (Nat.not_lt_zero _), fun k j hk => absurd hk (Nat.not_lt_zero _), fun k hk => absurd hk (Nat.not_lt_zero _), fun i j _ hj => absurd hj (Nat.not_lt_zero _)⟩, Ext.refl _⟩
  · rintro k r5 _ wk hk ⟨hA, rfl, ⟨v3, rb, e4, e3, i1, hEk⟩⟩; obtain ⟨e1_5, -⟩ := hA; rw [e1_4] at e1_5; have y0 := hEk.cell x0; have y1 := hEk.cell x1; have hVk := Below.size hEk; refine Wp.seq ?_; refine Wp.seqRegion (.inl rfl) (by kernel_rfl) fun K' gd hK hg => ?_; clear hg; go_simp; refine hK _ _ ?_; clear hK K' gd; refine Wp.keep [1, 3, 4, 15] fun r6 hkeep => ?_; obtain ⟨e1_6, e3_6, e4_6, e15_6, -⟩ := hkeep; simp [go_sem, e1_5, e3, e4] at e1_6 e3_6 e4_6 e15_6; clear e1_5 e3 e4
    by_cases h : k < o.n
    · refine Wp.condT (by go_simp) ?_; refine Wp.skip ?_; refine thenK_normal ?_; refine Wp.seq ?_; refine Wp.block ?_; refine Wp.loneRegion (.inl rfl) (by kernel_rfl) fun K' gd hK hg => ?_; clear hg; refine Wops.cut 6 fun K1 hK1 => ?_; simp only [List.take_succ_cons, List.take_zero]; go_simp; refine hK1 _ _ ?_; clear hK1 K1; simp only [List.drop_succ_cons, List.drop_zero]; obtain ⟨v', w', hrun, hown, hgr, -⟩ := app_run tab_T (ownsRow_ext i1.own XE) ⟨wk.heap.size + 1, 0, none⟩ 1 1 [.slice (some ⟨wk.heap.size, 0, none⟩) o.m o.m] 28 rfl (news_one (cell_nn _ _ _ 0 (by simp) rfl)) (one_one rfl) (by omega) (by simp; omega) (w := ((wk.alloc (.cells (madeC Tryz.prog 3 o.m) 3)).alloc (.cells #[.slice (some ⟨wk.heap.size, 0, none⟩) o.m o.m] 22))); refine Wops.law rfl (exec_append2 rfl hrun (by go_simp) (by go_simp)) ?_; go_simp; refine hK _ _ ?_; clear hK K' gd; refine Ends.keep [1, 3, 4] fun r7 hkeep => ?_; obtain ⟨e1_7, e3_7, e4_7, -⟩ := hkeep; simp [go_sem, e1_6, e3_6, e4_6, e15_6] at e1_7 e3_7 e4_7; clear e1_6 e3_6 e4_6 e15_6; refine Ends.mk ?_; refine blockK_normal ?_; refine thenK_normal ?_; refine Wp.loneRegion (.inl rfl) (by kernel_rfl) fun K' gd hK hg => ?_; clear hg; go_simp; refine hK _ _ ?_; clear hK K' gd; refine Ends.keep [1, 3, 4] fun r8 hkeep => ?_; obtain ⟨e1_8, e3_8, e4_8, -⟩ := hkeep; simp [go_sem, e1_7, e3_7, e4_7] at e1_8 e3_8 e4_8; clear e1_7 e3_7 e4_7; refine Ends.mk ?_; refine thenK_normal ⟨by omega, ⟨by rw [e1_8, e1_4], trivial⟩, rfl, ?_⟩; have hE0 : Ext wk ((wk.alloc (.cells (madeC Tryz.prog 3 o.m) 3)).alloc (.cells #[.slice (some ⟨wk.heap.size, 0, none⟩) o.m o.m] 22)) := XE
      have hg0 : ((wk.alloc (.cells (madeC Tryz.prog 3 o.m) 3)).alloc (.cells #[.slice (some ⟨wk.heap.size, 0, none⟩) o.m o.m] 22)).heap[wk.heap.size]? = some (.cells (madeC Tryz.prog 3 o.m) 3 (0, 0)) := (Below.heap_alloc _ _ _ (by simp)).trans (World.alloc_heap_new wk _); have hz : ∀ j, j < o.m → ((wk.alloc (.cells (madeC Tryz.prog 3 o.m) 3)).alloc (.cells #[.slice (some ⟨wk.heap.size, 0, none⟩) o.m o.m] 22)).cell? ⟨wk.heap.size, j, none⟩ = some (.int .i64 0) := fun j hj => by rw [cell_of_row _ _ j _ _ _ hg0]; exact madeI o.m j hj
      have hp := TabW.push (i1.ext hE0) ⟨_, hg0, by rw [madeC_size ints_T, Nat.mul_one]⟩ hz hVk (fun k' hk' => (i1.row k' hk').lt) hown hgr; exact ⟨v', _, by rw [e4_8, IntWalk.i64_in _ (by omega)]; rfl, e3_8, hp, Below.grown (Ext.trans hEk hE0) (ownsRow_ext i1.own hE0) hgr (Nat.le_refl _) (Nat.le_refl _)⟩
    · refine Wp.condF (by go_simp) ?_; obtain rfl : k = o.n := by omega
      refine Wp.exit ?_; refine thenK_exit ?_; refine thenK_exit ?_; refine blockK_here ?_; refine thenK_normal ?_; refine Wp.seqRegion (.inl rfl) (by kernel_rfl) fun K' gd hK hg => ?_; clear hg; go_simp; refine Wcall (.inl rfl) (stintsR_c (some ⟨a.cb, a.co, none⟩) a.rA o.n o.m a.cc a.rc _ (by omega) (by omega)) ?_; rintro v5 w2 ⟨hL, hE2⟩; obtain ⟨A5, c5, rfl⟩ := hL.slice; rw [stintsL_len] at hL ⊢; obtain ⟨N, hN⟩ : ∃ N, o.n * o.m = N := ⟨_, rfl⟩; rw [hN] at hL ⊢; go_simp; refine hK _ _ ?_; clear hK K' gd; refine Wp.keep [1, 3, 5] fun r9 hkeep => ?_; obtain ⟨e1_9, e3_9, e5_9, -⟩ := hkeep; simp [go_sem, e1_6, e3_6, e4_6, e15_6] at e1_9 e3_9 e5_9; clear e1_6 e3_6 e4_6 e15_6; have hEV2 : Ext V w2 := XE; have hT2 := i1.ext hE2; obtain ⟨A3, c3, rfl⟩ := i1.slice; refine Wp.seq ?_; refine Wp.seqRegion (.inl rfl) (by kernel_rfl) fun K' gd hK hg => ?_; clear hg; go_simp; refine hK _ _ ?_; clear hK K' gd; refine Wp.keep [1, 3, 5, 6] fun r10 hkeep => ?_; obtain ⟨e1_10, e3_10, e5_10, e6_10, -⟩ := hkeep; simp [go_sem, e1_9, e3_9, e5_9] at e1_10 e3_10 e5_10 e6_10; clear e1_9 e3_9 e5_9; refine Wp.block ?_; refine Wp.loop (fun i ρ ds wi => AllEq [1, 3, 5] ρ r10 ∧ ds = [] ∧ (ρ 6 = .int .i64 (i : Int) ∧ TabW wi V.heap.size (.slice A3 o.n c3) o.n o.m rb (begT o i) ∧ OwnS wi wk.heap.size (.slice A5 N c5) ((stintsL o.n o.m).map zS) ∧ Ext V wi)) (N) ?_ ?_
      · refine ⟨AllEq.refl _ _, rfl, ?_⟩; exact ⟨by rw [e6_10]; rfl, by rw [begT_zero]; exact hT2, hL, hEV2⟩
      · rintro i r11 _ wi hi ⟨hA, rfl, ⟨e6, hT, hLi, hEi⟩⟩; obtain ⟨e1_11, e3_11, e5_11, -⟩ := hA; rw [e1_10] at e1_11; rw [e3_10] at e3_11; rw [e5_10] at e5_11; have z0 := hEi.cell x0; have z1 := hEi.cell x1; have hOi := hO.ext (Ext.trans hEV hEi); have hnm : N ≤ 20 * 15 := by rw [← hN]; exact Nat.mul_le_mul hn hm
        refine Wp.seq ?_; refine Wp.seqRegion (.inl rfl) (by kernel_rfl) fun K' gd hK hg => ?_; clear hg; go_simp; refine hK _ _ ?_; clear hK K' gd; refine Wp.keep [1, 3, 5, 6, 30] fun r12 hkeep => ?_; obtain ⟨e1_12, e3_12, e5_12, e6_12, e30_12, -⟩ := hkeep; simp [go_sem, e1_11, e3_11, e5_11, e6] at e1_12 e3_12 e5_12 e6_12 e30_12; clear e1_11 e3_11 e5_11 e6
        by_cases h3 : i < N
        · refine Wp.condT (by go_simp) ?_; obtain ⟨x, hx⟩ : ∃ x, (stintsL o.n o.m)[i]? = some x := ⟨_, List.getElem?_eq_getElem (by rw [stintsL_len, hN]; exact h3)⟩; obtain ⟨-, -, hx1, hx2, hix'⟩ := stintsL_at hx; have hT0 := hT; have hix : x.1 * o.m + x.2 = i := hix'.symm; clear hix'; obtain ⟨b5, rfl, c51, c52⟩ := hLi.at hx; have cA := hOi.hA x.1 hx1; have hrA := hO.hr (by omega); have b3 : (x.1 : Int) < (o.n : Int) := by omega
          have b6 : (i : Int) < (N : Int) := by omega
          refine Wp.skip ?_; refine thenK_normal ?_; refine Wp.seq ?_; refine Wp.block ?_; refine Wp.seqRegion (.inl rfl) (by kernel_rfl) fun K' gd hK hg => ?_; clear hg; go_simp; refine hK _ _ ?_; clear hK K' gd; refine Wp.keep [1, 3, 5, 6, 7] fun r13 hkeep => ?_; obtain ⟨e1_13, e3_13, e5_13, e6_13, e7_13, -⟩ := hkeep; simp [go_sem, e1_12, e3_12, e5_12, e6_12, e30_12] at e1_13 e3_13 e5_13 e6_13 e7_13; clear e1_12 e3_12 e5_12 e6_12 e30_12; refine Wp.seqRegion (.inl rfl) (by kernel_rfl) fun K' gd hK hg => ?_; clear hg; go_simp; refine hK _ _ ?_; clear hK K' gd; refine Wp.keep [1, 3, 5, 6, 7, 8] fun r14 hkeep => ?_; obtain ⟨e1_14, e3_14, e5_14, e6_14, e7_14, e8_14, -⟩ := hkeep; simp [go_sem, e1_13, e3_13, e5_13, e6_13, e7_13] at e1_14 e3_14 e5_14 e6_14 e7_14 e8_14; clear e1_13 e3_13 e5_13 e6_13 e7_13; refine Wp.seq ?_; refine Wp.seqRegion (.inl rfl) (by kernel_rfl) fun K' gd hK hg => ?_; clear hg; go_simp; refine hK _ _ ?_; clear hK K' gd; refine Wp.keep [1, 3, 5, 6, 7, 8, 39] fun r15 hkeep => ?_; obtain ⟨e1_15, e3_15, e5_15, e6_15, e7_15, e8_15, e39_15, -⟩ := hkeep; simp [go_sem, e1_14, e3_14, e5_14, e6_14, e7_14, e8_14] at e1_15 e3_15 e5_15 e6_15 e7_15 e8_15 e39_15; clear e1_14 e3_14 e5_14 e6_14 e7_14 e8_14
          by_cases hq0 : x.2 = 0
          · skip; have hq0' : (x.2 : Int) = 0 := by omega
            refine Wp.condT (by go_simp) ?_; have hinit : ∃ _u : Unit, Value.int .i64 (o.A x.1) = .int .i64 (mostL o (begT o i) (if x.2 = 0 then o.A x.1 else 0) ((beforeL o x).take 0)) := ⟨(), by rw [if_pos hq0]; rfl⟩; clear hq0 hq0'; refine Wp.loneRegion (.inl rfl) (by kernel_rfl) fun K' gd hK hg => ?_; clear hg; go_simp; refine hK _ _ ?_; clear hK K' gd; refine Ends.keep [1, 3, 5, 6, 7, 8] fun r16 hkeep => ?_; obtain ⟨e1_16, e3_16, e5_16, e6_16, e7_16, e8_16, -⟩ := hkeep; simp [go_sem, e1_15, e3_15, e5_15, e6_15, e7_15, e8_15, e39_15] at e1_16 e3_16 e5_16 e6_16 e7_16 e8_16; clear e1_15 e3_15 e5_15 e6_15 e7_15 e8_15 e39_15; refine Ends.mk ?_; refine thenK_normal ?_; clear hrA; have hE0 : Ext wi (wi.alloc (.cells #[.int .i64 (x.1 : Int), .int .i64 (x.2 : Int)] 56)) := XE; have u0 := cell_al (.cells #[.int .i64 (x.1 : Int), .int .i64 (x.2 : Int)] 56) z0; have u1 := cell_al (.cells #[.int .i64 (x.1 : Int), .int .i64 (x.2 : Int)] 56) z1; refine Wp.seqRegion (.inl rfl) (by kernel_rfl) fun K' gd hK hg => ?_; clear hg; go_simp; refine Wcall (.inl rfl) (waitsR_c a o x.1 x.2 _ (hOi.ext XE) hx1 hx2) ?_; rintro v9 w4 ⟨hW9, hE4⟩; obtain ⟨A9, c9, rfl⟩ := hW9.slice; have hE04 : Ext wi w4 := XE; have g0 : w4.cell? ⟨wi.heap.size, 0, none⟩ = some (.int .i64 (x.1 : Int)) := hE4.cell (cell_nw _ _ _ 0); have g1 : w4.cell? ⟨wi.heap.size, 1, none⟩ = some (.int .i64 (x.2 : Int)) := hE4.cell (cell_nw _ _ _ 1); go_simp; refine hK _ _ ?_; clear hK K' gd; refine Wp.keep [1, 3, 5, 6, 7, 8, 9] fun r17 hkeep => ?_
            obtain ⟨e1_17, e3_17, e5_17, e6_17, e7_17, e8_17, e9_17, -⟩ := hkeep; simp [go_sem, e1_16, e3_16, e5_16, e6_16, e7_16, e8_16] at e1_17 e3_17 e5_17 e6_17 e7_17 e8_17 e9_17; clear e1_16 e3_16 e5_16 e6_16 e7_16 e8_16; have hblen : (beforeL o x).length ≤ 1000 := by unfold beforeL; simp only [List.length_append]; split <;> split <;> simp
            refine Wp.seq ?_; refine Wp.seqRegion (.inl rfl) (by kernel_rfl) fun K' gd hK hg => ?_; clear hg; go_simp; refine hK _ _ ?_; clear hK K' gd; refine Wp.keep [1, 3, 5, 6, 7, 8, 9, 10] fun r18 hkeep => ?_; obtain ⟨e1_18, e3_18, e5_18, e6_18, e7_18, e8_18, e9_18, e10_18, -⟩ := hkeep; simp [go_sem, e1_17, e3_17, e5_17, e6_17, e7_17, e8_17, e9_17] at e1_18 e3_18 e5_18 e6_18 e7_18 e8_18 e9_18 e10_18; clear e1_17 e3_17 e5_17 e6_17 e7_17 e8_17 e9_17; refine Wp.block ?_; refine Wp.loop (fun u ρ ds wu => AllEq [1, 3, 5, 6, 7, 9] ρ r18 ∧ ds = [] ∧ (ρ 10 = .int .i64 (u : Int) ∧ ρ 8 = .int .i64 (mostL o (begT o i) (if x.2 = 0 then o.A x.1 else 0) ((beforeL o x).take u)) ∧ Ext w4 wu)) ((beforeL o x).length) ?_ ?_
            · refine ⟨AllEq.refl _ _, rfl, ?_⟩; exact ⟨by rw [e10_18]; rfl, by rw [e8_18]; obtain ⟨-, h⟩ := hinit; exact h, Ext.refl _⟩
            · rintro u r19 _ wu hu ⟨hA, rfl, ⟨e10, e8, hEu⟩⟩; obtain ⟨e1_19, e3_19, e5_19, e6_19, e7_19, e9_19, -⟩ := hA; rw [e1_18] at e1_19; rw [e3_18] at e3_19; rw [e5_18] at e5_19; rw [e6_18] at e6_19; rw [e7_18] at e7_19; rw [e9_18] at e9_19; have hEiu : Ext wi wu := Ext.trans hE04 hEu; have f0 := hEu.cell g0; have f1 := hEu.cell g1; have hTu := hT.ext hEiu; have hOu := hOi.ext hEiu; have k0 := hEiu.cell z0; have k1 := hEiu.cell z1; refine Wp.seq ?_; refine Wp.seqRegion (.inl rfl) (by kernel_rfl) fun K' gd hK hg => ?_; clear hg; go_simp; refine hK _ _ ?_; clear hK K' gd; refine Wp.keep [1, 3, 5, 6, 7, 8, 9, 10, 53] fun r20 hkeep => ?_; obtain ⟨e1_20, e3_20, e5_20, e6_20, e7_20, e8_20, e9_20, e10_20, e53_20, -⟩ := hkeep; simp [go_sem, e1_19, e3_19, e5_19, e6_19, e7_19, e8, e9_19, e10] at e1_20 e3_20 e5_20 e6_20 e7_20 e8_20 e9_20 e10_20 e53_20; clear e1_19 e3_19 e5_19 e6_19 e7_19 e8 e9_19 e10
              by_cases h4 : u < (beforeL o x).length
              · refine Wp.condT (by go_simp) ?_; obtain ⟨y, hy⟩ : ∃ y, (beforeL o x)[u]? = some y := ⟨_, List.getElem?_eq_getElem h4⟩; have hym := beforeL_mem (ho.vC x.2 hx2).1 (List.mem_of_getElem? hy); have hy1 : y.1 < o.n := by have := ho.vC x.2 hx2; omega
                have hy2 : y.2 < o.m := by omega
                have hbd := begT_bound ho hx1 hx2 hy; rw [hix] at hbd; clear hym; have hTy := ho.vT y.1 y.2 hy1 hy2; obtain ⟨b9, rfl, c91, c92⟩ := OwnS.at (ownsRow_ext hW9 hEu) hy; obtain ⟨g3, rfl, c3c⟩ := hTu.rowCell hy1; have cy := hTu.cell y.1 y.2 hy1 hy2; have p1 : (u : Int) < ((beforeL o x).length : Int) := by omega
                have p2 : (y.1 : Int) < (o.n : Int) := by omega
                have p3 : (y.2 : Int) < (o.m : Int) := by omega
                have hwy : IntKind.i64.wrap (begT o i y.1 y.2 + o.T y.1 y.2) = begT o i y.1 y.2 + o.T y.1 y.2 := IntWalk.i64_in _ (by omega); refine Wp.skip ?_; refine thenK_normal ?_; refine Wp.seq ?_; refine Wp.block ?_; refine Wp.loneDraw (.inl rfl) mixed [([0, 1, 2, 3, 4], none), ([5, 6, 7, 8, 9], none), ([10, 11, 12, 13, 14], none), ([15, 16, 17, 18, 19], none), ([20], some (21, false)), ([22, 23, 24], none)] (by kernel_rfl) fun K' gd hK hg => ?_; clear hg; simp only [pick, nth, List.map_cons, List.map_nil, Option.map_none, Option.map_some]; apply Mops.none
                · intro w' hE'; have hC' := hE'.cellsS; go_simp; with_reducible rfl
                apply Mops.none
                · intro w' hE'; have hC' := hE'.cellsS; go_simp; with_reducible rfl
                apply Mops.none
                · intro w' hE'; have hC' := hE'.cellsS; go_simp; with_reducible rfl
                apply Mops.none
                · intro w' hE'; have hC' := hE'.cellsS; go_simp; with_reducible rfl
                apply Mops.act
                · intro w' hE'; have hC' := hE'.cellsS; go_simp; with_reducible rfl
                intro K1 hK1; go_simp; refine Wcall (.inl rfl) (takesR_c a o y.1 y.2 _ (hOu.ext XE) hy1 hy2) ?_; rintro v w5 ⟨rfl, hE5⟩; go_simp; refine hK1 _ _ (XR) ?_; clear hK1 K1; apply Mops.none
                · intro w' hE'; have hC' := hE'.cellsS; go_simp; with_reducible rfl
                refine Mops.done ?_; refine hK _ _ ?_; clear hK K' gd; refine Ends.keep [1, 3, 5, 6, 7, 8, 9, 10] fun r21 hkeep => ?_; obtain ⟨e1_21, e3_21, e5_21, e6_21, e7_21, e8_21, e9_21, e10_21, -⟩ := hkeep; simp [go_sem, e1_20, e3_20, e5_20, e6_20, e7_20, e8_20, e9_20, e10_20, e53_20] at e1_21 e3_21 e5_21 e6_21 e7_21 e8_21 e9_21 e10_21; clear e1_20 e3_20 e5_20 e6_20 e7_20 e8_20 e9_20 e10_20 e53_20; refine Ends.mk ?_; refine blockK_normal ?_; refine thenK_normal ?_; refine Wp.loneRegion (.inl rfl) (by kernel_rfl) fun K' gd hK hg => ?_; clear hg; go_simp; refine hK _ _ ?_; clear hK K' gd; refine Ends.keep [1, 3, 5, 6, 7, 8, 9, 10] fun r22 hkeep => ?_; obtain ⟨e1_22, e3_22, e5_22, e6_22, e7_22, e8_22, e9_22, e10_22, -⟩ := hkeep; simp [go_sem, e1_21, e3_21, e5_21, e6_21, e7_21, e8_21, e9_21, e10_21] at e1_22 e3_22 e5_22 e6_22 e7_22 e8_22 e9_22 e10_22; clear e1_21 e3_21 e5_21 e6_21 e7_21 e8_21 e9_21 e10_21; refine Ends.mk ?_; refine thenK_normal ⟨by omega, ⟨by rw [e1_22, e1_18], by rw [e3_22, e3_18], by rw [e5_22, e5_18], by rw [e6_22, e6_18], by rw [e7_22, e7_18], by rw [e9_22, e9_18], trivial⟩, rfl, ?_⟩; exact ⟨by rw [e10_22, IntWalk.i64_in _ (by omega)]; rfl, by rw [e8_22, mostL_take o _ _ _ hy]; congr 1; omega, XE⟩
              · refine Wp.condF (by go_simp) ?_; obtain rfl : u = (beforeL o x).length := by omega
                rw [stripTake] at e8_20; have hfill : mostL o (begT o i) (if x.2 = 0 then o.A x.1 else 0) (beforeL o x) = beg o x.1 x.2 := by have := begT_fill ho hx1 hx2; rw [hix] at this; exact this
                rw [hfill] at e8_20; obtain ⟨g3, rfl, c3c⟩ := hTu.rowCell hx1; have cx := hTu.cell x.1 x.2 hx1 hx2; have p3 : (x.2 : Int) < (o.m : Int) := by omega
                have pf := (hTu.row x.1 hx1).frozen x.2; refine Wp.exit ?_; refine thenK_exit ?_; refine thenK_exit ?_; refine blockK_here ?_; refine thenK_normal ?_; refine Wp.loneDraw (.inl rfl) mixed [([0, 1, 2, 3, 4], none), ([5, 6, 7, 8], some (9, true))] (by kernel_rfl) fun K' gd hK hg => ?_; clear hg; simp only [pick, nth, List.map_cons, List.map_nil, Option.map_none, Option.map_some]; apply Mops.none
                · intro w' hE'; have hC' := hE'.cellsS; go_simp; with_reducible rfl
                apply Mops.last
                · intro w' hE'; have hC' := hE'.cellsS; go_simp; with_reducible rfl
                intro K1 hK1; go_simp; refine hK1 _ _ ?_; clear hK1 K1; refine Mops.done ?_; refine hK _ _ ?_; clear hK K' gd; refine Ends.keep [1, 3, 5, 6] fun r23 hkeep => ?_; obtain ⟨e1_23, e3_23, e5_23, e6_23, -⟩ := hkeep; simp [go_sem, e1_20, e3_20, e5_20, e6_20, e7_20, e8_20, e9_20, e10_20, e53_20] at e1_23 e3_23 e5_23 e6_23; clear e1_20 e3_20 e5_20 e6_20 e7_20 e8_20 e9_20 e10_20 e53_20; refine Ends.mk ?_; refine blockK_normal ?_; refine thenK_normal ?_; refine Wp.loneRegion (.inl rfl) (by kernel_rfl) fun K' gd hK hg => ?_; clear hg; go_simp; refine hK _ _ ?_; clear hK K' gd; refine Ends.keep [1, 3, 5, 6] fun r24 hkeep => ?_; obtain ⟨e1_24, e3_24, e5_24, e6_24, -⟩ := hkeep; simp [go_sem, e1_23, e3_23, e5_23, e6_23] at e1_24 e3_24 e5_24 e6_24; clear e1_23 e3_23 e5_23 e6_23; refine Ends.mk ?_; refine thenK_normal ⟨by omega, ⟨by rw [e1_24, e1_10], by rw [e3_24, e3_10], by rw [e5_24, e5_10], trivial⟩, rfl, ?_⟩; have hset := hTu.set hx1 hx2 (beg o x.1 x.2); have hst := begT_step (o := o) hx1 hx2; rw [hix] at hst; rw [hst] at hset; refine ⟨by rw [e6_24, IntWalk.i64_in _ (by omega)]; rfl, hset.ext ((Ext.refl _).drew), ?_, ?_⟩
                · exact ownsRow_ext (ownsRow_setCell_other (ownsRow_ext hLi hEiu) (row_own_ne (hTu.row x.1 hx1) (ownsRow_ext hLi hEiu) (by decide)) _) ((Ext.refl _).drew)
                · exact Ext.drew (Ext.setC (Ext.trans hEi hEiu) (hTu.ge x.1 hx1) _)
          · skip; have hq0' : ¬ (x.2 : Int) = 0 := by omega
            refine Wp.condF (by go_simp) ?_; have hinit : ∃ _u : Unit, Value.int .i64 0 = .int .i64 (mostL o (begT o i) (if x.2 = 0 then o.A x.1 else 0) ((beforeL o x).take 0)) := ⟨(), by rw [if_neg hq0]; rfl⟩; clear hq0 hq0'; refine Wp.skip ?_; refine thenK_normal ?_; clear hrA; have hE0 : Ext wi (wi.alloc (.cells #[.int .i64 (x.1 : Int), .int .i64 (x.2 : Int)] 56)) := XE; have u0 := cell_al (.cells #[.int .i64 (x.1 : Int), .int .i64 (x.2 : Int)] 56) z0; have u1 := cell_al (.cells #[.int .i64 (x.1 : Int), .int .i64 (x.2 : Int)] 56) z1; refine Wp.seqRegion (.inl rfl) (by kernel_rfl) fun K' gd hK hg => ?_; clear hg; go_simp; refine Wcall (.inl rfl) (waitsR_c a o x.1 x.2 _ (hOi.ext XE) hx1 hx2) ?_; rintro v9 w4 ⟨hW9, hE4⟩; obtain ⟨A9, c9, rfl⟩ := hW9.slice; have hE04 : Ext wi w4 := XE; have g0 : w4.cell? ⟨wi.heap.size, 0, none⟩ = some (.int .i64 (x.1 : Int)) := hE4.cell (cell_nw _ _ _ 0); have g1 : w4.cell? ⟨wi.heap.size, 1, none⟩ = some (.int .i64 (x.2 : Int)) := hE4.cell (cell_nw _ _ _ 1); go_simp; refine hK _ _ ?_; clear hK K' gd; refine Wp.keep [1, 3, 5, 6, 7, 8, 9] fun r25 hkeep => ?_; obtain ⟨e1_25, e3_25, e5_25, e6_25, e7_25, e8_25, e9_25, -⟩ := hkeep; simp [go_sem, e1_15, e3_15, e5_15, e6_15, e7_15, e8_15, e39_15] at e1_25 e3_25 e5_25 e6_25 e7_25 e8_25 e9_25; clear e1_15 e3_15 e5_15 e6_15 e7_15 e8_15 e39_15; have hblen : (beforeL o x).length ≤ 1000 := by unfold beforeL; simp only [List.length_append]; split <;> split <;> simp
            refine Wp.seq ?_; refine Wp.seqRegion (.inl rfl) (by kernel_rfl) fun K' gd hK hg => ?_; clear hg; go_simp; refine hK _ _ ?_; clear hK K' gd; refine Wp.keep [1, 3, 5, 6, 7, 8, 9, 10] fun r26 hkeep => ?_; obtain ⟨e1_26, e3_26, e5_26, e6_26, e7_26, e8_26, e9_26, e10_26, -⟩ := hkeep; simp [go_sem, e1_25, e3_25, e5_25, e6_25, e7_25, e8_25, e9_25] at e1_26 e3_26 e5_26 e6_26 e7_26 e8_26 e9_26 e10_26; clear e1_25 e3_25 e5_25 e6_25 e7_25 e8_25 e9_25; refine Wp.block ?_; refine Wp.loop (fun u ρ ds wu => AllEq [1, 3, 5, 6, 7, 9] ρ r26 ∧ ds = [] ∧ (ρ 10 = .int .i64 (u : Int) ∧ ρ 8 = .int .i64 (mostL o (begT o i) (if x.2 = 0 then o.A x.1 else 0) ((beforeL o x).take u)) ∧ Ext w4 wu)) ((beforeL o x).length) ?_ ?_
            · refine ⟨AllEq.refl _ _, rfl, ?_⟩; exact ⟨by rw [e10_26]; rfl, by rw [e8_26]; obtain ⟨-, h⟩ := hinit; exact h, Ext.refl _⟩
            · rintro u r27 _ wu hu ⟨hA, rfl, ⟨e10, e8, hEu⟩⟩; obtain ⟨e1_27, e3_27, e5_27, e6_27, e7_27, e9_27, -⟩ := hA; rw [e1_26] at e1_27; rw [e3_26] at e3_27; rw [e5_26] at e5_27; rw [e6_26] at e6_27; rw [e7_26] at e7_27; rw [e9_26] at e9_27; have hEiu : Ext wi wu := Ext.trans hE04 hEu; have f0 := hEu.cell g0; have f1 := hEu.cell g1; have hTu := hT.ext hEiu; have hOu := hOi.ext hEiu; have k0 := hEiu.cell z0; have k1 := hEiu.cell z1; refine Wp.seq ?_; refine Wp.seqRegion (.inl rfl) (by kernel_rfl) fun K' gd hK hg => ?_; clear hg; go_simp; refine hK _ _ ?_; clear hK K' gd; refine Wp.keep [1, 3, 5, 6, 7, 8, 9, 10, 53] fun r28 hkeep => ?_; obtain ⟨e1_28, e3_28, e5_28, e6_28, e7_28, e8_28, e9_28, e10_28, e53_28, -⟩ := hkeep; simp [go_sem, e1_27, e3_27, e5_27, e6_27, e7_27, e8, e9_27, e10] at e1_28 e3_28 e5_28 e6_28 e7_28 e8_28 e9_28 e10_28 e53_28; clear e1_27 e3_27 e5_27 e6_27 e7_27 e8 e9_27 e10
              by_cases h4 : u < (beforeL o x).length
              · refine Wp.condT (by go_simp) ?_; obtain ⟨y, hy⟩ : ∃ y, (beforeL o x)[u]? = some y := ⟨_, List.getElem?_eq_getElem h4⟩; have hym := beforeL_mem (ho.vC x.2 hx2).1 (List.mem_of_getElem? hy); have hy1 : y.1 < o.n := by have := ho.vC x.2 hx2; omega
                have hy2 : y.2 < o.m := by omega
                have hbd := begT_bound ho hx1 hx2 hy; rw [hix] at hbd; clear hym; have hTy := ho.vT y.1 y.2 hy1 hy2; obtain ⟨b9, rfl, c91, c92⟩ := OwnS.at (ownsRow_ext hW9 hEu) hy; obtain ⟨g3, rfl, c3c⟩ := hTu.rowCell hy1; have cy := hTu.cell y.1 y.2 hy1 hy2; have p1 : (u : Int) < ((beforeL o x).length : Int) := by omega
                have p2 : (y.1 : Int) < (o.n : Int) := by omega
                have p3 : (y.2 : Int) < (o.m : Int) := by omega
                have hwy : IntKind.i64.wrap (begT o i y.1 y.2 + o.T y.1 y.2) = begT o i y.1 y.2 + o.T y.1 y.2 := IntWalk.i64_in _ (by omega); refine Wp.skip ?_; refine thenK_normal ?_; refine Wp.seq ?_; refine Wp.block ?_; refine Wp.loneDraw (.inl rfl) mixed [([0, 1, 2, 3, 4], none), ([5, 6, 7, 8, 9], none), ([10, 11, 12, 13, 14], none), ([15, 16, 17, 18, 19], none), ([20], some (21, false)), ([22, 23, 24], none)] (by kernel_rfl) fun K' gd hK hg => ?_; clear hg; simp only [pick, nth, List.map_cons, List.map_nil, Option.map_none, Option.map_some]; apply Mops.none
                · intro w' hE'; have hC' := hE'.cellsS; go_simp; with_reducible rfl
                apply Mops.none
                · intro w' hE'; have hC' := hE'.cellsS; go_simp; with_reducible rfl
                apply Mops.none
                · intro w' hE'; have hC' := hE'.cellsS; go_simp; with_reducible rfl
                apply Mops.none
                · intro w' hE'; have hC' := hE'.cellsS; go_simp; with_reducible rfl
                apply Mops.act
                · intro w' hE'; have hC' := hE'.cellsS; go_simp; with_reducible rfl
                intro K1 hK1; go_simp; refine Wcall (.inl rfl) (takesR_c a o y.1 y.2 _ (hOu.ext XE) hy1 hy2) ?_; rintro v w5 ⟨rfl, hE5⟩; go_simp; refine hK1 _ _ (XR) ?_; clear hK1 K1; apply Mops.none
                · intro w' hE'; have hC' := hE'.cellsS; go_simp; with_reducible rfl
                refine Mops.done ?_; refine hK _ _ ?_; clear hK K' gd; refine Ends.keep [1, 3, 5, 6, 7, 8, 9, 10] fun r29 hkeep => ?_; obtain ⟨e1_29, e3_29, e5_29, e6_29, e7_29, e8_29, e9_29, e10_29, -⟩ := hkeep; simp [go_sem, e1_28, e3_28, e5_28, e6_28, e7_28, e8_28, e9_28, e10_28, e53_28] at e1_29 e3_29 e5_29 e6_29 e7_29 e8_29 e9_29 e10_29; clear e1_28 e3_28 e5_28 e6_28 e7_28 e8_28 e9_28 e10_28 e53_28; refine Ends.mk ?_; refine blockK_normal ?_; refine thenK_normal ?_; refine Wp.loneRegion (.inl rfl) (by kernel_rfl) fun K' gd hK hg => ?_; clear hg; go_simp; refine hK _ _ ?_; clear hK K' gd; refine Ends.keep [1, 3, 5, 6, 7, 8, 9, 10] fun r30 hkeep => ?_; obtain ⟨e1_30, e3_30, e5_30, e6_30, e7_30, e8_30, e9_30, e10_30, -⟩ := hkeep; simp [go_sem, e1_29, e3_29, e5_29, e6_29, e7_29, e8_29, e9_29, e10_29] at e1_30 e3_30 e5_30 e6_30 e7_30 e8_30 e9_30 e10_30; clear e1_29 e3_29 e5_29 e6_29 e7_29 e8_29 e9_29 e10_29; refine Ends.mk ?_; refine thenK_normal ⟨by omega, ⟨by rw [e1_30, e1_26], by rw [e3_30, e3_26], by rw [e5_30, e5_26], by rw [e6_30, e6_26], by rw [e7_30, e7_26], by rw [e9_30, e9_26], trivial⟩, rfl, ?_⟩; exact ⟨by rw [e10_30, IntWalk.i64_in _ (by omega)]; rfl, by rw [e8_30, mostL_take o _ _ _ hy]; congr 1; omega, XE⟩
              · refine Wp.condF (by go_simp) ?_; obtain rfl : u = (beforeL o x).length := by omega
                rw [stripTake] at e8_28; have hfill : mostL o (begT o i) (if x.2 = 0 then o.A x.1 else 0) (beforeL o x) = beg o x.1 x.2 := by have := begT_fill ho hx1 hx2; rw [hix] at this; exact this
                rw [hfill] at e8_28; obtain ⟨g3, rfl, c3c⟩ := hTu.rowCell hx1; have cx := hTu.cell x.1 x.2 hx1 hx2; have p3 : (x.2 : Int) < (o.m : Int) := by omega
                have pf := (hTu.row x.1 hx1).frozen x.2; refine Wp.exit ?_; refine thenK_exit ?_; refine thenK_exit ?_; refine blockK_here ?_; refine thenK_normal ?_; refine Wp.loneDraw (.inl rfl) mixed [([0, 1, 2, 3, 4], none), ([5, 6, 7, 8], some (9, true))] (by kernel_rfl) fun K' gd hK hg => ?_; clear hg; simp only [pick, nth, List.map_cons, List.map_nil, Option.map_none, Option.map_some]; apply Mops.none
                · intro w' hE'; have hC' := hE'.cellsS; go_simp; with_reducible rfl
                apply Mops.last
                · intro w' hE'; have hC' := hE'.cellsS; go_simp; with_reducible rfl
                intro K1 hK1; go_simp; refine hK1 _ _ ?_; clear hK1 K1; refine Mops.done ?_; refine hK _ _ ?_; clear hK K' gd; refine Ends.keep [1, 3, 5, 6] fun r31 hkeep => ?_; obtain ⟨e1_31, e3_31, e5_31, e6_31, -⟩ := hkeep; simp [go_sem, e1_28, e3_28, e5_28, e6_28, e7_28, e8_28, e9_28, e10_28, e53_28] at e1_31 e3_31 e5_31 e6_31; clear e1_28 e3_28 e5_28 e6_28 e7_28 e8_28 e9_28 e10_28 e53_28; refine Ends.mk ?_; refine blockK_normal ?_; refine thenK_normal ?_; refine Wp.loneRegion (.inl rfl) (by kernel_rfl) fun K' gd hK hg => ?_; clear hg; go_simp; refine hK _ _ ?_; clear hK K' gd; refine Ends.keep [1, 3, 5, 6] fun r32 hkeep => ?_; obtain ⟨e1_32, e3_32, e5_32, e6_32, -⟩ := hkeep; simp [go_sem, e1_31, e3_31, e5_31, e6_31] at e1_32 e3_32 e5_32 e6_32; clear e1_31 e3_31 e5_31 e6_31; refine Ends.mk ?_; refine thenK_normal ⟨by omega, ⟨by rw [e1_32, e1_10], by rw [e3_32, e3_10], by rw [e5_32, e5_10], trivial⟩, rfl, ?_⟩; have hset := hTu.set hx1 hx2 (beg o x.1 x.2); have hst := begT_step (o := o) hx1 hx2; rw [hix] at hst; rw [hst] at hset; refine ⟨by rw [e6_32, IntWalk.i64_in _ (by omega)]; rfl, hset.ext ((Ext.refl _).drew), ?_, ?_⟩
                · exact ownsRow_ext (ownsRow_setCell_other (ownsRow_ext hLi hEiu) (row_own_ne (hTu.row x.1 hx1) (ownsRow_ext hLi hEiu) (by decide)) _) ((Ext.refl _).drew)
                · exact Ext.drew (Ext.setC (Ext.trans hEi hEiu) (hTu.ge x.1 hx1) _)
        · refine Wp.condF (by go_simp) ?_; obtain rfl : i = N := by omega
          refine Wp.exit ?_; refine thenK_exit ?_; refine thenK_exit ?_; refine blockK_here ?_; refine thenK_normal ?_; refine Wp.seqRegion (.inl rfl) (by kernel_rfl) fun K' gd hK hg => ?_; clear hg; go_simp; refine hK _ _ ?_; clear hK K' gd; refine Wp.keep [2] fun r33 hkeep => ?_; obtain ⟨e2_33, -⟩ := hkeep; simp [go_sem, e1_12, e3_12, e5_12, e6_12, e30_12] at e2_33; clear e1_12 e3_12 e5_12 e6_12 e30_12; refine Wp.ret ?_; refine endK_tmp Tryz.results71 (by decide) ?_; rw [e2_33]; rw [← hN, begT_all] at hT; exact ⟨(hT.tab hm).less (Below.size hEV), Ext.trans hEV hEi⟩
end Go.Proofs.YtnfagcccgmakdaaGreat
namespace Go.Proofs.YtnfagcccgmakdaaGreat
open Go.RowKit Go.Wk Go.Proofs
attribute [local irreducible] Go.Wk.Wops Go.Wk.Wp Go.Wk.Mtree Go.Wk.Mops
set_option maxHeartbeats 4000000
abbrev SZ := Int × Int
def isSZ (o : Ord) (s : SZ) : Bool := isStint o s.1 s.2
def waitsZ (o : Ord) (s : SZ) : List SZ := (beforeL o (s.1.toNat, s.2.toNat)).map zS
def hasZ (l : List SZ) (s : SZ) : Bool := l.any fun y => decide (y = s)
def showsF (o : Ord) (day : Int) (prev : SZ) : List SZ → Int
  | [] => day
  | s :: r => if hasZ (waitsZ o s) prev then showsF o (day + o.T prev.1.toNat prev.2.toNat) s r else -1
def showsV (o : Ord) : List SZ → Int
  | [] => -1
  | s :: r => if (s :: r).all (isSZ o) then (if s.2 = 0 then showsF o (o.A s.1.toNat) s r else -1) else -1
theorem showsF_cons (o : Ord) (day : Int) (prev s : SZ) (r : List SZ) : showsF o day prev (s :: r) = if hasZ (waitsZ o s) prev then showsF o (day + o.T prev.1.toNat prev.2.toNat) s r else -1 := rfl
theorem StintsV.at {w : World} {B n c : Nat} {A : Option Addr} {xs : List SZ} (h : StintsV w B (.slice A n c) xs) {k : Nat} (hk : k < xs.length) : ∃ b o, A = some ⟨b, o, none⟩ ∧ w.cell? ⟨b, o + k * 2, none⟩ = some (.int .i64 xs[k].1) ∧ w.cell? ⟨b, o + k * 2 + 1, none⟩ = some (.int .i64 xs[k].2) := by
  obtain ⟨A', c', hv, hx, -⟩ := h
  injection hv with h1 h2 h3
  subst h1; obtain ⟨b, o, hA, -, hc⟩ := hx (by intro e; rw [e] at hk; exact absurd hk (Nat.not_lt_zero _)); exact ⟨b, o, hA, hc k hk⟩
theorem hasZ_take (l : List SZ) (s : SZ) {k : Nat} (h : k < l.length) : hasZ (l.take (k + 1)) s = (hasZ (l.take k) s || decide (l[k] = s)) := by
  unfold hasZ; rw [List.take_add_one, List.getElem?_eq_getElem h, List.any_append]; simp
theorem shows_c (cv rv : Value) (o : Ord) (v1 : Value) (l : List SZ) (w : World) (hV : OrderV w w.heap.size (.agg #[cv, rv]) o) (hg : OrdGood o) (hl : StintsV w w.heap.size v1 l) (hln : l.length ≤ 1000000) :
    CallsV Tryz.prog 123 #[.agg #[cv, rv], v1] w fun v w' => v = .int .i64 (showsV o l) ∧ Ext w w' := by
  have ho := hg.ok; have hf := hg.fits; obtain ⟨a, rfl, rfl, hO⟩ := hV.ordF2 hg; obtain ⟨A1, c1, rfl, -⟩ := id hl; refine Wp.fn Tryz.func123 rfl Tryz.ntmps123 (by simp) ?_; refine Wp.keep [0, 1] fun r1 hkeep => ?_; obtain ⟨e0_1, e1_1, -⟩ := hkeep; simp [go_sem] at e0_1 e1_1
  by_cases hl0 : l.length = 0
  · skip; have hnil : l = [] := List.eq_nil_of_length_eq_zero hl0; subst hnil; refine Wp.seqRegion (.inl rfl) (by kernel_rfl) fun K' gd hK hg => ?_; clear hg; go_simp; refine hK _ _ ?_; clear hK K' gd; refine Wp.keep [1, 2] fun r2 hkeep => ?_; obtain ⟨e1_2, e2_2, -⟩ := hkeep; simp [go_sem, e0_1, e1_1] at e1_2 e2_2; clear e0_1 e1_1; refine Wp.seq ?_; refine Wp.seqRegion (.inl rfl) (by kernel_rfl) fun K' gd hK hg => ?_; clear hg; go_simp; refine hK _ _ ?_; clear hK K' gd; refine Wp.keep [1, 2, 14] fun r3 hkeep => ?_; obtain ⟨e1_3, e2_3, e14_3, -⟩ := hkeep; simp [go_sem, e1_2, e2_2] at e1_3 e2_3 e14_3; clear e1_2 e2_2; refine Wp.condT (by go_simp) ?_; refine Wp.seqRegion (.inl rfl) (by kernel_rfl) fun K' gd hK hg => ?_; clear hg; go_simp; refine hK _ _ ?_; clear hK K' gd; refine Wp.keep [4] fun r4 hkeep => ?_; obtain ⟨e4_4, -⟩ := hkeep; simp [go_sem, e1_3, e2_3, e14_3] at e4_4; clear e1_3 e2_3 e14_3; refine Wp.ret ?_; refine thenK_ret ?_; refine endK_tmp Tryz.results123 (by decide) ?_; rw [e4_4]; exact ⟨rfl, XE⟩
  · skip; have hl00 : 0 < l.length := by omega
    obtain ⟨-, hsv⟩ : ∃ _u : Unit, showsV o l = if l.all (isSZ o) then (if l[0].2 = 0 then showsF o (o.A l[0].1.toNat) l[0] (l.drop 1) else -1) else -1 := by cases l with | nil => exact absurd rfl hl0 | cons s r => exact ⟨(), rfl⟩
    obtain ⟨s0, hs0⟩ : ∃ s0, l[0] = s0 := ⟨_, rfl⟩; rw [hs0] at hsv; refine Wp.seqRegion (.inl rfl) (by kernel_rfl) fun K' gd hK hg => ?_; clear hg; go_simp; refine hK _ _ ?_; clear hK K' gd; refine Wp.keep [1, 2] fun r5 hkeep => ?_; obtain ⟨e1_5, e2_5, -⟩ := hkeep; simp [go_sem, e0_1, e1_1] at e1_5 e2_5; clear e0_1 e1_1; refine Wp.seq ?_; refine Wp.seqRegion (.inl rfl) (by kernel_rfl) fun K' gd hK hg => ?_; clear hg; go_simp; refine hK _ _ ?_; clear hK K' gd; refine Wp.keep [1, 2, 14] fun r6 hkeep => ?_; obtain ⟨e1_6, e2_6, e14_6, -⟩ := hkeep; simp [go_sem, e1_5, e2_5] at e1_6 e2_6 e14_6; clear e1_5 e2_5; refine Wp.condF (by go_simp) ?_; have x0 := cell_nn w #[a.cv o, a.rv o] 25 0 rfl (v := a.cv o) rfl; have x1 := cell_nn w #[a.cv o, a.rv o] 25 1 rfl (v := a.rv o) rfl; have hEV : Ext w (w.alloc (.cells #[a.cv o, a.rv o] 25)) := XE; refine Wp.skip ?_; refine thenK_normal ?_; refine Wp.seq ?_
    generalize w.alloc (.cells #[a.cv o, a.rv o] 25) = V at *
    refine Wp.seqRegion (.inl rfl) (by kernel_rfl) fun K' gd hK hg => ?_; clear hg; go_simp; refine hK _ _ ?_; clear hK K' gd; refine Wp.keep [1, 2, 5] fun r7 hkeep => ?_; obtain ⟨e1_7, e2_7, e5_7, -⟩ := hkeep; simp [go_sem, e1_6, e2_6, e14_6] at e1_7 e2_7 e5_7; clear e1_6 e2_6 e14_6; refine Wp.block ?_; refine Wp.loop (fun k ρ ds wk => AllEq [1, 2] ρ r7 ∧ ds = [] ∧ (ρ 5 = .int .i64 (k : Int) ∧ (∀ s ∈ l.take k, isSZ o s = true) ∧ Ext V wk)) (l.length) ?_ ?_
    · refine ⟨AllEq.refl _ _, rfl, ?_⟩; exact ⟨by rw [e5_7]; rfl, fun s hs => absurd hs (by simp), Ext.refl _⟩
    · rintro k r8 _ wk hk ⟨hA, rfl, ⟨e5, hall, hEk⟩⟩; obtain ⟨e1_8, e2_8, -⟩ := hA; rw [e1_7] at e1_8; rw [e2_7] at e2_8; refine Wp.seq ?_; refine Wp.seqRegion (.inl rfl) (by kernel_rfl) fun K' gd hK hg => ?_; clear hg; go_simp; refine hK _ _ ?_; clear hK K' gd; refine Wp.keep [1, 2, 5, 18] fun r9 hkeep => ?_; obtain ⟨e1_9, e2_9, e5_9, e18_9, -⟩ := hkeep; simp [go_sem, e1_8, e2_8, e5] at e1_9 e2_9 e5_9 e18_9; clear e1_8 e2_8 e5
      by_cases h : k < l.length
      · refine Wp.condT (by go_simp) ?_; have hlk := (hl.ext hEV).ext hEk; obtain ⟨b1, o1, rfl, c11, c12⟩ := hlk.at h; have y0 := hEk.cell x0; have y1 := hEk.cell x1; have b6 : (k : Int) < (l.length : Int) := by omega
        have hVk := (hV.ext hEV).ext hEk; refine Wp.skip ?_; refine thenK_normal ?_; refine Wp.seq ?_; refine Wp.block ?_; refine Wp.seqDraw (.inl rfl) mixed [([0, 1, 2, 3, 4], some (5, false)), ([6], none)] (by kernel_rfl) fun K' gd hK hg => ?_; clear hg; simp only [pick, nth, List.map_cons, List.map_nil, Option.map_none, Option.map_some]; apply Mops.act
        · intro w' hE'; have hC' := hE'.cellsS; go_simp; with_reducible rfl
        intro K1 hK1; go_simp; refine Wcall (.inl rfl) (isStintR_c _ o (l[k].1) (l[k].2) _ (hVk.ext XE) hf) ?_; rintro v w2 ⟨rfl, hE2⟩; go_simp; refine hK1 _ _ (XR) ?_; clear hK1 K1; apply Mops.none
        · intro w' hE'; have hC' := hE'.cellsS; go_simp; with_reducible rfl
        refine Mops.done ?_; refine hK _ _ ?_; clear hK K' gd; refine Wp.keep [1, 2, 5, 6] fun r10 hkeep => ?_; obtain ⟨e1_10, e2_10, e5_10, e6_10, -⟩ := hkeep; simp [go_sem, e1_9, e2_9, e5_9, e18_9] at e1_10 e2_10 e5_10 e6_10; clear e1_9 e2_9 e5_9 e18_9
        by_cases hst : isStint o l[k].1 l[k].2 = true
        · skip; refine Wp.seqRegion (.inl rfl) (by kernel_rfl) fun K' gd hK hg => ?_; clear hg; go_simp; refine hK _ _ ?_; clear hK K' gd; refine Wp.keep [1, 2, 5, 28] fun r11 hkeep => ?_; obtain ⟨e1_11, e2_11, e5_11, e28_11, -⟩ := hkeep; simp [go_sem, e1_10, e2_10, e5_10, e6_10] at e1_11 e2_11 e5_11 e28_11; clear e1_10 e2_10 e5_10 e6_10; refine Wp.condF (by go_simp) ?_; refine Wp.skip ?_; refine blockK_normal ?_; refine thenK_normal ?_; refine Wp.loneRegion (.inl rfl) (by kernel_rfl) fun K' gd hK hg => ?_; clear hg; go_simp; refine hK _ _ ?_; clear hK K' gd; refine Ends.keep [1, 2, 5] fun r12 hkeep => ?_; obtain ⟨e1_12, e2_12, e5_12, -⟩ := hkeep; simp [go_sem, e1_11, e2_11, e5_11, e28_11] at e1_12 e2_12 e5_12; clear e1_11 e2_11 e5_11 e28_11; refine Ends.mk ?_; refine thenK_normal ⟨by omega, ⟨by rw [e1_12, e1_7], by rw [e2_12, e2_7], trivial⟩, rfl, ?_⟩; refine ⟨by rw [e5_12, IntWalk.i64_in _ (by omega)]; rfl, fun s hs => ?_, XE⟩; rw [List.take_add_one, List.getElem?_eq_getElem h, List.mem_append] at hs
          rcases hs with hs | hs
          · exact hall s hs
          · simp at hs; subst hs; exact hst
        · skip; rw [Bool.not_eq_true] at hst; refine Wp.seqRegion (.inl rfl) (by kernel_rfl) fun K' gd hK hg => ?_; clear hg; go_simp; refine hK _ _ ?_; clear hK K' gd; refine Wp.keep [1, 2, 5, 28] fun r13 hkeep => ?_; obtain ⟨e1_13, e2_13, e5_13, e28_13, -⟩ := hkeep; simp [go_sem, e1_10, e2_10, e5_10, e6_10] at e1_13 e2_13 e5_13 e28_13; clear e1_10 e2_10 e5_10 e6_10; refine Wp.condT (by go_simp) ?_; refine Wp.seqRegion (.inl rfl) (by kernel_rfl) fun K' gd hK hg => ?_; clear hg; go_simp; refine hK _ _ ?_; clear hK K' gd; refine Wp.keep [4] fun r14 hkeep => ?_; obtain ⟨e4_14, -⟩ := hkeep; simp [go_sem, e1_13, e2_13, e5_13, e28_13] at e4_14; clear e1_13 e2_13 e5_13 e28_13; refine Wp.ret ?_; refine blockK_ret ?_; refine thenK_ret ?_; refine thenK_ret ?_; refine blockK_ret ?_; refine thenK_ret ?_; refine endK_tmp Tryz.results123 (by decide) ?_; rw [e4_14]; refine ⟨?_, XE⟩; rw [hsv, if_neg]; intro hal; have := List.all_eq_true.1 hal l[k] (List.getElem_mem h); unfold isSZ at this; rw [hst] at this; cases this
      · refine Wp.condF (by go_simp) ?_; obtain rfl : k = l.length := by omega
        rw [stripTake] at hall; rw [if_pos (List.all_eq_true.2 hall)] at hsv; obtain ⟨i0, j0, e1, e2, hi0, hj0⟩ := isStint_nat (hall l[0] (List.getElem_mem hl00)); have hlk := (hl.ext hEV).ext hEk; obtain ⟨b1, o1, rfl, c11, c12⟩ := hlk.at hl00; rw [hs0] at e1 e2 c11 c12; rw [e1] at c11; rw [e2] at c12; have y0 := hEk.cell x0; have y1 := hEk.cell x1; have hOk := (hO.ext hEV).ext hEk; have hrA := hOk.hr (by omega); have c2 := hOk.hA i0 hi0; rw [Nat.zero_mul, Nat.add_zero] at c11 c12; have b7 : (0 : Int) < (l.length : Int) := by omega
        have b8 : (i0 : Int) < (o.n : Int) := by omega
        by_cases hj00 : j0 = 0
        · skip; subst hj00; refine Wp.exit ?_; refine thenK_exit ?_; refine thenK_exit ?_; refine blockK_here ?_; refine thenK_normal ?_; refine Wp.seq ?_; refine Wp.seqRegion (.inl rfl) (by kernel_rfl) fun K' gd hK hg => ?_; clear hg; go_simp; refine hK _ _ ?_; clear hK K' gd; refine Wp.keep [1, 2, 33] fun r15 hkeep => ?_; obtain ⟨e1_15, e2_15, e33_15, -⟩ := hkeep; simp [go_sem, e1_9, e2_9, e5_9, e18_9] at e1_15 e2_15 e33_15; clear e1_9 e2_9 e5_9 e18_9; refine Wp.condF (by go_simp) ?_; rw [if_pos (show s0.2 = 0 by simpa using e2)] at hsv; have vA := ho.vA i0 hi0; rw [e1, Int.toNat_natCast] at hsv; simp only [OA.cv, OA.rv, hrA] at y0 y1; refine Wp.skip ?_; refine thenK_normal ?_; refine Wp.seqDraw (.inl rfl) mixed [([0, 1, 2, 3, 4], none), ([5, 6, 7, 8, 9], none)] (by kernel_rfl) fun K' gd hK hg => ?_; clear hg; simp only [pick, nth, List.map_cons, List.map_nil, Option.map_none, Option.map_some]; apply Mops.none
          · intro w' hE'; have hC' := hE'.cellsS; go_simp; with_reducible rfl
          apply Mops.none
          · intro w' hE'; have hC' := hE'.cellsS; go_simp; with_reducible rfl
          refine Mops.done ?_; refine hK _ _ ?_; clear hK K' gd; refine Wp.keep [1, 2, 7] fun r16 hkeep => ?_; obtain ⟨e1_16, e2_16, e7_16, -⟩ := hkeep; simp [go_sem, e1_15, e2_15, e33_15] at e1_16 e2_16 e7_16; clear e1_15 e2_15 e33_15; refine Wp.seq ?_; clear hrA y0 y1; have yy0 := hEk.cell x0; have yy1 := hEk.cell x1; simp only [OA.cv, OA.rv] at yy0 yy1; refine Wp.seqRegion (.inl rfl) (by kernel_rfl) fun K' gd hK hg => ?_; clear hg; go_simp; refine hK _ _ ?_; clear hK K' gd; refine Wp.keep [1, 2, 7, 8] fun r17 hkeep => ?_; obtain ⟨e1_17, e2_17, e7_17, e8_17, -⟩ := hkeep; simp [go_sem, e1_16, e2_16, e7_16] at e1_17 e2_17 e7_17 e8_17; clear e1_16 e2_16 e7_16; refine Wp.block ?_; refine Wp.loop (fun q ρ ds wq => AllEq [1, 2] ρ r17 ∧ ds = [] ∧ (∃ (day : Int) (hq : q < l.length), ρ 8 = .int .i64 ((q : Int) + 1) ∧ ρ 7 = .int .i64 day ∧ (∃ _u : Unit, showsV o l = showsF o day l[q] (l.drop (q + 1))) ∧ (0 ≤ day ∧ day ≤ 730 + 60 * (q : Int)) ∧ Ext wk wq)) (l.length) ?_ ?_
          · refine ⟨AllEq.refl _ _, rfl, ?_⟩; exact ⟨o.A i0, hl00, by rw [e8_17]; rfl, e7_17, ⟨(), by rw [hsv, hs0]⟩, by omega, XE⟩
          · rintro q r18 _ wq hq ⟨hA, rfl, ⟨day, hql, e8, e7, hsq, hday, hEq⟩⟩; obtain ⟨e1_18, e2_18, -⟩ := hA; rw [e1_17] at e1_18; rw [e2_17] at e2_18; have hlq := ((hl.ext hEV).ext hEk).ext hEq; have z0 := hEq.cell yy0; have z1 := hEq.cell yy1; have hOq := hOk.ext hEq; refine Wp.seq ?_; refine Wp.seqRegion (.inl rfl) (by kernel_rfl) fun K' gd hK hg => ?_; clear hg; go_simp; refine hK _ _ ?_; clear hK K' gd; refine Wp.keep [1, 2, 7, 8, 46] fun r19 hkeep => ?_; obtain ⟨e1_19, e2_19, e7_19, e8_19, e46_19, -⟩ := hkeep; simp [go_sem, e1_18, e2_18, e7, e8] at e1_19 e2_19 e7_19 e8_19 e46_19; clear e1_18 e2_18 e7 e8
            by_cases h4 : (q : Int) + 1 < (l.length : Int)
            · refine Wp.condT (by go_simp) ?_; have h5 : q + 1 < l.length := by omega
              obtain ⟨i1, j1, f1, f2, hi1, hj1⟩ := isStint_nat (hall l[q + 1] (List.getElem_mem h5)); obtain ⟨i2, j2, f3, f4, hi2, hj2⟩ := isStint_nat (hall l[q] (List.getElem_mem hql)); obtain ⟨b2, o2, hb2, c21, c22⟩ := hlq.at h5; obtain ⟨b3, o3, hb3, c31, c32⟩ := hlq.at hql; obtain ⟨rfl, rfl⟩ : b2 = b1 ∧ o2 = o1 := by injection hb2 with e; injection e with e1 e2; exact ⟨e1.symm, e2.symm⟩
              obtain ⟨rfl, rfl⟩ : b3 = b2 ∧ o3 = o2 := by injection hb3 with e; injection e with e1 e2; exact ⟨e1.symm, e2.symm⟩
              rw [f1] at c21; rw [f2] at c22; rw [f3] at c31; rw [f4] at c32; clear hb2 hb3; have g1 : l[q + 1] = ((i1 : Int), (j1 : Int)) := Prod.ext f1 f2; have g2 : l[q] = ((i2 : Int), (j2 : Int)) := Prod.ext f3 f4; clear f1 f2 f3 f4; have hwq : IntKind.i64.wrap (q : Int) = (q : Int) := IntWalk.i64_in _ (by omega); have hmx1 : (if 0 < (q : Int) then (q : Int) else 0) = (q : Int) := by split <;> omega
              have hmx2 : (if 0 < q then (q : Int) else 0) = (q : Int) := by split <;> omega
              have b10 : (0 : Int) ≤ (q : Int) + 1 := by omega
              have hwp : IntKind.i64.wrap ((q : Int) + 1 - 1) = (q : Int) := by rw [IntWalk.i64_in _ (by omega)]; omega
              refine Wp.skip ?_; refine thenK_normal ?_; refine Wp.seq ?_; refine Wp.block ?_; refine Wp.seqDraw (.inl rfl) mixed [([0, 1, 2, 3, 4], some (5, false)), ([6], none)] (by kernel_rfl) fun K' gd hK hg => ?_; clear hg; simp only [pick, nth, List.map_cons, List.map_nil, Option.map_none, Option.map_some]; apply Mops.act
              · intro w' hE'; have hC' := hE'.cellsS; go_simp; with_reducible rfl
              intro K1 hK1; go_simp; refine Wcall (.inl rfl) (waitsR_c a o i1 j1 _ (hOq.ext XE) hi1 hj1) ?_; rintro v9 w4 ⟨hW9, hE4⟩; obtain ⟨A9, c9, rfl⟩ := hW9.slice; have hEq4 : Ext wq w4 := XE; go_simp; refine hK1 _ _ (XR) ?_; clear hK1 K1; apply Mops.none
              · intro w' hE'; have hC' := hE'.cellsS; go_simp; with_reducible rfl
              refine Mops.done ?_; refine hK _ _ ?_; clear hK K' gd; refine Wp.keep [1, 2, 7, 8, 9] fun r20 hkeep => ?_; obtain ⟨e1_20, e2_20, e7_20, e8_20, e9_20, -⟩ := hkeep; simp [go_sem, e1_19, e2_19, e7_19, e8_19, e46_19] at e1_20 e2_20 e7_20 e8_20 e9_20; clear e1_19 e2_19 e7_19 e8_19 e46_19; obtain ⟨W9, hW9'⟩ : ∃ W9, beforeL o (i1, j1) = W9 := ⟨_, rfl⟩; rw [hW9'] at hW9; have hblen : W9.length ≤ 1000 := by rw [← hW9']; unfold beforeL; simp only [List.length_append]; split <;> split <;> simp
              refine Wp.seqRegion (.inl rfl) (by kernel_rfl) fun K' gd hK hg => ?_; clear hg; go_simp; refine hK _ _ ?_; clear hK K' gd; refine Wp.keep [1, 2, 7, 8, 9, 10] fun r21 hkeep => ?_; obtain ⟨e1_21, e2_21, e7_21, e8_21, e9_21, e10_21, -⟩ := hkeep; simp [go_sem, e1_20, e2_20, e7_20, e8_20, e9_20] at e1_21 e2_21 e7_21 e8_21 e9_21 e10_21; clear e1_20 e2_20 e7_20 e8_20 e9_20; refine Wp.seq ?_; refine Wp.seqRegion (.inl rfl) (by kernel_rfl) fun K' gd hK hg => ?_; clear hg; go_simp; refine hK _ _ ?_; clear hK K' gd; refine Wp.keep [1, 2, 7, 8, 9, 10, 11] fun r22 hkeep => ?_; obtain ⟨e1_22, e2_22, e7_22, e8_22, e9_22, e10_22, e11_22, -⟩ := hkeep; simp [go_sem, e1_21, e2_21, e7_21, e8_21, e9_21, e10_21] at e1_22 e2_22 e7_22 e8_22 e9_22 e10_22 e11_22; clear e1_21 e2_21 e7_21 e8_21 e9_21 e10_21; refine Wp.block ?_; refine Wp.loop (fun u ρ ds wu => AllEq [1, 2, 7, 8, 9] ρ r22 ∧ ds = [] ∧ (ρ 11 = .int .i64 (u : Int) ∧ ρ 10 = .bool (hasZ ((W9.map zS).take u) ((i2 : Int), (j2 : Int))) ∧ Ext w4 wu)) (W9.length) ?_ ?_
              · refine ⟨AllEq.refl _ _, rfl, ?_⟩; exact ⟨by rw [e11_22]; rfl, by rw [e10_22]; rfl, Ext.refl _⟩
              · rintro u r23 _ wu hu ⟨hA, rfl, ⟨e11, e10, hEu⟩⟩; obtain ⟨e1_23, e2_23, e7_23, e8_23, e9_23, -⟩ := hA; rw [e1_22] at e1_23; rw [e2_22] at e2_23; rw [e7_22] at e7_23; rw [e8_22] at e8_23; rw [e9_22] at e9_23; have hEqu : Ext wq wu := Ext.trans hEq4 hEu; have d1 := hEqu.cell c31; have d2 := hEqu.cell c32; obtain ⟨bb, hbb⟩ : ∃ bb, hasZ ((W9.map zS).take u) ((i2 : Int), (j2 : Int)) = bb := ⟨_, rfl⟩; rw [hbb] at e10; refine Wp.seq ?_; refine Wp.seqRegion (.inl rfl) (by kernel_rfl) fun K' gd hK hg => ?_; clear hg; go_simp; refine hK _ _ ?_; clear hK K' gd; refine Wp.keep [1, 2, 7, 8, 9, 10, 11, 58] fun r24 hkeep => ?_; obtain ⟨e1_24, e2_24, e7_24, e8_24, e9_24, e10_24, e11_24, e58_24, -⟩ := hkeep; simp [go_sem, e1_23, e2_23, e7_23, e8_23, e9_23, e10, e11] at e1_24 e2_24 e7_24 e8_24 e9_24 e10_24 e11_24 e58_24; clear e1_23 e2_23 e7_23 e8_23 e9_23 e10 e11
                by_cases h6 : u < W9.length
                · refine Wp.condT (by go_simp) ?_; obtain ⟨y, hy⟩ : ∃ y, W9[u]? = some y := ⟨_, List.getElem?_eq_getElem h6⟩; obtain ⟨b9, rfl, c91, c92⟩ := OwnS.at (ownsRow_ext hW9 hEu) hy; have hzu : (W9.map zS)[u]'(by rw [List.length_map]; exact h6) = ((y.1 : Int), (y.2 : Int)) := by rw [List.getElem_map]; have := (List.getElem?_eq_some_iff.1 hy).2; rw [this]; rfl
                  have b11 : (u : Int) < (W9.length : Int) := by omega
                  have b12 : (q : Int) < (l.length : Int) := by omega
                  have b13 : (0 : Int) ≤ (q : Int) := by omega
                  by_cases hbt : bb = true
                  · skip; subst hbt; refine Wp.skip ?_; refine thenK_normal ?_; refine Wp.seq ?_; refine Wp.block ?_; refine Wp.loneDraw (.inl rfl) mixed [([0, 1], none), ([2, 3, 4, 5, 6], none), ([7, 8, 9, 10, 11], none), ([12, 13, 14], none)] (by kernel_rfl) fun K' gd hK hg => ?_; have g1 : gd 1 = some 62 := hg 1; clear hg; simp only [pick, nth, List.map_cons, List.map_nil, Option.map_none, Option.map_some]; apply Mops.none
                    · intro w' hE'; have hC' := hE'.cellsS; go_simp; with_reducible rfl
                    apply Mops.none
                    · intro w' hE'; have hC' := hE'.cellsS; go_simp; with_reducible rfl
                    apply Mops.none
                    · intro w' hE'; have hC' := hE'.cellsS; go_simp; with_reducible rfl
                    apply Mops.none
                    · intro w' hE'; have hC' := hE'.cellsS; go_simp; with_reducible rfl
                    refine Mops.done ?_; refine hK _ _ ?_; clear hK K' gd g1; refine Ends.keep [1, 2, 7, 8, 9, 10, 11] fun r25 hkeep => ?_; obtain ⟨e1_25, e2_25, e7_25, e8_25, e9_25, e10_25, e11_25, -⟩ := hkeep; simp [go_sem, e1_24, e2_24, e7_24, e8_24, e9_24, e10_24, e11_24, e58_24] at e1_25 e2_25 e7_25 e8_25 e9_25 e10_25 e11_25; clear e1_24 e2_24 e7_24 e8_24 e9_24 e10_24 e11_24 e58_24; refine Ends.mk ?_; refine blockK_normal ?_; refine thenK_normal ?_; refine Wp.loneRegion (.inl rfl) (by kernel_rfl) fun K' gd hK hg => ?_; clear hg; go_simp; refine hK _ _ ?_; clear hK K' gd; refine Ends.keep [1, 2, 7, 8, 9, 10, 11] fun r26 hkeep => ?_; obtain ⟨e1_26, e2_26, e7_26, e8_26, e9_26, e10_26, e11_26, -⟩ := hkeep; simp [go_sem, e1_25, e2_25, e7_25, e8_25, e9_25, e10_25, e11_25] at e1_26 e2_26 e7_26 e8_26 e9_26 e10_26 e11_26; clear e1_25 e2_25 e7_25 e8_25 e9_25 e10_25 e11_25; refine Ends.mk ?_; refine thenK_normal ⟨by omega, ⟨by rw [e1_26, e1_22], by rw [e2_26, e2_22], by rw [e7_26, e7_22], by rw [e8_26, e8_22], by rw [e9_26, e9_22], trivial⟩, rfl, ?_⟩; refine ⟨by rw [e11_26, IntWalk.i64_in _ (by omega)]; rfl, ?_, XE⟩; rw [e10_26, hasZ_take _ _ (show u < (W9.map zS).length by rw [List.length_map]; exact h6), hbb, hzu]; exact congrArg _ (rfl)
                  · skip; rw [Bool.not_eq_true] at hbt; subst hbt
                    by_cases hy1 : y.1 = i2
                    · skip
                      by_cases hy2 : y.2 = j2
                      · skip; refine Wp.skip ?_; refine thenK_normal ?_; refine Wp.seq ?_; refine Wp.block ?_; refine Wp.loneDraw (.inl rfl) mixed [([0, 1], none), ([2, 3, 4, 5, 6], none), ([7, 8, 9, 10, 11], none), ([12, 13, 14], none)] (by kernel_rfl) fun K' gd hK hg => ?_; have g1 : gd 1 = some 62 := hg 1; clear hg; simp only [pick, nth, List.map_cons, List.map_nil, Option.map_none, Option.map_some]; apply Mops.none
                        · intro w' hE'; have hC' := hE'.cellsS; go_simp; with_reducible rfl
                        apply Mops.none
                        · intro w' hE'; have hC' := hE'.cellsS; go_simp; with_reducible rfl
                        apply Mops.none
                        · intro w' hE'; have hC' := hE'.cellsS; go_simp; with_reducible rfl
                        apply Mops.none
                        · intro w' hE'; have hC' := hE'.cellsS; go_simp; with_reducible rfl
                        refine Mops.done ?_; refine hK _ _ ?_; clear hK K' gd g1; refine Ends.keep [1, 2, 7, 8, 9, 10, 11] fun r27 hkeep => ?_; obtain ⟨e1_27, e2_27, e7_27, e8_27, e9_27, e10_27, e11_27, -⟩ := hkeep; simp [go_sem, e1_24, e2_24, e7_24, e8_24, e9_24, e10_24, e11_24, e58_24] at e1_27 e2_27 e7_27 e8_27 e9_27 e10_27 e11_27; clear e1_24 e2_24 e7_24 e8_24 e9_24 e10_24 e11_24 e58_24; refine Ends.mk ?_; refine blockK_normal ?_; refine thenK_normal ?_; refine Wp.loneRegion (.inl rfl) (by kernel_rfl) fun K' gd hK hg => ?_; clear hg; go_simp; refine hK _ _ ?_; clear hK K' gd; refine Ends.keep [1, 2, 7, 8, 9, 10, 11] fun r28 hkeep => ?_; obtain ⟨e1_28, e2_28, e7_28, e8_28, e9_28, e10_28, e11_28, -⟩ := hkeep; simp [go_sem, e1_27, e2_27, e7_27, e8_27, e9_27, e10_27, e11_27] at e1_28 e2_28 e7_28 e8_28 e9_28 e10_28 e11_28; clear e1_27 e2_27 e7_27 e8_27 e9_27 e10_27 e11_27; refine Ends.mk ?_; refine thenK_normal ⟨by omega, ⟨by rw [e1_28, e1_22], by rw [e2_28, e2_22], by rw [e7_28, e7_22], by rw [e8_28, e8_22], by rw [e9_28, e9_22], trivial⟩, rfl, ?_⟩; refine ⟨by rw [e11_28, IntWalk.i64_in _ (by omega)]; rfl, ?_, XE⟩; rw [e10_28, hasZ_take _ _ (show u < (W9.map zS).length by rw [List.length_map]; exact h6), hbb, hzu]; rw [hy1, hy2]; simp
                      · skip; have hy2' : ¬ (y.2 : Int) = (j2 : Int) := by omega
                        refine Wp.skip ?_; refine thenK_normal ?_; refine Wp.seq ?_; refine Wp.block ?_; refine Wp.loneDraw (.inl rfl) mixed [([0, 1], none), ([2, 3, 4, 5, 6], none), ([7, 8, 9, 10, 11], none), ([12, 13, 14], none)] (by kernel_rfl) fun K' gd hK hg => ?_; have g1 : gd 1 = some 62 := hg 1; clear hg; simp only [pick, nth, List.map_cons, List.map_nil, Option.map_none, Option.map_some]; apply Mops.none
                        · intro w' hE'; have hC' := hE'.cellsS; go_simp; with_reducible rfl
                        apply Mops.none
                        · intro w' hE'; have hC' := hE'.cellsS; go_simp; with_reducible rfl
                        apply Mops.none
                        · intro w' hE'; have hC' := hE'.cellsS; go_simp; with_reducible rfl
                        apply Mops.none
                        · intro w' hE'; have hC' := hE'.cellsS; go_simp; with_reducible rfl
                        refine Mops.done ?_; refine hK _ _ ?_; clear hK K' gd g1; refine Ends.keep [1, 2, 7, 8, 9, 10, 11] fun r29 hkeep => ?_; obtain ⟨e1_29, e2_29, e7_29, e8_29, e9_29, e10_29, e11_29, -⟩ := hkeep; simp [go_sem, e1_24, e2_24, e7_24, e8_24, e9_24, e10_24, e11_24, e58_24] at e1_29 e2_29 e7_29 e8_29 e9_29 e10_29 e11_29; clear e1_24 e2_24 e7_24 e8_24 e9_24 e10_24 e11_24 e58_24; refine Ends.mk ?_; refine blockK_normal ?_; refine thenK_normal ?_; refine Wp.loneRegion (.inl rfl) (by kernel_rfl) fun K' gd hK hg => ?_; clear hg; go_simp; refine hK _ _ ?_; clear hK K' gd; refine Ends.keep [1, 2, 7, 8, 9, 10, 11] fun r30 hkeep => ?_; obtain ⟨e1_30, e2_30, e7_30, e8_30, e9_30, e10_30, e11_30, -⟩ := hkeep; simp [go_sem, e1_29, e2_29, e7_29, e8_29, e9_29, e10_29, e11_29] at e1_30 e2_30 e7_30 e8_30 e9_30 e10_30 e11_30; clear e1_29 e2_29 e7_29 e8_29 e9_29 e10_29 e11_29; refine Ends.mk ?_; refine thenK_normal ⟨by omega, ⟨by rw [e1_30, e1_22], by rw [e2_30, e2_22], by rw [e7_30, e7_22], by rw [e8_30, e8_22], by rw [e9_30, e9_22], trivial⟩, rfl, ?_⟩; refine ⟨by rw [e11_30, IntWalk.i64_in _ (by omega)]; rfl, ?_, XE⟩; rw [e10_30, hasZ_take _ _ (show u < (W9.map zS).length by rw [List.length_map]; exact h6), hbb, hzu]; rw [decide_eq_false (fun e => hy2 (by have := congrArg Prod.snd e; dsimp only at this; omega))]; rfl
                    · skip; have hy1' : ¬ (y.1 : Int) = (i2 : Int) := by omega
                      refine Wp.skip ?_; refine thenK_normal ?_; refine Wp.seq ?_; refine Wp.block ?_; refine Wp.loneDraw (.inl rfl) mixed [([0, 1], none), ([2, 3, 4, 5, 6], none), ([7, 8, 9, 10, 11], none), ([12, 13, 14], none)] (by kernel_rfl) fun K' gd hK hg => ?_; have g1 : gd 1 = some 62 := hg 1; clear hg; simp only [pick, nth, List.map_cons, List.map_nil, Option.map_none, Option.map_some]; apply Mops.none
                      · intro w' hE'; have hC' := hE'.cellsS; go_simp; with_reducible rfl
                      apply Mops.none
                      · intro w' hE'; have hC' := hE'.cellsS; go_simp; with_reducible rfl
                      apply Mops.none
                      · intro w' hE'; have hC' := hE'.cellsS; go_simp; with_reducible rfl
                      apply Mops.none
                      · intro w' hE'; have hC' := hE'.cellsS; go_simp; with_reducible rfl
                      refine Mops.done ?_; refine hK _ _ ?_; clear hK K' gd g1; refine Ends.keep [1, 2, 7, 8, 9, 10, 11] fun r31 hkeep => ?_; obtain ⟨e1_31, e2_31, e7_31, e8_31, e9_31, e10_31, e11_31, -⟩ := hkeep; simp [go_sem, e1_24, e2_24, e7_24, e8_24, e9_24, e10_24, e11_24, e58_24] at e1_31 e2_31 e7_31 e8_31 e9_31 e10_31 e11_31; clear e1_24 e2_24 e7_24 e8_24 e9_24 e10_24 e11_24 e58_24; refine Ends.mk ?_; refine blockK_normal ?_; refine thenK_normal ?_; refine Wp.loneRegion (.inl rfl) (by kernel_rfl) fun K' gd hK hg => ?_; clear hg; go_simp; refine hK _ _ ?_; clear hK K' gd; refine Ends.keep [1, 2, 7, 8, 9, 10, 11] fun r32 hkeep => ?_; obtain ⟨e1_32, e2_32, e7_32, e8_32, e9_32, e10_32, e11_32, -⟩ := hkeep; simp [go_sem, e1_31, e2_31, e7_31, e8_31, e9_31, e10_31, e11_31] at e1_32 e2_32 e7_32 e8_32 e9_32 e10_32 e11_32; clear e1_31 e2_31 e7_31 e8_31 e9_31 e10_31 e11_31; refine Ends.mk ?_; refine thenK_normal ⟨by omega, ⟨by rw [e1_32, e1_22], by rw [e2_32, e2_22], by rw [e7_32, e7_22], by rw [e8_32, e8_22], by rw [e9_32, e9_22], trivial⟩, rfl, ?_⟩; refine ⟨by rw [e11_32, IntWalk.i64_in _ (by omega)]; rfl, ?_, XE⟩; rw [e10_32, hasZ_take _ _ (show u < (W9.map zS).length by rw [List.length_map]; exact h6), hbb, hzu]; rw [decide_eq_false (fun e => hy1 (by have := congrArg Prod.fst e; dsimp only at this; omega))]; rfl
                · refine Wp.condF (by go_simp) ?_; obtain rfl : u = W9.length := by omega
                  rw [List.take_of_length_le (by rw [List.length_map]; exact Nat.le_refl _)] at hbb; obtain ⟨-, hsq⟩ := hsq; have hsz : showsV o l = if bb then showsF o (day + o.T i2 j2) l[q + 1] (l.drop (q + 1 + 1)) else -1 := by rw [hsq, List.drop_eq_getElem_cons h5]; rw [showsF_cons, show waitsZ o l[q + 1] = W9.map zS by unfold waitsZ; rw [g1]; simp only [Int.toNat_natCast]; rw [hW9'], g2, hbb]; rfl
                  have k0 := hEqu.cell z0; have k1 := hEqu.cell z1; have hOu := hOq.ext hEqu; have b12 : (q : Int) < (l.length : Int) := by omega
                  have b13 : (0 : Int) ≤ (q : Int) := by omega
                  clear hsq hbb
                  by_cases hbt : bb = true
                  · skip; subst hbt; rw [if_pos rfl] at hsz; have vT := ho.vT i2 j2 hi2 hj2; have hwd : IntKind.i64.wrap (day + o.T i2 j2) = day + o.T i2 j2 := IntWalk.i64_in _ (by omega); refine Wp.exit ?_; refine thenK_exit ?_; refine thenK_exit ?_; refine blockK_here ?_; refine thenK_normal ?_; refine Wp.seq ?_; refine Wp.seqRegion (.inl rfl) (by kernel_rfl) fun K' gd hK hg => ?_; clear hg; go_simp; refine hK _ _ ?_; clear hK K' gd; refine Wp.keep [1, 2, 7, 8, 76] fun r33 hkeep => ?_; obtain ⟨e1_33, e2_33, e7_33, e8_33, e76_33, -⟩ := hkeep; simp [go_sem, e1_24, e2_24, e7_24, e8_24, e9_24, e10_24, e11_24, e58_24] at e1_33 e2_33 e7_33 e8_33 e76_33; clear e1_24 e2_24 e7_24 e8_24 e9_24 e10_24 e11_24 e58_24; refine Wp.condF (by go_simp) ?_; refine Wp.skip ?_; refine thenK_normal ?_; refine Wp.loneDraw (.inl rfl) mixed [([0, 1, 2, 3, 4], none), ([5, 6, 7], some (8, false)), ([9, 10], none)] (by kernel_rfl) fun K' gd hK hg => ?_; clear hg; simp only [pick, nth, List.map_cons, List.map_nil, Option.map_none, Option.map_some]; apply Mops.none
                    · intro w' hE'; have hC' := hE'.cellsS; go_simp; with_reducible rfl
                    apply Mops.act
                    · intro w' hE'; have hC' := hE'.cellsS; go_simp; with_reducible rfl
                    intro K1 hK1; go_simp; refine Wcall (.inl rfl) (takesR_c a o i2 j2 _ (hOu.ext XE) hi2 hj2) ?_; rintro v w5 ⟨rfl, hE5⟩; go_simp; refine hK1 _ _ (XR) ?_; clear hK1 K1; apply Mops.none
                    · intro w' hE'; have hC' := hE'.cellsS; go_simp; with_reducible rfl
                    refine Mops.done ?_; refine hK _ _ ?_; clear hK K' gd; refine Ends.keep [1, 2, 7, 8] fun r34 hkeep => ?_; obtain ⟨e1_34, e2_34, e7_34, e8_34, -⟩ := hkeep; simp [go_sem, e1_33, e2_33, e7_33, e8_33, e76_33] at e1_34 e2_34 e7_34 e8_34; clear e1_33 e2_33 e7_33 e8_33 e76_33; refine Ends.mk ?_; refine blockK_normal ?_; refine thenK_normal ?_; refine Wp.loneRegion (.inl rfl) (by kernel_rfl) fun K' gd hK hg => ?_; clear hg; go_simp; refine hK _ _ ?_; clear hK K' gd; refine Ends.keep [1, 2, 7, 8] fun r35 hkeep => ?_; obtain ⟨e1_35, e2_35, e7_35, e8_35, -⟩ := hkeep; simp [go_sem, e1_34, e2_34, e7_34, e8_34] at e1_35 e2_35 e7_35 e8_35; clear e1_34 e2_34 e7_34 e8_34; refine Ends.mk ?_; refine thenK_normal ⟨by omega, ⟨by rw [e1_35, e1_17], by rw [e2_35, e2_17], trivial⟩, rfl, ?_⟩; exact ⟨day + o.T i2 j2, h5, by rw [e8_35, IntWalk.i64_in _ (by omega)]; rfl, e7_35, ⟨(), hsz⟩, by omega, XE⟩
                  · skip; rw [Bool.not_eq_true] at hbt; subst hbt; refine Wp.exit ?_; refine thenK_exit ?_; refine thenK_exit ?_; refine blockK_here ?_; refine thenK_normal ?_; refine Wp.seq ?_; refine Wp.seqRegion (.inl rfl) (by kernel_rfl) fun K' gd hK hg => ?_; clear hg; go_simp; refine hK _ _ ?_; clear hK K' gd; refine Wp.keep [1, 2, 7, 8, 76] fun r36 hkeep => ?_; obtain ⟨e1_36, e2_36, e7_36, e8_36, e76_36, -⟩ := hkeep; simp [go_sem, e1_24, e2_24, e7_24, e8_24, e9_24, e10_24, e11_24, e58_24] at e1_36 e2_36 e7_36 e8_36 e76_36; clear e1_24 e2_24 e7_24 e8_24 e9_24 e10_24 e11_24 e58_24; refine Wp.condT (by go_simp) ?_; refine Wp.seqRegion (.inl rfl) (by kernel_rfl) fun K' gd hK hg => ?_; clear hg; go_simp; refine hK _ _ ?_; clear hK K' gd; refine Wp.keep [4] fun r37 hkeep => ?_; obtain ⟨e4_37, -⟩ := hkeep; simp [go_sem, e1_36, e2_36, e7_36, e8_36, e76_36] at e4_37; clear e1_36 e2_36 e7_36 e8_36 e76_36; refine Wp.ret ?_; refine thenK_ret ?_; refine blockK_ret ?_; refine thenK_ret ?_; refine thenK_ret ?_; refine blockK_ret ?_; refine thenK_ret ?_; refine endK_tmp Tryz.results123 (by decide) ?_; rw [e4_37]; refine ⟨by rw [hsz]; rfl, XE⟩
            · refine Wp.condF (by go_simp) ?_; refine Wp.exit ?_; refine thenK_exit ?_; refine thenK_exit ?_; refine blockK_here ?_; refine thenK_normal ?_; refine Wp.seqRegion (.inl rfl) (by kernel_rfl) fun K' gd hK hg => ?_; clear hg; go_simp; refine hK _ _ ?_; clear hK K' gd; refine Wp.keep [4] fun r38 hkeep => ?_; obtain ⟨e4_38, -⟩ := hkeep; simp [go_sem, e1_19, e2_19, e7_19, e8_19, e46_19] at e4_38; clear e1_19 e2_19 e7_19 e8_19 e46_19; refine Wp.ret ?_; refine endK_tmp Tryz.results123 (by decide) ?_; rw [e4_38]; refine ⟨?_, XE⟩; obtain ⟨-, hsq⟩ := hsq; rw [hsq, List.drop_of_length_le (by omega)]; rfl
        · skip; have hjj : ¬ (j0 : Int) = 0 := by omega
          refine Wp.exit ?_; refine thenK_exit ?_; refine thenK_exit ?_; refine blockK_here ?_; refine thenK_normal ?_; refine Wp.seq ?_; refine Wp.seqRegion (.inl rfl) (by kernel_rfl) fun K' gd hK hg => ?_; clear hg; go_simp; refine hK _ _ ?_; clear hK K' gd; refine Wp.keep [1, 2, 33] fun r39 hkeep => ?_; obtain ⟨e1_39, e2_39, e33_39, -⟩ := hkeep; simp [go_sem, e1_9, e2_9, e5_9, e18_9] at e1_39 e2_39 e33_39; clear e1_9 e2_9 e5_9 e18_9; refine Wp.condT (by go_simp) ?_; refine Wp.seqRegion (.inl rfl) (by kernel_rfl) fun K' gd hK hg => ?_; clear hg; go_simp; refine hK _ _ ?_; clear hK K' gd; refine Wp.keep [4] fun r40 hkeep => ?_; obtain ⟨e4_40, -⟩ := hkeep; simp [go_sem, e1_39, e2_39, e33_39] at e4_40; clear e1_39 e2_39 e33_39; refine Wp.ret ?_; refine thenK_ret ?_; refine endK_tmp Tryz.results123 (by decide) ?_; rw [e4_40]; refine ⟨?_, XE⟩; rw [hsv, if_neg (by rw [e2]; exact hjj)]
end Go.Proofs.YtnfagcccgmakdaaGreat
namespace Go.Proofs.YtnfagcccgmakdaaGreat
open Go.RowKit Go.Wk Go.Proofs
attribute [local irreducible] Go.Wk.Wops Go.Wk.Wp Go.Wk.Mtree Go.Wk.Mops
set_option maxHeartbeats 4000000
def TabV (w : World) (B : Nat) (v : Value) (t : List (List Int)) : Prop :=
  ∃ (A : Option Addr) (c : Nat) (tv : Nat → Value), v = .slice A t.length c ∧ (t ≠ [] → ∃ b o, A = some ⟨b, o, none⟩ ∧ b < B ∧ ∀ k, k < t.length → w.cell? ⟨b, o + k, none⟩ = some (tv k)) ∧ (∀ k (h : k < t.length), IntsV w B (tv k) t[k]) ∧ t.length ≤ c
theorem TabV.below {w w' : World} {B : Nat} {v : Value} {t : List (List Int)} (h : TabV w B v t) (hb : Below B w w') : TabV w' B v t := by
  obtain ⟨A, c, tv, hv, hx, ht, hcap⟩ := h; refine ⟨A, c, tv, hv, fun hne => ?_, fun k hk => (ht k hk).below hb, hcap⟩; obtain ⟨b, o, hA, hlt, hc⟩ := hx hne; exact ⟨b, o, hA, hlt, fun k hk => (hb.cell (p := ⟨b, o + k, none⟩) hlt).trans (hc k hk)⟩
theorem TabV.more {w : World} {B B' : Nat} {v : Value} {t : List (List Int)} (h : TabV w B v t) (hB : B ≤ B') : TabV w B' v t := by
  obtain ⟨A, c, tv, hv, hx, ht, hcap⟩ := h; refine ⟨A, c, tv, hv, fun hne => ?_, fun k hk => (ht k hk).more hB, hcap⟩; obtain ⟨b, o, hA, hlt, hc⟩ := hx hne; exact ⟨b, o, hA, by omega, hc⟩
theorem TabV.ext {w w' : World} {v : Value} {t : List (List Int)} (h : TabV w w.heap.size v t) (hE : Ext w w') : TabV w' w'.heap.size v t := (h.below hE).more hE.size
theorem OwnTab.tabV {w : World} {base : Nat} {v : Value} {t : List (List Int)} (h : OwnTab w base v t) : TabV w w.heap.size v t := by
  obtain ⟨vs, h1, h2⟩ := h
  have hin : ∀ k (h : k < t.length), IntsV w w.heap.size (vs[k]?.getD .nilFunc) t[k] := fun k hk => by
    obtain ⟨u, hu, ho⟩ := h2 k hk; rw [hu]; exact ho.intsV
  rcases h1.2 with ⟨rfl, hn⟩ | ⟨g, cap, cur, rfl, hb, hg, hnc, hcm, hcs, htake⟩
  · have : t = [] := List.eq_nil_of_length_eq_zero hn; subst this; exact ⟨none, 0, fun _ => .nilFunc, rfl, fun h => absurd rfl h, fun k hk => absurd hk (Nat.not_lt_zero _), Nat.le_refl _⟩
  · refine ⟨_, cap, fun k => vs[k]?.getD .nilFunc, rfl, fun _ => ⟨g, 0, rfl, (Array.getElem?_eq_some_iff.1 hg).1, fun k hk => ?_⟩, hin, hnc⟩; obtain ⟨u, hu, -⟩ := h2 k hk; have := World.ownsRow.cells h1 (g := g) rfl k u hu; rw [Addr.add_lit] at this
    dsimp only; rw [hu]; exact this
theorem TabV.at {w : World} {B n c : Nat} {A : Option Addr} {t : List (List Int)} (h : TabV w B (.slice A n c) t) {k : Nat} (hk : k < t.length) : ∃ b o u, A = some ⟨b, o, none⟩ ∧ w.cell? ⟨b, o + k, none⟩ = some u ∧ IntsV w B u t[k] := by
  obtain ⟨A', c', tv, hv, hx, ht, -⟩ := h
  injection hv with h1 h2 h3
  subst h1; obtain ⟨b, o, hA, -, hc⟩ := hx (by intro e; rw [e] at hk; exact absurd hk (Nat.not_lt_zero _)); exact ⟨b, o, tv k, hA, hc k hk, ht k hk⟩
theorem IntsV.at {w : World} {B n c : Nat} {A : Option Addr} {xs : List Int} (h : IntsV w B (.slice A n c) xs) {k : Nat} (hk : k < xs.length) : ∃ b o, A = some ⟨b, o, none⟩ ∧ w.cell? ⟨b, o + k, none⟩ = some (.int .i64 xs[k]) := by
  obtain ⟨A', c', hv, hx, -⟩ := h
  injection hv with h1 h2 h3
  subst h1; obtain ⟨b, o, hA, -, hc⟩ := hx (by intro e; rw [e] at hk; exact absurd hk (Nat.not_lt_zero _)); exact ⟨b, o, hA, hc k hk⟩
theorem IntsV.slice {w : World} {B : Nat} {v : Value} {xs : List Int} (h : IntsV w B v xs) : ∃ A c, v = .slice A xs.length c := by
  obtain ⟨A, c, rfl, -⟩ := h; exact ⟨A, c, rfl⟩
theorem sameT_c (v1 v2 : Value) (xs ys : List (List Int)) (w : World) (h1 : TabV w w.heap.size v1 xs) (h2 : TabV w w.heap.size v2 ys) (hl1 : xs.length ≤ 1000000000) (hl2 : ys.length ≤ 1000000000) (hi1 : ∀ x ∈ xs, x.length ≤ 1000000000) (hi2 : ∀ x ∈ ys, x.length ≤ 1000000000) :
    CallsV Tryz.prog 26 #[v1, v2] w fun v w' => v = .bool (decide (xs = ys)) ∧ Ext w w' := by
  obtain ⟨A1, c1, t1, rfl, -⟩ := id h1; obtain ⟨A2, c2, t2, rfl, -⟩ := id h2; refine Wp.fn Tryz.func26 rfl Tryz.ntmps26 (by simp) ?_; refine Wp.keep [0, 1] fun r1 hkeep => ?_; obtain ⟨e0_1, e1_1, -⟩ := hkeep; simp [go_sem] at e0_1 e1_1
  by_cases hne : (ys.length : Int) = (xs.length : Int)
  · skip; refine Wp.seqRegion (.inl rfl) (by kernel_rfl) fun K' gd hK hg => ?_; clear hg; go_simp; refine hK _ _ ?_; clear hK K' gd; refine Wp.keep [0, 1] fun r2 hkeep => ?_; obtain ⟨e0_2, e1_2, -⟩ := hkeep; simp [go_sem, e0_1, e1_1] at e0_2 e1_2; clear e0_1 e1_1; refine Wp.seq ?_; refine Wp.seqRegion (.inl rfl) (by kernel_rfl) fun K' gd hK hg => ?_; clear hg; go_simp; refine hK _ _ ?_; clear hK K' gd; refine Wp.keep [0, 1, 11] fun r3 hkeep => ?_; obtain ⟨e0_3, e1_3, e11_3, -⟩ := hkeep; simp [go_sem, e0_2, e1_2] at e0_3 e1_3 e11_3; clear e0_2 e1_2; refine Wp.condF (by go_simp) ?_; have hne' : ys.length = xs.length := by omega
    clear hne; refine Wp.skip ?_; refine thenK_normal ?_; refine Wp.seq ?_; refine Wp.seqRegion (.inl rfl) (by kernel_rfl) fun K' gd hK hg => ?_; clear hg; go_simp; refine hK _ _ ?_; clear hK K' gd; refine Wp.keep [0, 1, 5] fun r4 hkeep => ?_; obtain ⟨e0_4, e1_4, e5_4, -⟩ := hkeep; simp [go_sem, e0_3, e1_3, e11_3] at e0_4 e1_4 e5_4; clear e0_3 e1_3 e11_3; refine Wp.block ?_; refine Wp.loop (fun k ρ ds wk => AllEq [0, 1] ρ r4 ∧ ds = [] ∧ (ρ 5 = .int .i64 (k : Int) ∧ Ext w wk ∧ (∀ j (h1 : j < xs.length) (h2 : j < ys.length), j < k → xs[j] = ys[j]))) (xs.length) ?_ ?_
    · refine ⟨AllEq.refl _ _, rfl, ?_⟩; exact ⟨by rw [e5_4]; rfl, Ext.refl _, fun j _ _ h => absurd h (Nat.not_lt_zero _)⟩
    · rintro k r5 _ wk hk ⟨hA, rfl, ⟨e5, hEk, hq⟩⟩; obtain ⟨e0_5, e1_5, -⟩ := hA; rw [e0_4] at e0_5; rw [e1_4] at e1_5; refine Wp.seq ?_; refine Wp.seqRegion (.inl rfl) (by kernel_rfl) fun K' gd hK hg => ?_; clear hg; go_simp; refine hK _ _ ?_; clear hK K' gd; refine Wp.keep [0, 1, 5, 15] fun r6 hkeep => ?_; obtain ⟨e0_6, e1_6, e5_6, e15_6, -⟩ := hkeep; simp [go_sem, e0_5, e1_5, e5] at e0_6 e1_6 e5_6 e15_6; clear e0_5 e1_5 e5
      by_cases h : k < xs.length
      · refine Wp.condT (by go_simp) ?_; have h' : k < ys.length := by omega
        obtain ⟨b1, o1, u1, rfl, d1, g1⟩ := (h1.ext hEk).at h; obtain ⟨b2, o2, u2, rfl, d2, g2⟩ := (h2.ext hEk).at h'; have b3 : (k : Int) < (xs.length : Int) := by omega
        obtain ⟨A3, c3, rfl⟩ := g1.slice; obtain ⟨A4, c4, rfl⟩ := g2.slice; refine Wp.skip ?_; refine thenK_normal ?_; refine Wp.seq ?_; refine Wp.block ?_; refine Wp.seqDraw (.inl rfl) mixed [([0, 1, 2, 3, 4], none), ([5, 6, 7], some (8, false)), ([9], none)] (by kernel_rfl) fun K' gd hK hg => ?_; clear hg; simp only [pick, nth, List.map_cons, List.map_nil, Option.map_none, Option.map_some]; apply Mops.none
        · intro w' hE'; have hC' := hE'.cellsS; go_simp; with_reducible rfl
        apply Mops.act
        · intro w' hE'; have hC' := hE'.cellsS; go_simp; with_reducible rfl
        intro K1 hK1; go_simp; refine Wcall (.inl rfl) (sameI_c _ _ xs[k] ys[k] _ (g1.ext XE) (g2.ext XE) (hi1 _ (List.getElem_mem h)) (hi2 _ (List.getElem_mem h'))) ?_; rintro v w2 ⟨rfl, hE2⟩; go_simp; refine hK1 _ _ (XR) ?_; clear hK1 K1; apply Mops.none
        · intro w' hE'; have hC' := hE'.cellsS; go_simp; with_reducible rfl
        refine Mops.done ?_; refine hK _ _ ?_; clear hK K' gd; refine Wp.keep [0, 1, 5, 6] fun r7 hkeep => ?_; obtain ⟨e0_7, e1_7, e5_7, e6_7, -⟩ := hkeep; simp [go_sem, e0_6, e1_6, e5_6, e15_6] at e0_7 e1_7 e5_7 e6_7; clear e0_6 e1_6 e5_6 e15_6
        by_cases he : ¬ xs[k] = ys[k]
        · skip; refine Wp.seqRegion (.inl rfl) (by kernel_rfl) fun K' gd hK hg => ?_; clear hg; go_simp; refine hK _ _ ?_; clear hK K' gd; refine Wp.keep [0, 1, 5, 28] fun r8 hkeep => ?_; obtain ⟨e0_8, e1_8, e5_8, e28_8, -⟩ := hkeep; simp [go_sem, e0_7, e1_7, e5_7, e6_7] at e0_8 e1_8 e5_8 e28_8; clear e0_7 e1_7 e5_7 e6_7; refine Wp.condT (by go_simp) ?_; refine Wp.seqRegion (.inl rfl) (by kernel_rfl) fun K' gd hK hg => ?_; clear hg; go_simp; refine hK _ _ ?_; clear hK K' gd; refine Wp.keep [4] fun r9 hkeep => ?_; obtain ⟨e4_9, -⟩ := hkeep; simp [go_sem, e0_8, e1_8, e5_8, e28_8] at e4_9; clear e0_8 e1_8 e5_8 e28_8; refine Wp.ret ?_; refine blockK_ret ?_; refine thenK_ret ?_; refine thenK_ret ?_; refine blockK_ret ?_; refine thenK_ret ?_; refine endK_tmp Tryz.results26 (by decide) ?_; rw [e4_9]; refine ⟨?_, XE⟩; rw [decide_eq_false (fun e => he (by subst e; rfl))]
        · skip; rw [Classical.not_not] at he; refine Wp.seqRegion (.inl rfl) (by kernel_rfl) fun K' gd hK hg => ?_; clear hg; go_simp; refine hK _ _ ?_; clear hK K' gd; refine Wp.keep [0, 1, 5, 28] fun r10 hkeep => ?_; obtain ⟨e0_10, e1_10, e5_10, e28_10, -⟩ := hkeep; simp [go_sem, e0_7, e1_7, e5_7, e6_7] at e0_10 e1_10 e5_10 e28_10; clear e0_7 e1_7 e5_7 e6_7; refine Wp.condF (by go_simp) ?_; refine Wp.skip ?_; refine blockK_normal ?_; refine thenK_normal ?_; refine Wp.loneRegion (.inl rfl) (by kernel_rfl) fun K' gd hK hg => ?_; clear hg; go_simp; refine hK _ _ ?_; clear hK K' gd; refine Ends.keep [0, 1, 5] fun r11 hkeep => ?_; obtain ⟨e0_11, e1_11, e5_11, -⟩ := hkeep; simp [go_sem, e0_10, e1_10, e5_10, e28_10] at e0_11 e1_11 e5_11; clear e0_10 e1_10 e5_10 e28_10; refine Ends.mk ?_; refine thenK_normal ⟨by omega, ⟨by rw [e0_11, e0_4], by rw [e1_11, e1_4], trivial⟩, rfl, ?_⟩; refine ⟨by rw [e5_11, IntWalk.i64_in _ (by omega)]; rfl, XE, fun j h1 h2 hj => ?_⟩
          by_cases e : j = k
          · subst e; exact he
          · exact hq j h1 h2 (by omega)
      · refine Wp.condF (by go_simp) ?_; refine Wp.exit ?_; refine thenK_exit ?_; refine thenK_exit ?_; refine blockK_here ?_; refine thenK_normal ?_; refine Wp.seqRegion (.inl rfl) (by kernel_rfl) fun K' gd hK hg => ?_; clear hg; go_simp; refine hK _ _ ?_; clear hK K' gd; refine Wp.keep [4] fun r12 hkeep => ?_; obtain ⟨e4_12, -⟩ := hkeep; simp [go_sem, e0_6, e1_6, e5_6, e15_6] at e4_12; clear e0_6 e1_6 e5_6 e15_6; refine Wp.ret ?_; refine endK_tmp Tryz.results26 (by decide) ?_; rw [e4_12]; refine ⟨?_, hEk⟩; rw [decide_eq_true (List.ext_getElem hne'.symm (fun j h1 h2 => hq j h1 h2 (by omega)))]
  · skip; have hne2 : ¬ (xs.length : Int) = (ys.length : Int) := fun e => hne e.symm; refine Wp.seqRegion (.inl rfl) (by kernel_rfl) fun K' gd hK hg => ?_; clear hg; go_simp; refine hK _ _ ?_; clear hK K' gd; refine Wp.keep [0, 1] fun r13 hkeep => ?_; obtain ⟨e0_13, e1_13, -⟩ := hkeep; simp [go_sem, e0_1, e1_1] at e0_13 e1_13; clear e0_1 e1_1; refine Wp.seq ?_; refine Wp.seqRegion (.inl rfl) (by kernel_rfl) fun K' gd hK hg => ?_; clear hg; go_simp; refine hK _ _ ?_; clear hK K' gd; refine Wp.keep [0, 1, 11] fun r14 hkeep => ?_; obtain ⟨e0_14, e1_14, e11_14, -⟩ := hkeep; simp [go_sem, e0_13, e1_13] at e0_14 e1_14 e11_14; clear e0_13 e1_13; refine Wp.condT (by go_simp) ?_; refine Wp.seqRegion (.inl rfl) (by kernel_rfl) fun K' gd hK hg => ?_; clear hg; go_simp; refine hK _ _ ?_; clear hK K' gd; refine Wp.keep [4] fun r15 hkeep => ?_; obtain ⟨e4_15, -⟩ := hkeep; simp [go_sem, e0_14, e1_14, e11_14] at e4_15; clear e0_14 e1_14 e11_14; refine Wp.ret ?_; refine thenK_ret ?_; refine endK_tmp Tryz.results26 (by decide) ?_; rw [e4_15]; exact ⟨by rw [decide_eq_false (fun e => hne (by rw [e]))], Ext.refl _⟩
theorem tabL_get (o : Ord) (t : Nat → Nat → Int) {i : Nat} (h : i < (tabL o t).length) : (tabL o t)[i] = rowL o t i := by simp [tabL]
theorem rowL_get (o : Ord) (t : Nat → Nat → Int) {i j : Nat} (h : j < (rowL o t i).length) : (rowL o t i)[j] = t i j := by simp [rowL]
theorem tab_at {w : World} {B : Nat} {v : Value} {o : Ord} {t : Nat → Nat → Int} (h : TabV w B v (tabL o t)) {i j : Nat} (hi : i < o.n) (hj : j < o.m) : ∃ b ob c b2 o2 c2, v = .slice (some ⟨b, ob, none⟩) o.n c ∧ w.cell? ⟨b, ob + i, none⟩ = some (.slice (some ⟨b2, o2, none⟩) o.m c2) ∧ w.cell? ⟨b2, o2 + j, none⟩ = some (.int .i64 (t i j)) := by
  have hi' : i < (tabL o t).length := by rw [tabL_len]; exact hi
  obtain ⟨A, c, tv, rfl, -⟩ := id h; obtain ⟨b, ob, u, rfl, h1, h2⟩ := h.at hi'; rw [tabL_get] at h2; obtain ⟨A2, c2, rfl⟩ := h2.slice; obtain ⟨b2, o2, rfl, h3⟩ := h2.at (k := j) (by rw [rowL_len]; exact hj); rw [rowL_get] at h3; rw [tabL_len]; rw [rowL_len] at h1; exact ⟨b, ob, c, b2, o2, c2, rfl, h1, h3⟩
def isPathV (o : Ord) (s : SZ) (l : List SZ) : Bool := decide (l.getLast? = some s) && decide (showsV o l = begA o s.1.toNat s.2.toNat)
theorem isPath_c (cv rv : Value) (o : Ord) (i j : Nat) (v1 : Value) (l : List SZ) (w : World) (hV : OrderV w w.heap.size (.agg #[cv, rv]) o) (hg : OrdGood o) (hi : i < o.n) (hj : j < o.m) (hl : StintsV w w.heap.size v1 l) (hln : l.length ≤ 1000000) :
    CallsV Tryz.prog 58 #[.agg #[cv, rv], .agg #[.int .i64 (i : Int), .int .i64 (j : Int)], v1] w fun v w' => v = .bool (isPathV o ((i : Int), (j : Int)) l) ∧ Ext w w' := by
  have ho := hg.ok; obtain ⟨a, rfl, rfl, hO⟩ := hV.ordF2 hg; obtain ⟨A1, c1, rfl, -⟩ := id hl; have hfa : (l.getLast? = some ((i : Int), (j : Int))) = False → isPathV o ((i : Int), (j : Int)) l = false := fun h => by unfold isPathV; rw [decide_eq_false (by rw [h]; exact id)]; rfl
  refine Wp.fn Tryz.func58 rfl Tryz.ntmps58 (by simp) ?_; refine Wp.keep [0, 1, 2] fun r1 hkeep => ?_; obtain ⟨e0_1, e1_1, e2_1, -⟩ := hkeep; simp [go_sem] at e0_1 e1_1 e2_1
  by_cases hl0 : l.length = 0
  · skip; have hnil : l = [] := List.eq_nil_of_length_eq_zero hl0; subst hnil; refine Wp.seqRegion (.inl rfl) (by kernel_rfl) fun K' gd hK hg => ?_; clear hg; go_simp; refine hK _ _ ?_; clear hK K' gd; refine Wp.keep [2, 3, 4] fun r2 hkeep => ?_; obtain ⟨e2_2, e3_2, e4_2, -⟩ := hkeep; simp [go_sem, e0_1, e1_1, e2_1] at e2_2 e3_2 e4_2; clear e0_1 e1_1 e2_1; refine Wp.seqDraw (.inl rfl) mixed [([0, 1, 2, 3], none), ([4, 5, 6, 7, 8], none), ([9, 10, 11, 12, 13], none), ([14], none), ([15, 16, 18, 20, 21], none), ([24, 25], some (17, false)), ([], some (19, false)), ([22, 23, 26, 27, 28], none), ([29, 30], none)] (by kernel_rfl) fun K' gd hK hg => ?_; have g3 : gd 3 = some 10 := hg 3; have g14 : gd 14 = some 21 := hg 14; clear hg; simp only [pick, nth, List.map_cons, List.map_nil, Option.map_none, Option.map_some]; apply Mops.none
    · intro w' hE'; have hC' := hE'.cellsS; go_simp; with_reducible rfl
    apply Mops.none
    · intro w' hE'; have hC' := hE'.cellsS; go_simp; with_reducible rfl
    apply Mops.none
    · intro w' hE'; have hC' := hE'.cellsS; go_simp; with_reducible rfl
    apply Mops.none
    · intro w' hE'; have hC' := hE'.cellsS; go_simp; with_reducible rfl
    apply Mops.none
    · intro w' hE'; have hC' := hE'.cellsS; go_simp; with_reducible rfl
    apply Mops.act
    · intro w' hE'; have hC' := hE'.cellsS; go_simp; with_reducible rfl
    intro K1 hK1; go_simp; refine hK1 _ _ (XR) ?_; clear hK1 K1; apply Mops.act
    · exact fun _ _ => Rops_done
    intro K1 hK1; go_simp; refine hK1 _ _ (XR) ?_; clear hK1 K1; apply Mops.none
    · intro w' hE'; have hC' := hE'.cellsS; go_simp; with_reducible rfl
    apply Mops.none
    · intro w' hE'; have hC' := hE'.cellsS; go_simp; with_reducible rfl
    refine Mops.done ?_; refine hK _ _ ?_; clear hK K' gd g3 g14; refine Wp.keep [6] fun r3 hkeep => ?_; obtain ⟨e6_3, -⟩ := hkeep; simp [go_sem, e2_2, e3_2, e4_2] at e6_3; clear e2_2 e3_2 e4_2; refine Wp.ret ?_; refine endK_tmp Tryz.results58 (by decide) ?_; rw [e6_3]; refine ⟨?_, XE⟩; rw [hfa (by simp)]
  · skip; obtain ⟨k, hk⟩ : ∃ k, k + 1 = l.length := ⟨l.length - 1, by omega⟩; have hkl : k < l.length := by omega
    have hlast : l.getLast? = some l[k] := by rw [List.getLast?_eq_getElem?, show l.length - 1 = k by omega, List.getElem?_eq_getElem hkl]
    have hwk : IntKind.i64.wrap ((l.length : Int) - 1) = (k : Int) := by rw [IntWalk.i64_in _ (by omega)]; omega
    have hmx1 : (if 0 < (k : Int) then (k : Int) else 0) = (k : Int) := by split <;> omega
    have hmx2 : (if 0 < k then (k : Int) else 0) = (k : Int) := by split <;> omega
    have b1 : 0 < l.length := by omega
    have b2 : (k : Int) < (l.length : Int) := by omega
    clear hk; obtain ⟨b5, o5, rfl, c51, c52⟩ := hl.at hkl; obtain ⟨⟨y1, y2⟩, hy⟩ : ∃ y, l[k] = y := ⟨_, rfl⟩; rw [hy] at hlast c51 c52; have d1 : ∀ X Y, ((w.alloc X).alloc Y).cell? ⟨b5, o5 + k * 2, none⟩ = some (.int .i64 y1) := fun X Y => cell_al _ (cell_al _ c51); have d2 : ∀ X Y, ((w.alloc X).alloc Y).cell? ⟨b5, o5 + k * 2 + 1, none⟩ = some (.int .i64 y2) := fun X Y => cell_al _ (cell_al _ c52)
    by_cases he1 : y1 = (i : Int)
    · skip
      by_cases he2 : y2 = (j : Int)
      · skip; subst he1; subst he2; refine Wp.seqRegion (.inl rfl) (by kernel_rfl) fun K' gd hK hg => ?_; clear hg; go_simp; refine hK _ _ ?_; clear hK K' gd; refine Wp.keep [2, 3, 4] fun r4 hkeep => ?_; obtain ⟨e2_4, e3_4, e4_4, -⟩ := hkeep; simp [go_sem, e0_1, e1_1, e2_1] at e2_4 e3_4 e4_4; clear e0_1 e1_1 e2_1; refine Wp.seqDraw (.inl rfl) mixed [([0, 1, 2, 3], none), ([4, 5, 6, 7, 8], none), ([9, 10, 11, 12, 13], none), ([14], none), ([15, 16, 18, 20, 21], none), ([24, 25], some (17, false)), ([], some (19, false)), ([22, 23, 26, 27, 28], none), ([29, 30], none)] (by kernel_rfl) fun K' gd hK hg => ?_; have g3 : gd 3 = some 10 := hg 3; have g14 : gd 14 = some 21 := hg 14; clear hg; simp only [pick, nth, List.map_cons, List.map_nil, Option.map_none, Option.map_some]; apply Mops.none
        · intro w' hE'; have hC' := hE'.cellsS; go_simp; with_reducible rfl
        apply Mops.none
        · intro w' hE'; have hC' := hE'.cellsS; go_simp; with_reducible rfl
        apply Mops.none
        · intro w' hE'; have hC' := hE'.cellsS; go_simp; with_reducible rfl
        apply Mops.none
        · intro w' hE'; have hC' := hE'.cellsS; go_simp; with_reducible rfl
        apply Mops.none
        · intro w' hE'; have hC' := hE'.cellsS; go_simp; with_reducible rfl
        apply Mops.act
        · intro w' hE'; have hC' := hE'.cellsS; go_simp; with_reducible rfl
        intro K1 hK1; go_simp; refine Wcall (.inl rfl) (shows_c _ _ o _ l _ (hV.ext XE) hg (hl.ext XE) hln) ?_; rintro v w2 ⟨rfl, hE2⟩; have hE2' : Ext w w2 := XE; have z0 : w2.cell? ⟨w.heap.size, 0, none⟩ = some (a.cv o) := hE2.cell (cell_drew (cell_al _ (cell_nw _ _ _ 0))); have z1 : w2.cell? ⟨w.heap.size, 1, none⟩ = some (a.rv o) := hE2.cell (cell_drew (cell_al _ (cell_nw _ _ _ 1))); have z2 : w2.cell? ⟨w.heap.size + 1, 0, none⟩ = some (.int .i64 (i : Int)) := hE2.cell (by go_simp); have z3 : w2.cell? ⟨w.heap.size + 1, 1, none⟩ = some (.int .i64 (j : Int)) := hE2.cell (by go_simp); go_simp; refine hK1 _ _ (XR) ?_; clear hK1 K1; apply Mops.act
        · exact fun _ _ => Rops_done
        intro K1 hK1; go_simp; refine Wcall (.inl rfl) (timesR_c a o _ (hO.ext hE2')) ?_; rintro v3 w3 ⟨hT, hE3⟩; obtain ⟨b6, o6, c6, b7, o7, c7, rfl, f1, f2⟩ := tab_at hT.tabV hi hj; have z2' := hE3.cell z2; have z3' := hE3.cell z3; have b8 : (i : Int) < (o.n : Int) := by omega
        have b9 : (j : Int) < (o.m : Int) := by omega
        go_simp; refine hK1 _ _ (XR) ?_; clear hK1 K1; apply Mops.none
        · intro w' hE'; have hC' := hE'.cellsS; go_simp; with_reducible rfl
        apply Mops.none
        · intro w' hE'; have hC' := hE'.cellsS; go_simp; with_reducible rfl
        refine Mops.done ?_; refine hK _ _ ?_; clear hK K' gd g3 g14; refine Wp.keep [6] fun r5 hkeep => ?_; obtain ⟨e6_5, -⟩ := hkeep; simp [go_sem, e2_4, e3_4, e4_4] at e6_5; clear e2_4 e3_4 e4_4; refine Wp.ret ?_; refine endK_tmp Tryz.results58 (by decide) ?_; rw [e6_5]; refine ⟨?_, XE⟩; unfold isPathV; rw [hlast]; simp; rfl
      · skip; refine Wp.seqRegion (.inl rfl) (by kernel_rfl) fun K' gd hK hg => ?_; clear hg; go_simp; refine hK _ _ ?_; clear hK K' gd; refine Wp.keep [2, 3, 4] fun r6 hkeep => ?_; obtain ⟨e2_6, e3_6, e4_6, -⟩ := hkeep; simp [go_sem, e0_1, e1_1, e2_1] at e2_6 e3_6 e4_6; clear e0_1 e1_1 e2_1; refine Wp.seqDraw (.inl rfl) mixed [([0, 1, 2, 3], none), ([4, 5, 6, 7, 8], none), ([9, 10, 11, 12, 13], none), ([14], none), ([15, 16, 18, 20, 21], none), ([24, 25], some (17, false)), ([], some (19, false)), ([22, 23, 26, 27, 28], none), ([29, 30], none)] (by kernel_rfl) fun K' gd hK hg => ?_; have g3 : gd 3 = some 10 := hg 3; have g14 : gd 14 = some 21 := hg 14; clear hg; simp only [pick, nth, List.map_cons, List.map_nil, Option.map_none, Option.map_some]; apply Mops.none
        · intro w' hE'; have hC' := hE'.cellsS; go_simp; with_reducible rfl
        apply Mops.none
        · intro w' hE'; have hC' := hE'.cellsS; go_simp; with_reducible rfl
        apply Mops.none
        · intro w' hE'; have hC' := hE'.cellsS; go_simp; with_reducible rfl
        apply Mops.none
        · intro w' hE'; have hC' := hE'.cellsS; go_simp; with_reducible rfl
        apply Mops.none
        · intro w' hE'; have hC' := hE'.cellsS; go_simp; with_reducible rfl
        apply Mops.act
        · intro w' hE'; have hC' := hE'.cellsS; go_simp; with_reducible rfl
        intro K1 hK1; go_simp; refine hK1 _ _ (XR) ?_; clear hK1 K1; apply Mops.act
        · exact fun _ _ => Rops_done
        intro K1 hK1; go_simp; refine hK1 _ _ (XR) ?_; clear hK1 K1; apply Mops.none
        · intro w' hE'; have hC' := hE'.cellsS; go_simp; with_reducible rfl
        apply Mops.none
        · intro w' hE'; have hC' := hE'.cellsS; go_simp; with_reducible rfl
        refine Mops.done ?_; refine hK _ _ ?_; clear hK K' gd g3 g14; refine Wp.keep [6] fun r7 hkeep => ?_; obtain ⟨e6_7, -⟩ := hkeep; simp [go_sem, e2_6, e3_6, e4_6] at e6_7; clear e2_6 e3_6 e4_6; refine Wp.ret ?_; refine endK_tmp Tryz.results58 (by decide) ?_; rw [e6_7]; refine ⟨?_, XE⟩; rw [hfa (by rw [hlast]; simp [he2])]
    · skip; refine Wp.seqRegion (.inl rfl) (by kernel_rfl) fun K' gd hK hg => ?_; clear hg; go_simp; refine hK _ _ ?_; clear hK K' gd; refine Wp.keep [2, 3, 4] fun r8 hkeep => ?_; obtain ⟨e2_8, e3_8, e4_8, -⟩ := hkeep; simp [go_sem, e0_1, e1_1, e2_1] at e2_8 e3_8 e4_8; clear e0_1 e1_1 e2_1; refine Wp.seqDraw (.inl rfl) mixed [([0, 1, 2, 3], none), ([4, 5, 6, 7, 8], none), ([9, 10, 11, 12, 13], none), ([14], none), ([15, 16, 18, 20, 21], none), ([24, 25], some (17, false)), ([], some (19, false)), ([22, 23, 26, 27, 28], none), ([29, 30], none)] (by kernel_rfl) fun K' gd hK hg => ?_; have g3 : gd 3 = some 10 := hg 3; have g14 : gd 14 = some 21 := hg 14; clear hg; simp only [pick, nth, List.map_cons, List.map_nil, Option.map_none, Option.map_some]; apply Mops.none
      · intro w' hE'; have hC' := hE'.cellsS; go_simp; with_reducible rfl
      apply Mops.none
      · intro w' hE'; have hC' := hE'.cellsS; go_simp; with_reducible rfl
      apply Mops.none
      · intro w' hE'; have hC' := hE'.cellsS; go_simp; with_reducible rfl
      apply Mops.none
      · intro w' hE'; have hC' := hE'.cellsS; go_simp; with_reducible rfl
      apply Mops.none
      · intro w' hE'; have hC' := hE'.cellsS; go_simp; with_reducible rfl
      apply Mops.act
      · intro w' hE'; have hC' := hE'.cellsS; go_simp; with_reducible rfl
      intro K1 hK1; go_simp; refine hK1 _ _ (XR) ?_; clear hK1 K1; apply Mops.act
      · exact fun _ _ => Rops_done
      intro K1 hK1; go_simp; refine hK1 _ _ (XR) ?_; clear hK1 K1; apply Mops.none
      · intro w' hE'; have hC' := hE'.cellsS; go_simp; with_reducible rfl
      apply Mops.none
      · intro w' hE'; have hC' := hE'.cellsS; go_simp; with_reducible rfl
      refine Mops.done ?_; refine hK _ _ ?_; clear hK K' gd g3 g14; refine Wp.keep [6] fun r9 hkeep => ?_; obtain ⟨e6_9, -⟩ := hkeep; simp [go_sem, e2_8, e3_8, e4_8] at e6_9; clear e2_8 e3_8 e4_8; refine Wp.ret ?_; refine endK_tmp Tryz.results58 (by decide) ?_; rw [e6_9]; refine ⟨?_, XE⟩; rw [hfa (by rw [hlast]; simp [he1])]
end Go.Proofs.YtnfagcccgmakdaaGreat
namespace Go.Proofs.YtnfagcccgmakdaaGreat
open Go.RowKit Go.Wk Go.Proofs
attribute [local irreducible] Go.Wk.Wops Go.Wk.Wp Go.Wk.Mtree Go.Wk.Mops
set_option maxHeartbeats 4000000
def set2 (w : World) (g k : Nat) (x : SZ) : World := (w.setCell ⟨g, k * 2, none⟩ (.int .i64 x.1)).setCell ⟨g, k * 2 + 1, none⟩ (.int .i64 x.2)
structure StF (w : World) (g N n : Nat) (f : Nat → SZ) : Prop where
  row : RowB w g 56 N
  c0 : ∀ k, k < n → w.cell? ⟨g, k * 2, none⟩ = some (.int .i64 (f k).1)
  c1 : ∀ k, k < n → w.cell? ⟨g, k * 2 + 1, none⟩ = some (.int .i64 (f k).2)
theorem StF.ext {w w' : World} {g N n : Nat} {f : Nat → SZ} (h : StF w g N n f) (hE : Ext w w') : StF w' g N n f := ⟨h.row.ext hE, fun k hk => hE.cell (h.c0 k hk), fun k hk => hE.cell (h.c1 k hk)⟩
theorem StF.set {w : World} {g N n : Nat} {f : Nat → SZ} (h : StF w g N n f) {p : Nat} (hp : p < n) (x : SZ) : StF (set2 w g p x) g N n (fun k => if k = p then x else f k) := by
  refine ⟨by unfold set2; exact (h.row.set _ rfl _).set _ rfl _, fun k hk => ?_, fun k hk => ?_⟩
  · unfold set2
    by_cases e : k = p
    · subst e; rw [if_pos rfl, setCell_off (by omega)]; exact World.cell?_setCell_same' _ _ _ (by rw [h.c0 k hk]; rfl)
    · rw [if_neg e, setCell_off (by omega), setCell_off (by omega)]; exact h.c0 k hk
  · unfold set2
    by_cases e : k = p
    · subst e; rw [if_pos rfl]; exact World.cell?_setCell_same' _ _ _ (by rw [setCell_off (by omega), h.c1 k hk]; rfl)
    · rw [if_neg e, setCell_off (by omega), setCell_off (by omega)]; exact h.c1 k hk
theorem StF.congr {w : World} {g N n : Nat} {f f' : Nat → SZ} (h : StF w g N n f) (he : ∀ k, k < n → f k = f' k) : StF w g N n f' :=
  ⟨h.row, fun k hk => by rw [← he k hk]; exact h.c0 k hk, fun k hk => by rw [← he k hk]; exact h.c1 k hk⟩
def revF (n k : Nat) (f : Nat → SZ) (p : Nat) : SZ := if p < k ∨ n < p + k + 1 then f (n - 1 - p) else f p
theorem reverse_c (g N cap n : Nat) (f : Nat → SZ) (w : World) (h : StF w g N n f) (hn : n ≤ 1000000) :
    CallsV Tryz.prog 121 #[.slice (some ⟨g, 0, none⟩) n cap] w fun v w' => v = .tuple #[] ∧ StF w' g N n (fun p => f (n - 1 - p)) ∧ w.grownBy w' (some g) := by
  have hw0 : IntKind.i64.wrap ((n : Int) - 1) = (n : Int) - 1 := IntWalk.i64_in _ (by omega); refine Wp.fn Tryz.func121 rfl Tryz.ntmps121 (by simp) ?_; refine Wp.keep [0] fun r1 hkeep => ?_; obtain ⟨e0_1, -⟩ := hkeep; simp [go_sem] at e0_1; refine Wp.seqRegion (.inl rfl) (by kernel_rfl) fun K' gd hK hg => ?_; clear hg; go_simp; refine hK _ _ ?_; clear hK K' gd; refine Wp.keep [0, 2, 3] fun r2 hkeep => ?_; obtain ⟨e0_2, e2_2, e3_2, -⟩ := hkeep; simp [go_sem, e0_1] at e0_2 e2_2 e3_2; clear e0_1; refine Wp.block ?_; refine Wp.loop (fun k ρ ds wk => AllEq [0] ρ r2 ∧ ds = [] ∧ (ρ 2 = .int .i64 (k : Int) ∧ ρ 3 = .int .i64 ((n : Int) - 1 - (k : Int)) ∧ StF wk g N n (revF n k f) ∧ w.grownBy wk (some g))) (n) ?_ ?_
  · refine ⟨AllEq.refl _ _, rfl, ?_⟩; exact ⟨by rw [e2_2]; rfl, by rw [e3_2]; congr 1; omega, h.congr (fun p hp => by unfold revF; rw [if_neg (by omega)]), gb_refl _ _⟩
  · rintro k r3 _ wk hk ⟨hA, rfl, ⟨e2, e3, hP, hgb⟩⟩; obtain ⟨e0_3, -⟩ := hA; rw [e0_2] at e0_3; refine Wp.seq ?_; refine Wp.seqRegion (.inl rfl) (by kernel_rfl) fun K' gd hK hg => ?_; clear hg; go_simp; refine hK _ _ ?_; clear hK K' gd; refine Wp.keep [0, 2, 3, 9] fun r4 hkeep => ?_; obtain ⟨e0_4, e2_4, e3_4, e9_4, -⟩ := hkeep; simp [go_sem, e0_3, e2, e3] at e0_4 e2_4 e3_4 e9_4; clear e0_3 e2 e3
    by_cases hlt : (k : Int) < (n : Int) - 1 - (k : Int)
    · refine Wp.condT (by go_simp) ?_; obtain ⟨q, hq⟩ : ∃ q : Nat, (n : Int) - 1 - (k : Int) = (q : Int) := ⟨n - 1 - k, by omega⟩; rw [hq] at e3_4 hlt; have hqn : q < n := by omega
      have hkn : k < n := by omega
      have hkq : k < q := by omega
      have hqe : ∃ _u : Unit, q = n - 1 - k := ⟨(), by omega⟩; clear hq; have p0 := hP.c0 k hkn; have p1 := hP.c1 k hkn; have q0 := hP.c0 q hqn; have q1 := hP.c1 q hqn; have r := hP.row.frozen; obtain ⟨x, hx⟩ : ∃ x, revF n k f k = x := ⟨_, rfl⟩; obtain ⟨y, hy⟩ : ∃ y, revF n k f q = y := ⟨_, rfl⟩; rw [hx] at p0 p1; rw [hy] at q0 q1; have hs := (hP.set hkn y).set hqn x; have hgs : w.grownBy (set2 (set2 wk g k y) g q x) (some g) := by unfold set2; exact gb_set (gb_set (gb_set (gb_set hgb _) _) _) _
      have b2 : (k : Int) < (n : Int) := by omega
      have b3 : (q : Int) < (n : Int) := by omega
      refine Wp.skip ?_; refine thenK_normal ?_; refine Wp.seq ?_; refine Wp.block ?_; refine Wp.loneDrawT (.inl rfl) mixed (.rd [0, 1, 4, 5, 6, 7, 8, 9, 10, 11, 12] (.both (.act 2 false (.both (.act 3 false (.act 13 true (.act 14 true (.act 15 true .done)))) (.act 13 true (.act 3 false (.act 14 true (.act 15 true .done)))))) (.both (.act 3 false (.both (.act 2 false (.act 13 true (.act 14 true (.act 15 true .done)))) (.act 13 true (.act 2 false (.act 14 true (.act 15 true .done)))))) (.act 13 true (.both (.act 2 false (.act 3 false (.act 14 true (.act 15 true .done)))) (.act 3 false (.act 2 false (.act 14 true (.act 15 true .done))))))))) (by kernel_rfl) (fun ρ W => AllEq [0, 2, 3] ρ r4 ∧ (StF W g N n (fun p => if p = q then x else if p = k then y else revF n k f p) ∧ w.grownBy W (some g))) (fun K' gd hK hg => ?_) ?_
      · skip; clear hg; simp only [pickT, nth, List.map_cons, List.map_nil]; apply Mtree.reads
        · intro w' hE'; have hC' := hE'.cellsS; go_simp; with_reducible rfl
        refine Mtree.two ?_ ?_
        · skip; refine Mtree.step fun K1 hK1 => ?_; go_simp; refine hK1 _ _ XA ?_; clear hK1 K1; refine Mtree.two ?_ ?_
          · skip; refine Mtree.step fun K1 hK1 => ?_; go_simp; refine hK1 _ _ XA ?_; clear hK1 K1; refine Mtree.stepT fun K1 hK1 => ?_; go_simp; refine hK1 _ _ ?_; clear hK1 K1; refine Mtree.stepT fun K1 hK1 => ?_; go_simp; refine hK1 _ _ ?_; clear hK1 K1; refine Mtree.stepT fun K1 hK1 => ?_; go_simp; refine hK1 _ _ ?_; clear hK1 K1; refine Mtree.fin ?_; refine hK _ _ ⟨by simp [AllEq, go_sem], ?_⟩; exact ⟨hs.ext ((Ext.refl _).drew), gb_ext hgs ((Ext.refl _).drew)⟩
          · skip; refine Mtree.stepT fun K1 hK1 => ?_; go_simp; refine hK1 _ _ ?_; clear hK1 K1; refine Mtree.step fun K1 hK1 => ?_; go_simp; refine hK1 _ _ XA ?_; clear hK1 K1; refine Mtree.stepT fun K1 hK1 => ?_; go_simp; refine hK1 _ _ ?_; clear hK1 K1; refine Mtree.stepT fun K1 hK1 => ?_; go_simp; refine hK1 _ _ ?_; clear hK1 K1; refine Mtree.fin ?_; refine hK _ _ ⟨by simp [AllEq, go_sem], ?_⟩; exact ⟨hs.ext ((Ext.refl _).drew), gb_ext hgs ((Ext.refl _).drew)⟩
        · skip; refine Mtree.two ?_ ?_
          · skip; refine Mtree.step fun K1 hK1 => ?_; go_simp; refine hK1 _ _ XA ?_; clear hK1 K1; refine Mtree.two ?_ ?_
            · skip; refine Mtree.step fun K1 hK1 => ?_; go_simp; refine hK1 _ _ XA ?_; clear hK1 K1; refine Mtree.stepT fun K1 hK1 => ?_; go_simp; refine hK1 _ _ ?_; clear hK1 K1; refine Mtree.stepT fun K1 hK1 => ?_; go_simp; refine hK1 _ _ ?_; clear hK1 K1; refine Mtree.stepT fun K1 hK1 => ?_; go_simp; refine hK1 _ _ ?_; clear hK1 K1; refine Mtree.fin ?_; refine hK _ _ ⟨by simp [AllEq, go_sem], ?_⟩; exact ⟨hs.ext ((Ext.refl _).drew), gb_ext hgs ((Ext.refl _).drew)⟩
            · skip; refine Mtree.stepT fun K1 hK1 => ?_; go_simp; refine hK1 _ _ ?_; clear hK1 K1; refine Mtree.step fun K1 hK1 => ?_; go_simp; refine hK1 _ _ XA ?_; clear hK1 K1; refine Mtree.stepT fun K1 hK1 => ?_; go_simp; refine hK1 _ _ ?_; clear hK1 K1; refine Mtree.stepT fun K1 hK1 => ?_; go_simp; refine hK1 _ _ ?_; clear hK1 K1; refine Mtree.fin ?_; refine hK _ _ ⟨by simp [AllEq, go_sem], ?_⟩; exact ⟨hs.ext ((Ext.refl _).drew), gb_ext hgs ((Ext.refl _).drew)⟩
          · skip; refine Mtree.stepT fun K1 hK1 => ?_; go_simp; refine hK1 _ _ ?_; clear hK1 K1; refine Mtree.two ?_ ?_
            · skip; refine Mtree.step fun K1 hK1 => ?_; go_simp; refine hK1 _ _ XA ?_; clear hK1 K1; refine Mtree.step fun K1 hK1 => ?_; go_simp; refine hK1 _ _ XA ?_; clear hK1 K1; refine Mtree.stepT fun K1 hK1 => ?_; go_simp; refine hK1 _ _ ?_; clear hK1 K1; refine Mtree.stepT fun K1 hK1 => ?_; go_simp; refine hK1 _ _ ?_; clear hK1 K1; refine Mtree.fin ?_; refine hK _ _ ⟨by simp [AllEq, go_sem], ?_⟩; exact ⟨hs.ext ((Ext.refl _).drew), gb_ext hgs ((Ext.refl _).drew)⟩
            · skip; refine Mtree.step fun K1 hK1 => ?_; go_simp; refine hK1 _ _ XA ?_; clear hK1 K1; refine Mtree.step fun K1 hK1 => ?_; go_simp; refine hK1 _ _ XA ?_; clear hK1 K1; refine Mtree.stepT fun K1 hK1 => ?_; go_simp; refine hK1 _ _ ?_; clear hK1 K1; refine Mtree.stepT fun K1 hK1 => ?_; go_simp; refine hK1 _ _ ?_; clear hK1 K1; refine Mtree.fin ?_; refine hK _ _ ⟨by simp [AllEq, go_sem], ?_⟩; exact ⟨hs.ext ((Ext.refl _).drew), gb_ext hgs ((Ext.refl _).drew)⟩
      · rintro r5 W ⟨hA, ⟨hN1, hN2⟩⟩; obtain ⟨e0_5, e2_5, e3_5, -⟩ := hA; rw [e0_4] at e0_5; rw [e2_4] at e2_5; rw [e3_4] at e3_5; clear e0_4 e2_4 e3_4 e9_4; refine Ends.mk ?_; refine blockK_normal ?_; refine thenK_normal ?_; refine Wp.loneRegion (.inl rfl) (by kernel_rfl) fun K' gd hK hg => ?_; clear hg; go_simp; refine hK _ _ ?_; clear hK K' gd; refine Ends.keep [0, 2, 3] fun r6 hkeep => ?_; obtain ⟨e0_6, e2_6, e3_6, -⟩ := hkeep; simp [go_sem, e0_5, e2_5, e3_5] at e0_6 e2_6 e3_6; clear e0_5 e2_5 e3_5; refine Ends.mk ?_; refine thenK_normal ⟨by omega, ⟨by rw [e0_6, e0_2], trivial⟩, rfl, ?_⟩; obtain ⟨-, hqe⟩ := hqe; refine ⟨by rw [e2_6, IntWalk.i64_in _ (by omega)]; rfl, by rw [e3_6, IntWalk.i64_in _ (by omega)]; congr 1; omega, hN1.congr (fun p hp => ?_), hN2⟩
        by_cases e1 : p = q
        · rw [if_pos e1, ← hx]; unfold revF; rw [if_neg (by omega), if_pos (by omega), e1, hqe]; congr 1; omega
        · rw [if_neg e1]
          by_cases e2 : p = k
          · rw [if_pos e2, ← hy]; unfold revF; rw [if_neg (by omega), if_pos (by omega), e2, hqe]
          · rw [if_neg e2]; unfold revF; by_cases e3 : p < k ∨ n < p + k + 1
            · rw [if_pos e3, if_pos (by omega)]
            · rw [if_neg e3, if_neg (by omega)]
    · refine Wp.condF (by go_simp) ?_; refine Wp.exit ?_; refine thenK_exit ?_; refine thenK_exit ?_; refine blockK_here ?_; refine endN_none Tryz.results121 ?_; refine ⟨rfl, hP.congr (fun p hp => ?_), hgb⟩; unfold revF; split
      · rfl
      · rw [show n - 1 - p = p by omega]
end Go.Proofs.YtnfagcccgmakdaaGreat
namespace Go.Proofs.YtnfagcccgmakdaaGreat
open Go.RowKit Go.Wk Go.Proofs
attribute [local irreducible] Go.Wk.Wops Go.Wk.Wp Go.Wk.Mtree Go.Wk.Mops
set_option maxHeartbeats 4000000
def matchB (o : Ord) (s x : Nat × Nat) : Bool := decide (begA o x.1 x.2 + o.T x.1 x.2 = begA o s.1 s.2)
def nextS (o : Ord) (s : Nat × Nat) : Option (Nat × Nat) := (beforeL o s).find? (matchB o s)
def backF (o : Ord) : Nat → Nat × Nat → List (Nat × Nat)
  | 0, s => [s]
  | f + 1, s => s :: (match nextS o s with | some x => backF o f x | none => [])
def restL (o : Ord) (s : Nat × Nat) : List (Nat × Nat) := match nextS o s with | some x => backF o (x.1 + x.2) x | none => []
def pathL (o : Ord) (s : Nat × Nat) : List (Nat × Nat) := (backF o (s.1 + s.2) s).reverse
def pathZ (o : Ord) (s : Nat × Nat) : List SZ := (pathL o s).map zS
theorem find_take {α : Type} {p : α → Bool} {l : List α} {k : Nat} {x : α} (h : ∀ y ∈ l.take k, p y = false) (hx : l[k]? = some x) (hp : p x = true) : l.find? p = some x := by
  obtain ⟨hk, rfl⟩ := List.getElem?_eq_some_iff.1 hx; have e : l = l.take k ++ l[k] :: l.drop (k + 1) := by rw [← List.drop_eq_getElem_cons hk, List.take_append_drop]
  have h2 : (l.take k ++ l[k] :: l.drop (k + 1)).find? p = some l[k] := by
    rw [List.find?_append, List.find?_eq_none.2 (fun y hy => by rw [h y hy]; decide), List.find?_cons_of_pos hp]; rfl
  rwa [← e] at h2
theorem nextS_lt {o : Ord} (ho : OrdOk o) {s x : Nat × Nat} (hj : s.2 < o.m) (h : nextS o s = some x) : x ∈ beforeL o s ∧ x.1 + x.2 < s.1 + s.2 := by
  have hm := List.mem_of_find?_eq_some h; have hC := (ho.vC s.2 hj).1; have hb := beforeL_mem (i := s.1) (j := s.2) hC hm; exact ⟨hm, by omega⟩
theorem backF_stable {o : Ord} (ho : OrdOk o) : ∀ (f g : Nat) (s : Nat × Nat), s.1 + s.2 ≤ f → s.1 + s.2 ≤ g → s.2 < o.m → backF o f s = backF o g s
  | 0, 0, _, _, _, _ => rfl
  | 0, g + 1, s, h, _, hj => by
    show [s] = s :: _
    cases hn : nextS o s with
    | none => rfl
    | some x => have := nextS_lt ho hj hn; omega
  | f + 1, 0, s, _, h, hj => by
    show s :: _ = [s]
    cases hn : nextS o s with
    | none => rfl
    | some x => have := nextS_lt ho hj hn; omega
  | f + 1, g + 1, s, h1, h2, hj => by
    show s :: _ = s :: _
    cases hn : nextS o s with
    | none => rfl
    | some x =>
      obtain ⟨hm, hlt⟩ := nextS_lt ho hj hn; have hb := beforeL_mem (i := s.1) (j := s.2) (ho.vC s.2 hj).1 hm; exact congrArg _ (backF_stable ho f g x (by omega) (by omega) (by omega))
theorem backF_eq {o : Ord} (ho : OrdOk o) {s : Nat × Nat} (hj : s.2 < o.m) : backF o (s.1 + s.2) s = s :: restL o s := by
  have h := backF_stable ho (s.1 + s.2) (s.1 + s.2 + 1) s (Nat.le_refl _) (Nat.le_succ _) hj; rw [h]
  show s :: _ = s :: _
  unfold restL
  cases hn : nextS o s with
  | none => rfl
  | some x =>
    obtain ⟨hm, hlt⟩ := nextS_lt ho hj hn; have hb := beforeL_mem (i := s.1) (j := s.2) (ho.vC s.2 hj).1 hm; exact congrArg _ (backF_stable ho _ _ x (by omega) (Nat.le_refl _) (by omega))
structure PathS (w W : World) (a : OA) (o : Ord) (b D : Nat) (v8 : Value) (p q : Nat) (acc : List (Nat × Nat)) : Prop where
  below : Ext w W
  o0 : W.cell? ⟨w.heap.size, 0, none⟩ = some (a.cv o)
  o1 : W.cell? ⟨w.heap.size, 1, none⟩ = some (a.rv o)
  s0 : W.cell? ⟨w.heap.size + 1, 0, none⟩ = some (.int .i64 (p : Int))
  s1 : W.cell? ⟨w.heap.size + 1, 1, none⟩ = some (.int .i64 (q : Int))
  fz : ∀ k, W.frozen? ⟨w.heap.size + 1, k, none⟩ = false
  r0 : W.cell? ⟨D, 0, none⟩ = some (.pointer (some ⟨b, 0, none⟩))
  R : RowF W b a o (begA o)
  bx : Boxed W (D + 2) 45 v8
  own : OwnS W (D + 1) v8 (acc.map zS)
  lo : w.heap.size + 1 < D
  bD : b < D
theorem PathS.ext {w W W' : World} {a : OA} {o : Ord} {b D p q : Nat} {v8 : Value} {acc : List (Nat × Nat)} (h : PathS w W a o b D v8 p q acc) (hE : Ext W W') : PathS w W' a o b D v8 p q acc :=
  ⟨Ext.trans h.below hE, hE.cell h.o0, hE.cell h.o1, hE.cell h.s0, hE.cell h.s1, fun k => fz_same (hE.block _ (cell_lt h.s0)) (h.fz k), hE.cell h.r0, h.R.ext hE, Boxed.ext h.bx hE, ownsRow_ext h.own hE, h.lo, h.bD⟩
theorem PathS.adm {w W W' : World} {m : Nat} {a : OA} {o : Ord} {b D p q : Nat} {v8 : Value} {acc : List (Nat × Nat)} (h : PathS w W a o b D v8 p q acc) (hA : Adm m W W') (hm : w.heap.size ≤ m) : PathS w W' a o b D v8 p q acc :=
  ⟨hA.below h.below (Nat.le_refl _) hm, hA.cell h.o0, hA.cell h.o1, hA.cell h.s0, hA.cell h.s1, fun k => by
    obtain ⟨u, hu, hc⟩ := cells_of_cell h.s0
    exact fz_same ((hA.block _ u hu (.inr hc)).trans hu.symm) (h.fz k), hA.cell h.r0, h.R.adm hA, Boxed.adm h.bx hA, ownsRow_adm h.own hA, h.lo, h.bD⟩
theorem PathS.start {w w3 : World} {a : OA} {o : Ord} {b i j : Nat} (hE : Ext w w3) (d0 : w3.cell? ⟨w.heap.size, 0, none⟩ = some (a.cv o)) (d1 : w3.cell? ⟨w.heap.size, 1, none⟩ = some (a.rv o)) (d2 : w3.cell? ⟨w.heap.size + 1, 0, none⟩ = some (.int .i64 (i : Int))) (d3 : w3.cell? ⟨w.heap.size + 1, 1, none⟩ = some (.int .i64 (j : Int)))
    (fz : ∀ k, w3.frozen? ⟨w.heap.size + 1, k, none⟩ = false) (hR : RowF w3 b a o (begA o)) (hlo : w.heap.size + 1 < w3.heap.size) (hb : b < w3.heap.size) :
    PathS w (((w3.alloc (.cells #[.pointer (some ⟨b, 0, none⟩)] 106)).alloc (.cells #[.int .i64 (i : Int), .int .i64 (j : Int)] 56)).alloc (.cells #[.slice (some ⟨w3.heap.size + 1, 0, none⟩) 1 1] 45)) a o b w3.heap.size (.slice (some ⟨w3.heap.size + 1, 0, none⟩) 1 1) i j [(i, j)] := by
  have hE3 : Ext w3 (((w3.alloc (.cells #[.pointer (some ⟨b, 0, none⟩)] 106)).alloc (.cells #[.int .i64 (i : Int), .int .i64 (j : Int)] 56)).alloc (.cells #[.slice (some ⟨w3.heap.size + 1, 0, none⟩) 1 1] 45)) := (((Ext.refl _).alloc _).alloc _).alloc _; refine ⟨Ext.trans hE hE3, hE3.cell d0, hE3.cell d1, hE3.cell d2, hE3.cell d3, fz_ext hE3 hlo fz, cell_al _ (cell_al _ (cell_nw _ _ _ 0)), hR.ext hE3, ?_, ?_, hlo, hb⟩
  · have := Boxed.new ((w3.alloc (.cells #[.pointer (some ⟨b, 0, none⟩)] 106)).alloc (.cells #[.int .i64 (i : Int), .int .i64 (j : Int)] 56)) 45 (.slice (some ⟨w3.heap.size + 1, 0, none⟩) 1 1); rw [World.size_alloc, World.size_alloc] at this; exact this
  · refine ⟨rfl, .inr ⟨w3.heap.size + 1, 1, #[.int .i64 (i : Int), .int .i64 (j : Int)], rfl, Nat.le_refl _, ?_, Nat.le_refl _, by unfold maxLen; omega, rfl, rfl⟩⟩; have h := World.alloc_heap_new (w3.alloc (.cells #[.pointer (some ⟨b, 0, none⟩)] 106)) (.cells #[.int .i64 (i : Int), .int .i64 (j : Int)] 56); rw [World.size_alloc] at h; exact (Below.heap_alloc _ _ _ (by simp)).trans h
theorem PathS.setS {w W : World} {a : OA} {o : Ord} {b D p q : Nat} {v8 : Value} {acc : List (Nat × Nat)} (h : PathS w W a o b D v8 p q acc) (x1 x2 : Nat) :
    PathS w ((W.setCell ⟨w.heap.size + 1, 0, none⟩ (.int .i64 (x1 : Int))).setCell ⟨w.heap.size + 1, 1, none⟩ (.int .i64 (x2 : Int))) a o b D v8 x1 x2 acc := by
  have hlo := h.lo; have blk : ∀ k, k ≠ w.heap.size + 1 → ((W.setCell ⟨w.heap.size + 1, 0, none⟩ (.int .i64 (x1 : Int))).setCell ⟨w.heap.size + 1, 1, none⟩ (.int .i64 (x2 : Int))).heap[k]? = W.heap[k]? := fun k hk => (heap_setCell_other _ ⟨w.heap.size + 1, 1, none⟩ k _ hk).trans (heap_setCell_other _ ⟨w.heap.size + 1, 0, none⟩ k _ hk)
  have hbR : b ≠ w.heap.size + 1 := fun e => by
    have h1 := h.R.c0; rw [e, h.s0] at h1; simp only [OA.cv] at h1; cases h1
  refine ⟨(Ext.setC (Ext.setC h.below (Nat.le_succ _) _) (Nat.le_succ _) _), cell_same (blk _ (by omega)) h.o0, cell_same (blk _ (by omega)) h.o1, ?_, ?_, fun k => by rw [World.frozen?_setCell, World.frozen?_setCell]; exact h.fz k, cell_same (blk _ (by omega)) h.r0, h.R.of_block (blk _ hbR), (blk _ (by omega)).trans h.bx, ?_, hlo, h.bD⟩
  · rw [setCell_off (by decide)]; exact World.cell?_setCell_same' _ _ _ (by rw [h.s0]; rfl)
  · exact World.cell?_setCell_same' _ _ _ (by rw [setCell_off (by decide), h.s1]; rfl)
  · exact ownsRow_setCell_below (ownsRow_setCell_below h.own (show w.heap.size + 1 < D + 1 by omega) _) (show w.heap.size + 1 < D + 1 by omega) _
theorem PathS.app {w W w1 : World} {a : OA} {o : Ord} {b D p q k : Nat} {v8 v' : Value} {acc : List (Nat × Nat)} {tmp : Obj} {ys : List Value} (h : PathS w W a o b D v8 p q acc) (hown : w1.ownsRow (D + 1) 56 2 v' k ys) (hk : k = ((acc ++ [(p, q)]).map zS).length) (hys : ys = encL ((acc ++ [(p, q)]).map zS)) (hgr : (W.alloc tmp).grownBy w1 v8.ownBlock) :
    PathS w (w1.setCell ⟨D + 2, 0, none⟩ v') a o b D v' p q (acc ++ [(p, q)]) ∧ KeepsOthers W (w1.setCell ⟨D + 2, 0, none⟩ v') := by
  have hlo := h.lo; have hDW : D + 2 < W.heap.size := (Array.getElem?_eq_some_iff.1 h.bx).1; have hap := Boxed.appended h.bx (by decide) h.own (by omega) (by omega) hown hgr; have hB : Below (D + 1) W (w1.setCell ⟨D + 2, 0, none⟩ v') := hap.2.2.2.2; refine ⟨⟨Below.trans h.below (Below.mono hB (by omega)), cell_same (hB.block _ (by omega)) h.o0, cell_same (hB.block _ (by omega)) h.o1, cell_same (hB.block _ (by omega)) h.s0, cell_same (hB.block _ (by omega)) h.s1, fun k => fz_same (hB.block _ (by omega)) (h.fz k), cell_same (hB.block _ (by omega)) h.r0, h.R.of_block (hB.block _ (by have := h.bD; omega)), hap.2.1, ?_, hlo, h.bD⟩, hap.2.2.2.1⟩; have h3 := hap.2.2.1; rw [hk, hys] at h3; exact h3
theorem StF.own {w : World} {g cap n base : Nat} {xs : List SZ} (h : StF w g (cap * 2) n (fun k => xs[k]?.getD (0, 0))) (hn : xs.length = n) (hc : n ≤ cap) (hm : cap ≤ maxLen) (hb : base ≤ g) : OwnS w base (.slice (some ⟨g, 0, none⟩) n cap) xs := by
  obtain ⟨⟨cur, h1, h2⟩, c0, c1⟩ := h
  have hl : ∀ ys : List SZ, (encL ys).length = ys.length * 2 := by
    intro ys; induction ys with
    | nil => rfl
    | cons y ys ih => show (encL ys).length + 2 = _; rw [ih, List.length_cons]; omega
  refine ⟨hl xs, .inr ⟨g, cap, cur, by rw [hn], hb, h1, by rw [hn]; exact hc, hm, h2, ?_⟩⟩; rw [hn]; apply List.ext_getElem
  · rw [hl, List.length_take, Array.length_toList, h2, hn]; omega
  · intro k hk1 hk2; rw [hl, hn] at hk2; have hq : k / 2 < n := by omega
    have hqx : k / 2 < xs.length := by omega
    obtain ⟨e0, e1⟩ := encL_get xs (k / 2) hqx
    have hcell : w.cell? ⟨g, k, none⟩ = some (cur.toList.take (n * 2))[k] := by
      rw [cell_of_row w g k cur _ _ h1, List.getElem_take, ← Array.getElem?_toList]; exact List.getElem?_eq_getElem _
    rcases (show k = k / 2 * 2 ∨ k = k / 2 * 2 + 1 by omega) with e | e
    · have := c0 (k / 2) hq; rw [← e, hcell, List.getElem?_eq_getElem hqx] at this; have e0 : (encL xs)[k]? = some (.int .i64 xs[k / 2].1) := by rw [← e0, ← e]
      rw [List.getElem?_eq_getElem (by rw [hl, hn]; exact hk2)] at e0; exact (Option.some.inj this).trans (Option.some.inj e0).symm
    · have := c1 (k / 2) hq; rw [← e, hcell, List.getElem?_eq_getElem hqx] at this; have e0 : (encL xs)[k]? = some (.int .i64 xs[k / 2].2) := by rw [← e1, ← e]
      rw [List.getElem?_eq_getElem (by rw [hl, hn]; exact hk2)] at e0; exact (Option.some.inj this).trans (Option.some.inj e0).symm
theorem OwnS.stF {w : World} {base : Nat} {v : Value} {xs : List SZ} (h : OwnS w base v xs) (hne : 1 ≤ xs.length) : ∃ g cap, v = .slice (some ⟨g, 0, none⟩) xs.length cap ∧ StF w g (cap * 2) xs.length (fun k => xs[k]?.getD (0, 0)) ∧ xs.length ≤ cap ∧ cap ≤ maxLen ∧ base ≤ g := by
  have hh := h
  rcases h.2 with ⟨rfl, hn⟩ | ⟨g, cap, cur, rfl, hb, hg, hnc, hcm, hcs, htake⟩
  · omega
  · refine ⟨g, cap, rfl, ⟨⟨cur, hg, hcs⟩, fun k hk => ?_, fun k hk => ?_⟩, hnc, hcm, hb⟩
    · have := World.ownsRow.cells hh (g := g) rfl (k * 2) _ (encL_get xs k hk).1; rw [Addr.add_lit, Nat.zero_add] at this; rw [this, List.getElem?_eq_getElem hk]; rfl
    · have := World.ownsRow.cells hh (g := g) rfl (k * 2 + 1) _ (encL_get xs k hk).2; rw [Addr.add_lit, Nat.zero_add] at this; rw [this, List.getElem?_eq_getElem hk]; rfl
def muP (w W : World) : Nat :=
  match W.cell? ⟨w.heap.size + 1, 0, none⟩, W.cell? ⟨w.heap.size + 1, 1, none⟩ with
  | some (.int _ x), some (.int _ y) => (x + y).toNat
  | _, _ => 0
theorem muP_eq {w W : World} {p q : Nat} (h0 : W.cell? ⟨w.heap.size + 1, 0, none⟩ = some (.int .i64 (p : Int))) (h1 : W.cell? ⟨w.heap.size + 1, 1, none⟩ = some (.int .i64 (q : Int))) : muP w W = p + q := by
  unfold muP; rw [h0, h1]; show ((p : Int) + (q : Int)).toNat = p + q; omega
theorem Path_c (v : Value) (o : Ord) (i j : Int) (w : World) (hV : OrderV w w.heap.size v o) (hf : Fits o) :
    CallsV Tryz.prog 55 #[v, .agg #[.int .i64 i, .int .i64 j]] w fun v w' => ∃ t, v = .tuple #[t, .int .i64 (askS o (isStint o i j))] ∧ OwnS w' w.heap.size t (if askS o (isStint o i j) = 0 then pathZ o (i.toNat, j.toNat) else []) ∧ Ext w w' := by
  obtain ⟨cv, rv, rfl, hV2⟩ := hV; have hV : OrderV w w.heap.size (.agg #[cv, rv]) o := ⟨cv, rv, rfl, hV2⟩
  by_cases h0 : askS o (isStint o i j) = 0
  · have hg := (askS_zero.1 h0).1; have hst := (askS_zero.1 h0).2; have ho := hg.ok; have hm := ho.hm2; have hn := ho.hn2; obtain ⟨i, j, rfl, rfl, hi, hj⟩ := isStint_nat hst; obtain ⟨a, rfl, rfl, hO⟩ := hV.ordF2 hg; refine Wp.fnM Tryz.func55 rfl Tryz.ntmps55 (by simp) ?_; refine Wp.keep [0, 1] fun r1 hkeep => ?_; obtain ⟨e0_1, e1_1, -⟩ := hkeep; simp [go_sem] at e0_1 e1_1; refine Wp.seqRegion (.inl rfl) (by kernel_rfl) fun K' gd hK hg => ?_; clear hg; go_simp; refine hK _ _ ?_; clear hK K' gd; refine Wp.keep [2, 3] fun r2 hkeep => ?_; obtain ⟨e2_2, e3_2, -⟩ := hkeep; simp [go_sem, e0_1, e1_1] at e2_2 e3_2; clear e0_1 e1_1; refine Wp.scopeKey 0 (fun ρ ds W => Marks w.heap.size ds W ∧ ∃ b D v8 p q acc, p < o.n ∧ q < o.m ∧ ρ 2 = .pointer (some ⟨w.heap.size, 0, none⟩) ∧ ρ 3 = .pointer (some ⟨w.heap.size + 1, 0, none⟩) ∧ ρ 7 = .pointer (some ⟨D, 0, none⟩) ∧ ρ 8 = .pointer (some ⟨D + 2, 0, none⟩) ∧ PathS w W a o b D v8 p q acc ∧ (∃ _u : Unit, acc ++ restL o (p, q) = backF o (i + j) (i, j)) ∧ 1 ≤ acc.length ∧ acc.length + (p + q) ≤ i + j + 1) (fun W => muP w W) rfl ?_ ?_
    · rintro r3 ds W ⟨hM0, b, D, v8, p, q, acc, hp, hq, e2, e3, e7, e8, hS0, hacc, hal1, hal⟩; have hSx := hS0; have hO0 := hO.below hS0.below; obtain ⟨hB, o0, o1, s0, s1, fz, r0, hR, hbx, hown, hlo, hbD⟩ := hS0; have hO1 := hO0.more (Below.size hB); have hmu : ∃ _u : Unit, muP w W = p + q := ⟨(), muP_eq s0 s1⟩; refine Wp.seq ?_; refine Wp.seqRegion (.inl rfl) (by kernel_rfl) fun K' gd hK hg => ?_; clear hg; go_simp; refine Wcall (.inl rfl) (before_c a o (p : Int) (q : Int) W) ?_; rintro v w2 ⟨bs, bo, rfl, hE2, x0, x1, x2⟩; go_simp; refine hK _ _ ?_; clear hK K' gd; refine Wp.keep [2, 3, 7, 8, 22] fun r4 hkeep => ?_; obtain ⟨e2_4, e3_4, e7_4, e8_4, e22_4, -⟩ := hkeep; simp [go_sem, e2, e3, e7, e8] at e2_4 e3_4 e7_4 e8_4 e22_4; clear e2 e3 e7 e8; have hEw2 : Ext W w2 := XE; have hS2 := hSx.ext hEw2; have hM2 := Marks.keeps (KeepsOthers.of_ext hEw2) hM0; have hC := ho.vC q hq; have hO2 := (hO1.ext hEw2); have hws := Below.size hS2.below; clear o0 o1 s0 s1 fz r0 hR hbx hown; refine Wp.block ?_; refine Wp.range (before_it a o p q bs bo hp hq (by omega) (by omega)) (by go_simp) (enters_of Tryz.func146 (by kernel_rfl) rfl) (fun _ => rfl) (fun k V => Ext w2 V ∧ Marks w.heap.size ds V ∧ (∀ y ∈ (beforeL o (p, q)).take k, matchB o (p, q) y = false)) (fun c V => c = .goto 0 ∧ Marks w.heap.size ds V ∧ ∃ x v9, nextS o (p, q) = some x ∧ PathS w V a o b D v9 x.1 x.2 (acc ++ [x])) ?_ ?_ ?_ ?_ ?_ ?_ ?_
      · exact fun k V h => ⟨Ext.cell h.1 x0, Ext.cell h.1 x1, Ext.cell h.1 x2, Ext.cell h.1 (hO2.hC q hq), hC.1, hC.2⟩
      · exact fun k V V' hA ⟨h1, h2, h3⟩ => ⟨hA.below h1 (Nat.le_refl _) (Nat.le_refl _), Marks.adm (Nat.le_refl _) hA hM2 h2, h3⟩
      · exact fun c V V' hA ⟨h1, h2, x, v9, h3, h4⟩ => ⟨h1, Marks.adm (Nat.le_refl _) hA hM2 h2, x, v9, h3, h4.adm hA hws⟩
      · exact ⟨Ext.refl _, hM2, fun y hy => absurd hy (by simp)⟩
      · rintro l k x W hx ⟨i1, i2, i3⟩ hl; simp only [encS, List.zip_toArray, List.zip_cons_cons, List.zip_nil_left, putL_cons, putL_nil]; refine Wp.keep [2, 3, 7, 8, 23] fun r5 hkeep => ?_; obtain ⟨e2_5, e3_5, e7_5, e8_5, e23_5, -⟩ := hkeep; simp [go_sem, e2_4, e3_4, e7_4, e8_4, e22_4] at e2_5 e3_5 e7_5 e8_5 e23_5; refine Wp.loneRegion (.inr ⟨_, rfl⟩) (by kernel_rfl) fun K' gd hK hg => ?_; clear hg; go_simp; refine hK _ _ ?_; clear hK K' gd; refine Ends.keep [2, 3, 7, 8, 9] fun r6 hkeep => ?_; obtain ⟨e2_6, e3_6, e7_6, e8_6, e9_6, -⟩ := hkeep; simp [go_sem, e2_5, e3_5, e7_5, e8_5, e23_5] at e2_6 e3_6 e7_6 e8_6 e9_6; clear e2_5 e3_5 e7_5 e8_5 e23_5; refine Ends.mk ?_; refine thenK_normal ?_; refine ⟨KeepsOthers.alloc _ _, fun W2 hA2 hl2 => ?_⟩; obtain ⟨lr, hl2⟩ := hl2; have hA3 := (Adm.of_ext ((Ext.refl W).alloc _)).trans hA2; have j1 : Ext w2 W2 := hA3.below i1 (Nat.le_refl _) (Nat.le_refl _); have j2 := Marks.adm (Nat.le_refl _) hA3 hM2 i2; have hSj := hS2.ext j1; have f3 := hA2.cell (cell_nw W #[.int .i64 (x.1 : Int), .int .i64 (x.2 : Int)] 56 0); have f4 := hA2.cell (cell_nw W #[.int .i64 (x.1 : Int), .int .i64 (x.2 : Int)] 56 1); have hxm := beforeL_mem hC.1 (List.mem_of_getElem? hx); have hx1 : x.1 < o.n := by omega
        have hx2 : x.2 < o.m := by omega
        have hbx' := begA_ok ho hx1 hx2; clear hxm; have g0 := hSj.r0; have g1 := hSj.s0; have g2 := hSj.s1; have g3 := hSj.R.ct p q (by omega) (by omega); have b1 : (p : Int) < 20 := by omega
        have b2 : (q : Int) < 15 := by omega
        have hOj := hO2.ext j1; refine Wp.block ?_; refine Wp.seqDraw (.inr ⟨_, rfl⟩) mixed [([0, 1, 3, 4, 5], none), ([6, 7, 8, 9, 10], none), ([11, 12], some (2, false)), ([13], none)] (by kernel_rfl) fun K' gd hK hg => ?_; clear hg; simp only [pick, nth, List.map_cons, List.map_nil, Option.map_none, Option.map_some]; apply Mops.none
        · intro w' hE'; have hC' := hE'.cellsS; go_simp; with_reducible rfl
        apply Mops.none
        · intro w' hE'; have hC' := hE'.cellsS; go_simp; with_reducible rfl
        apply Mops.act
        · intro w' hE'; have hC' := hE'.cellsS; go_simp; with_reducible rfl
        intro K1 hK1; go_simp; refine Wcall (.inr ⟨_, rfl⟩) (ends_c a o (begA o) b x.1 x.2 _ (hOj.ext XE) (hSj.R.ext XE) hx1 hx2 ⟨hbx'.1, by omega⟩) ?_; rintro v w5 ⟨rfl, hE5⟩; have hE25 : Ext W2 w5 := XE; have k0 := hE25.cell g0; have k1 := hE25.cell g1; have k2 := hE25.cell g2; have k3 := hE25.cell g3; go_simp; refine hK1 _ _ (XR) ?_; clear hK1 K1; apply Mops.none
        · intro w' hE'; have hC' := hE'.cellsS; go_simp; with_reducible rfl
        refine Mops.done ?_; refine hK _ _ ?_; clear hK K' gd; refine Wp.keep [2, 3, 7, 8, 9, 37] fun r7 hkeep => ?_; obtain ⟨e2_7, e3_7, e7_7, e8_7, e9_7, e37_7, -⟩ := hkeep; simp [go_sem, e2_6, e3_6, e7_6, e8_6, e9_6] at e2_7 e3_7 e7_7 e8_7 e9_7 e37_7; clear e2_6 e3_6 e7_6 e8_6 e9_6; have hS5 := hSj.ext hE25; have hM5 := Marks.keeps (KeepsOthers.of_ext hE25) j2; have f5 := hE25.cell f3; have f6 := hE25.cell f4
        by_cases hmt : begA o x.1 x.2 + o.T x.1 x.2 = begA o p q
        · refine Wp.condT (by go_simp) ?_; have z0 := hS5.fz 0; have z1 := hS5.fz 1; refine Wp.seqRegion (.inr ⟨_, rfl⟩) (by kernel_rfl) fun K' gd hK hg => ?_; clear hg; go_simp; refine hK _ _ ?_; clear hK K' gd; refine Wp.keep [2, 3, 7, 8] fun r8 hkeep => ?_; obtain ⟨e2_8, e3_8, e7_8, e8_8, -⟩ := hkeep; simp [go_sem, e2_7, e3_7, e7_7, e8_7, e9_7, e37_7] at e2_8 e3_8 e7_8 e8_8; clear e2_7 e3_7 e7_7 e8_7 e9_7 e37_7; have hS6 := hS5.setS x.1 x.2; have hK6 : KeepsOthers W2 ((w5.setCell ⟨w.heap.size + 1, 0, none⟩ (.int .i64 (x.1 : Int))).setCell ⟨w.heap.size + 1, 1, none⟩ (.int .i64 (x.2 : Int))) := (KeepsOthers.of_ext hE25).trans ((KeepsOthers.setCell _ _ _).trans (KeepsOthers.setCell _ _ _)); have hM6 : Marks w.heap.size ds ((w5.setCell ⟨w.heap.size + 1, 0, none⟩ (.int .i64 (x.1 : Int))).setCell ⟨w.heap.size + 1, 1, none⟩ (.int .i64 (x.2 : Int))) := Marks.keeps ((KeepsOthers.setCell _ _ _).trans (KeepsOthers.setCell _ _ _)) hM5
          generalize ((w5.setCell ⟨w.heap.size + 1, 0, none⟩ (.int .i64 (x.1 : Int))).setCell ⟨w.heap.size + 1, 1, none⟩ (.int .i64 (x.2 : Int))) = W6 at *
          have l0 := hS6.bx.cell; have l1 := hS6.s0; have l2 := hS6.s1; have hDW : D + 2 < W6.heap.size := (Array.getElem?_eq_some_iff.1 hS6.bx).1; refine Wp.seqRegion (.inr ⟨_, rfl⟩) (by kernel_rfl) fun K' gd hK hg => ?_; clear hg; refine Wops.cut 3 fun K1 hK1 => ?_; simp only [List.take_succ_cons, List.take_zero]; go_simp; refine hK1 _ _ ?_; clear hK1 K1; simp only [List.drop_succ_cons, List.drop_zero]; obtain ⟨v', w', hrun, hown, hgr, -⟩ := app_run stints_T (ownsRow_ext hS6.own XE) ⟨W6.heap.size, 0, none⟩ 1 1 [.int .i64 (x.1 : Int), .int .i64 (x.2 : Int)] 45 rfl (news_two (cell_nn _ _ _ 0 rfl rfl) (cell_nn _ _ _ 1 rfl rfl)) (oneCell_ints (by simp)) (by rw [List.length_map]; omega) (by simp; omega) (w := (W6.alloc (.cells #[.int .i64 (x.1 : Int), .int .i64 (x.2 : Int)] 56))); rw [List.length_map] at hown; obtain ⟨g9, cap9, rfl⟩ := ownsRow_succ hown; have hap := hS6.app hown (by simp) (by rw [List.map_append]; exact (encL_add (acc.map zS) ((x.1 : Int), (x.2 : Int))).symm) hgr; have hb7 := (hS6.bx.alloc (.cells #[.int .i64 (x.1 : Int), .int .i64 (x.2 : Int)] 56)).kept hgr (hS6.bx.not_row (by decide) hS6.own); have q7 := hb7.cell; have q8 := hb7.frozen; refine Wops.law rfl (exec_append2 rfl hrun (by go_simp) (by go_simp)) ?_; go_simp; refine hK _ _ ?_; clear hK K' gd; refine Wp.keep [2, 3, 7, 8] fun r9 hkeep => ?_; obtain ⟨e2_9, e3_9, e7_9, e8_9, -⟩ := hkeep; simp [go_sem, e2_8, e3_8, e7_8, e8_8] at e2_9 e3_9 e7_9 e8_9; clear e2_8 e3_8 e7_8 e8_8; refine Wp.goto ?_; refine blockK_goto ?_
          exact ⟨hK6.trans hap.2, rfl, Marks.keeps hap.2 hM6, x, _, find_take i3 hx (decide_eq_true hmt), hap.1⟩
        · refine Wp.condF (by go_simp) ?_; refine Wp.skip ?_; refine blockK_normal ?_; refine ⟨KeepsOthers.of_ext hE25, Ext.trans j1 hE25, hM5, fun y hy => ?_⟩; rw [List.take_add_one, hx, List.mem_append] at hy
          rcases hy with hy | hy
          · exact i3 y hy
          · simp at hy; subst hy; exact decide_eq_false hmt
      · rintro rm W hrm ⟨i1, i2, i3⟩ hmk; refine blockK_normal ?_; refine thenK_normal ?_; rw [stripTake] at i3; have hnone : nextS o (p, q) = none := List.find?_eq_none.2 (fun y hy => by rw [i3 y hy]; decide); have hrest : restL o (p, q) = [] := by unfold restL; rw [hnone]
        have hacc2 : ∃ _u : Unit, acc = backF o (i + j) (i, j) := ⟨(), by obtain ⟨-, h⟩ := hacc; rw [hrest, List.append_nil] at h; exact h⟩; have hSW := hS2.ext i1; have hMW := Marks.cons hM2 hrm (by omega) hmk i2; obtain ⟨g, cap, rfl, hF, hnc, hcm, hge⟩ := hSW.own.stF (by rw [List.length_map]; exact hal1); have bxc := hSW.bx.cell; have hlo := hSW.lo; have hgne : D + 2 ≠ g := RowB.ne ⟨_, hSW.bx, rfl⟩ hF.row (by decide); clear hnone hrest; rw [List.length_map] at hF hnc bxc; refine Wp.seqRegion (.inl rfl) (by kernel_rfl) fun K' gd hK hg => ?_; clear hg; go_simp; refine Wcall (.inl rfl) (reverse_c g (cap * 2) cap acc.length (fun k => (acc.map zS)[k]?.getD (0, 0)) W hF (by omega)) ?_; rintro v w7 ⟨rfl, hF7, hgb⟩; have bx7 := hgb.cell bxc (fun e => hgne (Option.some.inj e)); have hM7 : Marks w.heap.size (markOf rm :: ds) w7 := Marks.keeps (KeepsOthers.of_grownBy hgb (fun j o ej hj => by have ej := Option.some.inj ej; subst ej; obtain ⟨cur, hc1, -⟩ := hF.row; rw [hc1] at hj; cases hj; rfl)) hMW; go_simp; refine hK _ _ ?_; clear hK K' gd; refine Wp.keep [8] fun r10 hkeep => ?_; obtain ⟨e8_10, -⟩ := hkeep; simp [go_sem, e2_4, e3_4, e7_4, e8_4, e22_4] at e8_10; clear e2_4 e3_4 e7_4 e8_4 e22_4; refine Wp.seqRegion (.inl rfl) (by kernel_rfl) fun K' gd hK hg => ?_; clear hg; go_simp; refine hK _ _ ?_; clear hK K' gd; refine Wp.keep [4, 5] fun r11 hkeep => ?_; obtain ⟨e4_11, e5_11, -⟩ := hkeep; simp [go_sem, e8_10] at e4_11 e5_11; clear e8_10; refine Wp.ret ?_; refine gotoK_ret ?_; refine endM_tmp2 Tryz.results55 (by decide) (by decide) (hM7) fun wz hS => ?_
        rw [e4_11, e5_11]; have hEw7 : Ext w w7 := Go.RowKit.Below.grown hSW.below hgb (Below.size hSW.below) (fun k e => by have e := Option.some.inj e; omega); obtain ⟨-, hacc⟩ := hacc2; have hrev : pathZ o (i, j) = (acc.map zS).reverse := by unfold pathZ pathL; rw [← hacc, List.map_reverse]
        refine ⟨_, by rw [h0], ?_, Shut.ext hEw7 hS⟩; rw [if_pos h0, Int.toNat_natCast, Int.toNat_natCast, hrev]; refine ownsRow_shut (StF.own (cap := cap) (n := acc.length) (hF7.congr (fun k hk => ?_)) (by simp) hnc hcm (by omega)) hS; rw [List.getElem?_reverse (by rw [List.length_map]; exact hk), List.length_map]
      · rintro rm c W hrm ⟨rfl, hMg, x, v9, hnx, hSg⟩ hmk; refine Wp.goto ?_; refine blockK_goto ?_; refine thenK_goto ?_; refine gotoK_goto ?_; have hlt := nextS_lt ho hq hnx; have hxb := beforeL_mem (i := p) (j := q) hC.1 hlt.1; refine ⟨⟨Marks.cons hM2 hrm (by omega) hmk hMg, b, D, v9, x.1, x.2, acc ++ [x], by omega, by omega, e2_4, e3_4, e7_4, e8_4, hSg, ?_, by simp, by rw [List.length_append, List.length_singleton]; omega⟩, ?_⟩
        · obtain ⟨-, hacc⟩ := hacc; refine ⟨(), ?_⟩; rw [List.append_assoc, ← hacc]; congr 1; unfold restL; rw [hnx]; exact (backF_eq ho (by omega)).symm
        · rw [muP_eq hSg.s0 hSg.s1]; obtain ⟨-, hmu⟩ := hmu; rw [hmu]; omega
    · intro hkey; clear hst; refine Wp.seq ?_; refine Wp.seqRegion (.inl rfl) (by kernel_rfl) fun K' gd hK hg => ?_; clear hg; go_simp; refine Wcall (.inl rfl) (asked_c _ o (isStint o i j) 119 #[.pointer (some ⟨w.heap.size, 0, none⟩), .pointer (some ⟨w.heap.size + 1, 0, none⟩)] _ (hV.ext XE) hf (enters_of Tryz.func119 (by kernel_rfl) rfl) (fun _ W hW => askPq_c _ _ (a.cv o) (a.rv o) o i j W (hV.ext XE) hf (hW.cell (by go_simp)) (hW.cell (by go_simp)) (hW.cell (by go_simp)) (hW.cell (by go_simp)))) ?_; rintro v w2 ⟨rfl, hE⟩; have hE2 : Ext w w2 := XE; have c0 : w2.cell? ⟨w.heap.size, 0, none⟩ = some (a.cv o) := hE.cell (by go_simp); have c1 : w2.cell? ⟨w.heap.size, 1, none⟩ = some (a.rv o) := hE.cell (by go_simp); have c2 : w2.cell? ⟨w.heap.size + 1, 0, none⟩ = some (.int .i64 (i : Int)) := hE.cell (by go_simp); have c3 : w2.cell? ⟨w.heap.size + 1, 1, none⟩ = some (.int .i64 (j : Int)) := hE.cell (by go_simp); go_simp; refine hK _ _ ?_; clear hK K' gd; refine Wp.keep [2, 3, 6] fun r12 hkeep => ?_; obtain ⟨e2_12, e3_12, e6_12, -⟩ := hkeep; simp [go_sem, e2_2, e3_2] at e2_12 e3_12 e6_12; clear e2_2 e3_2; have fz := fz_ext hE (b := w.heap.size + 1) (by simp) (by intro k; go_simp); refine Wp.seqRegion (.inl rfl) (by kernel_rfl) fun K' gd hK hg => ?_; clear hg; go_simp; refine hK _ _ ?_; clear hK K' gd; refine Wp.keep [2, 3, 6, 14] fun r13 hkeep => ?_; obtain ⟨e2_13, e3_13, e6_13, e14_13, -⟩ := hkeep; simp [go_sem, e2_12, e3_12, e6_12] at e2_13 e3_13 e6_13 e14_13; clear e2_12 e3_12 e6_12
      refine Wp.condF (by go_simp) ?_; refine Wp.skip ?_; refine thenK_normal ?_; refine Wp.seqRegion (.inl rfl) (by kernel_rfl) fun K' gd hK hg => ?_; clear hg; go_simp; refine Wcall (.inl rfl) (timed_c a o _ (hO.ext hE2)) ?_; rintro v w3 ⟨b, rfl, hR, hE3⟩; have d0 := hE3.cell c0; have d1 := hE3.cell c1; have d2 := hE3.cell c2; have d3 := hE3.cell c3; go_simp; refine hK _ _ ?_; clear hK K' gd; refine Wp.keep [2, 3, 7] fun r14 hkeep => ?_; obtain ⟨e2_14, e3_14, e7_14, -⟩ := hkeep; simp [go_sem, e2_13, e3_13, e6_13, e14_13] at e2_14 e3_14 e7_14; clear e2_13 e3_13 e6_13 e14_13; have hEw3 : Ext w w3 := XE; have fz3 := fz_ext hE3 (b := w.heap.size + 1) (cell_lt c2) fz; have hlo : w.heap.size + 1 < w3.heap.size := cell_lt d2; refine Wp.seqRegion (.inl rfl) (by kernel_rfl) fun K' gd hK hg => ?_; clear hg; go_simp; refine hK _ _ ?_; clear hK K' gd; refine Wp.keep [2, 3, 7, 8] fun r15 hkeep => ?_; obtain ⟨e2_15, e3_15, e7_15, e8_15, -⟩ := hkeep; simp [go_sem, e2_14, e3_14, e7_14] at e2_15 e3_15 e7_15 e8_15; clear e2_14 e3_14 e7_14; refine Wp.seq ?_; refine Wp.label ?_; refine thenK_normal ?_; exact hkey _ _ _ ⟨trivial, b, w3.heap.size, .slice (some ⟨w3.heap.size + 1, 0, none⟩) 1 1, i, j, [(i, j)], hi, hj, e2_15, e3_15, e7_15, e8_15, PathS.start hEw3 d0 d1 d2 d3 fz3 hR hlo hR.lt, ⟨(), (backF_eq ho hj).symm⟩, by simp, by simp; omega⟩
  · skip; refine Wp.fnM Tryz.func55 rfl Tryz.ntmps55 (by simp) ?_; refine Wp.keep [0, 1] fun r1 hkeep => ?_; obtain ⟨e0_1, e1_1, -⟩ := hkeep; simp [go_sem] at e0_1 e1_1; refine Wp.seqRegion (.inl rfl) (by kernel_rfl) fun K' gd hK hg => ?_; clear hg; go_simp; refine hK _ _ ?_; clear hK K' gd; refine Wp.keep [2, 3] fun r2 hkeep => ?_; obtain ⟨e2_2, e3_2, -⟩ := hkeep; simp [go_sem, e0_1, e1_1] at e2_2 e3_2; clear e0_1 e1_1; refine Wp.scopeKey 0 (fun _ _ _ => False) (fun _ => 0) rfl (fun _ _ _ h => h.elim) (fun _ => ?_); refine Wp.seq ?_; refine Wp.seqRegion (.inl rfl) (by kernel_rfl) fun K' gd hK hg => ?_; clear hg; go_simp; refine Wcall (.inl rfl) (asked_c _ o (isStint o i j) 119 #[.pointer (some ⟨w.heap.size, 0, none⟩), .pointer (some ⟨w.heap.size + 1, 0, none⟩)] _ (hV.ext XE) hf (enters_of Tryz.func119 (by kernel_rfl) rfl) (fun _ W hW => askPq_c _ _ cv rv o i j W (hV.ext XE) hf (hW.cell (by go_simp)) (hW.cell (by go_simp)) (hW.cell (by go_simp)) (hW.cell (by go_simp)))) ?_; rintro v w2 ⟨rfl, hE⟩; have hE2 : Ext w w2 := XE; go_simp; refine hK _ _ ?_; clear hK K' gd; refine Wp.keep [2, 3, 6] fun r3 hkeep => ?_; obtain ⟨e2_3, e3_3, e6_3, -⟩ := hkeep; simp [go_sem, e2_2, e3_2] at e2_3 e3_3 e6_3; clear e2_2 e3_2; refine Wp.seqRegion (.inl rfl) (by kernel_rfl) fun K' gd hK hg => ?_; clear hg; go_simp; refine hK _ _ ?_; clear hK K' gd; refine Wp.keep [2, 3, 6, 14] fun r4 hkeep => ?_; obtain ⟨e2_4, e3_4, e6_4, e14_4, -⟩ := hkeep; simp [go_sem, e2_3, e3_3, e6_3] at e2_4 e3_4 e6_4 e14_4
    clear e2_3 e3_3 e6_3; refine Wp.condT (by go_simp) ?_; refine Wp.seqRegion (.inl rfl) (by kernel_rfl) fun K' gd hK hg => ?_; clear hg; go_simp; refine hK _ _ ?_; clear hK K' gd; refine Wp.keep [4, 5] fun r5 hkeep => ?_; obtain ⟨e4_5, e5_5, -⟩ := hkeep; simp [go_sem, e2_4, e3_4, e6_4, e14_4] at e4_5 e5_5; clear e2_4 e3_4 e6_4 e14_4; refine Wp.ret ?_; refine thenK_ret ?_; refine gotoK_ret ?_; refine endM_tmp2 Tryz.results55 (by decide) (by decide) (trivial) fun wz hS => ?_; rw [e4_5, e5_5]; exact ⟨_, rfl, by rw [if_neg h0]; exact World.ownsRow_nil _ _ _ _, Shut.ext hE2 hS⟩
end Go.Proofs.YtnfagcccgmakdaaGreat
