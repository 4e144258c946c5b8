/- The specification's End, Ample, Waits, Idle. Printed by wip/mk82.py. The specification's slack, Critical, Latest. Printed by wip/mk83.py. OrderTimes. Printed by wip/mk84.py. For every input, in whatever memory: OrderTimes returns true, and its arguments read as before. No condition. -/
import Derived.Test.YtnfagcccgmakdaaGreatP8
import Derived.Test.YtnfagcccgmakdaaGreatP6
import Derived.Test.YtnfagcccgmakdaaGreatRows
import Derived.ProofKit
import Derived.JoinedOf
import Derived.OpenShut
set_option linter.all false
namespace Go.Proofs.YtnfagcccgmakdaaGreat
open Go.RowKit Go.Wk Go.Proofs
attribute [local irreducible] Go.Wk.Wops Go.Wk.Wp Go.Wk.Mtree Go.Wk.Mops
set_option maxHeartbeats 4000000

def sumQ (f : Nat → Int) : Nat → Int
  | 0 => 0
  | k + 1 => sumQ f k + f k
theorem sum_sumQ (l : List Int) (f : Nat → Int) (h : ∀ k (h : k < l.length), l[k] = f k) : l.sum = sumQ f l.length := by
  have key : ∀ n, n ≤ l.length → (l.take n).sum = sumQ f n := by
    intro n
    induction n with
    | zero => intro _; rfl
    | succ n ih =>
      intro hn
      rw [List.take_add_one, List.getElem?_eq_getElem (show n < l.length by omega), List.sum_append, ih (by omega), h n hn]
      show _ + (f n + 0) = _
      rw [Int.add_zero]; rfl
  have := key l.length (Nat.le_refl _)
  rwa [List.take_length] at this
theorem takes_sumQ {o : Ord} (hg : OrdGood o) {i : Nat} (hi : i < o.n) : (takesOf o i).sum = sumQ (o.T i) o.m := by
  have hl : (takesOf o i).length = o.m := hg.takes_len hi
  rw [sum_sumQ (takesOf o i) (o.T i) (fun k hk => by unfold Ord.T; show _ = (takesOf o i)[k]?.getD 0; rw [List.getElem?_eq_getElem hk]; rfl), hl]
theorem sumT_ok {o : Ord} (ho : OrdOk o) {i : Nat} (hi : i < o.n) : ∀ j, j ≤ o.m → 0 ≤ sumQ (o.T i) j ∧ sumQ (o.T i) j ≤ 60 * (j : Int)
  | 0, _ => ⟨Int.le_refl _, Int.le_refl _⟩
  | j + 1, h => by
    have ih := sumT_ok ho hi j (by omega)
    have hT := ho.vT i j hi (by omega)
    show 0 ≤ sumQ (o.T i) j + o.T i j ∧ sumQ (o.T i) j + o.T i j ≤ _
    omega
theorem gapQ_ok {o : Ord} (ho : OrdOk o) {j : Nat} (hj : j < o.m) : ∀ q, q + (o.C j).toNat ≤ o.n → -3000 * (q : Int) ≤ sumQ (fun k => gapV o (k, j)) q ∧ sumQ (fun k => gapV o (k, j)) q ≤ 3000 * (q : Int)
  | 0, _ => ⟨Int.le_refl _, Int.le_refl _⟩
  | q + 1, h => by
    have ih := gapQ_ok ho hj q (by omega)
    have hT := gapV_ok ho (s := (q, j)) (by dsimp only; omega) hj (by dsimp only; omega)
    show _ ≤ sumQ (fun k => gapV o (k, j)) q + gapV o (q, j) ∧ sumQ (fun k => gapV o (k, j)) q + gapV o (q, j) ≤ _
    omega
theorem idle_row {o : Ord} (j i : Nat) (hi : i < o.n) : ∀ l, l ≤ o.m → idleA o ((stintsL o.n o.m).take (i * o.m + l)) j = idleA o ((stintsL o.n o.m).take (i * o.m)) j + (if j < l ∧ i + (o.C j).toNat < o.n then gapV o (i, j) else 0)
  | 0, _ => by rw [if_neg (by omega)]; simp
  | l + 1, h => by
    have ih := idle_row (o := o) j i hi l (by omega)
    rw [show i * o.m + (l + 1) = (i * o.m + l) + 1 by omega, idleA_take o _ (stintsL_get hi (show l < o.m by omega)) j, ih]
    unfold idleF
    dsimp only
    by_cases e : l = j
    · subst e
      rw [if_neg (show ¬ (l < l ∧ _) from fun h => by omega)]
      by_cases c : i + (o.C l).toNat < o.n
      · rw [if_pos ⟨rfl, c⟩, if_pos ⟨by omega, c⟩]; omega
      · rw [if_neg (fun h => c h.2), if_neg (fun h => c h.2)]
    · rw [if_neg (fun h => e h.1)]
      by_cases c : j < l ∧ i + (o.C j).toNat < o.n
      · rw [if_pos c, if_pos ⟨by omega, c.2⟩]
      · rw [if_neg c, if_neg (fun h => c ⟨by omega, h.2⟩)]
theorem idle_rows {o : Ord} {j : Nat} (hj : j < o.m) : ∀ i, i ≤ o.n → idleA o ((stintsL o.n o.m).take (i * o.m)) j = sumQ (fun k => gapV o (k, j)) (min i (o.n - (o.C j).toNat))
  | 0, _ => by rw [Nat.zero_mul, Nat.zero_min]; rfl
  | i + 1, h => by
    rw [Nat.add_mul, Nat.one_mul, idle_row j i (by omega) o.m (Nat.le_refl _), idle_rows hj i (by omega)]
    by_cases c : i + (o.C j).toNat < o.n
    · rw [if_pos ⟨hj, c⟩, show min i (o.n - (o.C j).toNat) = i by omega, show min (i + 1) (o.n - (o.C j).toNat) = i + 1 by omega]; rfl
    · rw [if_neg (fun h => c h.2), show min i (o.n - (o.C j).toNat) = min (i + 1) (o.n - (o.C j).toNat) by omega]; omega
theorem idle_sumQ {o : Ord} {j : Nat} (hj : j < o.m) : idleA o (stintsL o.n o.m) j = sumQ (fun k => gapV o (k, j)) (o.n - (o.C j).toNat) := by
  have := idle_rows hj o.n (Nat.le_refl _)
  rw [List.take_of_length_le (by rw [stintsL_len]; exact Nat.le_refl _), show min o.n (o.n - (o.C j).toNat) = o.n - (o.C j).toNat by omega] at this
  exact this
def ampQ (o : Ord) : Nat → Int
  | 0 => 0
  | k + 1 => max (ampQ o k) (o.A k + sumQ (o.T k) o.m)
theorem ampQ_all {o : Ord} (hg : OrdGood o) : ampleV o = ampQ o o.n := by
  have key : ∀ k, k ≤ o.n → (o.runs.take k).foldl (fun m r => max m (ampleR r)) 0 = ampQ o k := by
    intro k
    induction k with
    | zero => intro _; rfl
    | succ k ih =>
      intro h
      have hk : k < o.runs.length := h
      rw [List.take_add_one, List.getElem?_eq_getElem hk, List.foldl_append, ih (by omega)]
      show max (ampQ o k) (ampleR o.runs[k]) = max (ampQ o k) (o.A k + sumQ (o.T k) o.m)
      have e1 : o.A k = o.runs[k].arr := by unfold Ord.A; rw [List.getElem?_eq_getElem hk]; rfl
      rw [← takes_sumQ hg h]
      unfold ampleR takesOf
      rw [e1, List.getElem?_eq_getElem hk]; rfl
  have := key o.n (Nat.le_refl _)
  rwa [show o.runs.take o.n = o.runs from List.take_length] at this
theorem ampQ_ok {o : Ord} (ho : OrdOk o) : ∀ k, k ≤ o.n → 0 ≤ ampQ o k ∧ ampQ o k ≤ 2000
  | 0, _ => ⟨Int.le_refl _, (by decide : (0 : Int) ≤ 2000)⟩
  | k + 1, h => by
    have ih := ampQ_ok ho k (by omega)
    have h1 := ho.vA k (by omega)
    have h2 := sumT_ok ho (show k < o.n by omega) o.m (Nat.le_refl _)
    have := ho.hm2
    show 0 ≤ max (ampQ o k) (o.A k + sumQ (o.T k) o.m) ∧ max (ampQ o k) (o.A k + sumQ (o.T k) o.m) ≤ 2000
    omega
theorem endSp_c (v : Value) (o : Ord) (w : World) (hV : OrderV w w.heap.size v o) (hf : Fits o) :
    CallsV Tryz.prog 15 #[v] w fun v w' => v = .agg #[.int .i64 (if checkS o = 0 then endS o else 0), .int .i64 (checkS o)] ∧ Ext w w' := by
  obtain ⟨A1, n1, c1, A2, n2, c2, rfl, hV⟩ := hV.two
  refine Wp.fn Tryz.func15 rfl Tryz.ntmps15 (by simp) ?_
  refine Wp.keep [0] fun r1 hkeep => ?_
  obtain ⟨e0_1, -⟩ := hkeep
  simp [go_sem] at e0_1
  have x0 := cell_al (.cells #[.int .i64 0, .int .i64 0] 38) (cell_nn w #[.slice A1 n1 c1, .slice A2 n2 c2] 25 0 rfl (v := .slice A1 n1 c1) rfl)
  have x1 := cell_al (.cells #[.int .i64 0, .int .i64 0] 38) (cell_nn w #[.slice A1 n1 c1, .slice A2 n2 c2] 25 1 rfl (v := .slice A2 n2 c2) rfl)
  have y0 := cell_nn (w.alloc (.cells #[.slice A1 n1 c1, .slice A2 n2 c2] 25)) #[.int .i64 0, .int .i64 0] 38 0 (n := w.heap.size + 1) (by simp) (v := .int .i64 0) rfl
  have y1 := cell_nn (w.alloc (.cells #[.slice A1 n1 c1, .slice A2 n2 c2] 25)) #[.int .i64 0, .int .i64 0] 38 1 (n := w.heap.size + 1) (by simp) (v := .int .i64 0) rfl
  have fz := frz_nw (w.alloc (.cells #[.slice A1 n1 c1, .slice A2 n2 c2] 25)) #[.int .i64 0, .int .i64 0] 38 (n := w.heap.size + 1) (by simp)
  have hEV : Ext w ((w.alloc (.cells #[.slice A1 n1 c1, .slice A2 n2 c2] 25)).alloc (.cells #[.int .i64 0, .int .i64 0] 38)) := (by repeat (first | assumption | exact Ext.refl _ | refine Ext.drew ?_ | refine Ext.alloc ?_ _ | refine Ext.trans ?_ (by assumption)))
  refine Wp.seqRegion (.inl rfl) (by kernel_rfl) fun K' gd hK hg => ?_
  clear hg
  go_simp
  refine hK _ _ ?_
  clear hK K' gd
  refine Wp.keep [1, 2] fun r2 hkeep => ?_
  obtain ⟨e1_2, e2_2, -⟩ := hkeep
  simp [go_sem, e0_1] at e1_2 e2_2
  clear e0_1
  generalize (w.alloc (.cells #[.slice A1 n1 c1, .slice A2 n2 c2] 25)).alloc (.cells #[.int .i64 0, .int .i64 0] 38) = V at *
  have hV1 := hV.ext hEV
  refine Wp.seqRegion (.inl rfl) (by kernel_rfl) fun K' gd hK hg => ?_
  clear hg
  go_simp
  refine Wcall (.inl rfl) (refCheck_c _ o _ hV1 hf) ?_
  rintro v w2 ⟨rfl, hE2⟩
  have fz := fz_ext hE2 (b := w.heap.size + 1) (cell_lt y0) fz
  have x0 := hE2.cell x0
  have x1 := hE2.cell x1
  have y0 := hE2.cell y0
  have y1 := hE2.cell y1
  have hV2 := hV1.ext hE2
  go_simp
  refine hK _ _ ?_
  clear hK K' gd
  refine Wp.keep [1, 2, 3] fun r3 hkeep => ?_
  obtain ⟨e1_3, e2_3, e3_3, -⟩ := hkeep
  simp [go_sem, e1_2, e2_2] at e1_3 e2_3 e3_3
  clear e1_2 e2_2
  by_cases h0 : checkS o = 0
  · skip
    refine Wp.seq ?_
    refine Wp.seqRegion (.inl rfl) (by kernel_rfl) fun K' gd hK hg => ?_
    clear hg
    go_simp
    refine hK _ _ ?_
    clear hK K' gd
    refine Wp.keep [1, 2, 3, 7] fun r4 hkeep => ?_
    obtain ⟨e1_4, e2_4, e3_4, e7_4, -⟩ := hkeep
    simp [go_sem, e1_3, e2_3, e3_3] at e1_4 e2_4 e3_4 e7_4
    clear e1_3 e2_3 e3_3
    refine Wp.condF (by go_simp) ?_
    have hg := checkS_zero.1 h0
    have ho := hg.ok
    have hm := ho.hm2
    have hm1 := ho.hm1
    have hn := ho.hn2
    obtain ⟨p, hcv, hrv, hO⟩ := hV2.ordF2 hg
    simp only [OA.cv, OA.rv] at hcv hrv
    injection hcv with p1 p2 p3
    injection hrv with p4 p5 p6
    subst p1 p2 p3 p4 p5 p6
    refine Wp.skip ?_
    refine thenK_normal ?_
    refine Wp.seqRegion (.inl rfl) (by kernel_rfl) fun K' gd hK hg => ?_
    clear hg
    go_simp
    refine Wcall (.inl rfl) (endR_c p o _ hO) ?_
    rintro v3 w3 ⟨rfl, hE3⟩
    have fz := fz_ext hE3 (b := w.heap.size + 1) (cell_lt y0) fz
    have x0 := hE3.cell x0
    have x1 := hE3.cell x1
    have y0 := hE3.cell y0
    have y1 := hE3.cell y1
    have hlt := cell_lt y0
    have f0 := fz 0
    have f1 := fz 1
    go_simp
    refine hK _ _ ?_
    clear hK K' gd
    refine Wp.keep [2] fun r5 hkeep => ?_
    obtain ⟨e2_5, -⟩ := hkeep
    simp [go_sem, e1_4, e2_4, e3_4, e7_4] at e2_5
    clear e1_4 e2_4 e3_4 e7_4
    refine Wp.ret ?_
    refine endK_cell (v := .agg #[.int .i64 (endS o), .int .i64 0]) Tryz.results15 (by decide) e2_5 (by go_simp) ?_
    exact ⟨by rw [h0, if_pos rfl], (by repeat (first | assumption | exact Ext.refl _ | refine Ext.drew ?_ | refine Ext.alloc ?_ _ | refine Ext.setC ?_ (by omega) _ | refine Ext.trans ?_ (by assumption)))⟩
  · skip
    refine Wp.seq ?_
    refine Wp.seqRegion (.inl rfl) (by kernel_rfl) fun K' gd hK hg => ?_
    clear hg
    go_simp
    refine hK _ _ ?_
    clear hK K' gd
    refine Wp.keep [1, 2, 3, 7] fun r6 hkeep => ?_
    obtain ⟨e1_6, e2_6, e3_6, e7_6, -⟩ := hkeep
    simp [go_sem, e1_3, e2_3, e3_3] at e1_6 e2_6 e3_6 e7_6
    clear e1_3 e2_3 e3_3
    refine Wp.condT (by go_simp) ?_
    have f0 := fz 0
    have f1 := fz 1
    have hlt := cell_lt y0
    refine Wp.seqRegion (.inl rfl) (by kernel_rfl) fun K' gd hK hg => ?_
    clear hg
    go_simp
    refine hK _ _ ?_
    clear hK K' gd
    refine Wp.keep [2] fun r7 hkeep => ?_
    obtain ⟨e2_7, -⟩ := hkeep
    simp [go_sem, e1_6, e2_6, e3_6, e7_6] at e2_7
    clear e1_6 e2_6 e3_6 e7_6
    refine Wp.ret ?_
    refine thenK_ret ?_
    refine endK_cell (v := .agg #[.int .i64 0, .int .i64 (checkS o)]) Tryz.results15 (by decide) e2_7 (by go_simp) ?_
    refine ⟨by rw [if_neg h0], (by repeat (first | assumption | exact Ext.refl _ | refine Ext.drew ?_ | refine Ext.alloc ?_ _ | refine Ext.setC ?_ (by omega) _ | refine Ext.trans ?_ (by assumption)))⟩
theorem ampleSp_c (v : Value) (o : Ord) (w : World) (hV : OrderV w w.heap.size v o) (hf : Fits o) :
    CallsV Tryz.prog 21 #[v] w fun v w' => v = .agg #[.int .i64 (if checkS o = 0 then ampleV o else 0), .int .i64 (checkS o)] ∧ Ext w w' := by
  obtain ⟨A1, n1, c1, A2, n2, c2, rfl, hV⟩ := hV.two
  refine Wp.fn Tryz.func21 rfl Tryz.ntmps21 (by simp) ?_
  refine Wp.keep [0] fun r1 hkeep => ?_
  obtain ⟨e0_1, -⟩ := hkeep
  simp [go_sem] at e0_1
  have x0 := cell_al (.cells #[.int .i64 0, .int .i64 0] 38) (cell_nn w #[.slice A1 n1 c1, .slice A2 n2 c2] 25 0 rfl (v := .slice A1 n1 c1) rfl)
  have x1 := cell_al (.cells #[.int .i64 0, .int .i64 0] 38) (cell_nn w #[.slice A1 n1 c1, .slice A2 n2 c2] 25 1 rfl (v := .slice A2 n2 c2) rfl)
  have y0 := cell_nn (w.alloc (.cells #[.slice A1 n1 c1, .slice A2 n2 c2] 25)) #[.int .i64 0, .int .i64 0] 38 0 (n := w.heap.size + 1) (by simp) (v := .int .i64 0) rfl
  have y1 := cell_nn (w.alloc (.cells #[.slice A1 n1 c1, .slice A2 n2 c2] 25)) #[.int .i64 0, .int .i64 0] 38 1 (n := w.heap.size + 1) (by simp) (v := .int .i64 0) rfl
  have fz := frz_nw (w.alloc (.cells #[.slice A1 n1 c1, .slice A2 n2 c2] 25)) #[.int .i64 0, .int .i64 0] 38 (n := w.heap.size + 1) (by simp)
  have hEV : Ext w ((w.alloc (.cells #[.slice A1 n1 c1, .slice A2 n2 c2] 25)).alloc (.cells #[.int .i64 0, .int .i64 0] 38)) := (by repeat (first | assumption | exact Ext.refl _ | refine Ext.drew ?_ | refine Ext.alloc ?_ _ | refine Ext.trans ?_ (by assumption)))
  refine Wp.seqRegion (.inl rfl) (by kernel_rfl) fun K' gd hK hg => ?_
  clear hg
  go_simp
  refine hK _ _ ?_
  clear hK K' gd
  refine Wp.keep [1, 2] fun r2 hkeep => ?_
  obtain ⟨e1_2, e2_2, -⟩ := hkeep
  simp [go_sem, e0_1] at e1_2 e2_2
  clear e0_1
  generalize (w.alloc (.cells #[.slice A1 n1 c1, .slice A2 n2 c2] 25)).alloc (.cells #[.int .i64 0, .int .i64 0] 38) = V at *
  have hV1 := hV.ext hEV
  refine Wp.seqRegion (.inl rfl) (by kernel_rfl) fun K' gd hK hg => ?_
  clear hg
  go_simp
  refine Wcall (.inl rfl) (refCheck_c _ o _ hV1 hf) ?_
  rintro v w2 ⟨rfl, hE2⟩
  have fz := fz_ext hE2 (b := w.heap.size + 1) (cell_lt y0) fz
  have x0 := hE2.cell x0
  have x1 := hE2.cell x1
  have y0 := hE2.cell y0
  have y1 := hE2.cell y1
  have hV2 := hV1.ext hE2
  go_simp
  refine hK _ _ ?_
  clear hK K' gd
  refine Wp.keep [1, 2, 3] fun r3 hkeep => ?_
  obtain ⟨e1_3, e2_3, e3_3, -⟩ := hkeep
  simp [go_sem, e1_2, e2_2] at e1_3 e2_3 e3_3
  clear e1_2 e2_2
  by_cases h0 : checkS o = 0
  · skip
    refine Wp.seq ?_
    refine Wp.seqRegion (.inl rfl) (by kernel_rfl) fun K' gd hK hg => ?_
    clear hg
    go_simp
    refine hK _ _ ?_
    clear hK K' gd
    refine Wp.keep [1, 2, 3, 11] fun r4 hkeep => ?_
    obtain ⟨e1_4, e2_4, e3_4, e11_4, -⟩ := hkeep
    simp [go_sem, e1_3, e2_3, e3_3] at e1_4 e2_4 e3_4 e11_4
    clear e1_3 e2_3 e3_3
    refine Wp.condF (by go_simp) ?_
    have hg := checkS_zero.1 h0
    have ho := hg.ok
    have hm := ho.hm2
    have hm1 := ho.hm1
    have hn := ho.hn2
    obtain ⟨p, hcv, hrv, hO⟩ := hV2.ordF2 hg
    simp only [OA.cv, OA.rv] at hcv hrv
    injection hcv with p1 p2 p3
    injection hrv with p4 p5 p6
    subst p1 p2 p3 p4 p5 p6
    refine Wp.skip ?_
    refine thenK_normal ?_
    refine Wp.seqRegion (.inl rfl) (by kernel_rfl) fun K' gd hK hg => ?_
    clear hg
    go_simp
    refine hK _ _ ?_
    clear hK K' gd
    refine Wp.keep [1, 2, 4] fun r5 hkeep => ?_
    obtain ⟨e1_5, e2_5, e4_5, -⟩ := hkeep
    simp [go_sem, e1_4, e2_4, e3_4, e11_4] at e1_5 e2_5 e4_5
    clear e1_4 e2_4 e3_4 e11_4
    refine Wp.seq ?_
    refine Wp.seqRegion (.inl rfl) (by kernel_rfl) fun K' gd hK hg => ?_
    clear hg
    go_simp
    refine hK _ _ ?_
    clear hK K' gd
    refine Wp.keep [1, 2, 4, 5] fun r6 hkeep => ?_
    obtain ⟨e1_6, e2_6, e4_6, e5_6, -⟩ := hkeep
    simp [go_sem, e1_5, e2_5, e4_5] at e1_6 e2_6 e4_6 e5_6
    clear e1_5 e2_5 e4_5
    refine Wp.block ?_
    refine Wp.loop (fun k ρ ds wk => AllEq [1, 2] ρ r6 ∧ ds = [] ∧ (ρ 5 = .int .i64 (k : Int) ∧ ρ 4 = .int .i64 (ampQ o k) ∧ Ext w2 wk)) (o.n) ?_ ?_
    · refine ⟨AllEq.refl _ _, rfl, ?_⟩
      exact ⟨by rw [e5_6]; rfl, by rw [e4_6]; rfl, Ext.refl _⟩
    · rintro k r7 _ wk hk ⟨hA, rfl, ⟨e5, e4, hEk⟩⟩
      obtain ⟨e1_7, e2_7, -⟩ := hA
      rw [e1_6] at e1_7
      rw [e2_6] at e2_7
      have fz := fz_ext hEk (b := w.heap.size + 1) (cell_lt y0) fz
      have x0 := hEk.cell x0
      have x1 := hEk.cell x1
      have y0 := hEk.cell y0
      have y1 := hEk.cell y1
      have hOk := hO.ext hEk
      have hEwk : Ext w wk := Ext.trans hEV (Ext.trans hE2 hEk)
      refine Wp.seq ?_
      refine Wp.seqRegion (.inl rfl) (by kernel_rfl) fun K' gd hK hg => ?_
      clear hg
      go_simp
      refine hK _ _ ?_
      clear hK K' gd
      refine Wp.keep [1, 2, 4, 5, 18] fun r8 hkeep => ?_
      obtain ⟨e1_8, e2_8, e4_8, e5_8, e18_8, -⟩ := hkeep
      simp [go_sem, e1_7, e2_7, e4, e5] at e1_8 e2_8 e4_8 e5_8 e18_8
      clear e1_7 e2_7 e4 e5
      by_cases h : k < o.n
      · refine Wp.condT (by go_simp) ?_
        have hrA := hOk.hr (by omega)
        have b1 : (k : Int) < (o.n : Int) := by omega
        have cA := hOk.hA k h
        have vA := ho.vA k h
        have hak := ampQ_ok ho k (by omega)
        refine Wp.skip ?_
        refine thenK_normal ?_
        refine Wp.seq ?_
        refine Wp.block ?_
        refine Wp.seqRegion (.inl rfl) (by kernel_rfl) fun K' gd hK hg => ?_
        clear hg
        go_simp
        refine hK _ _ ?_
        clear hK K' gd
        refine Wp.keep [1, 2, 4, 5, 6] fun r9 hkeep => ?_
        obtain ⟨e1_9, e2_9, e4_9, e5_9, e6_9, -⟩ := hkeep
        simp [go_sem, e1_8, e2_8, e4_8, e5_8, e18_8] at e1_9 e2_9 e4_9 e5_9 e6_9
        clear e1_8 e2_8 e4_8 e5_8 e18_8
        refine Wp.seq ?_
        refine Wp.seqRegion (.inl rfl) (by kernel_rfl) fun K' gd hK hg => ?_
        clear hg
        go_simp
        refine hK _ _ ?_
        clear hK K' gd
        refine Wp.keep [1, 2, 4, 5, 6, 7] fun r10 hkeep => ?_
        obtain ⟨e1_10, e2_10, e4_10, e5_10, e6_10, e7_10, -⟩ := hkeep
        simp [go_sem, e1_9, e2_9, e4_9, e5_9, e6_9] at e1_10 e2_10 e4_10 e5_10 e6_10 e7_10
        clear e1_9 e2_9 e4_9 e5_9 e6_9
        refine Wp.block ?_
        refine Wp.loop (fun j ρ ds wj => AllEq [1, 2, 4, 5] ρ r10 ∧ ds = [] ∧ (ρ 7 = .int .i64 (j : Int) ∧ ρ 6 = .int .i64 (o.A k + sumQ (o.T k) j) ∧ Ext wk wj)) (o.m) ?_ ?_
        · refine ⟨AllEq.refl _ _, rfl, ?_⟩
          exact ⟨by rw [e7_10]; rfl, by rw [e6_10]; congr 1; show _ = _ + 0; omega, Ext.refl _⟩
        · rintro j r11 _ wj hj ⟨hA, rfl, ⟨e7, e6, hEj⟩⟩
          obtain ⟨e1_11, e2_11, e4_11, e5_11, -⟩ := hA
          rw [e1_10] at e1_11
          rw [e2_10] at e2_11
          rw [e4_10] at e4_11
          rw [e5_10] at e5_11
          have z0 := hEj.cell x0
          have z1 := hEj.cell x1
          have hOj := hOk.ext hEj
          refine Wp.seq ?_
          refine Wp.seqRegion (.inl rfl) (by kernel_rfl) fun K' gd hK hg => ?_
          clear hg
          go_simp
          refine hK _ _ ?_
          clear hK K' gd
          refine Wp.keep [1, 2, 4, 5, 6, 7, 31] fun r12 hkeep => ?_
          obtain ⟨e1_12, e2_12, e4_12, e5_12, e6_12, e7_12, e31_12, -⟩ := hkeep
          simp [go_sem, e1_11, e2_11, e4_11, e5_11, e6, e7] at e1_12 e2_12 e4_12 e5_12 e6_12 e7_12 e31_12
          clear e1_11 e2_11 e4_11 e5_11 e6 e7
          by_cases h2 : j < o.m
          · refine Wp.condT (by go_simp) ?_
            have cT := hOj.hT k h
            have cTT := hOj.hTT k j h h2
            have b2 : (j : Int) < (o.m : Int) := by omega
            have vT := ho.vT k j h h2
            have hsj := sumT_ok ho h j (by omega)
            have hsn : ∃ _u : Unit, sumQ (o.T k) (j + 1) = sumQ (o.T k) j + o.T k j := ⟨(), rfl⟩
            refine Wp.skip ?_
            refine thenK_normal ?_
            refine Wp.seq ?_
            refine Wp.block ?_
            refine Wp.loneRegion (.inl rfl) (by kernel_rfl) fun K' gd hK hg => ?_
            clear hg
            go_simp
            refine hK _ _ ?_
            clear hK K' gd
            refine Ends.keep [1, 2, 4, 5, 6, 7] fun r13 hkeep => ?_
            obtain ⟨e1_13, e2_13, e4_13, e5_13, e6_13, e7_13, -⟩ := hkeep
            simp [go_sem, e1_12, e2_12, e4_12, e5_12, e6_12, e7_12, e31_12] at e1_13 e2_13 e4_13 e5_13 e6_13 e7_13
            clear e1_12 e2_12 e4_12 e5_12 e6_12 e7_12 e31_12
            refine Ends.mk ?_
            refine blockK_normal ?_
            refine thenK_normal ?_
            refine Wp.loneRegion (.inl rfl) (by kernel_rfl) fun K' gd hK hg => ?_
            clear hg
            go_simp
            refine hK _ _ ?_
            clear hK K' gd
            refine Ends.keep [1, 2, 4, 5, 6, 7] fun r14 hkeep => ?_
            obtain ⟨e1_14, e2_14, e4_14, e5_14, e6_14, e7_14, -⟩ := hkeep
            simp [go_sem, e1_13, e2_13, e4_13, e5_13, e6_13, e7_13] at e1_14 e2_14 e4_14 e5_14 e6_14 e7_14
            clear e1_13 e2_13 e4_13 e5_13 e6_13 e7_13
            refine Ends.mk ?_
            refine thenK_normal ⟨by omega, ⟨by rw [e1_14, e1_10], by rw [e2_14, e2_10], by rw [e4_14, e4_10], by rw [e5_14, e5_10], trivial⟩, rfl, ?_⟩
            obtain ⟨-, hsn⟩ := hsn
            exact ⟨by rw [e7_14, IntWalk.i64_in _ (by omega)]; rfl, by rw [e6_14, hsn, IntWalk.i64_in _ (by omega)]; congr 1; omega, (by repeat (first | assumption | exact Ext.refl _ | refine Ext.drew ?_ | refine Ext.alloc ?_ _ | refine Ext.trans ?_ (by assumption)))⟩
          · refine Wp.condF (by go_simp) ?_
            obtain rfl : j = o.m := by omega
            refine Wp.exit ?_
            refine thenK_exit ?_
            refine thenK_exit ?_
            refine blockK_here ?_
            refine thenK_normal ?_
            refine Wp.loneRegion (.inl rfl) (by kernel_rfl) fun K' gd hK hg => ?_
            clear hg
            go_simp
            refine hK _ _ ?_
            clear hK K' gd
            refine Ends.keep [1, 2, 4, 5] fun r15 hkeep => ?_
            obtain ⟨e1_15, e2_15, e4_15, e5_15, -⟩ := hkeep
            simp [go_sem, e1_12, e2_12, e4_12, e5_12, e6_12, e7_12, e31_12] at e1_15 e2_15 e4_15 e5_15
            clear e1_12 e2_12 e4_12 e5_12 e6_12 e7_12 e31_12
            refine Ends.mk ?_
            refine blockK_normal ?_
            refine thenK_normal ?_
            refine Wp.loneRegion (.inl rfl) (by kernel_rfl) fun K' gd hK hg => ?_
            clear hg
            go_simp
            refine hK _ _ ?_
            clear hK K' gd
            refine Ends.keep [1, 2, 4, 5] fun r16 hkeep => ?_
            obtain ⟨e1_16, e2_16, e4_16, e5_16, -⟩ := hkeep
            simp [go_sem, e1_15, e2_15, e4_15, e5_15] at e1_16 e2_16 e4_16 e5_16
            clear e1_15 e2_15 e4_15 e5_15
            refine Ends.mk ?_
            refine thenK_normal ⟨by omega, ⟨by rw [e1_16, e1_6], by rw [e2_16, e2_6], trivial⟩, rfl, ?_⟩
            have hak1 : ampQ o (k + 1) = max (ampQ o k) (o.A k + sumQ (o.T k) o.m) := rfl
            refine ⟨by rw [e5_16, IntWalk.i64_in _ (by omega)]; rfl, ?_, (by repeat (first | assumption | exact Ext.refl _ | refine Ext.drew ?_ | refine Ext.alloc ?_ _ | refine Ext.trans ?_ (by assumption)))⟩
            rw [e4_16, hak1]
            congr 1
            first | omega | (split <;> omega)
      · refine Wp.condF (by go_simp) ?_
        obtain rfl : k = o.n := by omega
        have hlt := cell_lt y0
        have f0 := fz 0
        have f1 := fz 1
        have ham : ∃ _u : Unit, ampleV o = ampQ o o.n := ⟨(), ampQ_all hg⟩
        refine Wp.exit ?_
        refine thenK_exit ?_
        refine thenK_exit ?_
        refine blockK_here ?_
        refine thenK_normal ?_
        refine Wp.seqRegion (.inl rfl) (by kernel_rfl) fun K' gd hK hg => ?_
        clear hg
        go_simp
        refine hK _ _ ?_
        clear hK K' gd
        refine Wp.keep [2] fun r17 hkeep => ?_
        obtain ⟨e2_17, -⟩ := hkeep
        simp [go_sem, e1_8, e2_8, e4_8, e5_8, e18_8] at e2_17
        clear e1_8 e2_8 e4_8 e5_8 e18_8
        refine Wp.ret ?_
        refine endK_cell (v := .agg #[.int .i64 (ampQ o o.n), .int .i64 0]) Tryz.results21 (by decide) e2_17 (by go_simp) ?_
        obtain ⟨-, ham⟩ := ham
        exact ⟨by rw [h0, if_pos rfl, ham], (by repeat (first | assumption | exact Ext.refl _ | refine Ext.drew ?_ | refine Ext.alloc ?_ _ | refine Ext.setC ?_ (by omega) _ | refine Ext.trans ?_ (by assumption)))⟩
  · skip
    refine Wp.seq ?_
    refine Wp.seqRegion (.inl rfl) (by kernel_rfl) fun K' gd hK hg => ?_
    clear hg
    go_simp
    refine hK _ _ ?_
    clear hK K' gd
    refine Wp.keep [1, 2, 3, 11] fun r18 hkeep => ?_
    obtain ⟨e1_18, e2_18, e3_18, e11_18, -⟩ := hkeep
    simp [go_sem, e1_3, e2_3, e3_3] at e1_18 e2_18 e3_18 e11_18
    clear e1_3 e2_3 e3_3
    refine Wp.condT (by go_simp) ?_
    have f0 := fz 0
    have f1 := fz 1
    have hlt := cell_lt y0
    refine Wp.seqRegion (.inl rfl) (by kernel_rfl) fun K' gd hK hg => ?_
    clear hg
    go_simp
    refine hK _ _ ?_
    clear hK K' gd
    refine Wp.keep [2] fun r19 hkeep => ?_
    obtain ⟨e2_19, -⟩ := hkeep
    simp [go_sem, e1_18, e2_18, e3_18, e11_18] at e2_19
    clear e1_18 e2_18 e3_18 e11_18
    refine Wp.ret ?_
    refine thenK_ret ?_
    refine endK_cell (v := .agg #[.int .i64 0, .int .i64 (checkS o)]) Tryz.results21 (by decide) e2_19 (by go_simp) ?_
    refine ⟨by rw [if_neg h0], (by repeat (first | assumption | exact Ext.refl _ | refine Ext.drew ?_ | refine Ext.alloc ?_ _ | refine Ext.setC ?_ (by omega) _ | refine Ext.trans ?_ (by assumption)))⟩
theorem waitsSp_c (v : Value) (o : Ord) (w : World) (hV : OrderV w w.heap.size v o) (hf : Fits o) :
    CallsV Tryz.prog 17 #[v] w fun v w' => ∃ t, v = .agg #[t, .int .i64 (checkS o)] ∧ IntsV w' w'.heap.size t (if checkS o = 0 then waitL o else []) ∧ Ext w w' := by
  obtain ⟨A1, n1, c1, A2, n2, c2, rfl, hV⟩ := hV.two
  refine Wp.fn Tryz.func17 rfl Tryz.ntmps17 (by simp) ?_
  refine Wp.keep [0] fun r1 hkeep => ?_
  obtain ⟨e0_1, -⟩ := hkeep
  simp [go_sem] at e0_1
  have x0 := cell_al (.cells #[.slice none 0 0, .int .i64 0] 43) (cell_nn w #[.slice A1 n1 c1, .slice A2 n2 c2] 25 0 rfl (v := .slice A1 n1 c1) rfl)
  have x1 := cell_al (.cells #[.slice none 0 0, .int .i64 0] 43) (cell_nn w #[.slice A1 n1 c1, .slice A2 n2 c2] 25 1 rfl (v := .slice A2 n2 c2) rfl)
  have y0 := cell_nn (w.alloc (.cells #[.slice A1 n1 c1, .slice A2 n2 c2] 25)) #[.slice none 0 0, .int .i64 0] 43 0 (n := w.heap.size + 1) (by simp) (v := .slice none 0 0) rfl
  have y1 := cell_nn (w.alloc (.cells #[.slice A1 n1 c1, .slice A2 n2 c2] 25)) #[.slice none 0 0, .int .i64 0] 43 1 (n := w.heap.size + 1) (by simp) (v := .int .i64 0) rfl
  have fz := frz_nw (w.alloc (.cells #[.slice A1 n1 c1, .slice A2 n2 c2] 25)) #[.slice none 0 0, .int .i64 0] 43 (n := w.heap.size + 1) (by simp)
  have hEV : Ext w ((w.alloc (.cells #[.slice A1 n1 c1, .slice A2 n2 c2] 25)).alloc (.cells #[.slice none 0 0, .int .i64 0] 43)) := (by repeat (first | assumption | exact Ext.refl _ | refine Ext.drew ?_ | refine Ext.alloc ?_ _ | refine Ext.trans ?_ (by assumption)))
  refine Wp.seqRegion (.inl rfl) (by kernel_rfl) fun K' gd hK hg => ?_
  clear hg
  go_simp
  refine hK _ _ ?_
  clear hK K' gd
  refine Wp.keep [1, 2] fun r2 hkeep => ?_
  obtain ⟨e1_2, e2_2, -⟩ := hkeep
  simp [go_sem, e0_1] at e1_2 e2_2
  clear e0_1
  generalize (w.alloc (.cells #[.slice A1 n1 c1, .slice A2 n2 c2] 25)).alloc (.cells #[.slice none 0 0, .int .i64 0] 43) = V at *
  have hV1 := hV.ext hEV
  refine Wp.seqRegion (.inl rfl) (by kernel_rfl) fun K' gd hK hg => ?_
  clear hg
  go_simp
  refine Wcall (.inl rfl) (refCheck_c _ o _ hV1 hf) ?_
  rintro v w2 ⟨rfl, hE2⟩
  have fz := fz_ext hE2 (b := w.heap.size + 1) (cell_lt y0) fz
  have x0 := hE2.cell x0
  have x1 := hE2.cell x1
  have y0 := hE2.cell y0
  have y1 := hE2.cell y1
  have hV2 := hV1.ext hE2
  go_simp
  refine hK _ _ ?_
  clear hK K' gd
  refine Wp.keep [1, 2, 3] fun r3 hkeep => ?_
  obtain ⟨e1_3, e2_3, e3_3, -⟩ := hkeep
  simp [go_sem, e1_2, e2_2] at e1_3 e2_3 e3_3
  clear e1_2 e2_2
  by_cases h0 : checkS o = 0
  · skip
    refine Wp.seq ?_
    refine Wp.seqRegion (.inl rfl) (by kernel_rfl) fun K' gd hK hg => ?_
    clear hg
    go_simp
    refine hK _ _ ?_
    clear hK K' gd
    refine Wp.keep [1, 2, 3, 13] fun r4 hkeep => ?_
    obtain ⟨e1_4, e2_4, e3_4, e13_4, -⟩ := hkeep
    simp [go_sem, e1_3, e2_3, e3_3] at e1_4 e2_4 e3_4 e13_4
    clear e1_3 e2_3 e3_3
    refine Wp.condF (by go_simp) ?_
    have hg := checkS_zero.1 h0
    have ho := hg.ok
    have hm := ho.hm2
    have hm1 := ho.hm1
    have hn := ho.hn2
    obtain ⟨p, hcv, hrv, hO⟩ := hV2.ordF2 hg
    simp only [OA.cv, OA.rv] at hcv hrv
    injection hcv with p1 p2 p3
    injection hrv with p4 p5 p6
    subst p1 p2 p3 p4 p5 p6
    refine Wp.skip ?_
    refine thenK_normal ?_
    refine Wp.seqRegion (.inl rfl) (by kernel_rfl) fun K' gd hK hg => ?_
    clear hg
    go_simp
    refine Wcall (.inl rfl) (timesR_c p o _ hO) ?_
    rintro v3 w3 ⟨hT, hE3⟩
    have fz := fz_ext hE3 (b := w.heap.size + 1) (cell_lt y0) fz
    have x0 := hE3.cell x0
    have x1 := hE3.cell x1
    have y0 := hE3.cell y0
    have y1 := hE3.cell y1
    have hT := hT.tabV
    have hO3 := hO.ext hE3
    go_simp
    refine hK _ _ ?_
    clear hK K' gd
    refine Wp.keep [1, 2, 4] fun r5 hkeep => ?_
    obtain ⟨e1_5, e2_5, e4_5, -⟩ := hkeep
    simp [go_sem, e1_4, e2_4, e3_4, e13_4] at e1_5 e2_5 e4_5
    clear e1_4 e2_4 e3_4 e13_4
    obtain ⟨m1, hm1'⟩ : ∃ m1 : Nat, m1 + 1 = o.m := ⟨o.m - 1, by omega⟩
    have hwm : IntKind.i64.wrap ((o.m : Int) - 1) = (m1 : Int) := by (rw [IntWalk.i64_in _ (by omega)]; omega)
    refine Wp.seqRegion (.inl rfl) (by kernel_rfl) fun K' gd hK hg => ?_
    clear hg
    go_simp
    refine hK _ _ ?_
    clear hK K' gd
    refine Wp.keep [1, 2, 4, 5] fun r6 hkeep => ?_
    obtain ⟨e1_6, e2_6, e4_6, e5_6, -⟩ := hkeep
    simp [go_sem, e1_5, e2_5, e4_5] at e1_6 e2_6 e4_6 e5_6
    clear e1_5 e2_5 e4_5
    refine Wp.seq ?_
    refine Wp.seqRegion (.inl rfl) (by kernel_rfl) fun K' gd hK hg => ?_
    clear hg
    go_simp
    refine hK _ _ ?_
    clear hK K' gd
    refine Wp.keep [1, 2, 4, 5, 6] fun r7 hkeep => ?_
    obtain ⟨e1_7, e2_7, e4_7, e5_7, e6_7, -⟩ := hkeep
    simp [go_sem, e1_6, e2_6, e4_6, e5_6] at e1_7 e2_7 e4_7 e5_7 e6_7
    clear e1_6 e2_6 e4_6 e5_6
    refine Wp.block ?_
    refine Wp.loop (fun k ρ ds wk => AllEq [1, 2, 4] ρ r7 ∧ ds = [] ∧ (∃ v5, ρ 6 = .int .i64 (k : Int) ∧ ρ 5 = v5 ∧ OwnI wk w3.heap.size v5 ((waitL o).take k) ∧ Ext w3 wk)) (o.n) ?_ ?_
    · refine ⟨AllEq.refl _ _, rfl, ?_⟩
      exact ⟨_, by rw [e6_7]; rfl, e5_7, World.ownsRow_nil _ _ _ _, Ext.refl _⟩
    · rintro k r8 _ wk hk ⟨hA, rfl, ⟨v5, e6, e5, hL, hEk⟩⟩
      obtain ⟨e1_8, e2_8, e4_8, -⟩ := hA
      rw [e1_7] at e1_8
      rw [e2_7] at e2_8
      rw [e4_7] at e4_8
      have hlt3 := cell_lt y0
      have fz := fz_ext hEk (b := w.heap.size + 1) (cell_lt y0) fz
      have x0 := hEk.cell x0
      have x1 := hEk.cell x1
      have y0 := hEk.cell y0
      have y1 := hEk.cell y1
      have hOk := hO3.ext hEk
      have hEwk : Ext w wk := Ext.trans hEV (Ext.trans hE2 (Ext.trans hE3 hEk))
      refine Wp.seq ?_
      refine Wp.seqRegion (.inl rfl) (by kernel_rfl) fun K' gd hK hg => ?_
      clear hg
      go_simp
      refine hK _ _ ?_
      clear hK K' gd
      refine Wp.keep [1, 2, 4, 5, 6, 22] fun r9 hkeep => ?_
      obtain ⟨e1_9, e2_9, e4_9, e5_9, e6_9, e22_9, -⟩ := hkeep
      simp [go_sem, e1_8, e2_8, e4_8, e5, e6] at e1_9 e2_9 e4_9 e5_9 e6_9 e22_9
      clear e1_8 e2_8 e4_8 e5 e6
      by_cases h : k < o.n
      · refine Wp.condT (by go_simp) ?_
        have hrA := hOk.hr (by omega)
        have b1 : (k : Int) < (o.n : Int) := by omega
        have cA := hOk.hA k h
        have vA := ho.vA k h
        have cT := hOk.hT k h
        have cTm := hOk.hTT k m1 h (by omega)
        have vTm := ho.vT k m1 h (by omega)
        have vb := begA_ok ho h (show m1 < o.m by omega)
        obtain ⟨bt, obt, ct, rbt, rot, rct, rfl, hG⟩ := tabG_of (hT.ext hEk) (by omega) (by omega)
        have g1 := hG.row k h
        have g2 := hG.cell k m1 h (by omega)
        have b2 : (m1 : Int) < (o.m : Int) := by omega
        have hw1 : IntKind.i64.wrap (begA o k m1 + o.T k m1) = begA o k m1 + o.T k m1 := IntWalk.i64_in _ (by omega)
        have hw2 : IntKind.i64.wrap (begA o k m1 + o.T k m1 - o.A k) = begA o k m1 + o.T k m1 - o.A k := IntWalk.i64_in _ (by omega)
        obtain ⟨D, hD⟩ : ∃ D, begA o k m1 + o.T k m1 - o.A k = D := ⟨_, rfl⟩
        have hD2 : -800 ≤ D ∧ D ≤ 4000 := by omega
        have hwv : ∃ _u : Unit, waitV o k = D - sumQ (o.T k) o.m := ⟨(), by (unfold waitV; rw [show o.m - 1 = m1 by omega, hD, takes_sumQ hg h])⟩
        refine Wp.skip ?_
        refine thenK_normal ?_
        refine Wp.seq ?_
        refine Wp.block ?_
        refine Wp.seqRegion (.inl rfl) (by kernel_rfl) fun K' gd hK hg => ?_
        clear hg
        go_simp
        refine hK _ _ ?_
        clear hK K' gd
        refine Wp.keep [1, 2, 4, 5, 6, 7] fun r10 hkeep => ?_
        obtain ⟨e1_10, e2_10, e4_10, e5_10, e6_10, e7_10, -⟩ := hkeep
        simp [go_sem, e1_9, e2_9, e4_9, e5_9, e6_9, e22_9] at e1_10 e2_10 e4_10 e5_10 e6_10 e7_10
        clear e1_9 e2_9 e4_9 e5_9 e6_9 e22_9
        refine Wp.seqDraw (.inl rfl) mixed [([0, 1, 2, 3, 4], none), ([5, 6, 7, 8, 9], none), ([10, 11, 12, 13, 14], none), ([15, 16, 17, 18, 19], none), ([20, 21, 22, 23, 24], none)] (by kernel_rfl) fun K' gd hK hg => ?_
        clear hg
        simp only [pick, nth, List.map_cons, List.map_nil, Option.map_none, Option.map_some]
        apply Mops.none
        · intro w' hE'
          have hC' := hE'.cellsS
          go_simp
          with_reducible rfl
        apply Mops.none
        · intro w' hE'
          have hC' := hE'.cellsS
          go_simp
          with_reducible rfl
        apply Mops.none
        · intro w' hE'
          have hC' := hE'.cellsS
          go_simp
          with_reducible rfl
        apply Mops.none
        · intro w' hE'
          have hC' := hE'.cellsS
          go_simp
          with_reducible rfl
        apply Mops.none
        · intro w' hE'
          have hC' := hE'.cellsS
          go_simp
          with_reducible rfl
        refine Mops.done ?_
        refine hK _ _ ?_
        clear hK K' gd
        refine Wp.keep [1, 2, 4, 5, 6, 7, 8] fun r11 hkeep => ?_
        obtain ⟨e1_11, e2_11, e4_11, e5_11, e6_11, e7_11, e8_11, -⟩ := hkeep
        simp [go_sem, e1_10, e2_10, e4_10, e5_10, e6_10, e7_10] at e1_11 e2_11 e4_11 e5_11 e6_11 e7_11 e8_11
        clear e1_10 e2_10 e4_10 e5_10 e6_10 e7_10
        refine Wp.seq ?_
        refine Wp.seqRegion (.inl rfl) (by kernel_rfl) fun K' gd hK hg => ?_
        clear hg
        go_simp
        refine hK _ _ ?_
        clear hK K' gd
        refine Wp.keep [1, 2, 4, 5, 6, 7, 8, 9] fun r12 hkeep => ?_
        obtain ⟨e1_12, e2_12, e4_12, e5_12, e6_12, e7_12, e8_12, e9_12, -⟩ := hkeep
        simp [go_sem, e1_11, e2_11, e4_11, e5_11, e6_11, e7_11, e8_11] at e1_12 e2_12 e4_12 e5_12 e6_12 e7_12 e8_12 e9_12
        clear e1_11 e2_11 e4_11 e5_11 e6_11 e7_11 e8_11
        refine Wp.block ?_
        refine Wp.loop (fun j ρ ds wj => AllEq [1, 2, 4, 5, 6, 7] ρ r12 ∧ ds = [] ∧ (ρ 9 = .int .i64 (j : Int) ∧ ρ 8 = .int .i64 (D - sumQ (o.T k) j) ∧ Ext wk wj)) (o.m) ?_ ?_
        · refine ⟨AllEq.refl _ _, rfl, ?_⟩
          exact ⟨by rw [e9_12]; rfl, by rw [e8_12]; congr 1; show _ = D - (0 : Int); rw [Int.sub_zero]; exact IntWalk.i64_in _ (by omega), (by repeat (first | assumption | exact Ext.refl _ | refine Ext.drew ?_ | refine Ext.alloc ?_ _ | refine Ext.trans ?_ (by assumption)))⟩
        · rintro j r13 _ wj hj ⟨hA, rfl, ⟨e9, e8, hEj⟩⟩
          obtain ⟨e1_13, e2_13, e4_13, e5_13, e6_13, e7_13, -⟩ := hA
          rw [e1_12] at e1_13
          rw [e2_12] at e2_13
          rw [e4_12] at e4_13
          rw [e5_12] at e5_13
          rw [e6_12] at e6_13
          rw [e7_12] at e7_13
          have z0 := hEj.cell x0
          have z1 := hEj.cell x1
          have hOj := hOk.ext hEj
          refine Wp.seq ?_
          refine Wp.seqRegion (.inl rfl) (by kernel_rfl) fun K' gd hK hg => ?_
          clear hg
          go_simp
          refine hK _ _ ?_
          clear hK K' gd
          refine Wp.keep [1, 2, 4, 5, 6, 7, 8, 9, 55] fun r14 hkeep => ?_
          obtain ⟨e1_14, e2_14, e4_14, e5_14, e6_14, e7_14, e8_14, e9_14, e55_14, -⟩ := hkeep
          simp [go_sem, e1_13, e2_13, e4_13, e5_13, e6_13, e7_13, e8, e9] at e1_14 e2_14 e4_14 e5_14 e6_14 e7_14 e8_14 e9_14 e55_14
          clear e1_13 e2_13 e4_13 e5_13 e6_13 e7_13 e8 e9
          by_cases h2 : j ≤ m1
          · refine Wp.condT (by go_simp) ?_
            have h3 : j < o.m := by omega
            have cT := hOj.hT k h
            have cTT := hOj.hTT k j h h3
            have b3 : (j : Int) < (o.m : Int) := by omega
            have vT := ho.vT k j h h3
            have hsj := sumT_ok ho h j (by omega)
            have hsn : ∃ _u : Unit, sumQ (o.T k) (j + 1) = sumQ (o.T k) j + o.T k j := ⟨(), rfl⟩
            refine Wp.skip ?_
            refine thenK_normal ?_
            refine Wp.seq ?_
            refine Wp.block ?_
            refine Wp.loneRegion (.inl rfl) (by kernel_rfl) fun K' gd hK hg => ?_
            clear hg
            go_simp
            refine hK _ _ ?_
            clear hK K' gd
            refine Ends.keep [1, 2, 4, 5, 6, 7, 8, 9] fun r15 hkeep => ?_
            obtain ⟨e1_15, e2_15, e4_15, e5_15, e6_15, e7_15, e8_15, e9_15, -⟩ := hkeep
            simp [go_sem, e1_14, e2_14, e4_14, e5_14, e6_14, e7_14, e8_14, e9_14, e55_14] at e1_15 e2_15 e4_15 e5_15 e6_15 e7_15 e8_15 e9_15
            clear e1_14 e2_14 e4_14 e5_14 e6_14 e7_14 e8_14 e9_14 e55_14
            refine Ends.mk ?_
            refine blockK_normal ?_
            refine thenK_normal ?_
            refine Wp.loneRegion (.inl rfl) (by kernel_rfl) fun K' gd hK hg => ?_
            clear hg
            go_simp
            refine hK _ _ ?_
            clear hK K' gd
            refine Ends.keep [1, 2, 4, 5, 6, 7, 8, 9] fun r16 hkeep => ?_
            obtain ⟨e1_16, e2_16, e4_16, e5_16, e6_16, e7_16, e8_16, e9_16, -⟩ := hkeep
            simp [go_sem, e1_15, e2_15, e4_15, e5_15, e6_15, e7_15, e8_15, e9_15] at e1_16 e2_16 e4_16 e5_16 e6_16 e7_16 e8_16 e9_16
            clear e1_15 e2_15 e4_15 e5_15 e6_15 e7_15 e8_15 e9_15
            refine Ends.mk ?_
            refine thenK_normal ⟨by omega, ⟨by rw [e1_16, e1_12], by rw [e2_16, e2_12], by rw [e4_16, e4_12], by rw [e5_16, e5_12], by rw [e6_16, e6_12], by rw [e7_16, e7_12], trivial⟩, rfl, ?_⟩
            obtain ⟨-, hsn⟩ := hsn
            exact ⟨by rw [e9_16, IntWalk.i64_in _ (by omega)]; rfl, by rw [e8_16, hsn, IntWalk.i64_in _ (by omega)]; congr 1; omega, (by repeat (first | assumption | exact Ext.refl _ | refine Ext.drew ?_ | refine Ext.alloc ?_ _ | refine Ext.trans ?_ (by assumption)))⟩
          · refine Wp.condF (by go_simp) ?_
            obtain rfl : j = o.m := by omega
            obtain ⟨-, hwv'⟩ := hwv
            rw [← hwv'] at e8_14
            clear hwv'
            refine Wp.exit ?_
            refine thenK_exit ?_
            refine thenK_exit ?_
            refine blockK_here ?_
            refine thenK_normal ?_
            refine Wp.loneRegion (.inl rfl) (by kernel_rfl) fun K' gd hK hg => ?_
            clear hg
            refine Wops.cut 3 fun K1 hK1 => ?_
            simp only [List.take_succ_cons, List.take_zero]
            go_simp
            refine hK1 _ _ ?_
            clear hK1 K1
            simp only [List.drop_succ_cons, List.drop_zero]
            obtain ⟨v', w', hrun, hown, hgr, -⟩ := app_run ints_T (ownsRow_ext hL (show Ext wk (wj.alloc (.cells #[.int .i64 (waitV o k)] 3)) from (by repeat (first | assumption | exact Ext.refl _ | refine Ext.drew ?_ | refine Ext.alloc ?_ _ | refine Ext.trans ?_ (by assumption))))) ⟨wj.heap.size, 0, none⟩ 1 1 [.int .i64 (waitV o k)] 22 rfl (news_one (cell_nw wj #[.int .i64 (waitV o k)] 3 0)) (one_one rfl) (by rw [List.length_take]; omega) (by have e1 := Below.size hEk; have e2 := Below.size hEj; simp; omega)
            refine Wops.law rfl (exec_append2 rfl hrun (by go_simp) (by go_simp)) ?_
            go_simp
            refine hK _ _ ?_
            clear hK K' gd
            refine Ends.keep [1, 2, 4, 5, 6] fun r17 hkeep => ?_
            obtain ⟨e1_17, e2_17, e4_17, e5_17, e6_17, -⟩ := hkeep
            simp [go_sem, e1_14, e2_14, e4_14, e5_14, e6_14, e7_14, e8_14, e9_14, e55_14] at e1_17 e2_17 e4_17 e5_17 e6_17
            clear e1_14 e2_14 e4_14 e5_14 e6_14 e7_14 e8_14 e9_14 e55_14
            refine Ends.mk ?_
            refine blockK_normal ?_
            refine thenK_normal ?_
            refine Wp.loneRegion (.inl rfl) (by kernel_rfl) fun K' gd hK hg => ?_
            clear hg
            go_simp
            refine hK _ _ ?_
            clear hK K' gd
            refine Ends.keep [1, 2, 4, 5, 6] fun r18 hkeep => ?_
            obtain ⟨e1_18, e2_18, e4_18, e5_18, e6_18, -⟩ := hkeep
            simp [go_sem, e1_17, e2_17, e4_17, e5_17, e6_17] at e1_18 e2_18 e4_18 e5_18 e6_18
            clear e1_17 e2_17 e4_17 e5_17 e6_17
            refine Ends.mk ?_
            refine thenK_normal ⟨by omega, ⟨by rw [e1_18, e1_7], by rw [e2_18, e2_7], by rw [e4_18, e4_7], trivial⟩, rfl, ?_⟩
            refine ⟨v', by rw [e6_18, IntWalk.i64_in _ (by omega)]; rfl, e5_18, ?_, Below.grown (show Ext w3 (wj.alloc (.cells #[.int .i64 (waitV o k)] 3)) from (by repeat (first | assumption | exact Ext.refl _ | refine Ext.drew ?_ | refine Ext.alloc ?_ _ | refine Ext.trans ?_ (by assumption)))) (ownsRow_ext hL (show Ext wk (wj.alloc (.cells #[.int .i64 (waitV o k)] 3)) from (by repeat (first | assumption | exact Ext.refl _ | refine Ext.drew ?_ | refine Ext.alloc ?_ _ | refine Ext.trans ?_ (by assumption))))) hgr (Nat.le_refl _) (Nat.le_refl _)⟩
            have ht : (waitL o).take (k + 1) = (waitL o).take k ++ [waitV o k] := map_range_take (waitV o) h
            rw [ht]; exact OwnI.push hown
      · refine Wp.condF (by go_simp) ?_
        obtain rfl : k = o.n := by omega
        have hlt := cell_lt y0
        have f0 := fz 0
        have f1 := fz 1
        rw [List.take_of_length_le (by simp [waitL])] at hL
        obtain ⟨A5, c5, rfl⟩ := hL.slice
        refine Wp.exit ?_
        refine thenK_exit ?_
        refine thenK_exit ?_
        refine blockK_here ?_
        refine thenK_normal ?_
        refine Wp.seqRegion (.inl rfl) (by kernel_rfl) fun K' gd hK hg => ?_
        clear hg
        go_simp
        refine hK _ _ ?_
        clear hK K' gd
        refine Wp.keep [2] fun r19 hkeep => ?_
        obtain ⟨e2_19, -⟩ := hkeep
        simp [go_sem, e1_9, e2_9, e4_9, e5_9, e6_9, e22_9] at e2_19
        clear e1_9 e2_9 e4_9 e5_9 e6_9 e22_9
        refine Wp.ret ?_
        refine endK_cell (v := .agg #[.slice A5 (waitL o).length c5, .int .i64 0]) Tryz.results17 (by decide) e2_19 (by go_simp) ?_
        refine ⟨_, by rw [h0], ?_, (by repeat (first | assumption | exact Ext.refl _ | refine Ext.drew ?_ | refine Ext.alloc ?_ _ | refine Ext.setC ?_ (by omega) _ | refine Ext.trans ?_ (by assumption)))⟩
        rw [if_pos h0]
        exact OwnI.intsV (own_set (own_set hL hlt3) hlt3)
  · skip
    refine Wp.seq ?_
    refine Wp.seqRegion (.inl rfl) (by kernel_rfl) fun K' gd hK hg => ?_
    clear hg
    go_simp
    refine hK _ _ ?_
    clear hK K' gd
    refine Wp.keep [1, 2, 3, 13] fun r20 hkeep => ?_
    obtain ⟨e1_20, e2_20, e3_20, e13_20, -⟩ := hkeep
    simp [go_sem, e1_3, e2_3, e3_3] at e1_20 e2_20 e3_20 e13_20
    clear e1_3 e2_3 e3_3
    refine Wp.condT (by go_simp) ?_
    have f0 := fz 0
    have f1 := fz 1
    have hlt := cell_lt y0
    refine Wp.seqRegion (.inl rfl) (by kernel_rfl) fun K' gd hK hg => ?_
    clear hg
    go_simp
    refine hK _ _ ?_
    clear hK K' gd
    refine Wp.keep [2] fun r21 hkeep => ?_
    obtain ⟨e2_21, -⟩ := hkeep
    simp [go_sem, e1_20, e2_20, e3_20, e13_20] at e2_21
    clear e1_20 e2_20 e3_20 e13_20
    refine Wp.ret ?_
    refine thenK_ret ?_
    refine endK_cell (v := .agg #[.slice none 0 0, .int .i64 (checkS o)]) Tryz.results17 (by decide) e2_21 (by go_simp) ?_
    refine ⟨_, rfl, by rw [if_neg h0]; exact intsV_nil _ _, (by repeat (first | assumption | exact Ext.refl _ | refine Ext.drew ?_ | refine Ext.alloc ?_ _ | refine Ext.setC ?_ (by omega) _ | refine Ext.trans ?_ (by assumption)))⟩
theorem idleSp_c (v : Value) (o : Ord) (w : World) (hV : OrderV w w.heap.size v o) (hf : Fits o) :
    CallsV Tryz.prog 19 #[v] w fun v w' => ∃ t, v = .agg #[t, .int .i64 (checkS o)] ∧ IntsV w' w'.heap.size t (if checkS o = 0 then idleL o else []) ∧ Ext w w' := by
  obtain ⟨A1, n1, c1, A2, n2, c2, rfl, hV⟩ := hV.two
  refine Wp.fn Tryz.func19 rfl Tryz.ntmps19 (by simp) ?_
  refine Wp.keep [0] fun r1 hkeep => ?_
  obtain ⟨e0_1, -⟩ := hkeep
  simp [go_sem] at e0_1
  have x0 := cell_al (.cells #[.slice none 0 0, .int .i64 0] 43) (cell_nn w #[.slice A1 n1 c1, .slice A2 n2 c2] 25 0 rfl (v := .slice A1 n1 c1) rfl)
  have x1 := cell_al (.cells #[.slice none 0 0, .int .i64 0] 43) (cell_nn w #[.slice A1 n1 c1, .slice A2 n2 c2] 25 1 rfl (v := .slice A2 n2 c2) rfl)
  have y0 := cell_nn (w.alloc (.cells #[.slice A1 n1 c1, .slice A2 n2 c2] 25)) #[.slice none 0 0, .int .i64 0] 43 0 (n := w.heap.size + 1) (by simp) (v := .slice none 0 0) rfl
  have y1 := cell_nn (w.alloc (.cells #[.slice A1 n1 c1, .slice A2 n2 c2] 25)) #[.slice none 0 0, .int .i64 0] 43 1 (n := w.heap.size + 1) (by simp) (v := .int .i64 0) rfl
  have fz := frz_nw (w.alloc (.cells #[.slice A1 n1 c1, .slice A2 n2 c2] 25)) #[.slice none 0 0, .int .i64 0] 43 (n := w.heap.size + 1) (by simp)
  have hEV : Ext w ((w.alloc (.cells #[.slice A1 n1 c1, .slice A2 n2 c2] 25)).alloc (.cells #[.slice none 0 0, .int .i64 0] 43)) := (by repeat (first | assumption | exact Ext.refl _ | refine Ext.drew ?_ | refine Ext.alloc ?_ _ | refine Ext.trans ?_ (by assumption)))
  refine Wp.seqRegion (.inl rfl) (by kernel_rfl) fun K' gd hK hg => ?_
  clear hg
  go_simp
  refine hK _ _ ?_
  clear hK K' gd
  refine Wp.keep [1, 2] fun r2 hkeep => ?_
  obtain ⟨e1_2, e2_2, -⟩ := hkeep
  simp [go_sem, e0_1] at e1_2 e2_2
  clear e0_1
  generalize (w.alloc (.cells #[.slice A1 n1 c1, .slice A2 n2 c2] 25)).alloc (.cells #[.slice none 0 0, .int .i64 0] 43) = V at *
  have hV1 := hV.ext hEV
  refine Wp.seqRegion (.inl rfl) (by kernel_rfl) fun K' gd hK hg => ?_
  clear hg
  go_simp
  refine Wcall (.inl rfl) (refCheck_c _ o _ hV1 hf) ?_
  rintro v w2 ⟨rfl, hE2⟩
  have fz := fz_ext hE2 (b := w.heap.size + 1) (cell_lt y0) fz
  have x0 := hE2.cell x0
  have x1 := hE2.cell x1
  have y0 := hE2.cell y0
  have y1 := hE2.cell y1
  have hV2 := hV1.ext hE2
  go_simp
  refine hK _ _ ?_
  clear hK K' gd
  refine Wp.keep [1, 2, 3] fun r3 hkeep => ?_
  obtain ⟨e1_3, e2_3, e3_3, -⟩ := hkeep
  simp [go_sem, e1_2, e2_2] at e1_3 e2_3 e3_3
  clear e1_2 e2_2
  by_cases h0 : checkS o = 0
  · skip
    refine Wp.seq ?_
    refine Wp.seqRegion (.inl rfl) (by kernel_rfl) fun K' gd hK hg => ?_
    clear hg
    go_simp
    refine hK _ _ ?_
    clear hK K' gd
    refine Wp.keep [1, 2, 3, 13] fun r4 hkeep => ?_
    obtain ⟨e1_4, e2_4, e3_4, e13_4, -⟩ := hkeep
    simp [go_sem, e1_3, e2_3, e3_3] at e1_4 e2_4 e3_4 e13_4
    clear e1_3 e2_3 e3_3
    refine Wp.condF (by go_simp) ?_
    have hg := checkS_zero.1 h0
    have ho := hg.ok
    have hm := ho.hm2
    have hm1 := ho.hm1
    have hn := ho.hn2
    obtain ⟨p, hcv, hrv, hO⟩ := hV2.ordF2 hg
    simp only [OA.cv, OA.rv] at hcv hrv
    injection hcv with p1 p2 p3
    injection hrv with p4 p5 p6
    subst p1 p2 p3 p4 p5 p6
    refine Wp.skip ?_
    refine thenK_normal ?_
    refine Wp.seqRegion (.inl rfl) (by kernel_rfl) fun K' gd hK hg => ?_
    clear hg
    go_simp
    refine Wcall (.inl rfl) (timesR_c p o _ hO) ?_
    rintro v3 w3 ⟨hT, hE3⟩
    have fz := fz_ext hE3 (b := w.heap.size + 1) (cell_lt y0) fz
    have x0 := hE3.cell x0
    have x1 := hE3.cell x1
    have y0 := hE3.cell y0
    have y1 := hE3.cell y1
    have hT := hT.tabV
    have hO3 := hO.ext hE3
    go_simp
    refine hK _ _ ?_
    clear hK K' gd
    refine Wp.keep [1, 2, 4] fun r5 hkeep => ?_
    obtain ⟨e1_5, e2_5, e4_5, -⟩ := hkeep
    simp [go_sem, e1_4, e2_4, e3_4, e13_4] at e1_5 e2_5 e4_5
    clear e1_4 e2_4 e3_4 e13_4
    refine Wp.seqRegion (.inl rfl) (by kernel_rfl) fun K' gd hK hg => ?_
    clear hg
    go_simp
    refine hK _ _ ?_
    clear hK K' gd
    refine Wp.keep [1, 2, 4, 5] fun r6 hkeep => ?_
    obtain ⟨e1_6, e2_6, e4_6, e5_6, -⟩ := hkeep
    simp [go_sem, e1_5, e2_5, e4_5] at e1_6 e2_6 e4_6 e5_6
    clear e1_5 e2_5 e4_5
    refine Wp.seq ?_
    refine Wp.seqRegion (.inl rfl) (by kernel_rfl) fun K' gd hK hg => ?_
    clear hg
    go_simp
    refine hK _ _ ?_
    clear hK K' gd
    refine Wp.keep [1, 2, 4, 5, 6] fun r7 hkeep => ?_
    obtain ⟨e1_7, e2_7, e4_7, e5_7, e6_7, -⟩ := hkeep
    simp [go_sem, e1_6, e2_6, e4_6, e5_6] at e1_7 e2_7 e4_7 e5_7 e6_7
    clear e1_6 e2_6 e4_6 e5_6
    refine Wp.block ?_
    refine Wp.loop (fun k ρ ds wk => AllEq [1, 2, 4] ρ r7 ∧ ds = [] ∧ (∃ v5, ρ 6 = .int .i64 (k : Int) ∧ ρ 5 = v5 ∧ OwnI wk w3.heap.size v5 ((idleL o).take k) ∧ Ext w3 wk)) (o.m) ?_ ?_
    · refine ⟨AllEq.refl _ _, rfl, ?_⟩
      exact ⟨_, by rw [e6_7]; rfl, e5_7, World.ownsRow_nil _ _ _ _, Ext.refl _⟩
    · rintro k r8 _ wk hk ⟨hA, rfl, ⟨v5, e6, e5, hL, hEk⟩⟩
      obtain ⟨e1_8, e2_8, e4_8, -⟩ := hA
      rw [e1_7] at e1_8
      rw [e2_7] at e2_8
      rw [e4_7] at e4_8
      have hlt3 := cell_lt y0
      have fz := fz_ext hEk (b := w.heap.size + 1) (cell_lt y0) fz
      have x0 := hEk.cell x0
      have x1 := hEk.cell x1
      have y0 := hEk.cell y0
      have y1 := hEk.cell y1
      have hOk := hO3.ext hEk
      have hEwk : Ext w wk := Ext.trans hEV (Ext.trans hE2 (Ext.trans hE3 hEk))
      refine Wp.seq ?_
      refine Wp.seqRegion (.inl rfl) (by kernel_rfl) fun K' gd hK hg => ?_
      clear hg
      go_simp
      refine hK _ _ ?_
      clear hK K' gd
      refine Wp.keep [1, 2, 4, 5, 6, 22] fun r9 hkeep => ?_
      obtain ⟨e1_9, e2_9, e4_9, e5_9, e6_9, e22_9, -⟩ := hkeep
      simp [go_sem, e1_8, e2_8, e4_8, e5, e6] at e1_9 e2_9 e4_9 e5_9 e6_9 e22_9
      clear e1_8 e2_8 e4_8 e5 e6
      by_cases h : k < o.m
      · refine Wp.condT (by go_simp) ?_
        have b1 : (k : Int) < (o.m : Int) := by omega
        have cC := hOk.hC k h
        have vC := ho.vC k h
        obtain ⟨f, hfe⟩ : ∃ f, (fun x => gapV o (x, k)) = f := ⟨_, rfl⟩
        have hgk := gapQ_ok ho h
        rw [hfe] at hgk
        have hid : ∃ _u : Unit, idleA o (stintsL o.n o.m) k = sumQ f (o.n - (o.C k).toNat) := ⟨(), by (rw [idle_sumQ h, hfe])⟩
        have hfx : ∀ x, f x = gapV o (x, k) := fun x => by (rw [← hfe])
        clear hfe
        refine Wp.skip ?_
        refine thenK_normal ?_
        refine Wp.seq ?_
        refine Wp.block ?_
        refine Wp.seqRegion (.inl rfl) (by kernel_rfl) fun K' gd hK hg => ?_
        clear hg
        go_simp
        refine hK _ _ ?_
        clear hK K' gd
        refine Wp.keep [1, 2, 4, 5, 6, 7] fun r10 hkeep => ?_
        obtain ⟨e1_10, e2_10, e4_10, e5_10, e6_10, e7_10, -⟩ := hkeep
        simp [go_sem, e1_9, e2_9, e4_9, e5_9, e6_9, e22_9] at e1_10 e2_10 e4_10 e5_10 e6_10 e7_10
        clear e1_9 e2_9 e4_9 e5_9 e6_9 e22_9
        refine Wp.seq ?_
        refine Wp.seqRegion (.inl rfl) (by kernel_rfl) fun K' gd hK hg => ?_
        clear hg
        go_simp
        refine hK _ _ ?_
        clear hK K' gd
        refine Wp.keep [1, 2, 4, 5, 6, 7, 8] fun r11 hkeep => ?_
        obtain ⟨e1_11, e2_11, e4_11, e5_11, e6_11, e7_11, e8_11, -⟩ := hkeep
        simp [go_sem, e1_10, e2_10, e4_10, e5_10, e6_10, e7_10] at e1_11 e2_11 e4_11 e5_11 e6_11 e7_11 e8_11
        clear e1_10 e2_10 e4_10 e5_10 e6_10 e7_10
        refine Wp.block ?_
        refine Wp.loop (fun q ρ ds wq => AllEq [1, 2, 4, 5, 6] ρ r11 ∧ ds = [] ∧ (ρ 8 = .int .i64 (o.C k + (q : Int)) ∧ ρ 7 = .int .i64 (sumQ f q) ∧ Ext wk wq)) (o.n - (o.C k).toNat) ?_ ?_
        · refine ⟨AllEq.refl _ _, rfl, ?_⟩
          exact ⟨by rw [e8_11]; congr 1; omega, by rw [e7_11]; rfl, (by repeat (first | assumption | exact Ext.refl _ | refine Ext.drew ?_ | refine Ext.alloc ?_ _ | refine Ext.trans ?_ (by assumption)))⟩
        · rintro q r12 _ wq hq ⟨hA, rfl, ⟨e8, e7, hEq⟩⟩
          obtain ⟨e1_12, e2_12, e4_12, e5_12, e6_12, -⟩ := hA
          rw [e1_11] at e1_12
          rw [e2_11] at e2_12
          rw [e4_11] at e4_12
          rw [e5_11] at e5_12
          rw [e6_11] at e6_12
          have z0 := hEq.cell x0
          have z1 := hEq.cell x1
          have hOq := hOk.ext hEq
          refine Wp.seq ?_
          refine Wp.seqRegion (.inl rfl) (by kernel_rfl) fun K' gd hK hg => ?_
          clear hg
          go_simp
          refine hK _ _ ?_
          clear hK K' gd
          refine Wp.keep [1, 2, 4, 5, 6, 7, 8, 34] fun r13 hkeep => ?_
          obtain ⟨e1_13, e2_13, e4_13, e5_13, e6_13, e7_13, e8_13, e34_13, -⟩ := hkeep
          simp [go_sem, e1_12, e2_12, e4_12, e5_12, e6_12, e7, e8] at e1_13 e2_13 e4_13 e5_13 e6_13 e7_13 e8_13 e34_13
          clear e1_12 e2_12 e4_12 e5_12 e6_12 e7 e8
          by_cases h2 : o.C k + (q : Int) < (o.n : Int)
          · refine Wp.condT (by go_simp) ?_
            obtain ⟨x, hxq⟩ : ∃ x : Nat, (x : Int) = o.C k + (q : Int) := ⟨(o.C k).toNat + q, by omega⟩
            have hx : x < o.n := by omega
            have hq : q < o.n := by omega
            have hrA := hOq.hr (by omega)
            rw [← hxq] at e8_13 h2
            have hxq2 : ∃ _u : Unit, (x : Int) = o.C k + (q : Int) := ⟨(), hxq⟩
            have hwb : IntKind.i64.wrap ((x : Int) - o.C k) = (q : Int) := by (rw [IntWalk.i64_in _ (by omega)]; omega)
            have b2 : (q : Int) < (o.n : Int) := by omega
            have cC := hEq.cell cC
            have cT := hOq.hT q hq
            have cTT := hOq.hTT q k hq h
            have vT := ho.vT q k hq h
            have vb1 := begA_ok ho hx h
            have vb2 := begA_ok ho hq h
            obtain ⟨bt, obt, ct, rbt, rot, rct, rfl, hG⟩ := tabG_of ((hT.ext hEk).ext hEq) (by omega) (by omega)
            have g1 := hG.row x hx
            have g2 := hG.cell x k hx h
            have g3 := hG.row q hq
            have g4 := hG.cell q k hq h
            have hgq := hgk q (by omega)
            have hsn : ∃ _u : Unit, sumQ f (q + 1) = sumQ f q + (begA o x k - (begA o q k + o.T q k)) := ⟨(), by (show sumQ f q + f q = _; rw [hfx]; unfold gapV; dsimp only; rw [show q + (o.C k).toNat = x by omega])⟩
            obtain ⟨D, hD⟩ : ∃ D, sumQ f q = D := ⟨_, rfl⟩
            rw [hD] at hsn hgq e7_13
            clear hD hxq
            have hw1 : IntKind.i64.wrap (D + begA o x k) = D + begA o x k := IntWalk.i64_in _ (by omega)
            have hw2 : IntKind.i64.wrap (D + begA o x k - begA o q k) = D + begA o x k - begA o q k := IntWalk.i64_in _ (by omega)
            refine Wp.skip ?_
            refine thenK_normal ?_
            refine Wp.seq ?_
            refine Wp.block ?_
            refine Wp.seqRegion (.inl rfl) (by kernel_rfl) fun K' gd hK hg => ?_
            clear hg
            go_simp
            refine hK _ _ ?_
            clear hK K' gd
            refine Wp.keep [1, 2, 4, 5, 6, 7, 8, 9] fun r14 hkeep => ?_
            obtain ⟨e1_14, e2_14, e4_14, e5_14, e6_14, e7_14, e8_14, e9_14, -⟩ := hkeep
            simp [go_sem, e1_13, e2_13, e4_13, e5_13, e6_13, e7_13, e8_13, e34_13] at e1_14 e2_14 e4_14 e5_14 e6_14 e7_14 e8_14 e9_14
            clear e1_13 e2_13 e4_13 e5_13 e6_13 e7_13 e8_13 e34_13
            refine Wp.loneDraw (.inl rfl) mixed [([0, 1, 2, 3, 4], none), ([5, 6, 7, 8, 9], none), ([10, 11, 12, 13, 14], none), ([15, 16, 17, 18, 19], none), ([20, 21, 22, 23, 24], none), ([25, 26, 27], none)] (by kernel_rfl) fun K' gd hK hg => ?_
            clear hg
            simp only [pick, nth, List.map_cons, List.map_nil, Option.map_none, Option.map_some]
            apply Mops.none
            · intro w' hE'
              have hC' := hE'.cellsS
              go_simp
              with_reducible rfl
            apply Mops.none
            · intro w' hE'
              have hC' := hE'.cellsS
              go_simp
              with_reducible rfl
            apply Mops.none
            · intro w' hE'
              have hC' := hE'.cellsS
              go_simp
              with_reducible rfl
            apply Mops.none
            · intro w' hE'
              have hC' := hE'.cellsS
              go_simp
              with_reducible rfl
            apply Mops.none
            · intro w' hE'
              have hC' := hE'.cellsS
              go_simp
              with_reducible rfl
            apply Mops.none
            · intro w' hE'
              have hC' := hE'.cellsS
              go_simp
              with_reducible rfl
            refine Mops.done ?_
            refine hK _ _ ?_
            clear hK K' gd
            refine Ends.keep [1, 2, 4, 5, 6, 7, 8] fun r15 hkeep => ?_
            obtain ⟨e1_15, e2_15, e4_15, e5_15, e6_15, e7_15, e8_15, -⟩ := hkeep
            simp [go_sem, e1_14, e2_14, e4_14, e5_14, e6_14, e7_14, e8_14, e9_14] at e1_15 e2_15 e4_15 e5_15 e6_15 e7_15 e8_15
            clear e1_14 e2_14 e4_14 e5_14 e6_14 e7_14 e8_14 e9_14
            refine Ends.mk ?_
            refine blockK_normal ?_
            refine thenK_normal ?_
            refine Wp.loneRegion (.inl rfl) (by kernel_rfl) fun K' gd hK hg => ?_
            clear hg
            go_simp
            refine hK _ _ ?_
            clear hK K' gd
            refine Ends.keep [1, 2, 4, 5, 6, 7, 8] fun r16 hkeep => ?_
            obtain ⟨e1_16, e2_16, e4_16, e5_16, e6_16, e7_16, e8_16, -⟩ := hkeep
            simp [go_sem, e1_15, e2_15, e4_15, e5_15, e6_15, e7_15, e8_15] at e1_16 e2_16 e4_16 e5_16 e6_16 e7_16 e8_16
            clear e1_15 e2_15 e4_15 e5_15 e6_15 e7_15 e8_15
            refine Ends.mk ?_
            refine thenK_normal ⟨by omega, ⟨by rw [e1_16, e1_11], by rw [e2_16, e2_11], by rw [e4_16, e4_11], by rw [e5_16, e5_11], by rw [e6_16, e6_11], trivial⟩, rfl, ?_⟩
            obtain ⟨-, hsn⟩ := hsn
            obtain ⟨-, hxq⟩ := hxq2
            exact ⟨by rw [e8_16, IntWalk.i64_in _ (by omega)]; congr 1; omega, by rw [e7_16, hsn, IntWalk.i64_in _ (by omega)]; congr 1; omega, (by repeat (first | assumption | exact Ext.refl _ | refine Ext.drew ?_ | refine Ext.alloc ?_ _ | refine Ext.trans ?_ (by assumption)))⟩
          · refine Wp.condF (by go_simp) ?_
            obtain ⟨-, hid'⟩ := hid
            obtain rfl : q = o.n - (o.C k).toNat := by omega
            rw [← hid'] at e7_13
            clear hid'
            refine Wp.exit ?_
            refine thenK_exit ?_
            refine thenK_exit ?_
            refine blockK_here ?_
            refine thenK_normal ?_
            refine Wp.loneRegion (.inl rfl) (by kernel_rfl) fun K' gd hK hg => ?_
            clear hg
            refine Wops.cut 3 fun K1 hK1 => ?_
            simp only [List.take_succ_cons, List.take_zero]
            go_simp
            refine hK1 _ _ ?_
            clear hK1 K1
            simp only [List.drop_succ_cons, List.drop_zero]
            obtain ⟨v', w', hrun, hown, hgr, -⟩ := app_run ints_T (ownsRow_ext hL (show Ext wk (wq.alloc (.cells #[.int .i64 (idleA o (stintsL o.n o.m) k)] 3)) from (by repeat (first | assumption | exact Ext.refl _ | refine Ext.drew ?_ | refine Ext.alloc ?_ _ | refine Ext.trans ?_ (by assumption))))) ⟨wq.heap.size, 0, none⟩ 1 1 [.int .i64 (idleA o (stintsL o.n o.m) k)] 22 rfl (news_one (cell_nw wq #[.int .i64 (idleA o (stintsL o.n o.m) k)] 3 0)) (one_one rfl) (by rw [List.length_take]; omega) (by have e1 := Below.size hEk; have e2 := Below.size hEq; simp; omega)
            refine Wops.law rfl (exec_append2 rfl hrun (by go_simp) (by go_simp)) ?_
            go_simp
            refine hK _ _ ?_
            clear hK K' gd
            refine Ends.keep [1, 2, 4, 5, 6] fun r17 hkeep => ?_
            obtain ⟨e1_17, e2_17, e4_17, e5_17, e6_17, -⟩ := hkeep
            simp [go_sem, e1_13, e2_13, e4_13, e5_13, e6_13, e7_13, e8_13, e34_13] at e1_17 e2_17 e4_17 e5_17 e6_17
            clear e1_13 e2_13 e4_13 e5_13 e6_13 e7_13 e8_13 e34_13
            refine Ends.mk ?_
            refine blockK_normal ?_
            refine thenK_normal ?_
            refine Wp.loneRegion (.inl rfl) (by kernel_rfl) fun K' gd hK hg => ?_
            clear hg
            go_simp
            refine hK _ _ ?_
            clear hK K' gd
            refine Ends.keep [1, 2, 4, 5, 6] fun r18 hkeep => ?_
            obtain ⟨e1_18, e2_18, e4_18, e5_18, e6_18, -⟩ := hkeep
            simp [go_sem, e1_17, e2_17, e4_17, e5_17, e6_17] at e1_18 e2_18 e4_18 e5_18 e6_18
            clear e1_17 e2_17 e4_17 e5_17 e6_17
            refine Ends.mk ?_
            refine thenK_normal ⟨by omega, ⟨by rw [e1_18, e1_7], by rw [e2_18, e2_7], by rw [e4_18, e4_7], trivial⟩, rfl, ?_⟩
            refine ⟨v', by rw [e6_18, IntWalk.i64_in _ (by omega)]; rfl, e5_18, ?_, Below.grown (show Ext w3 (wq.alloc (.cells #[.int .i64 (idleA o (stintsL o.n o.m) k)] 3)) from (by repeat (first | assumption | exact Ext.refl _ | refine Ext.drew ?_ | refine Ext.alloc ?_ _ | refine Ext.trans ?_ (by assumption)))) (ownsRow_ext hL (show Ext wk (wq.alloc (.cells #[.int .i64 (idleA o (stintsL o.n o.m) k)] 3)) from (by repeat (first | assumption | exact Ext.refl _ | refine Ext.drew ?_ | refine Ext.alloc ?_ _ | refine Ext.trans ?_ (by assumption))))) hgr (Nat.le_refl _) (Nat.le_refl _)⟩
            have ht : (idleL o).take (k + 1) = (idleL o).take k ++ [idleA o (stintsL o.n o.m) k] := map_range_take (idleA o (stintsL o.n o.m)) h
            rw [ht]; exact OwnI.push hown
      · refine Wp.condF (by go_simp) ?_
        obtain rfl : k = o.m := by omega
        have hlt := cell_lt y0
        have f0 := fz 0
        have f1 := fz 1
        rw [List.take_of_length_le (by simp [idleL])] at hL
        obtain ⟨A5, c5, rfl⟩ := hL.slice
        refine Wp.exit ?_
        refine thenK_exit ?_
        refine thenK_exit ?_
        refine blockK_here ?_
        refine thenK_normal ?_
        refine Wp.seqRegion (.inl rfl) (by kernel_rfl) fun K' gd hK hg => ?_
        clear hg
        go_simp
        refine hK _ _ ?_
        clear hK K' gd
        refine Wp.keep [2] fun r19 hkeep => ?_
        obtain ⟨e2_19, -⟩ := hkeep
        simp [go_sem, e1_9, e2_9, e4_9, e5_9, e6_9, e22_9] at e2_19
        clear e1_9 e2_9 e4_9 e5_9 e6_9 e22_9
        refine Wp.ret ?_
        refine endK_cell (v := .agg #[.slice A5 (idleL o).length c5, .int .i64 0]) Tryz.results19 (by decide) e2_19 (by go_simp) ?_
        refine ⟨_, by rw [h0], ?_, (by repeat (first | assumption | exact Ext.refl _ | refine Ext.drew ?_ | refine Ext.alloc ?_ _ | refine Ext.setC ?_ (by omega) _ | refine Ext.trans ?_ (by assumption)))⟩
        rw [if_pos h0]
        exact OwnI.intsV (own_set (own_set hL hlt3) hlt3)
  · skip
    refine Wp.seq ?_
    refine Wp.seqRegion (.inl rfl) (by kernel_rfl) fun K' gd hK hg => ?_
    clear hg
    go_simp
    refine hK _ _ ?_
    clear hK K' gd
    refine Wp.keep [1, 2, 3, 13] fun r20 hkeep => ?_
    obtain ⟨e1_20, e2_20, e3_20, e13_20, -⟩ := hkeep
    simp [go_sem, e1_3, e2_3, e3_3] at e1_20 e2_20 e3_20 e13_20
    clear e1_3 e2_3 e3_3
    refine Wp.condT (by go_simp) ?_
    have f0 := fz 0
    have f1 := fz 1
    have hlt := cell_lt y0
    refine Wp.seqRegion (.inl rfl) (by kernel_rfl) fun K' gd hK hg => ?_
    clear hg
    go_simp
    refine hK _ _ ?_
    clear hK K' gd
    refine Wp.keep [2] fun r21 hkeep => ?_
    obtain ⟨e2_21, -⟩ := hkeep
    simp [go_sem, e1_20, e2_20, e3_20, e13_20] at e2_21
    clear e1_20 e2_20 e3_20 e13_20
    refine Wp.ret ?_
    refine thenK_ret ?_
    refine endK_cell (v := .agg #[.slice none 0 0, .int .i64 (checkS o)]) Tryz.results19 (by decide) e2_21 (by go_simp) ?_
    refine ⟨_, rfl, by rw [if_neg h0]; exact intsV_nil _ _, (by repeat (first | assumption | exact Ext.refl _ | refine Ext.drew ?_ | refine Ext.alloc ?_ _ | refine Ext.setC ?_ (by omega) _ | refine Ext.trans ?_ (by assumption)))⟩
end Go.Proofs.YtnfagcccgmakdaaGreat
namespace Go.Proofs.YtnfagcccgmakdaaGreat
open Go.RowKit Go.Wk Go.Proofs
attribute [local irreducible] Go.Wk.Wops Go.Wk.Wp Go.Wk.Mtree Go.Wk.Mops
set_option maxHeartbeats 4000000

theorem slackR_c (a : OA) (o : Ord) (i j : Nat) (w : World) (hO : OrdF w w.heap.size a o) (hi : i < o.n) (hj : j < o.m) :
    CallsV Tryz.prog 84 #[.agg #[a.cv o, a.rv o], .agg #[.int .i64 (i : Int), .int .i64 (j : Int)]] w fun v w' => v = .int .i64 (slackV o i j) ∧ Ext w w' := by
  have ho := hO.ok
  have hm := hO.hm2
  have hm1 := hO.hm1
  have hn := hO.hn2
  have hend := endS_ok ho
  have hlo := lst_ok (d := endS o) ho hi hj
  rw [← lstA_eq hi hj] at hlo
  have hbo := begA_ok ho hi hj
  have hwr : IntKind.i64.wrap (lstA o (endS o) i j - begA o i j) = slackV o i j := IntWalk.i64_in _ (by omega)
  have b1 : (i : Int) < (o.n : Int) := by omega
  have b2 : (j : Int) < (o.m : Int) := by omega
  simp only [OA.cv, OA.rv]
  refine Wp.fn Tryz.func84 rfl Tryz.ntmps84 (by simp) ?_
  refine Wp.keep [0, 1] fun r1 hkeep => ?_
  obtain ⟨e0_1, e1_1, -⟩ := hkeep
  simp [go_sem] at e0_1 e1_1
  have x0 := cell_al (.cells #[.int .i64 (i : Int), .int .i64 (j : Int)] 56) (cell_nn w #[.slice (some ⟨a.cb, a.co, none⟩) o.m a.cc, .slice a.rA o.n a.rc] 25 0 rfl (v := .slice (some ⟨a.cb, a.co, none⟩) o.m a.cc) rfl)
  have x1 := cell_al (.cells #[.int .i64 (i : Int), .int .i64 (j : Int)] 56) (cell_nn w #[.slice (some ⟨a.cb, a.co, none⟩) o.m a.cc, .slice a.rA o.n a.rc] 25 1 rfl (v := .slice a.rA o.n a.rc) rfl)
  have y0 := cell_nn (w.alloc (.cells #[.slice (some ⟨a.cb, a.co, none⟩) o.m a.cc, .slice a.rA o.n a.rc] 25)) #[.int .i64 (i : Int), .int .i64 (j : Int)] 56 0 (n := w.heap.size + 1) (by simp) (v := .int .i64 (i : Int)) rfl
  have y1 := cell_nn (w.alloc (.cells #[.slice (some ⟨a.cb, a.co, none⟩) o.m a.cc, .slice a.rA o.n a.rc] 25)) #[.int .i64 (i : Int), .int .i64 (j : Int)] 56 1 (n := w.heap.size + 1) (by simp) (v := .int .i64 (j : Int)) rfl
  have hEV : Ext w ((w.alloc (.cells #[.slice (some ⟨a.cb, a.co, none⟩) o.m a.cc, .slice a.rA o.n a.rc] 25)).alloc (.cells #[.int .i64 (i : Int), .int .i64 (j : Int)] 56)) := (by repeat (first | assumption | exact Ext.refl _ | refine Ext.drew ?_ | refine Ext.alloc ?_ _ | refine Ext.trans ?_ (by assumption)))
  refine Wp.seqRegion (.inl rfl) (by kernel_rfl) fun K' gd hK hg => ?_
  clear hg
  go_simp
  refine hK _ _ ?_
  clear hK K' gd
  refine Wp.keep [2, 3] fun r2 hkeep => ?_
  obtain ⟨e2_2, e3_2, -⟩ := hkeep
  simp [go_sem, e0_1, e1_1] at e2_2 e3_2
  clear e0_1 e1_1
  generalize (w.alloc (.cells #[.slice (some ⟨a.cb, a.co, none⟩) o.m a.cc, .slice a.rA o.n a.rc] 25)).alloc (.cells #[.int .i64 (i : Int), .int .i64 (j : Int)] 56) = V at *
  have hOV := hO.ext hEV
  refine Wp.seqDraw (.inl rfl) mixed [([0, 1, 4, 5, 8], none), ([9, 12, 14, 15, 18], none), ([19], some (2, false)), ([], some (3, false)), ([6, 7, 10, 11], some (13, false)), ([16, 17, 20, 21, 22], none), ([23], none)] (by kernel_rfl) fun K' gd hK hg => ?_
  clear hg
  simp only [pick, nth, List.map_cons, List.map_nil, Option.map_none, Option.map_some]
  apply Mops.none
  · intro w' hE'
    have hC' := hE'.cellsS
    go_simp
    with_reducible rfl
  apply Mops.none
  · intro w' hE'
    have hC' := hE'.cellsS
    go_simp
    with_reducible rfl
  apply Mops.act
  · intro w' hE'
    have hC' := hE'.cellsS
    go_simp
    with_reducible rfl
  intro K1 hK1
  go_simp
  refine Wcall (.inl rfl) (endR_c a o _ (hOV.ext (by repeat (first | assumption | exact Ext.refl _ | refine Ext.drew ?_ | refine Ext.alloc ?_ _ | refine Ext.trans ?_ (by assumption))))) ?_
  rintro v w2 ⟨rfl, hE2⟩
  have hEV2 := Ext.trans ((Ext.refl V).drew) hE2
  have x0 := hEV2.cell x0
  have x1 := hEV2.cell x1
  have y0 := hEV2.cell y0
  have y1 := hEV2.cell y1
  go_simp
  refine hK1 _ _ (by first | assumption | exact Ext.refl _) ?_
  clear hK1 K1
  apply Mops.act
  · exact fun _ _ => Rops_done
  intro K1 hK1
  go_simp
  refine Wcall (.inl rfl) (latestR_c a o (endS o) _ (hOV.ext (by repeat (first | assumption | exact Ext.refl _ | refine Ext.drew ?_ | refine Ext.alloc ?_ _ | refine Ext.trans ?_ (by assumption)))) (by omega)) ?_
  rintro v3 w3 ⟨hT3, hE3⟩
  have x0 := hE3.cell x0
  have x1 := hE3.cell x1
  have y0 := hE3.cell y0
  have y1 := hE3.cell y1
  obtain ⟨bt, obt, ct, rbt, rot, rct, rfl, hG⟩ := tabG_of hT3.tabV (by omega) (by omega)
  have g1 := hG.row i hi
  have g2 := hG.cell i j hi hj
  go_simp
  refine hK1 _ _ (by first | assumption | exact Ext.refl _) ?_
  clear hK1 K1
  apply Mops.act
  · intro w' hE'
    have hC' := hE'.cellsS
    go_simp
    with_reducible rfl
  intro K1 hK1
  go_simp
  refine Wcall (.inl rfl) (timesR_c a o _ (hOV.ext (by repeat (first | assumption | exact Ext.refl _ | refine Ext.drew ?_ | refine Ext.alloc ?_ _ | refine Ext.trans ?_ (by assumption))))) ?_
  rintro v4 w4 ⟨hT4, hE4⟩
  have y0 := hE4.cell y0
  have y1 := hE4.cell y1
  have g1 := hE4.cell g1
  have g2 := hE4.cell g2
  obtain ⟨bu, obu, cu, rbu, rou, rcu, rfl, hH⟩ := tabG_of hT4.tabV (by omega) (by omega)
  have g3 := hH.row i hi
  have g4 := hH.cell i j hi hj
  go_simp
  refine hK1 _ _ (by first | assumption | exact Ext.refl _) ?_
  clear hK1 K1
  apply Mops.none
  · intro w' hE'
    have hC' := hE'.cellsS
    go_simp
    with_reducible rfl
  apply Mops.none
  · intro w' hE'
    have hC' := hE'.cellsS
    go_simp
    with_reducible rfl
  refine Mops.done ?_
  refine hK _ _ ?_
  clear hK K' gd
  refine Wp.keep [4] fun r3 hkeep => ?_
  obtain ⟨e4_3, -⟩ := hkeep
  simp [go_sem, e2_2, e3_2] at e4_3
  clear e2_2 e3_2
  refine Wp.ret ?_
  refine endK_tmp Tryz.results84 (by decide) ?_
  rw [e4_3]
  exact ⟨rfl, (by repeat (first | assumption | exact Ext.refl _ | refine Ext.drew ?_ | refine Ext.alloc ?_ _ | refine Ext.trans ?_ (by assumption)))⟩
theorem critSp_c (v : Value) (o : Ord) (w : World) (hV : OrderV w w.heap.size v o) (hf : Fits o) :
    CallsV Tryz.prog 23 #[v] w fun v w' => ∃ t, v = .agg #[t, .int .i64 (checkS o)] ∧ StintsV w' w'.heap.size t (if checkS o = 0 then critL o else []) ∧ Ext w w' := by
  obtain ⟨A1, n1, c1, A2, n2, c2, rfl, hV⟩ := hV.two
  refine Wp.fn Tryz.func23 rfl Tryz.ntmps23 (by simp) ?_
  refine Wp.keep [0] fun r1 hkeep => ?_
  obtain ⟨e0_1, -⟩ := hkeep
  simp [go_sem] at e0_1
  have x0 := cell_al (.cells #[.slice none 0 0, .int .i64 0] 49) (cell_nn w #[.slice A1 n1 c1, .slice A2 n2 c2] 25 0 rfl (v := .slice A1 n1 c1) rfl)
  have x1 := cell_al (.cells #[.slice none 0 0, .int .i64 0] 49) (cell_nn w #[.slice A1 n1 c1, .slice A2 n2 c2] 25 1 rfl (v := .slice A2 n2 c2) rfl)
  have y0 := cell_nn (w.alloc (.cells #[.slice A1 n1 c1, .slice A2 n2 c2] 25)) #[.slice none 0 0, .int .i64 0] 49 0 (n := w.heap.size + 1) (by simp) (v := .slice none 0 0) rfl
  have y1 := cell_nn (w.alloc (.cells #[.slice A1 n1 c1, .slice A2 n2 c2] 25)) #[.slice none 0 0, .int .i64 0] 49 1 (n := w.heap.size + 1) (by simp) (v := .int .i64 0) rfl
  have fz := frz_nw (w.alloc (.cells #[.slice A1 n1 c1, .slice A2 n2 c2] 25)) #[.slice none 0 0, .int .i64 0] 49 (n := w.heap.size + 1) (by simp)
  have hEV : Ext w ((w.alloc (.cells #[.slice A1 n1 c1, .slice A2 n2 c2] 25)).alloc (.cells #[.slice none 0 0, .int .i64 0] 49)) := (by repeat (first | assumption | exact Ext.refl _ | refine Ext.drew ?_ | refine Ext.alloc ?_ _ | refine Ext.trans ?_ (by assumption)))
  refine Wp.seqRegion (.inl rfl) (by kernel_rfl) fun K' gd hK hg => ?_
  clear hg
  go_simp
  refine hK _ _ ?_
  clear hK K' gd
  refine Wp.keep [1, 2] fun r2 hkeep => ?_
  obtain ⟨e1_2, e2_2, -⟩ := hkeep
  simp [go_sem, e0_1] at e1_2 e2_2
  clear e0_1
  generalize (w.alloc (.cells #[.slice A1 n1 c1, .slice A2 n2 c2] 25)).alloc (.cells #[.slice none 0 0, .int .i64 0] 49) = V at *
  have hV1 := hV.ext hEV
  refine Wp.seqRegion (.inl rfl) (by kernel_rfl) fun K' gd hK hg => ?_
  clear hg
  go_simp
  refine Wcall (.inl rfl) (refCheck_c _ o _ hV1 hf) ?_
  rintro v w2 ⟨rfl, hE2⟩
  have fz := fz_ext hE2 (b := w.heap.size + 1) (cell_lt y0) fz
  have x0 := hE2.cell x0
  have x1 := hE2.cell x1
  have y0 := hE2.cell y0
  have y1 := hE2.cell y1
  have hV2 := hV1.ext hE2
  go_simp
  refine hK _ _ ?_
  clear hK K' gd
  refine Wp.keep [1, 2, 3] fun r3 hkeep => ?_
  obtain ⟨e1_3, e2_3, e3_3, -⟩ := hkeep
  simp [go_sem, e1_2, e2_2] at e1_3 e2_3 e3_3
  clear e1_2 e2_2
  by_cases h0 : checkS o = 0
  · skip
    refine Wp.seq ?_
    refine Wp.seqRegion (.inl rfl) (by kernel_rfl) fun K' gd hK hg => ?_
    clear hg
    go_simp
    refine hK _ _ ?_
    clear hK K' gd
    refine Wp.keep [1, 2, 3, 10] fun r4 hkeep => ?_
    obtain ⟨e1_4, e2_4, e3_4, e10_4, -⟩ := hkeep
    simp [go_sem, e1_3, e2_3, e3_3] at e1_4 e2_4 e3_4 e10_4
    clear e1_3 e2_3 e3_3
    refine Wp.condF (by go_simp) ?_
    have hg := checkS_zero.1 h0
    have ho := hg.ok
    have hm := ho.hm2
    have hm1 := ho.hm1
    have hn := ho.hn2
    obtain ⟨p, hcv, hrv, hO⟩ := hV2.ordF2 hg
    simp only [OA.cv, OA.rv] at hcv hrv
    injection hcv with p1 p2 p3
    injection hrv with p4 p5 p6
    subst p1 p2 p3 p4 p5 p6
    refine Wp.skip ?_
    refine thenK_normal ?_
    refine Wp.seqRegion (.inl rfl) (by kernel_rfl) fun K' gd hK hg => ?_
    clear hg
    go_simp
    refine Wcall (.inl rfl) (stintsR_c _ _ o.n o.m _ _ _ (by omega) (by omega)) ?_
    rintro v4 w3 ⟨hL, hE3⟩
    have fz := fz_ext hE3 (b := w.heap.size + 1) (cell_lt y0) fz
    have x0 := hE3.cell x0
    have x1 := hE3.cell x1
    have y0 := hE3.cell y0
    have y1 := hE3.cell y1
    have hO3 := hO.ext hE3
    obtain ⟨AL, cL, rfl, hHc⟩ := HoldW.of hL.stintsV
    go_simp
    refine hK _ _ ?_
    clear hK K' gd
    refine Wp.keep [1, 2, 4] fun r5 hkeep => ?_
    obtain ⟨e1_5, e2_5, e4_5, -⟩ := hkeep
    simp [go_sem, e1_4, e2_4, e3_4, e10_4] at e1_5 e2_5 e4_5
    clear e1_4 e2_4 e3_4 e10_4
    have hEw3 : Ext w w3 := Ext.trans hEV (Ext.trans hE2 hE3)
    obtain ⟨L, hLe⟩ : ∃ L, stintsL o.n o.m = L := ⟨_, rfl⟩
    have hLm : ∀ x ∈ L, x.1 < o.n ∧ x.2 < o.m := fun x hx => stintsL_mem.1 (by rw [hLe]; exact hx)
    have hLl : L.length ≤ 300 := by (rw [← hLe, stintsL_len]; have := Nat.mul_le_mul hn hm; omega)
    rw [hLe] at hHc e4_5
    obtain ⟨q, hq⟩ : ∃ q, (fun x : Nat × Nat => decide (slackV o x.1 x.2 = 0)) = q := ⟨_, rfl⟩
    have hcr : ∃ _u : Unit, critL o = (L.filter q).map zS := ⟨(), by (unfold critL; rw [hLe, hq])⟩
    have hqx : ∀ x, q x = decide (slackV o x.1 x.2 = 0) := fun x => by (rw [← hq])
    clear hLe hL hE3 hq
    refine Wp.seqRegion (.inl rfl) (by kernel_rfl) fun K' gd hK hg => ?_
    clear hg
    go_simp
    refine hK _ _ ?_
    clear hK K' gd
    refine Wp.keep [1, 2, 4, 5] fun r6 hkeep => ?_
    obtain ⟨e1_6, e2_6, e4_6, e5_6, -⟩ := hkeep
    simp [go_sem, e1_5, e2_5, e4_5] at e1_6 e2_6 e4_6 e5_6
    clear e1_5 e2_5 e4_5
    refine Wp.seq ?_
    refine Wp.seqRegion (.inl rfl) (by kernel_rfl) fun K' gd hK hg => ?_
    clear hg
    go_simp
    refine hK _ _ ?_
    clear hK K' gd
    refine Wp.keep [1, 2, 4, 5, 6] fun r7 hkeep => ?_
    obtain ⟨e1_7, e2_7, e4_7, e5_7, e6_7, -⟩ := hkeep
    simp [go_sem, e1_6, e2_6, e4_6, e5_6] at e1_7 e2_7 e4_7 e5_7 e6_7
    clear e1_6 e2_6 e4_6 e5_6
    refine Wp.block ?_
    refine Wp.loop (fun i ρ ds wi => AllEq [1, 2, 4] ρ r7 ∧ ds = [] ∧ (∃ v5, ρ 6 = .int .i64 (i : Int) ∧ ρ 5 = v5 ∧ OwnS wi w3.heap.size v5 (((L.take i).filter q).map zS) ∧ Ext w3 wi)) (L.length) ?_ ?_
    · refine ⟨AllEq.refl _ _, rfl, ?_⟩
      exact ⟨_, by rw [e6_7]; rfl, e5_7, World.ownsRow_nil _ _ _ _, Ext.refl _⟩
    · rintro i r8 _ wi hi ⟨hA, rfl, ⟨v5, e6, e5, i1, hEi⟩⟩
      obtain ⟨e1_8, e2_8, e4_8, -⟩ := hA
      rw [e1_7] at e1_8
      rw [e2_7] at e2_8
      rw [e4_7] at e4_8
      have hlt3 := cell_lt y0
      have fz := fz_ext hEi (b := w.heap.size + 1) (cell_lt y0) fz
      have x0 := hEi.cell x0
      have x1 := hEi.cell x1
      have y0 := hEi.cell y0
      have y1 := hEi.cell y1
      have hOi := hO3.ext hEi
      have hEwi := Ext.trans hEw3 hEi
      refine Wp.seq ?_
      refine Wp.seqRegion (.inl rfl) (by kernel_rfl) fun K' gd hK hg => ?_
      clear hg
      go_simp
      refine hK _ _ ?_
      clear hK K' gd
      refine Wp.keep [1, 2, 4, 5, 6, 18] fun r9 hkeep => ?_
      obtain ⟨e1_9, e2_9, e4_9, e5_9, e6_9, e18_9, -⟩ := hkeep
      simp [go_sem, e1_8, e2_8, e4_8, e5, e6] at e1_9 e2_9 e4_9 e5_9 e6_9 e18_9
      clear e1_8 e2_8 e4_8 e5 e6
      by_cases h : i < L.length
      · refine Wp.condT (by go_simp) ?_
        obtain ⟨x, hx⟩ : ∃ x, L[i]? = some x := ⟨_, List.getElem?_eq_getElem h⟩
        obtain ⟨b1, o1, rfl, d1, d2⟩ := hHc i x hx
        obtain ⟨hx1, hx2⟩ := hLm x (List.mem_of_getElem? hx)
        have d1 := hEi.cell d1
        have d2 := hEi.cell d2
        have b3 : (i : Int) < (L.length : Int) := by omega
        have hft := filter_take q L hx
        have hlen : ((((L.take i).filter q).map zS).length) ≤ 1000 := by (rw [List.length_map]; have e1 := List.length_filter_le q (L.take i); rw [List.length_take] at e1; omega)
        have hft2 : ∃ _u : Unit, (L.take (i + 1)).filter q = (L.take i).filter q ++ (if decide (slackV o x.1 x.2 = 0) = true then [x] else []) := ⟨(), by rw [hft, hqx]⟩
        clear hft
        refine Wp.skip ?_
        refine thenK_normal ?_
        refine Wp.seq ?_
        refine Wp.block ?_
        refine Wp.seqDraw (.inl rfl) mixed [([0, 1, 2, 3, 4], some (5, false)), ([6], none)] (by kernel_rfl) fun K' gd hK hg => ?_
        clear hg
        simp only [pick, nth, List.map_cons, List.map_nil, Option.map_none, Option.map_some]
        apply Mops.act
        · intro w' hE'
          have hC' := hE'.cellsS
          go_simp
          with_reducible rfl
        intro K1 hK1
        go_simp
        refine Wcall (.inl rfl) (slackR_c p o x.1 x.2 _ (hOi.ext (by repeat (first | assumption | exact Ext.refl _ | refine Ext.drew ?_ | refine Ext.alloc ?_ _ | refine Ext.trans ?_ (by assumption)))) hx1 hx2) ?_
        rintro v w6 ⟨rfl, hE6⟩
        go_simp
        refine hK1 _ _ (by first | assumption | exact Ext.refl _) ?_
        clear hK1 K1
        apply Mops.none
        · intro w' hE'
          have hC' := hE'.cellsS
          go_simp
          with_reducible rfl
        refine Mops.done ?_
        refine hK _ _ ?_
        clear hK K' gd
        refine Wp.keep [1, 2, 4, 5, 6, 27] fun r10 hkeep => ?_
        obtain ⟨e1_10, e2_10, e4_10, e5_10, e6_10, e27_10, -⟩ := hkeep
        simp [go_sem, e1_9, e2_9, e4_9, e5_9, e6_9, e18_9] at e1_10 e2_10 e4_10 e5_10 e6_10 e27_10
        clear e1_9 e2_9 e4_9 e5_9 e6_9 e18_9
        obtain ⟨sl, hsl⟩ : ∃ sl, slackV o x.1 x.2 = sl := ⟨_, rfl⟩
        rw [hsl] at hft2 e27_10
        by_cases hs : sl = 0
        · skip
          refine Wp.condT (by go_simp) ?_
          have hs' : ∃ _u : Unit, sl = 0 := ⟨(), hs⟩
          clear hs
          have hEi6 : Ext wi w6 := Ext.trans ((Ext.refl wi).drew) hE6
          have d1 := hEi6.cell d1
          have d2 := hEi6.cell d2
          have i6 := ownsRow_ext i1 hEi6
          have hE36 : Ext w3 w6 := Ext.trans hEi hEi6
          refine Wp.loneRegion (.inl rfl) (by kernel_rfl) fun K' gd hK hg => ?_
          clear hg
          refine Wops.cut 6 fun K1 hK1 => ?_
          simp only [List.take_succ_cons, List.take_zero]
          go_simp
          refine hK1 _ _ ?_
          clear hK1 K1
          simp only [List.drop_succ_cons, List.drop_zero]
          obtain ⟨v', w', hrun, hown, hgr, -⟩ := app_run stints_T (ownsRow_ext i6 (by repeat (first | assumption | exact Ext.refl _ | refine Ext.drew ?_ | refine Ext.alloc ?_ _ | refine Ext.trans ?_ (by assumption)))) ⟨w6.heap.size, 0, none⟩ 1 1 [.int .i64 (x.1 : Int), .int .i64 (x.2 : Int)] 45 rfl (news_two (cell_nn _ _ _ 0 rfl rfl) (cell_nn _ _ _ 1 rfl rfl)) (oneCell_ints (by simp)) (by omega) (by have := Below.size hE36; simp; omega) (w := w6.alloc (.cells #[.int .i64 (x.1 : Int), .int .i64 (x.2 : Int)] 56))
          refine Wops.law rfl (exec_append2 rfl hrun (by go_simp) (by go_simp)) ?_
          go_simp
          refine hK _ _ ?_
          clear hK K' gd
          refine Ends.keep [1, 2, 4, 5, 6] fun r11 hkeep => ?_
          obtain ⟨e1_11, e2_11, e4_11, e5_11, e6_11, -⟩ := hkeep
          simp [go_sem, e1_10, e2_10, e4_10, e5_10, e6_10, e27_10] at e1_11 e2_11 e4_11 e5_11 e6_11
          clear e1_10 e2_10 e4_10 e5_10 e6_10 e27_10
          refine Ends.mk ?_
          refine blockK_normal ?_
          refine thenK_normal ?_
          refine Wp.loneRegion (.inl rfl) (by kernel_rfl) fun K' gd hK hg => ?_
          clear hg
          go_simp
          refine hK _ _ ?_
          clear hK K' gd
          refine Ends.keep [1, 2, 4, 5, 6] fun r12 hkeep => ?_
          obtain ⟨e1_12, e2_12, e4_12, e5_12, e6_12, -⟩ := hkeep
          simp [go_sem, e1_11, e2_11, e4_11, e5_11, e6_11] at e1_12 e2_12 e4_12 e5_12 e6_12
          clear e1_11 e2_11 e4_11 e5_11 e6_11
          refine Ends.mk ?_
          refine thenK_normal ⟨by omega, ⟨by rw [e1_12, e1_7], by rw [e2_12, e2_7], by rw [e4_12, e4_7], trivial⟩, rfl, ?_⟩
          refine ⟨v', by rw [e6_12, IntWalk.i64_in _ (by omega)]; rfl, e5_12, ?_, Below.grown (show Ext _ (w6.alloc (.cells #[.int .i64 (x.1 : Int), .int .i64 (x.2 : Int)] 56)) from hE36.alloc _) (ownsRow_ext i6 ((Ext.refl _).alloc _)) hgr (Nat.le_refl _) (Nat.le_refl _)⟩
          obtain ⟨-, hft⟩ := hft2
          obtain ⟨-, hs⟩ := hs'
          rw [hft, if_pos (decide_eq_true hs), List.map_append]
          show World.ownsRow _ _ _ _ _ _ _
          rw [show ([x] : List (Nat × Nat)).map zS = [((x.1 : Int), (x.2 : Int))] from rfl, encL_add, List.length_append]
          exact hown
        · skip
          refine Wp.condF (by go_simp) ?_
          refine Wp.skip ?_
          refine blockK_normal ?_
          refine thenK_normal ?_
          refine Wp.loneRegion (.inl rfl) (by kernel_rfl) fun K' gd hK hg => ?_
          clear hg
          go_simp
          refine hK _ _ ?_
          clear hK K' gd
          refine Ends.keep [1, 2, 4, 5, 6] fun r13 hkeep => ?_
          obtain ⟨e1_13, e2_13, e4_13, e5_13, e6_13, -⟩ := hkeep
          simp [go_sem, e1_10, e2_10, e4_10, e5_10, e6_10, e27_10] at e1_13 e2_13 e4_13 e5_13 e6_13
          clear e1_10 e2_10 e4_10 e5_10 e6_10 e27_10
          refine Ends.mk ?_
          refine thenK_normal ⟨by omega, ⟨by rw [e1_13, e1_7], by rw [e2_13, e2_7], by rw [e4_13, e4_7], trivial⟩, rfl, ?_⟩
          refine ⟨v5, by rw [e6_13, IntWalk.i64_in _ (by omega)]; rfl, e5_13, ?_, (by repeat (first | assumption | exact Ext.refl _ | refine Ext.drew ?_ | refine Ext.alloc ?_ _ | refine Ext.trans ?_ (by assumption)))⟩
          obtain ⟨-, hft⟩ := hft2
          rw [hft, if_neg (by rw [decide_eq_true_iff]; exact hs), List.append_nil]
          exact ownsRow_ext i1 (by repeat (first | assumption | exact Ext.refl _ | refine Ext.drew ?_ | refine Ext.alloc ?_ _ | refine Ext.trans ?_ (by assumption)))
      · refine Wp.condF (by go_simp) ?_
        obtain rfl : i = L.length := by omega
        have hlt := cell_lt y0
        have f0 := fz 0
        have f1 := fz 1
        rw [List.take_length] at i1
        obtain ⟨A9, c9, rfl⟩ := OwnS.slice i1
        refine Wp.exit ?_
        refine thenK_exit ?_
        refine thenK_exit ?_
        refine blockK_here ?_
        refine thenK_normal ?_
        refine Wp.seqRegion (.inl rfl) (by kernel_rfl) fun K' gd hK hg => ?_
        clear hg
        go_simp
        refine hK _ _ ?_
        clear hK K' gd
        refine Wp.keep [2] fun r14 hkeep => ?_
        obtain ⟨e2_14, -⟩ := hkeep
        simp [go_sem, e1_9, e2_9, e4_9, e5_9, e6_9, e18_9] at e2_14
        clear e1_9 e2_9 e4_9 e5_9 e6_9 e18_9
        refine Wp.ret ?_
        refine endK_cell (v := .agg #[.slice A9 (L.filter q).length c9, .int .i64 0]) Tryz.results23 (by decide) e2_14 (by go_simp) ?_
        refine ⟨_, by rw [h0], ?_, (by repeat (first | assumption | exact Ext.refl _ | refine Ext.drew ?_ | refine Ext.alloc ?_ _ | refine Ext.setC ?_ (by omega) _ | refine Ext.trans ?_ (by assumption)))⟩
        obtain ⟨-, hcr⟩ := hcr
        rw [if_pos h0, hcr]
        exact OwnS.stintsV (own_set (own_set i1 hlt3) hlt3)
  · skip
    refine Wp.seq ?_
    refine Wp.seqRegion (.inl rfl) (by kernel_rfl) fun K' gd hK hg => ?_
    clear hg
    go_simp
    refine hK _ _ ?_
    clear hK K' gd
    refine Wp.keep [1, 2, 3, 10] fun r15 hkeep => ?_
    obtain ⟨e1_15, e2_15, e3_15, e10_15, -⟩ := hkeep
    simp [go_sem, e1_3, e2_3, e3_3] at e1_15 e2_15 e3_15 e10_15
    clear e1_3 e2_3 e3_3
    refine Wp.condT (by go_simp) ?_
    have f0 := fz 0
    have f1 := fz 1
    have hlt := cell_lt y0
    refine Wp.seqRegion (.inl rfl) (by kernel_rfl) fun K' gd hK hg => ?_
    clear hg
    go_simp
    refine hK _ _ ?_
    clear hK K' gd
    refine Wp.keep [2] fun r16 hkeep => ?_
    obtain ⟨e2_16, -⟩ := hkeep
    simp [go_sem, e1_15, e2_15, e3_15, e10_15] at e2_16
    clear e1_15 e2_15 e3_15 e10_15
    refine Wp.ret ?_
    refine thenK_ret ?_
    refine endK_cell (v := .agg #[.slice none 0 0, .int .i64 (checkS o)]) Tryz.results23 (by decide) e2_16 (by go_simp) ?_
    refine ⟨_, rfl, by rw [if_neg h0]; exact stintsV_nil _ _, (by repeat (first | assumption | exact Ext.refl _ | refine Ext.drew ?_ | refine Ext.alloc ?_ _ | refine Ext.setC ?_ (by omega) _ | refine Ext.trans ?_ (by assumption)))⟩
theorem latestSp_c (v : Value) (o : Ord) (d : Int) (w : World) (hV : OrderV w w.heap.size v o) (hf : Fits o) :
    CallsV Tryz.prog 30 #[v, .int .i64 d] w fun v w' => ∃ t, v = .agg #[t, .int .i64 (latestE o d)] ∧ TabV w' w'.heap.size t (if latestE o d = 0 then tabL o (lstA o d) else []) ∧ Ext w w' := by
  obtain ⟨A1, n1, c1, A2, n2, c2, rfl, hV⟩ := hV.two
  refine Wp.fn Tryz.func30 rfl Tryz.ntmps30 (by simp) ?_
  refine Wp.keep [0, 1] fun r1 hkeep => ?_
  obtain ⟨e0_1, e1_1, -⟩ := hkeep
  simp [go_sem] at e0_1 e1_1
  have x0 := cell_al (.cells #[.slice none 0 0, .int .i64 0] 33) (cell_nn w #[.slice A1 n1 c1, .slice A2 n2 c2] 25 0 rfl (v := .slice A1 n1 c1) rfl)
  have x1 := cell_al (.cells #[.slice none 0 0, .int .i64 0] 33) (cell_nn w #[.slice A1 n1 c1, .slice A2 n2 c2] 25 1 rfl (v := .slice A2 n2 c2) rfl)
  have y0 := cell_nn (w.alloc (.cells #[.slice A1 n1 c1, .slice A2 n2 c2] 25)) #[.slice none 0 0, .int .i64 0] 33 0 (n := w.heap.size + 1) (by simp) (v := .slice none 0 0) rfl
  have y1 := cell_nn (w.alloc (.cells #[.slice A1 n1 c1, .slice A2 n2 c2] 25)) #[.slice none 0 0, .int .i64 0] 33 1 (n := w.heap.size + 1) (by simp) (v := .int .i64 0) rfl
  have fz := frz_nw (w.alloc (.cells #[.slice A1 n1 c1, .slice A2 n2 c2] 25)) #[.slice none 0 0, .int .i64 0] 33 (n := w.heap.size + 1) (by simp)
  have hEV : Ext w ((w.alloc (.cells #[.slice A1 n1 c1, .slice A2 n2 c2] 25)).alloc (.cells #[.slice none 0 0, .int .i64 0] 33)) := (by repeat (first | assumption | exact Ext.refl _ | refine Ext.drew ?_ | refine Ext.alloc ?_ _ | refine Ext.trans ?_ (by assumption)))
  refine Wp.seqRegion (.inl rfl) (by kernel_rfl) fun K' gd hK hg => ?_
  clear hg
  go_simp
  refine hK _ _ ?_
  clear hK K' gd
  refine Wp.keep [1, 2, 4] fun r2 hkeep => ?_
  obtain ⟨e1_2, e2_2, e4_2, -⟩ := hkeep
  simp [go_sem, e0_1, e1_1] at e1_2 e2_2 e4_2
  clear e0_1 e1_1
  generalize (w.alloc (.cells #[.slice A1 n1 c1, .slice A2 n2 c2] 25)).alloc (.cells #[.slice none 0 0, .int .i64 0] 33) = V at *
  have hV1 := hV.ext hEV
  refine Wp.seqRegion (.inl rfl) (by kernel_rfl) fun K' gd hK hg => ?_
  clear hg
  go_simp
  refine Wcall (.inl rfl) (refCheck_c _ o _ hV1 hf) ?_
  rintro v w2 ⟨rfl, hE2⟩
  have fz := fz_ext hE2 (b := w.heap.size + 1) (cell_lt y0) fz
  have x0 := hE2.cell x0
  have x1 := hE2.cell x1
  have y0 := hE2.cell y0
  have y1 := hE2.cell y1
  have hV2 := hV1.ext hE2
  go_simp
  refine hK _ _ ?_
  clear hK K' gd
  refine Wp.keep [1, 2, 4, 5] fun r3 hkeep => ?_
  obtain ⟨e1_3, e2_3, e4_3, e5_3, -⟩ := hkeep
  simp [go_sem, e1_2, e2_2, e4_2] at e1_3 e2_3 e4_3 e5_3
  clear e1_2 e2_2 e4_2
  by_cases h0 : checkS o = 0
  · skip
    refine Wp.seq ?_
    refine Wp.seqRegion (.inl rfl) (by kernel_rfl) fun K' gd hK hg => ?_
    clear hg
    go_simp
    refine hK _ _ ?_
    clear hK K' gd
    refine Wp.keep [1, 2, 4, 5, 10] fun r4 hkeep => ?_
    obtain ⟨e1_4, e2_4, e4_4, e5_4, e10_4, -⟩ := hkeep
    simp [go_sem, e1_3, e2_3, e4_3, e5_3] at e1_4 e2_4 e4_4 e5_4 e10_4
    clear e1_3 e2_3 e4_3 e5_3
    refine Wp.condF (by go_simp) ?_
    by_cases hd : 0 ≤ d ∧ d ≤ 1048576
    · skip
      refine Wp.skip ?_
      refine thenK_normal ?_
      refine Wp.seqRegion (.inl rfl) (by kernel_rfl) fun K' gd hK hg => ?_
      clear hg
      go_simp
      refine Wcall (.inl rfl) (withinR_T hd _) ?_
      rintro v w3 ⟨rfl, hE3⟩
      have fz := fz_ext hE3 (b := w.heap.size + 1) (cell_lt y0) fz
      have x0 := hE3.cell x0
      have x1 := hE3.cell x1
      have y0 := hE3.cell y0
      have y1 := hE3.cell y1
      have hV3 := hV2.ext hE3
      go_simp
      refine hK _ _ ?_
      clear hK K' gd
      refine Wp.keep [1, 2, 4, 6] fun r5 hkeep => ?_
      obtain ⟨e1_5, e2_5, e4_5, e6_5, -⟩ := hkeep
      simp [go_sem, e1_4, e2_4, e4_4, e5_4, e10_4] at e1_5 e2_5 e4_5 e6_5
      clear e1_4 e2_4 e4_4 e5_4 e10_4
      refine Wp.seq ?_
      refine Wp.seqRegion (.inl rfl) (by kernel_rfl) fun K' gd hK hg => ?_
      clear hg
      go_simp
      refine hK _ _ ?_
      clear hK K' gd
      refine Wp.keep [1, 2, 4, 16] fun r6 hkeep => ?_
      obtain ⟨e1_6, e2_6, e4_6, e16_6, -⟩ := hkeep
      simp [go_sem, e1_5, e2_5, e4_5, e6_5] at e1_6 e2_6 e4_6 e16_6
      clear e1_5 e2_5 e4_5 e6_5
      refine Wp.condF (by go_simp) ?_
      have hg := checkS_zero.1 h0
      have hask : ∃ _u : Unit, askS o (okDay d) = 0 := ⟨(), askS_good hg (by unfold okDay; exact decide_eq_true hd)⟩
      have ho := hg.ok
      have hm := ho.hm2
      have hm1 := ho.hm1
      have hn := ho.hn2
      obtain ⟨p, hcv, hrv, hO⟩ := hV3.ordF2 hg
      simp only [OA.cv, OA.rv] at hcv hrv
      injection hcv with p1 p2 p3
      injection hrv with p4 p5 p6
      subst p1 p2 p3 p4 p5 p6
      refine Wp.skip ?_
      refine thenK_normal ?_
      refine Wp.seq ?_
      refine Wp.seqRegion (.inl rfl) (by kernel_rfl) fun K' gd hK hg => ?_
      clear hg
      go_simp
      refine Wcall (.inl rfl) (endR_c p o _ hO) ?_
      rintro v w4 ⟨rfl, hE4⟩
      have fz := fz_ext hE4 (b := w.heap.size + 1) (cell_lt y0) fz
      have x0 := hE4.cell x0
      have x1 := hE4.cell x1
      have y0 := hE4.cell y0
      have y1 := hE4.cell y1
      have hO4 := hO.ext hE4
      go_simp
      refine hK _ _ ?_
      clear hK K' gd
      refine Wp.keep [1, 2, 4, 21] fun r7 hkeep => ?_
      obtain ⟨e1_7, e2_7, e4_7, e21_7, -⟩ := hkeep
      simp [go_sem, e1_6, e2_6, e4_6, e16_6] at e1_7 e2_7 e4_7 e21_7
      clear e1_6 e2_6 e4_6 e16_6
      by_cases he : d < endS o
      · skip
        refine Wp.condT (by go_simp) ?_
        have f0 := fz 0
        have f1 := fz 1
        have hlt := cell_lt y0
        have hlE : ∃ _u : Unit, latestE o d = 5 := ⟨(), by (obtain ⟨-, hask⟩ := hask; unfold latestE; rw [if_pos hask, if_pos (by omega)])⟩
        refine Wp.seqRegion (.inl rfl) (by kernel_rfl) fun K' gd hK hg => ?_
        clear hg
        go_simp
        refine hK _ _ ?_
        clear hK K' gd
        refine Wp.keep [4] fun r8 hkeep => ?_
        obtain ⟨e4_8, -⟩ := hkeep
        simp [go_sem, e1_7, e2_7, e4_7, e21_7] at e4_8
        clear e1_7 e2_7 e4_7 e21_7
        refine Wp.ret ?_
        refine thenK_ret ?_
        refine endK_cell (v := .agg #[.slice none 0 0, .int .i64 5]) Tryz.results30 (by decide) e4_8 (by go_simp) ?_
        obtain ⟨-, hlE⟩ := hlE
        exact ⟨_, by rw [hlE], by rw [if_neg (by rw [hlE]; decide)]; exact tabV_nil _ _, (by repeat (first | assumption | exact Ext.refl _ | refine Ext.drew ?_ | refine Ext.alloc ?_ _ | refine Ext.setC ?_ (by omega) _ | refine Ext.trans ?_ (by assumption)))⟩
      · skip
        refine Wp.condF (by go_simp) ?_
        have hlE : ∃ _u : Unit, latestE o d = 0 := ⟨(), by (obtain ⟨-, hask⟩ := hask; unfold latestE; rw [if_pos hask, if_neg (by omega)])⟩
        refine Wp.skip ?_
        refine thenK_normal ?_
        refine Wp.seqRegion (.inl rfl) (by kernel_rfl) fun K' gd hK hg => ?_
        clear hg
        go_simp
        refine Wcall (.inl rfl) (latestR_c p o d _ hO4 hd) ?_
        rintro v5 w5 ⟨hT, hE5⟩
        have hlt2 := cell_lt y0
        have fz := fz_ext hE5 (b := w.heap.size + 1) (cell_lt y0) fz
        have x0 := hE5.cell x0
        have x1 := hE5.cell x1
        have y0 := hE5.cell y0
        have y1 := hE5.cell y1
        obtain ⟨AT, cT, -, rfl, -⟩ := id hT.tabV
        have f0 := fz 0
        have f1 := fz 1
        have hlt := cell_lt y0
        go_simp
        refine hK _ _ ?_
        clear hK K' gd
        refine Wp.keep [4] fun r9 hkeep => ?_
        obtain ⟨e4_9, -⟩ := hkeep
        simp [go_sem, e1_7, e2_7, e4_7, e21_7] at e4_9
        clear e1_7 e2_7 e4_7 e21_7
        refine Wp.ret ?_
        refine endK_cell (v := .agg #[.slice AT (tabL o (lstA o d)).length cT, .int .i64 0]) Tryz.results30 (by decide) e4_9 (by go_simp) ?_
        obtain ⟨-, hlE⟩ := hlE
        refine ⟨_, by rw [hlE], ?_, (by repeat (first | assumption | exact Ext.refl _ | refine Ext.drew ?_ | refine Ext.alloc ?_ _ | refine Ext.setC ?_ (by omega) _ | refine Ext.trans ?_ (by assumption)))⟩
        rw [if_pos hlE]
        exact (OwnTab.setB (OwnTab.setB hT hlt2) hlt2).tabV
    · skip
      refine Wp.skip ?_
      refine thenK_normal ?_
      refine Wp.seqRegion (.inl rfl) (by kernel_rfl) fun K' gd hK hg => ?_
      clear hg
      go_simp
      refine Wcall (.inl rfl) (withinR_F hd _) ?_
      rintro v w3 ⟨rfl, hE3⟩
      have fz := fz_ext hE3 (b := w.heap.size + 1) (cell_lt y0) fz
      have x0 := hE3.cell x0
      have x1 := hE3.cell x1
      have y0 := hE3.cell y0
      have y1 := hE3.cell y1
      go_simp
      refine hK _ _ ?_
      clear hK K' gd
      refine Wp.keep [1, 2, 4, 6] fun r10 hkeep => ?_
      obtain ⟨e1_10, e2_10, e4_10, e6_10, -⟩ := hkeep
      simp [go_sem, e1_4, e2_4, e4_4, e5_4, e10_4] at e1_10 e2_10 e4_10 e6_10
      clear e1_4 e2_4 e4_4 e5_4 e10_4
      refine Wp.seq ?_
      refine Wp.seqRegion (.inl rfl) (by kernel_rfl) fun K' gd hK hg => ?_
      clear hg
      go_simp
      refine hK _ _ ?_
      clear hK K' gd
      refine Wp.keep [1, 2, 4, 16] fun r11 hkeep => ?_
      obtain ⟨e1_11, e2_11, e4_11, e16_11, -⟩ := hkeep
      simp [go_sem, e1_10, e2_10, e4_10, e6_10] at e1_11 e2_11 e4_11 e16_11
      clear e1_10 e2_10 e4_10 e6_10
      refine Wp.condT (by go_simp) ?_
      have f0 := fz 0
      have f1 := fz 1
      have hlt := cell_lt y0
      have hlE : ∃ _u : Unit, latestE o d = 1 := ⟨(), by (have h1 : askS o (okDay d) = 1 := by (unfold askS okDay; rw [if_pos h0, if_neg (by rw [decide_eq_true_iff]; exact hd)])); (unfold latestE; rw [if_neg (by rw [h1]; decide), h1])⟩
      refine Wp.seqRegion (.inl rfl) (by kernel_rfl) fun K' gd hK hg => ?_
      clear hg
      go_simp
      refine hK _ _ ?_
      clear hK K' gd
      refine Wp.keep [4] fun r12 hkeep => ?_
      obtain ⟨e4_12, -⟩ := hkeep
      simp [go_sem, e1_11, e2_11, e4_11, e16_11] at e4_12
      clear e1_11 e2_11 e4_11 e16_11
      refine Wp.ret ?_
      refine thenK_ret ?_
      refine endK_cell (v := .agg #[.slice none 0 0, .int .i64 1]) Tryz.results30 (by decide) e4_12 (by go_simp) ?_
      obtain ⟨-, hlE⟩ := hlE
      exact ⟨_, by rw [hlE], by rw [if_neg (by rw [hlE]; decide)]; exact tabV_nil _ _, (by repeat (first | assumption | exact Ext.refl _ | refine Ext.drew ?_ | refine Ext.alloc ?_ _ | refine Ext.setC ?_ (by omega) _ | refine Ext.trans ?_ (by assumption)))⟩
  · skip
    refine Wp.seq ?_
    refine Wp.seqRegion (.inl rfl) (by kernel_rfl) fun K' gd hK hg => ?_
    clear hg
    go_simp
    refine hK _ _ ?_
    clear hK K' gd
    refine Wp.keep [1, 2, 4, 5, 10] fun r13 hkeep => ?_
    obtain ⟨e1_13, e2_13, e4_13, e5_13, e10_13, -⟩ := hkeep
    simp [go_sem, e1_3, e2_3, e4_3, e5_3] at e1_13 e2_13 e4_13 e5_13 e10_13
    clear e1_3 e2_3 e4_3 e5_3
    refine Wp.condT (by go_simp) ?_
    have f0 := fz 0
    have f1 := fz 1
    have hlt := cell_lt y0
    have hlE : ∃ _u : Unit, latestE o d = checkS o := ⟨(), by (have h1 : askS o (okDay d) = checkS o := by (unfold askS; rw [if_neg h0])); (unfold latestE; rw [if_neg (by rw [h1]; exact h0), h1])⟩
    refine Wp.seqRegion (.inl rfl) (by kernel_rfl) fun K' gd hK hg => ?_
    clear hg
    go_simp
    refine hK _ _ ?_
    clear hK K' gd
    refine Wp.keep [4] fun r14 hkeep => ?_
    obtain ⟨e4_14, -⟩ := hkeep
    simp [go_sem, e1_13, e2_13, e4_13, e5_13, e10_13] at e4_14
    clear e1_13 e2_13 e4_13 e5_13 e10_13
    refine Wp.ret ?_
    refine thenK_ret ?_
    refine endK_cell (v := .agg #[.slice none 0 0, .int .i64 (checkS o)]) Tryz.results30 (by decide) e4_14 (by go_simp) ?_
    obtain ⟨-, hlE⟩ := hlE
    exact ⟨_, by rw [hlE], by rw [if_neg (by rw [hlE]; exact h0)]; exact tabV_nil _ _, (by repeat (first | assumption | exact Ext.refl _ | refine Ext.drew ?_ | refine Ext.alloc ?_ _ | refine Ext.setC ?_ (by omega) _ | refine Ext.trans ?_ (by assumption)))⟩
end Go.Proofs.YtnfagcccgmakdaaGreat
namespace Go.Proofs.YtnfagcccgmakdaaGreat
open Go.RowKit Go.Wk Go.Proofs
attribute [local irreducible] Go.Wk.Wops Go.Wk.Wp Go.Wk.Mtree Go.Wk.Mops
set_option maxHeartbeats 4000000

/-- what the functions return, under names of its own -/
structure TimesH (o : Ord) (E : Int) (Tb : List (List Int)) (En Am : Int) (Wt Dl : List Int) (Cr : List SZ) : Prop where
  e : checkS o = E
  tb : (if checkS o = 0 then tabL o (begA o) else []) = Tb
  en : (if checkS o = 0 then endS o else 0) = En
  am : (if checkS o = 0 then ampleV o else 0) = Am
  wt : (if checkS o = 0 then waitL o else []) = Wt
  dl : (if checkS o = 0 then idleL o else []) = Dl
  cr : (if checkS o = 0 then critL o else []) = Cr
section
variable {v : Value} {o : Ord} {E : Int} {Tb : List (List Int)} {En Am : Int} {Wt Dl : List Int} {Cr : List SZ}
theorem TimesH.lens (h : TimesH o E Tb En Am Wt Dl Cr) : (Tb.length ≤ 1000 ∧ ∀ x ∈ Tb, x.length ≤ 1000) ∧ Wt.length ≤ 1000 ∧ Dl.length ≤ 1000 ∧ Cr.length ≤ 1000 := by
  obtain ⟨rfl, rfl, rfl, rfl, rfl, rfl, rfl⟩ := h
  by_cases h0 : checkS o = 0
  · have ho := (checkS_zero.1 h0).ok
    have hm := ho.hm2
    have hn := ho.hn2
    simp only [if_pos h0]
    refine ⟨⟨by rw [tabL_len]; omega, fun x hx => ?_⟩, by simp [waitL]; omega, by simp [idleL]; omega, ?_⟩
    · obtain ⟨i, -, rfl⟩ := List.mem_map.1 hx
      rw [rowL_len]; omega
    · unfold critL
      rw [List.length_map]
      have e1 := List.length_filter_le (fun x : Nat × Nat => decide (slackV o x.1 x.2 = 0)) (stintsL o.n o.m)
      rw [stintsL_len] at e1
      have := Nat.mul_le_mul hn hm
      omega
  · simp only [if_neg h0]
    exact ⟨⟨Nat.zero_le _, fun x hx => by cases hx⟩, Nat.zero_le _, Nat.zero_le _, Nat.zero_le _⟩
theorem Times_e (h : TimesH o E Tb En Am Wt Dl Cr) (w : World) (hV : OrderV w w.heap.size v o) (hf : Fits o) :
    CallsV Tryz.prog 12 #[v] w fun v w' => ∃ t, v = .tuple #[t, .int .i64 E] ∧ TabV w' w'.heap.size t Tb ∧ Ext w w' := by
  obtain ⟨rfl, rfl, rfl, rfl, rfl, rfl, rfl⟩ := h
  exact (Times_c v o w hV hf).mono fun _ _ ⟨t, h1, h2, h3⟩ => ⟨t, h1, h2.tabV, h3⟩
theorem timesS_e (h : TimesH o E Tb En Am Wt Dl Cr) (w : World) (hV : OrderV w w.heap.size v o) (hf : Fits o) :
    CallsV Tryz.prog 13 #[v] w fun v w' => ∃ A n c, v = .agg #[.slice A n c, .int .i64 E] ∧ TabV w' w'.heap.size (.slice A n c) Tb ∧ Ext w w' := by
  obtain ⟨rfl, rfl, rfl, rfl, rfl, rfl, rfl⟩ := h
  exact (timesS_c v o w hV hf).mono fun _ _ ⟨t, h1, h2, h3⟩ => (by obtain ⟨A, n, c, rfl⟩ : ∃ A n c, t = .slice A n c := (by first | exact ⟨_, _, _, h2.choose_spec.choose_spec.1⟩ | exact ⟨_, _, _, h2.choose_spec.choose_spec.choose_spec.1⟩); exact ⟨A, n, c, h1, h2, h3⟩)
theorem End_e (h : TimesH o E Tb En Am Wt Dl Cr) (w : World) (hV : OrderV w w.heap.size v o) (hf : Fits o) :
    CallsV Tryz.prog 14 #[v] w fun v w' => v = .tuple #[.int .i64 En, .int .i64 E] ∧ Ext w w' := by
  obtain ⟨rfl, rfl, rfl, rfl, rfl, rfl, rfl⟩ := h
  exact End_c v o w hV hf
theorem endSp_e (h : TimesH o E Tb En Am Wt Dl Cr) (w : World) (hV : OrderV w w.heap.size v o) (hf : Fits o) :
    CallsV Tryz.prog 15 #[v] w fun v w' => v = .agg #[.int .i64 En, .int .i64 E] ∧ Ext w w' := by
  obtain ⟨rfl, rfl, rfl, rfl, rfl, rfl, rfl⟩ := h
  exact endSp_c v o w hV hf
theorem Waits_e (h : TimesH o E Tb En Am Wt Dl Cr) (w : World) (hV : OrderV w w.heap.size v o) (hf : Fits o) :
    CallsV Tryz.prog 16 #[v] w fun v w' => ∃ t, v = .tuple #[t, .int .i64 E] ∧ IntsV w' w'.heap.size t Wt ∧ Ext w w' := by
  obtain ⟨rfl, rfl, rfl, rfl, rfl, rfl, rfl⟩ := h
  exact (Waits_c v o w hV hf).mono fun _ _ ⟨t, h1, h2, h3⟩ => ⟨t, h1, h2.intsV, h3⟩
theorem waitsSp_e (h : TimesH o E Tb En Am Wt Dl Cr) (w : World) (hV : OrderV w w.heap.size v o) (hf : Fits o) :
    CallsV Tryz.prog 17 #[v] w fun v w' => ∃ A n c, v = .agg #[.slice A n c, .int .i64 E] ∧ IntsV w' w'.heap.size (.slice A n c) Wt ∧ Ext w w' := by
  obtain ⟨rfl, rfl, rfl, rfl, rfl, rfl, rfl⟩ := h
  exact (waitsSp_c v o w hV hf).mono fun _ _ ⟨t, h1, h2, h3⟩ => (by obtain ⟨A, n, c, rfl⟩ : ∃ A n c, t = .slice A n c := (by first | exact ⟨_, _, _, h2.choose_spec.choose_spec.1⟩ | exact ⟨_, _, _, h2.choose_spec.choose_spec.choose_spec.1⟩); exact ⟨A, n, c, h1, h2, h3⟩)
theorem Idle_e (h : TimesH o E Tb En Am Wt Dl Cr) (w : World) (hV : OrderV w w.heap.size v o) (hf : Fits o) :
    CallsV Tryz.prog 18 #[v] w fun v w' => ∃ t, v = .tuple #[t, .int .i64 E] ∧ IntsV w' w'.heap.size t Dl ∧ Ext w w' := by
  obtain ⟨rfl, rfl, rfl, rfl, rfl, rfl, rfl⟩ := h
  exact (Idle_c v o w hV hf).mono fun _ _ ⟨t, h1, h2, h3⟩ => ⟨t, h1, h2.intsV, h3⟩
theorem idleSp_e (h : TimesH o E Tb En Am Wt Dl Cr) (w : World) (hV : OrderV w w.heap.size v o) (hf : Fits o) :
    CallsV Tryz.prog 19 #[v] w fun v w' => ∃ A n c, v = .agg #[.slice A n c, .int .i64 E] ∧ IntsV w' w'.heap.size (.slice A n c) Dl ∧ Ext w w' := by
  obtain ⟨rfl, rfl, rfl, rfl, rfl, rfl, rfl⟩ := h
  exact (idleSp_c v o w hV hf).mono fun _ _ ⟨t, h1, h2, h3⟩ => (by obtain ⟨A, n, c, rfl⟩ : ∃ A n c, t = .slice A n c := (by first | exact ⟨_, _, _, h2.choose_spec.choose_spec.1⟩ | exact ⟨_, _, _, h2.choose_spec.choose_spec.choose_spec.1⟩); exact ⟨A, n, c, h1, h2, h3⟩)
theorem Ample_e (h : TimesH o E Tb En Am Wt Dl Cr) (w : World) (hV : OrderV w w.heap.size v o) (hf : Fits o) :
    CallsV Tryz.prog 20 #[v] w fun v w' => v = .tuple #[.int .i64 Am, .int .i64 E] ∧ Ext w w' := by
  obtain ⟨rfl, rfl, rfl, rfl, rfl, rfl, rfl⟩ := h
  exact Ample_c v o w hV hf
theorem ampleSp_e (h : TimesH o E Tb En Am Wt Dl Cr) (w : World) (hV : OrderV w w.heap.size v o) (hf : Fits o) :
    CallsV Tryz.prog 21 #[v] w fun v w' => v = .agg #[.int .i64 Am, .int .i64 E] ∧ Ext w w' := by
  obtain ⟨rfl, rfl, rfl, rfl, rfl, rfl, rfl⟩ := h
  exact ampleSp_c v o w hV hf
theorem Critical_e (h : TimesH o E Tb En Am Wt Dl Cr) (w : World) (hV : OrderV w w.heap.size v o) (hf : Fits o) :
    CallsV Tryz.prog 22 #[v] w fun v w' => ∃ t, v = .tuple #[t, .int .i64 E] ∧ StintsV w' w'.heap.size t Cr ∧ Ext w w' := by
  obtain ⟨rfl, rfl, rfl, rfl, rfl, rfl, rfl⟩ := h
  exact (Critical_c v o w hV hf).mono fun _ _ ⟨t, h1, h2, h3⟩ => ⟨t, h1, h2.stintsV, h3⟩
theorem critSp_e (h : TimesH o E Tb En Am Wt Dl Cr) (w : World) (hV : OrderV w w.heap.size v o) (hf : Fits o) :
    CallsV Tryz.prog 23 #[v] w fun v w' => ∃ A n c, v = .agg #[.slice A n c, .int .i64 E] ∧ StintsV w' w'.heap.size (.slice A n c) Cr ∧ Ext w w' := by
  obtain ⟨rfl, rfl, rfl, rfl, rfl, rfl, rfl⟩ := h
  exact (critSp_c v o w hV hf).mono fun _ _ ⟨t, h1, h2, h3⟩ => (by obtain ⟨A, n, c, rfl⟩ : ∃ A n c, t = .slice A n c := (by first | exact ⟨_, _, _, h2.choose_spec.choose_spec.1⟩ | exact ⟨_, _, _, h2.choose_spec.choose_spec.choose_spec.1⟩); exact ⟨A, n, c, h1, h2, h3⟩)
theorem check_e (h : TimesH o E Tb En Am Wt Dl Cr) (w : World) (hV : OrderV w w.heap.size v o) (hf : Fits o) :
    CallsV Tryz.prog 24 #[v] w fun v w' => v = .int .i64 E ∧ Ext w w' := by
  obtain ⟨rfl, rfl, rfl, rfl, rfl, rfl, rfl⟩ := h
  exact check_c v o w hV hf
theorem refCheck_e (h : TimesH o E Tb En Am Wt Dl Cr) (w : World) (hV : OrderV w w.heap.size v o) (hf : Fits o) :
    CallsV Tryz.prog 25 #[v] w fun v w' => v = .int .i64 E ∧ Ext w w' := by
  obtain ⟨rfl, rfl, rfl, rfl, rfl, rfl, rfl⟩ := h
  exact refCheck_c v o w hV hf
end
theorem times_c (v : Value) (o : Ord) (w : World) (hV : OrderV w w.heap.size v o) (hf : Fits o) :
    CallsV Tryz.prog 3 #[v] w fun v w' => v = .bool true ∧ Ext w w' := by
  obtain ⟨A1, n1, c1, A2, n2, c2, rfl, hV⟩ := hV.two
  obtain ⟨E, Tb, En, Am, Wt, Dl, Cr, hT⟩ : ∃ E Tb En Am Wt Dl Cr, TimesH o E Tb En Am Wt Dl Cr := ⟨_, _, _, _, _, _, _, rfl, rfl, rfl, rfl, rfl, rfl, rfl⟩
  obtain ⟨hl1, hl2, hl3, hl4⟩ := hT.lens
  refine Wp.fn Tryz.func3 rfl Tryz.ntmps3 (by simp) ?_
  refine Wp.keep [0] fun r1 hkeep => ?_
  obtain ⟨e0_1, -⟩ := hkeep
  simp [go_sem] at e0_1
  by_cases hs : FewP o
  · skip
    refine Wp.seqRegion (.inl rfl) (by kernel_rfl) fun K' gd hK hg => ?_
    clear hg
    go_simp
    refine hK _ _ ?_
    clear hK K' gd
    refine Wp.keep [1] fun r2 hkeep => ?_
    obtain ⟨e1_2, -⟩ := hkeep
    simp [go_sem, e0_1] at e1_2
    clear e0_1
    refine Wp.seq ?_
    refine Wp.seqRegion (.inl rfl) (by kernel_rfl) fun K' gd hK hg => ?_
    clear hg
    go_simp
    refine Wcall (.inl rfl) (few_T hs _ (hV.ext (by repeat (first | assumption | exact Ext.refl _ | refine Ext.drew ?_ | refine Ext.alloc ?_ _ | refine Ext.trans ?_ (by assumption)))) hf) ?_
    rintro v w1 ⟨rfl, hE⟩
    have hEw : Ext w w1 := (by repeat (first | assumption | exact Ext.refl _ | refine Ext.drew ?_ | refine Ext.alloc ?_ _ | refine Ext.trans ?_ (by assumption)))
    have x0 : w1.cell? ⟨w.heap.size, 0, none⟩ = some (.slice A1 n1 c1) := hE.cell (by go_simp)
    have x1 : w1.cell? ⟨w.heap.size, 1, none⟩ = some (.slice A2 n2 c2) := hE.cell (by go_simp)
    have hV := hV.ext hEw
    clear hE
    go_simp
    refine hK _ _ ?_
    clear hK K' gd
    refine Wp.keep [1, 24] fun r3 hkeep => ?_
    obtain ⟨e1_3, e24_3, -⟩ := hkeep
    simp [go_sem, e1_2] at e1_3 e24_3
    clear e1_2
    refine Wp.condF (by go_simp) ?_
    refine Wp.skip ?_
    refine thenK_normal ?_
    refine Wp.seqRegion (.inl rfl) (by kernel_rfl) fun K' gd hK hg => ?_
    clear hg
    go_simp
    refine Wcall (.inl rfl) (Times_e hT _ hV hf) ?_
    rintro v w2 ⟨t1, rfl, hp1, hE⟩
    have x0 := hE.cell x0
    have x1 := hE.cell x1
    have hV := hV.ext hE
    have hEw := Ext.trans hEw hE
    clear hE
    go_simp
    refine hK _ _ ?_
    clear hK K' gd
    refine Wp.keep [1, 3, 4] fun r4 hkeep => ?_
    obtain ⟨e1_4, e3_4, e4_4, -⟩ := hkeep
    simp [go_sem, e1_3, e24_3] at e1_4 e3_4 e4_4
    clear e1_3 e24_3
    refine Wp.seqRegion (.inl rfl) (by kernel_rfl) fun K' gd hK hg => ?_
    clear hg
    go_simp
    refine Wcall (.inl rfl) (timesS_e hT _ hV hf) ?_
    rintro v w3 ⟨A, k, c, rfl, hq1, hE⟩
    have x0 := hE.cell x0
    have x1 := hE.cell x1
    have hV := hV.ext hE
    have hEw := Ext.trans hEw hE
    have hp1 := hp1.ext hE
    clear hE
    go_simp
    refine hK _ _ ?_
    clear hK K' gd
    refine Wp.keep [1, 3, 4, 5] fun r5 hkeep => ?_
    obtain ⟨e1_5, e3_5, e4_5, e5_5, -⟩ := hkeep
    simp [go_sem, e1_4, e3_4, e4_4] at e1_5 e3_5 e4_5 e5_5
    clear e1_4 e3_4 e4_4
    have hEa : Ext w3 (w3.alloc (.cells #[.slice A k c, .int .i64 E] 33)) := (by repeat (first | assumption | exact Ext.refl _ | refine Ext.drew ?_ | refine Ext.alloc ?_ _ | refine Ext.trans ?_ (by assumption)))
    have a1 := cell_nn w3 #[.slice A k c, .int .i64 E] 33 0 rfl (v := .slice A k c) rfl
    have b1 := cell_nn w3 #[.slice A k c, .int .i64 E] 33 1 rfl (v := .int .i64 E) rfl
    have x0 := hEa.cell x0
    have x1 := hEa.cell x1
    have hV := hV.ext hEa
    have hEw := Ext.trans hEw hEa
    have hp1 := hp1.ext hEa
    have hq1 := hq1.ext hEa
    clear hEa
    generalize w3.heap.size = N4 at *
    generalize w3.alloc (.cells #[.slice A k c, .int .i64 E] 33) = w4 at *
    obtain ⟨B1, k1, d1, rfl, rfl, rfl⟩ : ∃ B k' c', B = A ∧ k' = k ∧ c' = c := ⟨_, _, _, rfl, rfl, rfl⟩
    refine Wp.seqRegion (.inl rfl) (by kernel_rfl) fun K' gd hK hg => ?_
    clear hg
    go_simp
    refine Wcall (.inl rfl) (End_e hT _ hV hf) ?_
    rintro v w5 ⟨rfl, hE⟩
    have x0 := hE.cell x0
    have x1 := hE.cell x1
    have hV := hV.ext hE
    have hEw := Ext.trans hEw hE
    have hp1 := hp1.ext hE
    have hq1 := hq1.ext hE
    have a1 := hE.cell a1
    have b1 := hE.cell b1
    clear hE
    go_simp
    refine hK _ _ ?_
    clear hK K' gd
    refine Wp.keep [1, 3, 4, 5, 6, 7] fun r6 hkeep => ?_
    obtain ⟨e1_6, e3_6, e4_6, e5_6, e6_6, e7_6, -⟩ := hkeep
    simp [go_sem, e1_5, e3_5, e4_5, e5_5] at e1_6 e3_6 e4_6 e5_6 e6_6 e7_6
    clear e1_5 e3_5 e4_5 e5_5
    refine Wp.seqRegion (.inl rfl) (by kernel_rfl) fun K' gd hK hg => ?_
    clear hg
    go_simp
    refine Wcall (.inl rfl) (endSp_e hT _ hV hf) ?_
    rintro v w6 ⟨rfl, hE⟩
    have x0 := hE.cell x0
    have x1 := hE.cell x1
    have hV := hV.ext hE
    have hEw := Ext.trans hEw hE
    have hp1 := hp1.ext hE
    have hq1 := hq1.ext hE
    have a1 := hE.cell a1
    have b1 := hE.cell b1
    clear hE
    go_simp
    refine hK _ _ ?_
    clear hK K' gd
    refine Wp.keep [1, 3, 4, 5, 6, 7, 8] fun r7 hkeep => ?_
    obtain ⟨e1_7, e3_7, e4_7, e5_7, e6_7, e7_7, e8_7, -⟩ := hkeep
    simp [go_sem, e1_6, e3_6, e4_6, e5_6, e6_6, e7_6] at e1_7 e3_7 e4_7 e5_7 e6_7 e7_7 e8_7
    clear e1_6 e3_6 e4_6 e5_6 e6_6 e7_6
    have hEa : Ext w6 (w6.alloc (.cells #[.int .i64 En, .int .i64 E] 38)) := (by repeat (first | assumption | exact Ext.refl _ | refine Ext.drew ?_ | refine Ext.alloc ?_ _ | refine Ext.trans ?_ (by assumption)))
    have a2 := cell_nn w6 #[.int .i64 En, .int .i64 E] 38 0 rfl (v := .int .i64 En) rfl
    have b2 := cell_nn w6 #[.int .i64 En, .int .i64 E] 38 1 rfl (v := .int .i64 E) rfl
    have x0 := hEa.cell x0
    have x1 := hEa.cell x1
    have hV := hV.ext hEa
    have hEw := Ext.trans hEw hEa
    have hp1 := hp1.ext hEa
    have hq1 := hq1.ext hEa
    have a1 := hEa.cell a1
    have b1 := hEa.cell b1
    clear hEa
    generalize w6.heap.size = N7 at *
    generalize w6.alloc (.cells #[.int .i64 En, .int .i64 E] 38) = w7 at *
    refine Wp.seqRegion (.inl rfl) (by kernel_rfl) fun K' gd hK hg => ?_
    clear hg
    go_simp
    refine Wcall (.inl rfl) (Waits_e hT _ hV hf) ?_
    rintro v w8 ⟨t3, rfl, hp3, hE⟩
    have x0 := hE.cell x0
    have x1 := hE.cell x1
    have hV := hV.ext hE
    have hEw := Ext.trans hEw hE
    have hp1 := hp1.ext hE
    have hq1 := hq1.ext hE
    have a1 := hE.cell a1
    have b1 := hE.cell b1
    have a2 := hE.cell a2
    have b2 := hE.cell b2
    clear hE
    go_simp
    refine hK _ _ ?_
    clear hK K' gd
    refine Wp.keep [1, 3, 4, 5, 6, 7, 8, 9, 10] fun r8 hkeep => ?_
    obtain ⟨e1_8, e3_8, e4_8, e5_8, e6_8, e7_8, e8_8, e9_8, e10_8, -⟩ := hkeep
    simp [go_sem, e1_7, e3_7, e4_7, e5_7, e6_7, e7_7, e8_7] at e1_8 e3_8 e4_8 e5_8 e6_8 e7_8 e8_8 e9_8 e10_8
    clear e1_7 e3_7 e4_7 e5_7 e6_7 e7_7 e8_7
    refine Wp.seqRegion (.inl rfl) (by kernel_rfl) fun K' gd hK hg => ?_
    clear hg
    go_simp
    refine Wcall (.inl rfl) (waitsSp_e hT _ hV hf) ?_
    rintro v w9 ⟨A, k, c, rfl, hq3, hE⟩
    have x0 := hE.cell x0
    have x1 := hE.cell x1
    have hV := hV.ext hE
    have hEw := Ext.trans hEw hE
    have hp1 := hp1.ext hE
    have hq1 := hq1.ext hE
    have a1 := hE.cell a1
    have b1 := hE.cell b1
    have a2 := hE.cell a2
    have b2 := hE.cell b2
    have hp3 := hp3.ext hE
    clear hE
    go_simp
    refine hK _ _ ?_
    clear hK K' gd
    refine Wp.keep [1, 3, 4, 5, 6, 7, 8, 9, 10, 11] fun r9 hkeep => ?_
    obtain ⟨e1_9, e3_9, e4_9, e5_9, e6_9, e7_9, e8_9, e9_9, e10_9, e11_9, -⟩ := hkeep
    simp [go_sem, e1_8, e3_8, e4_8, e5_8, e6_8, e7_8, e8_8, e9_8, e10_8] at e1_9 e3_9 e4_9 e5_9 e6_9 e7_9 e8_9 e9_9 e10_9 e11_9
    clear e1_8 e3_8 e4_8 e5_8 e6_8 e7_8 e8_8 e9_8 e10_8
    have hEa : Ext w9 (w9.alloc (.cells #[.slice A k c, .int .i64 E] 43)) := (by repeat (first | assumption | exact Ext.refl _ | refine Ext.drew ?_ | refine Ext.alloc ?_ _ | refine Ext.trans ?_ (by assumption)))
    have a3 := cell_nn w9 #[.slice A k c, .int .i64 E] 43 0 rfl (v := .slice A k c) rfl
    have b3 := cell_nn w9 #[.slice A k c, .int .i64 E] 43 1 rfl (v := .int .i64 E) rfl
    have x0 := hEa.cell x0
    have x1 := hEa.cell x1
    have hV := hV.ext hEa
    have hEw := Ext.trans hEw hEa
    have hp1 := hp1.ext hEa
    have hq1 := hq1.ext hEa
    have a1 := hEa.cell a1
    have b1 := hEa.cell b1
    have a2 := hEa.cell a2
    have b2 := hEa.cell b2
    have hp3 := hp3.ext hEa
    have hq3 := hq3.ext hEa
    clear hEa
    generalize w9.heap.size = N10 at *
    generalize w9.alloc (.cells #[.slice A k c, .int .i64 E] 43) = w10 at *
    obtain ⟨B3, k3, d3, rfl, rfl, rfl⟩ : ∃ B k' c', B = A ∧ k' = k ∧ c' = c := ⟨_, _, _, rfl, rfl, rfl⟩
    refine Wp.seqRegion (.inl rfl) (by kernel_rfl) fun K' gd hK hg => ?_
    clear hg
    go_simp
    refine Wcall (.inl rfl) (Idle_e hT _ hV hf) ?_
    rintro v w11 ⟨t4, rfl, hp4, hE⟩
    have x0 := hE.cell x0
    have x1 := hE.cell x1
    have hV := hV.ext hE
    have hEw := Ext.trans hEw hE
    have hp1 := hp1.ext hE
    have hq1 := hq1.ext hE
    have a1 := hE.cell a1
    have b1 := hE.cell b1
    have a2 := hE.cell a2
    have b2 := hE.cell b2
    have hp3 := hp3.ext hE
    have hq3 := hq3.ext hE
    have a3 := hE.cell a3
    have b3 := hE.cell b3
    clear hE
    go_simp
    refine hK _ _ ?_
    clear hK K' gd
    refine Wp.keep [1, 3, 4, 5, 6, 7, 8, 9, 10, 11, 12, 13] fun r10 hkeep => ?_
    obtain ⟨e1_10, e3_10, e4_10, e5_10, e6_10, e7_10, e8_10, e9_10, e10_10, e11_10, e12_10, e13_10, -⟩ := hkeep
    simp [go_sem, e1_9, e3_9, e4_9, e5_9, e6_9, e7_9, e8_9, e9_9, e10_9, e11_9] at e1_10 e3_10 e4_10 e5_10 e6_10 e7_10 e8_10 e9_10 e10_10 e11_10 e12_10 e13_10
    clear e1_9 e3_9 e4_9 e5_9 e6_9 e7_9 e8_9 e9_9 e10_9 e11_9
    refine Wp.seqRegion (.inl rfl) (by kernel_rfl) fun K' gd hK hg => ?_
    clear hg
    go_simp
    refine Wcall (.inl rfl) (idleSp_e hT _ hV hf) ?_
    rintro v w12 ⟨A, k, c, rfl, hq4, hE⟩
    have x0 := hE.cell x0
    have x1 := hE.cell x1
    have hV := hV.ext hE
    have hEw := Ext.trans hEw hE
    have hp1 := hp1.ext hE
    have hq1 := hq1.ext hE
    have a1 := hE.cell a1
    have b1 := hE.cell b1
    have a2 := hE.cell a2
    have b2 := hE.cell b2
    have hp3 := hp3.ext hE
    have hq3 := hq3.ext hE
    have a3 := hE.cell a3
    have b3 := hE.cell b3
    have hp4 := hp4.ext hE
    clear hE
    go_simp
    refine hK _ _ ?_
    clear hK K' gd
    refine Wp.keep [1, 3, 4, 5, 6, 7, 8, 9, 10, 11, 12, 13, 14] fun r11 hkeep => ?_
    obtain ⟨e1_11, e3_11, e4_11, e5_11, e6_11, e7_11, e8_11, e9_11, e10_11, e11_11, e12_11, e13_11, e14_11, -⟩ := hkeep
    simp [go_sem, e1_10, e3_10, e4_10, e5_10, e6_10, e7_10, e8_10, e9_10, e10_10, e11_10, e12_10, e13_10] at e1_11 e3_11 e4_11 e5_11 e6_11 e7_11 e8_11 e9_11 e10_11 e11_11 e12_11 e13_11 e14_11
    clear e1_10 e3_10 e4_10 e5_10 e6_10 e7_10 e8_10 e9_10 e10_10 e11_10 e12_10 e13_10
    have hEa : Ext w12 (w12.alloc (.cells #[.slice A k c, .int .i64 E] 43)) := (by repeat (first | assumption | exact Ext.refl _ | refine Ext.drew ?_ | refine Ext.alloc ?_ _ | refine Ext.trans ?_ (by assumption)))
    have a4 := cell_nn w12 #[.slice A k c, .int .i64 E] 43 0 rfl (v := .slice A k c) rfl
    have b4 := cell_nn w12 #[.slice A k c, .int .i64 E] 43 1 rfl (v := .int .i64 E) rfl
    have x0 := hEa.cell x0
    have x1 := hEa.cell x1
    have hV := hV.ext hEa
    have hEw := Ext.trans hEw hEa
    have hp1 := hp1.ext hEa
    have hq1 := hq1.ext hEa
    have a1 := hEa.cell a1
    have b1 := hEa.cell b1
    have a2 := hEa.cell a2
    have b2 := hEa.cell b2
    have hp3 := hp3.ext hEa
    have hq3 := hq3.ext hEa
    have a3 := hEa.cell a3
    have b3 := hEa.cell b3
    have hp4 := hp4.ext hEa
    have hq4 := hq4.ext hEa
    clear hEa
    generalize w12.heap.size = N13 at *
    generalize w12.alloc (.cells #[.slice A k c, .int .i64 E] 43) = w13 at *
    obtain ⟨B4, k4, d4, rfl, rfl, rfl⟩ : ∃ B k' c', B = A ∧ k' = k ∧ c' = c := ⟨_, _, _, rfl, rfl, rfl⟩
    refine Wp.seqRegion (.inl rfl) (by kernel_rfl) fun K' gd hK hg => ?_
    clear hg
    go_simp
    refine Wcall (.inl rfl) (Ample_e hT _ hV hf) ?_
    rintro v w14 ⟨rfl, hE⟩
    have x0 := hE.cell x0
    have x1 := hE.cell x1
    have hV := hV.ext hE
    have hEw := Ext.trans hEw hE
    have hp1 := hp1.ext hE
    have hq1 := hq1.ext hE
    have a1 := hE.cell a1
    have b1 := hE.cell b1
    have a2 := hE.cell a2
    have b2 := hE.cell b2
    have hp3 := hp3.ext hE
    have hq3 := hq3.ext hE
    have a3 := hE.cell a3
    have b3 := hE.cell b3
    have hp4 := hp4.ext hE
    have hq4 := hq4.ext hE
    have a4 := hE.cell a4
    have b4 := hE.cell b4
    clear hE
    go_simp
    refine hK _ _ ?_
    clear hK K' gd
    refine Wp.keep [1, 3, 4, 5, 6, 7, 8, 9, 10, 11, 12, 13, 14, 15, 16] fun r12 hkeep => ?_
    obtain ⟨e1_12, e3_12, e4_12, e5_12, e6_12, e7_12, e8_12, e9_12, e10_12, e11_12, e12_12, e13_12, e14_12, e15_12, e16_12, -⟩ := hkeep
    simp [go_sem, e1_11, e3_11, e4_11, e5_11, e6_11, e7_11, e8_11, e9_11, e10_11, e11_11, e12_11, e13_11, e14_11] at e1_12 e3_12 e4_12 e5_12 e6_12 e7_12 e8_12 e9_12 e10_12 e11_12 e12_12 e13_12 e14_12 e15_12 e16_12
    clear e1_11 e3_11 e4_11 e5_11 e6_11 e7_11 e8_11 e9_11 e10_11 e11_11 e12_11 e13_11 e14_11
    refine Wp.seqRegion (.inl rfl) (by kernel_rfl) fun K' gd hK hg => ?_
    clear hg
    go_simp
    refine Wcall (.inl rfl) (ampleSp_e hT _ hV hf) ?_
    rintro v w15 ⟨rfl, hE⟩
    have x0 := hE.cell x0
    have x1 := hE.cell x1
    have hV := hV.ext hE
    have hEw := Ext.trans hEw hE
    have hp1 := hp1.ext hE
    have hq1 := hq1.ext hE
    have a1 := hE.cell a1
    have b1 := hE.cell b1
    have a2 := hE.cell a2
    have b2 := hE.cell b2
    have hp3 := hp3.ext hE
    have hq3 := hq3.ext hE
    have a3 := hE.cell a3
    have b3 := hE.cell b3
    have hp4 := hp4.ext hE
    have hq4 := hq4.ext hE
    have a4 := hE.cell a4
    have b4 := hE.cell b4
    clear hE
    go_simp
    refine hK _ _ ?_
    clear hK K' gd
    refine Wp.keep [1, 3, 4, 5, 6, 7, 8, 9, 10, 11, 12, 13, 14, 15, 16, 17] fun r13 hkeep => ?_
    obtain ⟨e1_13, e3_13, e4_13, e5_13, e6_13, e7_13, e8_13, e9_13, e10_13, e11_13, e12_13, e13_13, e14_13, e15_13, e16_13, e17_13, -⟩ := hkeep
    simp [go_sem, e1_12, e3_12, e4_12, e5_12, e6_12, e7_12, e8_12, e9_12, e10_12, e11_12, e12_12, e13_12, e14_12, e15_12, e16_12] at e1_13 e3_13 e4_13 e5_13 e6_13 e7_13 e8_13 e9_13 e10_13 e11_13 e12_13 e13_13 e14_13 e15_13 e16_13 e17_13
    clear e1_12 e3_12 e4_12 e5_12 e6_12 e7_12 e8_12 e9_12 e10_12 e11_12 e12_12 e13_12 e14_12 e15_12 e16_12
    have hEa : Ext w15 (w15.alloc (.cells #[.int .i64 Am, .int .i64 E] 38)) := (by repeat (first | assumption | exact Ext.refl _ | refine Ext.drew ?_ | refine Ext.alloc ?_ _ | refine Ext.trans ?_ (by assumption)))
    have a5 := cell_nn w15 #[.int .i64 Am, .int .i64 E] 38 0 rfl (v := .int .i64 Am) rfl
    have b5 := cell_nn w15 #[.int .i64 Am, .int .i64 E] 38 1 rfl (v := .int .i64 E) rfl
    have x0 := hEa.cell x0
    have x1 := hEa.cell x1
    have hV := hV.ext hEa
    have hEw := Ext.trans hEw hEa
    have hp1 := hp1.ext hEa
    have hq1 := hq1.ext hEa
    have a1 := hEa.cell a1
    have b1 := hEa.cell b1
    have a2 := hEa.cell a2
    have b2 := hEa.cell b2
    have hp3 := hp3.ext hEa
    have hq3 := hq3.ext hEa
    have a3 := hEa.cell a3
    have b3 := hEa.cell b3
    have hp4 := hp4.ext hEa
    have hq4 := hq4.ext hEa
    have a4 := hEa.cell a4
    have b4 := hEa.cell b4
    clear hEa
    generalize w15.heap.size = N16 at *
    generalize w15.alloc (.cells #[.int .i64 Am, .int .i64 E] 38) = w16 at *
    refine Wp.seqRegion (.inl rfl) (by kernel_rfl) fun K' gd hK hg => ?_
    clear hg
    go_simp
    refine Wcall (.inl rfl) (Critical_e hT _ hV hf) ?_
    rintro v w17 ⟨t6, rfl, hp6, hE⟩
    have x0 := hE.cell x0
    have x1 := hE.cell x1
    have hV := hV.ext hE
    have hEw := Ext.trans hEw hE
    have hp1 := hp1.ext hE
    have hq1 := hq1.ext hE
    have a1 := hE.cell a1
    have b1 := hE.cell b1
    have a2 := hE.cell a2
    have b2 := hE.cell b2
    have hp3 := hp3.ext hE
    have hq3 := hq3.ext hE
    have a3 := hE.cell a3
    have b3 := hE.cell b3
    have hp4 := hp4.ext hE
    have hq4 := hq4.ext hE
    have a4 := hE.cell a4
    have b4 := hE.cell b4
    have a5 := hE.cell a5
    have b5 := hE.cell b5
    clear hE
    go_simp
    refine hK _ _ ?_
    clear hK K' gd
    refine Wp.keep [1, 3, 4, 5, 6, 7, 8, 9, 10, 11, 12, 13, 14, 15, 16, 17, 18, 19] fun r14 hkeep => ?_
    obtain ⟨e1_14, e3_14, e4_14, e5_14, e6_14, e7_14, e8_14, e9_14, e10_14, e11_14, e12_14, e13_14, e14_14, e15_14, e16_14, e17_14, e18_14, e19_14, -⟩ := hkeep
    simp [go_sem, e1_13, e3_13, e4_13, e5_13, e6_13, e7_13, e8_13, e9_13, e10_13, e11_13, e12_13, e13_13, e14_13, e15_13, e16_13, e17_13] at e1_14 e3_14 e4_14 e5_14 e6_14 e7_14 e8_14 e9_14 e10_14 e11_14 e12_14 e13_14 e14_14 e15_14 e16_14 e17_14 e18_14 e19_14
    clear e1_13 e3_13 e4_13 e5_13 e6_13 e7_13 e8_13 e9_13 e10_13 e11_13 e12_13 e13_13 e14_13 e15_13 e16_13 e17_13
    refine Wp.seqRegion (.inl rfl) (by kernel_rfl) fun K' gd hK hg => ?_
    clear hg
    go_simp
    refine Wcall (.inl rfl) (critSp_e hT _ hV hf) ?_
    rintro v w18 ⟨A, k, c, rfl, hq6, hE⟩
    have x0 := hE.cell x0
    have x1 := hE.cell x1
    have hV := hV.ext hE
    have hEw := Ext.trans hEw hE
    have hp1 := hp1.ext hE
    have hq1 := hq1.ext hE
    have a1 := hE.cell a1
    have b1 := hE.cell b1
    have a2 := hE.cell a2
    have b2 := hE.cell b2
    have hp3 := hp3.ext hE
    have hq3 := hq3.ext hE
    have a3 := hE.cell a3
    have b3 := hE.cell b3
    have hp4 := hp4.ext hE
    have hq4 := hq4.ext hE
    have a4 := hE.cell a4
    have b4 := hE.cell b4
    have a5 := hE.cell a5
    have b5 := hE.cell b5
    have hp6 := hp6.ext hE
    clear hE
    go_simp
    refine hK _ _ ?_
    clear hK K' gd
    refine Wp.keep [1, 3, 4, 5, 6, 7, 8, 9, 10, 11, 12, 13, 14, 15, 16, 17, 18, 19, 20] fun r15 hkeep => ?_
    obtain ⟨e1_15, e3_15, e4_15, e5_15, e6_15, e7_15, e8_15, e9_15, e10_15, e11_15, e12_15, e13_15, e14_15, e15_15, e16_15, e17_15, e18_15, e19_15, e20_15, -⟩ := hkeep
    simp [go_sem, e1_14, e3_14, e4_14, e5_14, e6_14, e7_14, e8_14, e9_14, e10_14, e11_14, e12_14, e13_14, e14_14, e15_14, e16_14, e17_14, e18_14, e19_14] at e1_15 e3_15 e4_15 e5_15 e6_15 e7_15 e8_15 e9_15 e10_15 e11_15 e12_15 e13_15 e14_15 e15_15 e16_15 e17_15 e18_15 e19_15 e20_15
    clear e1_14 e3_14 e4_14 e5_14 e6_14 e7_14 e8_14 e9_14 e10_14 e11_14 e12_14 e13_14 e14_14 e15_14 e16_14 e17_14 e18_14 e19_14
    have hEa : Ext w18 (w18.alloc (.cells #[.slice A k c, .int .i64 E] 49)) := (by repeat (first | assumption | exact Ext.refl _ | refine Ext.drew ?_ | refine Ext.alloc ?_ _ | refine Ext.trans ?_ (by assumption)))
    have a6 := cell_nn w18 #[.slice A k c, .int .i64 E] 49 0 rfl (v := .slice A k c) rfl
    have b6 := cell_nn w18 #[.slice A k c, .int .i64 E] 49 1 rfl (v := .int .i64 E) rfl
    have x0 := hEa.cell x0
    have x1 := hEa.cell x1
    have hV := hV.ext hEa
    have hEw := Ext.trans hEw hEa
    have hp1 := hp1.ext hEa
    have hq1 := hq1.ext hEa
    have a1 := hEa.cell a1
    have b1 := hEa.cell b1
    have a2 := hEa.cell a2
    have b2 := hEa.cell b2
    have hp3 := hp3.ext hEa
    have hq3 := hq3.ext hEa
    have a3 := hEa.cell a3
    have b3 := hEa.cell b3
    have hp4 := hp4.ext hEa
    have hq4 := hq4.ext hEa
    have a4 := hEa.cell a4
    have b4 := hEa.cell b4
    have a5 := hEa.cell a5
    have b5 := hEa.cell b5
    have hp6 := hp6.ext hEa
    have hq6 := hq6.ext hEa
    clear hEa
    generalize w18.heap.size = N19 at *
    generalize w18.alloc (.cells #[.slice A k c, .int .i64 E] 49) = w19 at *
    obtain ⟨B6, k6, d6, rfl, rfl, rfl⟩ : ∃ B k' c', B = A ∧ k' = k ∧ c' = c := ⟨_, _, _, rfl, rfl, rfl⟩
    refine Wp.seqDraw (.inl rfl) mixed [([0, 2], some (1, false)), ([], some (3, false)), ([4, 5], none), ([6, 7, 8], some (9, false)), ([10, 11], none), ([12, 13, 14, 15, 16], none), ([17], none), ([18, 19, 20, 21, 22], none), ([23], none), ([24, 25, 26, 27, 28], none), ([29], none), ([30, 31, 32], some (33, false)), ([34, 35], none), ([36, 37, 38, 39, 40], none), ([41], none)] (by kernel_rfl) fun K' gd hK hg => ?_
    have g5 : gd 5 = some 73 := hg 5
    have g11 : gd 11 = some 79 := hg 11
    have g17 : gd 17 = some 85 := hg 17
    have g23 : gd 23 = some 91 := hg 23
    have g29 : gd 29 = some 97 := hg 29
    have g35 : gd 35 = some 103 := hg 35
    clear hg
    simp only [pick, nth, List.map_cons, List.map_nil, Option.map_none, Option.map_some]
    apply Mops.act
    · intro w' hE'
      have hC' := hE'.cellsS
      go_simp
      with_reducible rfl
    intro K1 hK1
    go_simp
    refine Wcall (.inl rfl) (check_e hT _ (hV.ext (by repeat (first | assumption | exact Ext.refl _ | refine Ext.drew ?_ | refine Ext.alloc ?_ _ | refine Ext.trans ?_ (by assumption)))) hf) ?_
    rintro v w20 ⟨rfl, hE⟩
    have hE := Ext.trans ((Ext.refl w19).drew) hE
    have x0 := hE.cell x0
    have x1 := hE.cell x1
    have hV := hV.ext hE
    have hEw := Ext.trans hEw hE
    have hp1 := hp1.ext hE
    have hq1 := hq1.ext hE
    have a1 := hE.cell a1
    have b1 := hE.cell b1
    have a2 := hE.cell a2
    have b2 := hE.cell b2
    have hp3 := hp3.ext hE
    have hq3 := hq3.ext hE
    have a3 := hE.cell a3
    have b3 := hE.cell b3
    have hp4 := hp4.ext hE
    have hq4 := hq4.ext hE
    have a4 := hE.cell a4
    have b4 := hE.cell b4
    have a5 := hE.cell a5
    have b5 := hE.cell b5
    have hp6 := hp6.ext hE
    have hq6 := hq6.ext hE
    have a6 := hE.cell a6
    have b6 := hE.cell b6
    go_simp
    refine hK1 _ _ (by first | assumption | exact Ext.refl _) ?_
    clear hK1 K1
    apply Mops.act
    · exact fun _ _ => Rops_done
    intro K1 hK1
    go_simp
    refine Wcall (.inl rfl) (refCheck_e hT _ hV hf) ?_
    rintro v w21 ⟨rfl, hE⟩
    have x0 := hE.cell x0
    have x1 := hE.cell x1
    have hV := hV.ext hE
    have hEw := Ext.trans hEw hE
    have hp1 := hp1.ext hE
    have hq1 := hq1.ext hE
    have a1 := hE.cell a1
    have b1 := hE.cell b1
    have a2 := hE.cell a2
    have b2 := hE.cell b2
    have hp3 := hp3.ext hE
    have hq3 := hq3.ext hE
    have a3 := hE.cell a3
    have b3 := hE.cell b3
    have hp4 := hp4.ext hE
    have hq4 := hq4.ext hE
    have a4 := hE.cell a4
    have b4 := hE.cell b4
    have a5 := hE.cell a5
    have b5 := hE.cell b5
    have hp6 := hp6.ext hE
    have hq6 := hq6.ext hE
    have a6 := hE.cell a6
    have b6 := hE.cell b6
    go_simp
    refine hK1 _ _ (by first | assumption | exact Ext.refl _) ?_
    clear hK1 K1
    apply Mops.none
    · intro w' hE'
      have hC' := hE'.cellsS
      go_simp
      with_reducible rfl
    apply Mops.act
    · intro w' hE'
      have hC' := hE'.cellsS
      go_simp
      with_reducible rfl
    intro K1 hK1
    go_simp
    refine Wcall (.inl rfl) (same_T _ _ Tb _ hp1 hq1 hl1) ?_
    rintro v w22 ⟨rfl, hE⟩
    have x0 := hE.cell x0
    have x1 := hE.cell x1
    have hV := hV.ext hE
    have hEw := Ext.trans hEw hE
    have hp1 := hp1.ext hE
    have hq1 := hq1.ext hE
    have a1 := hE.cell a1
    have b1 := hE.cell b1
    have a2 := hE.cell a2
    have b2 := hE.cell b2
    have hp3 := hp3.ext hE
    have hq3 := hq3.ext hE
    have a3 := hE.cell a3
    have b3 := hE.cell b3
    have hp4 := hp4.ext hE
    have hq4 := hq4.ext hE
    have a4 := hE.cell a4
    have b4 := hE.cell b4
    have a5 := hE.cell a5
    have b5 := hE.cell b5
    have hp6 := hp6.ext hE
    have hq6 := hq6.ext hE
    have a6 := hE.cell a6
    have b6 := hE.cell b6
    go_simp
    refine hK1 _ _ (by first | assumption | exact Ext.refl _) ?_
    clear hK1 K1
    apply Mops.none
    · intro w' hE'
      have hC' := hE'.cellsS
      go_simp
      with_reducible rfl
    apply Mops.none
    · intro w' hE'
      have hC' := hE'.cellsS
      go_simp
      with_reducible rfl
    apply Mops.none
    · intro w' hE'
      have hC' := hE'.cellsS
      go_simp
      with_reducible rfl
    apply Mops.none
    · intro w' hE'
      have hC' := hE'.cellsS
      go_simp
      with_reducible rfl
    apply Mops.none
    · intro w' hE'
      have hC' := hE'.cellsS
      go_simp
      with_reducible rfl
    apply Mops.none
    · intro w' hE'
      have hC' := hE'.cellsS
      go_simp
      with_reducible rfl
    apply Mops.none
    · intro w' hE'
      have hC' := hE'.cellsS
      go_simp
      with_reducible rfl
    apply Mops.act
    · intro w' hE'
      have hC' := hE'.cellsS
      go_simp
      with_reducible rfl
    intro K1 hK1
    go_simp
    refine Wcall (.inl rfl) (same_I _ _ Wt _ hp3 hq3 hl2) ?_
    rintro v w23 ⟨rfl, hE⟩
    have x0 := hE.cell x0
    have x1 := hE.cell x1
    have hV := hV.ext hE
    have hEw := Ext.trans hEw hE
    have hp1 := hp1.ext hE
    have hq1 := hq1.ext hE
    have a1 := hE.cell a1
    have b1 := hE.cell b1
    have a2 := hE.cell a2
    have b2 := hE.cell b2
    have hp3 := hp3.ext hE
    have hq3 := hq3.ext hE
    have a3 := hE.cell a3
    have b3 := hE.cell b3
    have hp4 := hp4.ext hE
    have hq4 := hq4.ext hE
    have a4 := hE.cell a4
    have b4 := hE.cell b4
    have a5 := hE.cell a5
    have b5 := hE.cell b5
    have hp6 := hp6.ext hE
    have hq6 := hq6.ext hE
    have a6 := hE.cell a6
    have b6 := hE.cell b6
    go_simp
    refine hK1 _ _ (by first | assumption | exact Ext.refl _) ?_
    clear hK1 K1
    apply Mops.none
    · intro w' hE'
      have hC' := hE'.cellsS
      go_simp
      with_reducible rfl
    apply Mops.none
    · intro w' hE'
      have hC' := hE'.cellsS
      go_simp
      with_reducible rfl
    apply Mops.none
    · intro w' hE'
      have hC' := hE'.cellsS
      go_simp
      with_reducible rfl
    refine Mops.done ?_
    refine hK _ _ ?_
    clear hK K' gd g5 g11 g17 g23 g29 g35
    refine Wp.keep [12, 13, 14, 15, 16, 17, 18, 19, 20, 21] fun r16 hkeep => ?_
    obtain ⟨e12_16, e13_16, e14_16, e15_16, e16_16, e17_16, e18_16, e19_16, e20_16, e21_16, -⟩ := hkeep
    simp [go_sem, e1_15, e3_15, e4_15, e5_15, e6_15, e7_15, e8_15, e9_15, e10_15, e11_15, e12_15, e13_15, e14_15, e15_15, e16_15, e17_15, e18_15, e19_15, e20_15] at e12_16 e13_16 e14_16 e15_16 e16_16 e17_16 e18_16 e19_16 e20_16 e21_16
    clear e1_15 e3_15 e4_15 e5_15 e6_15 e7_15 e8_15 e9_15 e10_15 e11_15 e12_15 e13_15 e14_15 e15_15 e16_15 e17_15 e18_15 e19_15 e20_15
    refine Wp.seqRegion (.inl rfl) (by kernel_rfl) fun K' gd hK hg => ?_
    have g1 : gd 1 = some 110 := hg 1
    have g4 : gd 4 = some 113 := hg 4
    have g10 : gd 10 = some 119 := hg 10
    have g16 : gd 16 = some 125 := hg 16
    have g22 : gd 22 = some 131 := hg 22
    have g28 : gd 28 = some 137 := hg 28
    have g34 : gd 34 = some 143 := hg 34
    clear hg
    go_simp
    refine Wcall (.inl rfl) (sanity_c _) ?_
    rintro v w24 ⟨rfl, hE⟩
    have x0 := hE.cell x0
    have x1 := hE.cell x1
    have hV := hV.ext hE
    have hEw := Ext.trans hEw hE
    have hp1 := hp1.ext hE
    have hq1 := hq1.ext hE
    have a1 := hE.cell a1
    have b1 := hE.cell b1
    have a2 := hE.cell a2
    have b2 := hE.cell b2
    have hp3 := hp3.ext hE
    have hq3 := hq3.ext hE
    have a3 := hE.cell a3
    have b3 := hE.cell b3
    have hp4 := hp4.ext hE
    have hq4 := hq4.ext hE
    have a4 := hE.cell a4
    have b4 := hE.cell b4
    have a5 := hE.cell a5
    have b5 := hE.cell b5
    have hp6 := hp6.ext hE
    have hq6 := hq6.ext hE
    have a6 := hE.cell a6
    have b6 := hE.cell b6
    clear hE
    go_simp
    refine Wcall (.inl rfl) (same_I _ _ Dl _ hp4 hq4 hl3) ?_
    rintro v w25 ⟨rfl, hE⟩
    have x0 := hE.cell x0
    have x1 := hE.cell x1
    have hV := hV.ext hE
    have hEw := Ext.trans hEw hE
    have hp1 := hp1.ext hE
    have hq1 := hq1.ext hE
    have a1 := hE.cell a1
    have b1 := hE.cell b1
    have a2 := hE.cell a2
    have b2 := hE.cell b2
    have hp3 := hp3.ext hE
    have hq3 := hq3.ext hE
    have a3 := hE.cell a3
    have b3 := hE.cell b3
    have hp4 := hp4.ext hE
    have hq4 := hq4.ext hE
    have a4 := hE.cell a4
    have b4 := hE.cell b4
    have a5 := hE.cell a5
    have b5 := hE.cell b5
    have hp6 := hp6.ext hE
    have hq6 := hq6.ext hE
    have a6 := hE.cell a6
    have b6 := hE.cell b6
    go_simp
    refine Wcall (.inl rfl) (same_S _ _ Cr _ hp6 hq6 hl4) ?_
    rintro v w26 ⟨rfl, hE⟩
    have x0 := hE.cell x0
    have x1 := hE.cell x1
    have hV := hV.ext hE
    have hEw := Ext.trans hEw hE
    have hp1 := hp1.ext hE
    have hq1 := hq1.ext hE
    have a1 := hE.cell a1
    have b1 := hE.cell b1
    have a2 := hE.cell a2
    have b2 := hE.cell b2
    have hp3 := hp3.ext hE
    have hq3 := hq3.ext hE
    have a3 := hE.cell a3
    have b3 := hE.cell b3
    have hp4 := hp4.ext hE
    have hq4 := hq4.ext hE
    have a4 := hE.cell a4
    have b4 := hE.cell b4
    have a5 := hE.cell a5
    have b5 := hE.cell b5
    have hp6 := hp6.ext hE
    have hq6 := hq6.ext hE
    have a6 := hE.cell a6
    have b6 := hE.cell b6
    go_simp
    refine hK _ _ ?_
    clear hK K' gd g1 g4 g10 g16 g22 g28 g34
    refine Wp.keep [2] fun r17 hkeep => ?_
    obtain ⟨e2_17, -⟩ := hkeep
    simp [go_sem, e12_16, e13_16, e14_16, e15_16, e16_16, e17_16, e18_16, e19_16, e20_16, e21_16] at e2_17
    clear e12_16 e13_16 e14_16 e15_16 e16_16 e17_16 e18_16 e19_16 e20_16 e21_16
    refine Wp.ret ?_
    refine endK_tmp Tryz.results3 (by decide) ?_
    rw [e2_17]
    exact ⟨by simp, (by repeat (first | assumption | exact Ext.refl _ | refine Ext.drew ?_ | refine Ext.alloc ?_ _ | refine Ext.trans ?_ (by assumption)))⟩
  · skip
    refine Wp.seqRegion (.inl rfl) (by kernel_rfl) fun K' gd hK hg => ?_
    clear hg
    go_simp
    refine hK _ _ ?_
    clear hK K' gd
    refine Wp.keep [1] fun r18 hkeep => ?_
    obtain ⟨e1_18, -⟩ := hkeep
    simp [go_sem, e0_1] at e1_18
    clear e0_1
    refine Wp.seq ?_
    refine Wp.seqRegion (.inl rfl) (by kernel_rfl) fun K' gd hK hg => ?_
    clear hg
    go_simp
    refine Wcall (.inl rfl) (few_F hs _ (hV.ext (by repeat (first | assumption | exact Ext.refl _ | refine Ext.drew ?_ | refine Ext.alloc ?_ _ | refine Ext.trans ?_ (by assumption)))) hf) ?_
    rintro v w2 ⟨rfl, hE⟩
    go_simp
    refine hK _ _ ?_
    clear hK K' gd
    refine Wp.keep [1, 24] fun r19 hkeep => ?_
    obtain ⟨e1_19, e24_19, -⟩ := hkeep
    simp [go_sem, e1_18] at e1_19 e24_19
    clear e1_18
    refine Wp.condT (by go_simp) ?_
    refine Wp.seqRegion (.inl rfl) (by kernel_rfl) fun K' gd hK hg => ?_
    clear hg
    go_simp
    refine Wcall (.inl rfl) (sanity_c _) ?_
    rintro v w3 ⟨rfl, hE3⟩
    go_simp
    refine hK _ _ ?_
    clear hK K' gd
    refine Wp.keep [2] fun r20 hkeep => ?_
    obtain ⟨e2_20, -⟩ := hkeep
    simp [go_sem, e1_19, e24_19] at e2_20
    clear e1_19 e24_19
    refine Wp.ret ?_
    refine thenK_ret ?_
    refine endK_tmp Tryz.results3 (by decide) ?_
    rw [e2_20]
    exact ⟨rfl, (by repeat (first | assumption | exact Ext.refl _ | refine Ext.drew ?_ | refine Ext.alloc ?_ _ | refine Ext.trans ?_ (by assumption)))⟩
end Go.Proofs.YtnfagcccgmakdaaGreat
namespace Go.Proofs.YtnfagcccgmakdaaGreat
open Go.ChangeShapes Go.WideShapes Go.RowKit Go.Wk Go.Proofs

theorem own : ownKnob Tryz.prog.godebug = none := by kernel_rfl
theorem laidOut : laidOutB Tryz.prog = true := by kernel_rfl
set_option maxRecDepth 100000 in
theorem orderTimes_lifted (os : Os) (started : os.Started) (H : Type) (enc : TypeId × Value → H) :
    ReturnsInHanded {} Tryz.checked os 3 .any (Rows.orderTimesSpec.pre6 enc Tryz.prog Tryz.f3 Rows.orderTimesRow.domain false) (Rows.orderTimesSpec.post enc Tryz.prog Tryz.f3 false true false false) := by
  refine returnsInHanded_of_change_sized (C := Tryz.checked) own started (by kernel_rfl) Tryz.func3
    (ChangeSpec.witness6 (enc := enc) (C := Tryz.checked) false ⟨#[], #[.agg #[.slice none 0 0, .slice none 0 0]], []⟩ 8 (by kernel_rfl) (by kernel_rfl) (by kernel_rfl) (by kernel_rfl)) ?_
  intro W base args ds gs before hval0 hW0 _ hsz0 _
  have hval : ∀ (j : Nat) t v, Tryz.f3.params[j]? = some t → args[j]? = some v → Value.okWide Tryz.prog W .any base t v := hval0
  have hW : DataW.Whole enc Tryz.prog Tryz.f3.params.toList [] false W args.toList ds gs before := hW0
  have hsz : (DataW.weightsEach Tryz.prog (Tryz.f3.params.toList ++ []) (ds ++ gs)).all (· ≤ reachBytes) = true := hsz0
  clear hval0 hsz0
  obtain ⟨p, q, hA, hV, -, -, -⟩ := hW
  obtain ⟨rfl, -⟩ := trodVars_none hV
  rw [List.append_nil, List.append_nil] at hsz
  rw [Tryz.params3] at hA hsz hval
  obtain ⟨hlen, hR⟩ := Rd.of_args hA hsz
  obtain ⟨v0, d0, rfl, rfl, -⟩ := trodAll_one hA
  have r0 := hR 0 _ v0 rfl rfl
  obtain ⟨cs0, rfl, -⟩ := okWide_struct Tryz.underlying25 (hval 0 _ v0 rfl rfl)
  obtain ⟨x0, h0, f0⟩ := openO ⟨cs0, rfl⟩ r0
  refine (times_c _ x0 W h0 f0).calls.mono fun e W' ⟨v, he, hv, hE⟩ => ?_
  subst he; subst hv
  exact ⟨_, rfl, law_post hW0 laidOut rfl (by rw [Tryz.params3]; intro t ht; simp at ht; subst ht; exact ⟨by kernel_rfl, of_decide_eq_true (by kernel_rfl)⟩) rfl Tryz.underlying4 rfl rfl rfl hE⟩
theorem orderTimes_holds : Rows.OrderTimesSaid :=
  OpenClaim.holds_of_wide 3 Tryz.f3 rfl rfl rfl rfl rfl rfl rfl ⟨rfl, rfl, rfl, rfl, rfl⟩ rfl rfl rfl rfl rfl (by kernel_rfl) Tryz.func3 (by kernel_rfl)
    (of_decide_eq_true (by kernel_rfl)) (by unfold Func.isWrapper; first | (rw [if_pos (by decide +kernel)]; kernel_rfl) | (rw [if_neg (by decide +kernel)]; exact ⟨rfl, rfl⟩))
    (fun os started H enc _ => orderTimes_lifted os started H enc)
#print axioms orderTimes_holds
end Go.Proofs.YtnfagcccgmakdaaGreat
