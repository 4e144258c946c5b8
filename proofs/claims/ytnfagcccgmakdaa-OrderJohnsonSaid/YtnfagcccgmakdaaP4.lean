/- Idle. Rate. Repeat, Alike. by; Equal. The sort. The sort. SortStableFunc; scribes in another order. Scribes in another order; Johnson. Johnson. -/
import Derived.Test.YtnfagcccgmakdaaP3
import Derived.Laws.OwnMore
set_option linter.all false
namespace Go.Proofs.Ytnfagcccgmakdaa
open Go.RowKit Go.Wk Go.Proofs
attribute [local irreducible] Go.Wk.Wops Go.Wk.Wp Go.Wk.Mtree Go.Wk.Mops
set_option maxHeartbeats 4000000

/-- how long a copy lies idle behind a stint -/
def gapV (o : Ord) (s : Nat × Nat) : Int := begA o (s.1 + (o.C s.2).toNat) s.2 - (begA o s.1 s.2 + o.T s.1 s.2)
def idleF (o : Ord) (j : Nat) (m : Int) (s : Nat × Nat) : Int := if s.2 = j ∧ s.1 + (o.C s.2).toNat < o.n then m + gapV o s else m
def idleA (o : Ord) (xs : List (Nat × Nat)) (j : Nat) : Int := xs.foldl (idleF o j) 0
theorem idleA_take (o : Ord) (xs : List (Nat × Nat)) {k : Nat} {x : Nat × Nat} (h : xs[k]? = some x) (j : Nat) : idleA o (xs.take (k + 1)) j = idleF o j (idleA o (xs.take k) j) x := by
  unfold idleA; rw [List.take_add_one, h]; simp [List.foldl_append]
def idleL (o : Ord) : List Int := (List.range o.m).map (idleA o (stintsL o.n o.m))
theorem gapV_ok {o : Ord} (ho : OrdOk o) {s : Nat × Nat} (h1 : s.1 < o.n) (h2 : s.2 < o.m) (h3 : s.1 + (o.C s.2).toNat < o.n) : -3000 ≤ gapV o s ∧ gapV o s ≤ 3000 := by
  have e1 := begA_ok ho h1 h2
  have e2 := begA_ok ho h3 h2
  have e3 := ho.vT _ _ h1 h2
  unfold gapV; omega
theorem idleA_ok {o : Ord} (ho : OrdOk o) (j : Nat) : ∀ k, k ≤ o.n * o.m → -3000 * (k : Int) ≤ idleA o ((stintsL o.n o.m).take k) j ∧ idleA o ((stintsL o.n o.m).take k) j ≤ 3000 * (k : Int)
  | 0, _ => by simp [idleA]
  | k + 1, hk => by
    have ih := idleA_ok ho j k (by omega)
    have hlt : k < (stintsL o.n o.m).length := by rw [stintsL_len]; omega
    have hx := List.getElem?_eq_getElem hlt
    obtain ⟨-, -, h1, h2, -⟩ := stintsL_at hx
    rw [idleA_take o _ hx]
    unfold idleF
    split
    · rename_i h; have := gapV_ok ho h1 h2 h.2; omega
    · omega
def zeroIs (P : Program) (e : TypeId) : Bool :=
  match P.info? e with
  | some i => decide (i.size = 1) && (match i.zero with | some (.int .i64 x) => decide (x = 0) | _ => false)
  | none => false
theorem madeI (n : Nat) : ∀ j, j < n → (madeC Try.prog 3 n)[j]? = some (.int .i64 0) := by
  intro j hj
  have h : zeroIs Try.prog 3 = true := by kernel_rfl
  unfold zeroIs at h
  unfold madeC
  split at h
  · rename_i i hi
    rw [Bool.and_eq_true, decide_eq_true_eq] at h
    obtain ⟨h1, h2⟩ := h
    split at h2
    · rename_i x hz
      rw [decide_eq_true_eq] at h2
      subst h2
      rw [hi]; dsimp only
      rw [hz]; dsimp only
      rw [h1, Nat.mul_one, ← Array.getElem?_toList, show (Value.int .i64 0).cells = #[.int .i64 0] from rfl, toList_madeCells_one, List.getElem?_replicate, if_pos hj]
    · cases h2
  · cases h
theorem RowB.adm {w w' : World} {m b n : Nat} {e : TypeId} (h : RowB w b e n) (hA : Adm m w w') : RowB w' b e n := by
  obtain ⟨cur, h1, h2⟩ := h; exact ⟨cur, hA.heap h1, h2⟩
theorem RowB.shut {w w' : World} {m b n : Nat} {e : TypeId} (h : RowB w b e n) (hA : Shut m w w') : RowB w' b e n := by
  obtain ⟨cur, h1, h2⟩ := h; exact ⟨cur, hA.heap h1, h2⟩
theorem RowB.own {w : World} {g n base : Nat} {f : Nat → Int} (h : RowB w g 3 n) (hn : n ≤ 1000000) (hb : base ≤ g) (hc : ∀ j, j < n → w.cell? ⟨g, j, none⟩ = some (.int .i64 (f j))) : OwnI w base (.slice (some ⟨g, 0, none⟩) n n) ((List.range n).map f) := by
  obtain ⟨cur, h1, h2⟩ := h
  refine ⟨by simp, .inr ⟨g, n, cur, by simp, hb, h1, by simp, by unfold maxLen; omega, by rw [h2, Nat.mul_one], ?_⟩⟩
  apply List.ext_getElem?
  intro j
  simp only [List.length_map, List.length_range, Nat.mul_one]
  by_cases hj : j < n
  · rw [List.getElem?_take, if_pos hj, Array.getElem?_toList, ← cell_of_row w g j cur _ _ h1, hc j hj]
    simp [hj]
  · rw [List.getElem?_take, if_neg hj]
    simp [hj]
theorem Idle_c (v : Value) (o : Ord) (w : World) (hV : OrderV w w.heap.size v o) (hf : Fits o) :
    CallsV Try.prog 43 #[v] w fun v w' => ∃ t, v = .tuple #[t, .int .i64 (checkS o)] ∧ OwnI w' w.heap.size t (if checkS o = 0 then idleL o else []) ∧ Ext w w' := by
  obtain ⟨cv, rv, rfl, hV2⟩ := hV
  have hV : OrderV w w.heap.size (.agg #[cv, rv]) o := ⟨cv, rv, rfl, hV2⟩
  refine Wp.fnM Try.func43 rfl Try.ntmps43 (by simp) ?_
  refine Wp.keep [0] fun r1 hkeep => ?_
  obtain ⟨e0_1, -⟩ := hkeep
  simp [go_sem] at e0_1
  refine Wp.seqRegion (.inl rfl) (by kernel_rfl) fun K' gd hK hg => ?_
  clear hg
  go_simp
  refine hK _ _ ?_
  clear hK K' gd
  refine Wp.keep [1] fun r2 hkeep => ?_
  obtain ⟨e1_2, -⟩ := hkeep
  simp [go_sem, e0_1] at e1_2
  clear e0_1
  refine Wp.seq ?_
  refine Wp.seqRegion (.inl rfl) (by kernel_rfl) fun K' gd hK hg => ?_
  clear hg
  go_simp
  refine Wcall (.inl rfl) (check_c _ o _ (hV.ext (by repeat (first | assumption | exact Ext.refl _ | refine Ext.drew ?_ | refine Ext.alloc ?_ _ | refine Ext.trans ?_ (by assumption)))) hf) ?_
  rintro v w2 ⟨rfl, hE⟩
  have hc := hE.cellsS
  have hE2 : Ext w w2 := (by repeat (first | assumption | exact Ext.refl _ | refine Ext.drew ?_ | refine Ext.alloc ?_ _ | refine Ext.trans ?_ (by assumption)))
  go_simp
  refine hK _ _ ?_
  clear hK K' gd
  refine Wp.keep [1, 4] fun r3 hkeep => ?_
  obtain ⟨e1_3, e4_3, -⟩ := hkeep
  simp [go_sem, e1_2] at e1_3 e4_3
  clear e1_2
  by_cases h0 : checkS o = 0
  · skip
    refine Wp.seqRegion (.inl rfl) (by kernel_rfl) fun K' gd hK hg => ?_
    clear hg
    go_simp
    refine hK _ _ ?_
    clear hK K' gd
    refine Wp.keep [1, 4, 12] fun r4 hkeep => ?_
    obtain ⟨e1_4, e4_4, e12_4, -⟩ := hkeep
    simp [go_sem, e1_3, e4_3] at e1_4 e4_4 e12_4
    clear e1_3 e4_3
    refine Wp.condF (by go_simp) ?_
    have hg := checkS_zero.1 h0
    have ho := hg.ok
    have hm := ho.hm2
    have hm1 := ho.hm1
    have hn := ho.hn2
    have hm9 : o.m ≤ 1000000000 := by omega
    obtain ⟨a, rfl, rfl, hO⟩ := (hV.ext hE2).ordF2 hg
    refine Wp.skip ?_
    refine thenK_normal ?_
    refine Wp.seqRegion (.inl rfl) (by kernel_rfl) fun K' gd hK hg => ?_
    clear hg
    go_simp
    refine Wcall (.inl rfl) (timed_c a o _ hO) ?_
    rintro v w3 ⟨b, rfl, hR, hE3⟩
    have q0 : w3.cell? ⟨w.heap.size, 0, none⟩ = some (a.cv o) := hE3.cell (hE.cell (by go_simp))
    have q1 : w3.cell? ⟨w.heap.size, 1, none⟩ = some (a.rv o) := hE3.cell (hE.cell (by go_simp))
    go_simp
    refine hK _ _ ?_
    clear hK K' gd
    refine Wp.keep [1, 5] fun r5 hkeep => ?_
    obtain ⟨e1_5, e5_5, -⟩ := hkeep
    simp [go_sem, e1_4, e4_4, e12_4] at e1_5 e5_5
    clear e1_4 e4_4 e12_4
    have hO3 := hO.ext hE3
    clear hc hE
    simp only [OA.cv, OA.rv] at q0 q1
    have hw3 : Ext w w3 := (by repeat (first | assumption | exact Ext.refl _ | refine Ext.drew ?_ | refine Ext.alloc ?_ _ | refine Ext.trans ?_ (by assumption)))
    refine Wp.seqRegion (.inl rfl) (by kernel_rfl) fun K' gd hK hg => ?_
    clear hg
    go_simp
    refine hK _ _ ?_
    clear hK K' gd
    refine Wp.keep [1, 5, 6] fun r6 hkeep => ?_
    obtain ⟨e1_6, e5_6, e6_6, -⟩ := hkeep
    simp [go_sem, e1_5, e5_5] at e1_6 e5_6 e6_6
    clear e1_5 e5_5
    refine Wp.seq ?_
    have hg0 : ((w3.alloc (.cells #[.pointer (some ⟨b, 0, none⟩)] 87)).alloc (.cells (madeC Try.prog 3 o.m) 3)).heap[w3.heap.size + 1]? = some (.cells (madeC Try.prog 3 o.m) 3 (0, 0)) := by have := World.alloc_heap_new (w3.alloc (.cells #[.pointer (some ⟨b, 0, none⟩)] 87)) (.cells (madeC Try.prog 3 o.m) 3); rwa [World.size_alloc] at this
    obtain ⟨V1, hV1⟩ : ∃ V1, (w3.alloc (.cells #[.pointer (some ⟨b, 0, none⟩)] 87)).alloc (.cells (madeC Try.prog 3 o.m) 3) = V1 := ⟨_, rfl⟩
    have e0 : V1.heap.size = w3.heap.size + 1 + 1 := by rw [← hV1]; simp
    have u0 : V1.cell? ⟨w3.heap.size, 0, none⟩ = some (.pointer (some ⟨b, 0, none⟩)) := by rw [← hV1]; exact cell_al _ (cell_nw w3 _ _ 0)
    have hEV : Ext w3 V1 := by rw [← hV1]; exact (by repeat (first | assumption | exact Ext.refl _ | refine Ext.drew ?_ | refine Ext.alloc ?_ _ | refine Ext.trans ?_ (by assumption)))
    rw [hV1] at hg0 ⊢
    clear hV1
    have hrow : RowB V1 (w3.heap.size + 1) 3 o.m := ⟨_, hg0, by rw [madeC_size ints_T, Nat.mul_one]⟩
    have hz : ∀ j, j < o.m → V1.cell? ⟨w3.heap.size + 1, j, none⟩ = some (.int .i64 0) := fun j hj => by rw [cell_of_row V1 _ j _ _ _ hg0]; exact madeI o.m j hj
    have u2 := cell_nn V1 #[.slice (some ⟨w3.heap.size + 1, 0, none⟩) o.m o.m] 22 0 e0.symm (v := .slice (some ⟨w3.heap.size + 1, 0, none⟩) o.m o.m) rfl
    have q0 := cell_al (.cells #[.slice (some ⟨w3.heap.size + 1, 0, none⟩) o.m o.m] 22) (hEV.cell q0)
    have q1 := cell_al (.cells #[.slice (some ⟨w3.heap.size + 1, 0, none⟩) o.m o.m] 22) (hEV.cell q1)
    refine Wp.seqRegion (.inl rfl) (by kernel_rfl) fun K' gd hK hg => ?_
    clear hg
    go_simp
    refine Wcall (.inl rfl) ((stints_c a o _)) ?_
    rintro v w4 ⟨bx, rfl, hE4, s0, s1⟩
    go_simp
    refine hK _ _ ?_
    clear hK K' gd
    refine Wp.keep [1, 5, 6, 21] fun r7 hkeep => ?_
    obtain ⟨e1_7, e5_7, e6_7, e21_7, -⟩ := hkeep
    simp [go_sem, e1_6, e5_6, e6_6] at e1_7 e5_7 e6_7 e21_7
    clear e1_6 e5_6 e6_6
    have hE14 : Ext V1 w4 := (by repeat (first | assumption | exact Ext.refl _ | refine Ext.drew ?_ | refine Ext.alloc ?_ _ | refine Ext.trans ?_ (by assumption)))
    have r0 := hE14.cell u0
    have r2 := hE4.cell u2
    have r3 := hE4.cell q0
    have r4 := hE4.cell q1
    have hE34 : Ext w3 w4 := (by repeat (first | assumption | exact Ext.refl _ | refine Ext.drew ?_ | refine Ext.alloc ?_ _ | refine Ext.trans ?_ (by assumption)))
    have hrow4 := hrow.ext hE14
    have hz4 : ∀ j, j < o.m → w4.cell? ⟨w3.heap.size + 1, j, none⟩ = some (.int .i64 (idleA o ((stintsL o.n o.m).take 0) j)) := fun j hj => hE14.cell (hz j hj)
    have hs4 := Below.size hE34
    have hws : w.heap.size < w3.heap.size := cell_lt (by assumption : w3.cell? ⟨w.heap.size, 0, none⟩ = some (.slice (some ⟨a.cb, a.co, none⟩) o.m a.cc))
    have hbx : w3.heap.size + 1 ≠ bx := by intro e; subst e; have h' := hz4 0 (by omega); simp only [OA.cv] at s0; rw [s0] at h'; cases h'
    refine Wp.block ?_
    refine Wp.range (stints_it (some ⟨a.cb, a.co, none⟩) a.rA o.n o.m a.cc a.rc bx (by omega) (by omega)) (by go_simp) (enters_of Try.func105 (by kernel_rfl) rfl) (fun _ => rfl) (fun k W => Ext w3 W ∧ W.cell? ⟨w3.heap.size, 0, none⟩ = some (.pointer (some ⟨b, 0, none⟩)) ∧ W.cell? ⟨w3.heap.size + 1 + 1, 0, none⟩ = some (.slice (some ⟨w3.heap.size + 1, 0, none⟩) o.m o.m) ∧ RowB W (w3.heap.size + 1) 3 o.m ∧ (∀ j, j < o.m → W.cell? ⟨w3.heap.size + 1, j, none⟩ = some (.int .i64 (idleA o ((stintsL o.n o.m).take k) j))) ∧ W.cell? ⟨w.heap.size, 0, none⟩ = some (.slice (some ⟨a.cb, a.co, none⟩) o.m a.cc) ∧ W.cell? ⟨w.heap.size, 1, none⟩ = some (.slice a.rA o.n a.rc) ∧ W.cell? ⟨bx, 0, none⟩ = some (a.cv o) ∧ W.cell? ⟨bx, 1, none⟩ = some (a.rv o)) (fun _ _ => False) ?_ ?_ ?_ ?_ ?_ ?_ ?_
    · exact fun k W h => ⟨h.2.2.2.2.2.2.2.1, h.2.2.2.2.2.2.2.2⟩
    · exact fun k W W' hA ⟨h1, h2, h3, h4, h5, h6, h7, h8, h9⟩ => ⟨hA.below h1 (Nat.le_refl _) (Below.size hE34), hA.cell h2, hA.cell h3, h4.adm hA, fun j hj => hA.cell (h5 j hj), hA.cell h6, hA.cell h7, hA.cell h8, hA.cell h9⟩
    · exact fun _ _ _ _ h => h
    · exact ⟨hE34, r0, r2, hrow4, hz4, r3, r4, s0, s1⟩
    · rintro l k x W hx ⟨i1, i2, i3, i4, i5, i6, i7, i8, i9⟩ hl
      simp only [encS, List.zip_toArray, List.zip_cons_cons, List.zip_nil_left, putL_cons, putL_nil]
      refine Wp.keep [1, 5, 6, 22] fun r8 hkeep => ?_
      obtain ⟨e1_8, e5_8, e6_8, e22_8, -⟩ := hkeep
      simp [go_sem, e1_7, e5_7, e6_7, e21_7] at e1_8 e5_8 e6_8 e22_8
      refine Wp.loneRegion (.inr ⟨_, rfl⟩) (by kernel_rfl) fun K' gd hK hg => ?_
      clear hg
      go_simp
      refine hK _ _ ?_
      clear hK K' gd
      refine Ends.keep [1, 5, 6, 7] fun r9 hkeep => ?_
      obtain ⟨e1_9, e5_9, e6_9, e7_9, -⟩ := hkeep
      simp [go_sem, e1_8, e5_8, e6_8, e22_8] at e1_9 e5_9 e6_9 e7_9
      clear e1_8 e5_8 e6_8 e22_8
      refine Ends.mk ?_
      refine thenK_normal ?_
      refine ⟨KeepsOthers.alloc _ _, fun W2 hA2 hl2 => ?_⟩
      obtain ⟨lr, hl2⟩ := hl2
      have hA3 := (Adm.of_ext ((Ext.refl W).alloc _)).trans hA2
      have j1 := hA3.below i1 (Nat.le_refl _) (Below.size hE34)
      have j2 := hA3.cell i2
      have j3 := hA3.cell i3
      have j4 := i4.adm hA3
      have j5 : ∀ j, j < o.m → W2.cell? ⟨w3.heap.size + 1, j, none⟩ = some (.int .i64 (idleA o ((stintsL o.n o.m).take k) j)) := fun j hj => hA3.cell (i5 j hj)
      have j6 := hA3.cell i6
      have j7 := hA3.cell i7
      have j8 := hA3.cell i8
      have j9 := hA3.cell i9
      have f3 := hA2.cell (cell_nw W #[.int .i64 (x.1 : Int), .int .i64 (x.2 : Int)] 40 0)
      have f4 := hA2.cell (cell_nw W #[.int .i64 (x.1 : Int), .int .i64 (x.2 : Int)] 40 1)
      obtain ⟨-, hkl, hx1, hx2, -⟩ := stintsL_at hx
      have hb := begA_ok ho hx1 hx2
      have hT := ho.vT x.1 x.2 hx1 hx2
      have hC := ho.vC x.2 hx2
      have hRj := (hR.ext j1)
      have hOj := hO3.ext j1
      have c1 := hOj.hC x.2 hx2
      obtain ⟨nx, hnx⟩ : ∃ nx, x.1 + (o.C x.2).toNat = nx := ⟨_, rfl⟩
      have hwn : IntKind.i64.wrap ((x.1 : Int) + o.C x.2) = (nx : Int) := by rw [IntWalk.i64_in _ (by omega)]; omega
      have b2 : (x.2 : Int) < 15 := by omega
      have b4 : (x.2 : Int) < (o.m : Int) := by omega
      have hik := idleA_ok ho x.2 k (by omega)
      have hnm : o.n * o.m ≤ 20 * 15 := Nat.mul_le_mul hn hm
      refine Wp.block ?_
      refine Wp.seqDraw (.inr ⟨_, rfl⟩) mixed [([0, 1, 2, 3, 4], none), ([5, 6, 7, 8, 9], none)] (by kernel_rfl) fun K' gd hK hg => ?_
      clear hg
      simp only [pick, nth, List.map_cons, List.map_nil, Option.map_none, Option.map_some]
      apply Mops.none
      · intro w' hE'
        have hC' := hE'.cellsS
        go_simp
        with_reducible rfl
      apply Mops.none
      · intro w' hE'
        have hC' := hE'.cellsS
        go_simp
        with_reducible rfl
      refine Mops.done ?_
      refine hK _ _ ?_
      clear hK K' gd
      refine Wp.keep [1, 5, 6, 7, 8] fun r10 hkeep => ?_
      obtain ⟨e1_10, e5_10, e6_10, e7_10, e8_10, -⟩ := hkeep
      simp [go_sem, e1_9, e5_9, e6_9, e7_9] at e1_10 e5_10 e6_10 e7_10 e8_10
      clear e1_9 e5_9 e6_9 e7_9
      refine Wp.seqRegion (.inr ⟨_, rfl⟩) (by kernel_rfl) fun K' gd hK hg => ?_
      clear hg
      go_simp
      refine hK _ _ ?_
      clear hK K' gd
      refine Wp.keep [5, 6, 7, 8, 36] fun r11 hkeep => ?_
      obtain ⟨e5_11, e6_11, e7_11, e8_11, e36_11, -⟩ := hkeep
      simp [go_sem, e1_10, e5_10, e6_10, e7_10, e8_10] at e5_11 e6_11 e7_11 e8_11 e36_11
      clear e1_10 e5_10 e6_10 e7_10 e8_10
      by_cases hq : nx < o.n
      · refine Wp.condT (by go_simp) ?_
        have hgp := gapV_ok ho hx1 hx2 (by omega)
        have hwg : IntKind.i64.wrap (begA o nx x.2 - (begA o x.1 x.2 + o.T x.1 x.2)) = gapV o x := by have e := begA_ok ho hq hx2; unfold gapV; rw [hnx]; exact IntWalk.i64_in _ (by omega)
        have hst : idleA o ((stintsL o.n o.m).take k) x.2 + gapV o x = idleA o ((stintsL o.n o.m).take (k + 1)) x.2 := by rw [idleA_take o _ hx]; unfold idleF; rw [if_pos ⟨rfl, by omega⟩]
        have hwa : IntKind.i64.wrap (idleA o ((stintsL o.n o.m).take k) x.2 + gapV o x) = idleA o ((stintsL o.n o.m).take (k + 1)) x.2 := by rw [← hst]; exact IntWalk.i64_in _ (by omega)
        have c5 := j5 x.2 hx2
        have c6 := hRj.ct nx x.2 (by omega) (by omega)
        have b5 : (nx : Int) < 20 := by omega
        clear hst hgp hnx
        refine Wp.loneDraw (.inr ⟨_, rfl⟩) mixed [([0, 1, 2, 3, 4], none), ([5, 6, 7, 8, 9], none), ([10, 11, 12, 13, 14], none), ([15], some (16, false)), ([17, 18, 19], some (20, true))] (by kernel_rfl) fun K' gd hK hg => ?_
        clear hg
        simp only [pick, nth, List.map_cons, List.map_nil, Option.map_none, Option.map_some]
        apply Mops.none
        · intro w' hE'
          have hC' := hE'.cellsS
          go_simp
          with_reducible rfl
        apply Mops.none
        · intro w' hE'
          have hC' := hE'.cellsS
          go_simp
          with_reducible rfl
        apply Mops.none
        · intro w' hE'
          have hC' := hE'.cellsS
          go_simp
          with_reducible rfl
        apply Mops.act
        · intro w' hE'
          have hC' := hE'.cellsS
          go_simp
          with_reducible rfl
        intro K1 hK1
        go_simp
        refine Wcall (.inr ⟨_, rfl⟩) (ends_c a o (begA o) b x.1 x.2 _ (hOj.ext (by repeat (first | assumption | exact Ext.refl _ | refine Ext.drew ?_ | refine Ext.alloc ?_ _ | refine Ext.trans ?_ (by assumption)))) (hRj.ext (by repeat (first | assumption | exact Ext.refl _ | refine Ext.drew ?_ | refine Ext.alloc ?_ _ | refine Ext.trans ?_ (by assumption)))) hx1 hx2 ⟨hb.1, by omega⟩) ?_
        rintro v w5 ⟨rfl, hE5⟩
        have hE25 : Ext W2 w5 := (by repeat (first | assumption | exact Ext.refl _ | refine Ext.drew ?_ | refine Ext.alloc ?_ _ | refine Ext.trans ?_ (by assumption)))
        have c5' := hE25.cell c5
        have j3' := hE25.cell j3
        have f4' := hE25.cell f4
        have fz' := (hE25.frozen c5).trans (j4.frozen x.2)
        go_simp
        refine hK1 _ _ (by first | assumption | exact Ext.refl _) ?_
        clear hK1 K1
        apply Mops.last
        · intro w' hE'
          have hC' := hE'.cellsS
          go_simp
          with_reducible rfl
        intro K1 hK1
        go_simp
        refine hK1 _ _ ?_
        clear hK1 K1
        refine Mops.done ?_
        refine hK _ _ ?_
        clear hK K' gd
        refine Ends.keep [] fun r12 hkeep => ?_
        clear hkeep
        clear e5_11 e6_11 e7_11 e8_11 e36_11
        refine Ends.mk ?_
        refine blockK_normal ?_
        refine ⟨(KeepsOthers.of_ext hE25).trans (KeepsOthers.setCell _ _ _), Ext.setC (Below.trans j1 (Below.mono hE25 j1.size)) (by omega) _, ?_, ?_, (j4.ext hE25).set _ rfl _, ?_, ?_, ?_, ?_, ?_⟩
        · exact (setCell_blk (by omega)).trans (hE25.cell j2)
        · exact (setCell_blk (by omega)).trans j3'
        · intro j hj
          by_cases e : j = x.2
          · subst e; exact World.cell?_setCell_same' _ _ _ (by rw [c5']; rfl)
          · rw [setCell_off (Ne.symm e), hE25.cell (j5 j hj), idleA_take o _ hx]; unfold idleF; rw [if_neg (fun h => e h.1.symm)]
        · exact (setCell_blk (by omega)).trans (hE25.cell j6)
        · exact (setCell_blk (by omega)).trans (hE25.cell j7)
        · exact (setCell_blk hbx).trans (hE25.cell j8)
        · exact (setCell_blk hbx).trans (hE25.cell j9)
      · refine Wp.condF (by go_simp) ?_
        refine Wp.skip ?_
        refine blockK_normal ?_
        refine ⟨KeepsOthers.of_ext (by repeat (first | assumption | exact Ext.refl _ | refine Ext.drew ?_ | refine Ext.alloc ?_ _ | refine Ext.trans ?_ (by assumption))), Below.trans j1 (Below.mono (show Ext W2 W2.drew from (by repeat (first | assumption | exact Ext.refl _ | refine Ext.drew ?_ | refine Ext.alloc ?_ _ | refine Ext.trans ?_ (by assumption)))) j1.size), j2, j3, j4, fun j hj => ?_, j6, j7, j8, j9⟩
        have hji := j5 j hj
        rw [idleA_take o _ hx]; unfold idleF; rw [if_neg (fun h => hq (by rw [← hnx]; exact h.2))]; exact hji
    · rintro rm W hrm ⟨i1, i2, i3, i4, i5, i6, i7, i8, i9⟩ hmk
      refine blockK_normal ?_
      refine thenK_normal ?_
      refine Wp.seqRegion (.inl rfl) (by kernel_rfl) fun K' gd hK hg => ?_
      clear hg
      go_simp
      refine hK _ _ ?_
      clear hK K' gd
      refine Wp.keep [2, 3] fun r13 hkeep => ?_
      obtain ⟨e2_13, e3_13, -⟩ := hkeep
      simp [go_sem, e1_7, e5_7, e6_7, e21_7] at e2_13 e3_13
      clear e1_7 e5_7 e6_7 e21_7
      refine Wp.ret ?_
      refine endM_tmp2 Try.results43 (by decide) (by decide) ((Marks.one (by first | omega | (simp at hrm; omega)) hmk)) fun wz hS => ?_
      rw [e2_13, e3_13]
      have hEw : Ext w W := Below.trans hw3 (Below.mono i1 (Below.size hw3))
      rw [stripTake] at i5
      refine ⟨_, by rw [h0], ?_, Shut.ext hEw hS⟩
      rw [if_pos h0]; exact RowB.own (i4.shut hS) (by omega) (by omega) (fun j hj => hS.cell (i5 j hj))
    · rintro rm c W hrm hf hmk
      exact hf.elim
  · skip
    refine Wp.seqRegion (.inl rfl) (by kernel_rfl) fun K' gd hK hg => ?_
    clear hg
    go_simp
    refine hK _ _ ?_
    clear hK K' gd
    refine Wp.keep [1, 4, 12] fun r14 hkeep => ?_
    obtain ⟨e1_14, e4_14, e12_14, -⟩ := hkeep
    simp [go_sem, e1_3, e4_3] at e1_14 e4_14 e12_14
    clear e1_3 e4_3
    refine Wp.condT (by go_simp) ?_
    refine Wp.seqRegion (.inl rfl) (by kernel_rfl) fun K' gd hK hg => ?_
    clear hg
    go_simp
    refine hK _ _ ?_
    clear hK K' gd
    refine Wp.keep [2, 3] fun r15 hkeep => ?_
    obtain ⟨e2_15, e3_15, -⟩ := hkeep
    simp [go_sem, e1_14, e4_14, e12_14] at e2_15 e3_15
    clear e1_14 e4_14 e12_14
    refine Wp.ret ?_
    refine thenK_ret ?_
    refine endM_tmp2 Try.results43 (by decide) (by decide) (trivial) fun wz hS => ?_
    rw [e2_15, e3_15]
    exact ⟨_, rfl, by rw [if_neg h0]; exact World.ownsRow_nil _ _ _ _, Shut.ext hE2 hS⟩
end Go.Proofs.Ytnfagcccgmakdaa
namespace Go.Proofs.Ytnfagcccgmakdaa
open Go.RowKit Go.Wk Go.Proofs
attribute [local irreducible] Go.Wk.Wops Go.Wk.Wp Go.Wk.Mtree Go.Wk.Mops
set_option maxHeartbeats 4000000

theorem okRunner_nat {o : Ord} {x : Int} (h : okRunner o x = true) : ∃ i : Nat, x = i ∧ i < o.n := by
  unfold okRunner at h
  have := of_decide_eq_true h
  exact ⟨x.toNat, by omega, by omega⟩
def bestF (o : Ord) (i : Nat) (b j : Nat) : Nat := if o.T i j * o.C b > o.T i b * o.C j then j else b
def bestA (o : Ord) (i k : Nat) : Nat := (List.range k).foldl (bestF o i) 0
theorem bestA_succ (o : Ord) (i k : Nat) : bestA o i (k + 1) = bestF o i (bestA o i k) k := by
  unfold bestA; rw [List.range_succ, List.foldl_append]; rfl
theorem bestA_lt (o : Ord) (i : Nat) : ∀ k, bestA o i k < k ∨ bestA o i k = 0
  | 0 => .inr rfl
  | k + 1 => by
    rw [bestA_succ]; unfold bestF
    split
    · exact .inl (Nat.lt_succ_self k)
    · rcases bestA_lt o i k with h | h
      · exact .inl (by omega)
      · exact .inr h
theorem bestA_m {o : Ord} (i : Nat) {k : Nat} (h1 : 1 ≤ o.m) (hk : k ≤ o.m) : bestA o i k < o.m := by
  rcases bestA_lt o i k with h | h <;> omega
def rateG (o : Ord) (i : Nat) : Nat := Nat.gcd (o.T i (bestA o i o.m)).toNat (o.C (bestA o i o.m)).toNat
def rateN (o : Ord) (i : Nat) : Int := (((o.T i (bestA o i o.m)).toNat / rateG o i : Nat) : Int)
def rateD (o : Ord) (i : Nat) : Int := (((o.C (bestA o i o.m)).toNat / rateG o i : Nat) : Int)
theorem mulOk {x y : Int} (hx : 1 ≤ x ∧ x ≤ 60) (hy : 1 ≤ y ∧ y ≤ 60) : IntKind.i64.wrap (x * y) = x * y := by
  have h1 : 0 ≤ x * y := Int.mul_nonneg (by omega) (by omega)
  have h2 : x * y ≤ 60 * 60 := Int.mul_le_mul hx.2 hy.2 (by omega) (by omega)
  exact IntWalk.i64_in _ (by omega)
theorem quoOk {a b : Nat} (ha : a ≤ 1000000) : IntKind.i64.wrap (Int.tdiv (a : Int) (b : Int)) = ((a / b : Nat) : Int) := by
  rw [← Int.ofNat_tdiv]
  have h := Nat.div_le_self a b
  generalize a / b = q at *
  exact IntWalk.i64_in _ (by omega)
theorem Rate_c (v : Value) (o : Ord) (x : Int) (w : World) (hV : OrderV w w.heap.size v o) (hf : Fits o) :
    CallsV Try.prog 24 #[v, .int .i64 x] w fun v w' => v = .tuple (if askS o (okRunner o x) = 0 then #[.agg #[.int .i64 (rateN o x.toNat), .int .i64 (rateD o x.toNat)], .int .i64 (bestA o x.toNat o.m : Nat), .int .i64 0] else #[.agg #[.int .i64 0, .int .i64 0], .int .i64 0, .int .i64 (askS o (okRunner o x))]) ∧ Ext w w' := by
  obtain ⟨cv, rv, rfl, hV2⟩ := hV
  have hV : OrderV w w.heap.size (.agg #[cv, rv]) o := ⟨cv, rv, rfl, hV2⟩
  refine Wp.fn Try.func24 rfl Try.ntmps24 (by simp) ?_
  refine Wp.keep [0, 1] fun r1 hkeep => ?_
  obtain ⟨e0_1, e1_1, -⟩ := hkeep
  simp [go_sem] at e0_1 e1_1
  refine Wp.seqRegion (.inl rfl) (by kernel_rfl) fun K' gd hK hg => ?_
  clear hg
  go_simp
  refine hK _ _ ?_
  clear hK K' gd
  refine Wp.keep [1, 2, 4] fun r2 hkeep => ?_
  obtain ⟨e1_2, e2_2, e4_2, -⟩ := hkeep
  simp [go_sem, e0_1, e1_1] at e1_2 e2_2 e4_2
  clear e0_1 e1_1
  refine Wp.seq ?_
  refine Wp.seqRegion (.inl rfl) (by kernel_rfl) fun K' gd hK hg => ?_
  clear hg
  go_simp
  refine Wcall (.inl rfl) (runner_c _ o x _ (hV.ext (by repeat (first | assumption | exact Ext.refl _ | refine Ext.drew ?_ | refine Ext.alloc ?_ _ | refine Ext.trans ?_ (by assumption)))) hf) ?_
  rintro v w2 ⟨rfl, hE⟩
  have hE2 : Ext w w2 := (by repeat (first | assumption | exact Ext.refl _ | refine Ext.drew ?_ | refine Ext.alloc ?_ _ | refine Ext.trans ?_ (by assumption)))
  have x0 : w2.cell? ⟨w.heap.size, 0, none⟩ = some cv := hE.cell (by go_simp)
  have x1 : w2.cell? ⟨w.heap.size, 1, none⟩ = some rv := hE.cell (by go_simp)
  have y0 : w2.cell? ⟨w.heap.size + 1, 0, none⟩ = some (.int .i64 0) := hE.cell (by go_simp)
  have y1 : w2.cell? ⟨w.heap.size + 1, 1, none⟩ = some (.int .i64 0) := hE.cell (by go_simp)
  go_simp
  refine hK _ _ ?_
  clear hK K' gd
  refine Wp.keep [1, 2, 4, 7] fun r3 hkeep => ?_
  obtain ⟨e1_3, e2_3, e4_3, e7_3, -⟩ := hkeep
  simp [go_sem, e1_2, e2_2, e4_2] at e1_3 e2_3 e4_3 e7_3
  clear e1_2 e2_2 e4_2
  have fz := fz_ext hE (b := w.heap.size + 1) (by simp) (by intro k; go_simp)
  have f0 := fz 0
  have f1 := fz 1
  by_cases h0 : askS o (okRunner o x) = 0
  · skip
    refine Wp.seqRegion (.inl rfl) (by kernel_rfl) fun K' gd hK hg => ?_
    clear hg
    go_simp
    refine hK _ _ ?_
    clear hK K' gd
    refine Wp.keep [1, 2, 4, 7, 16] fun r4 hkeep => ?_
    obtain ⟨e1_4, e2_4, e4_4, e7_4, e16_4, -⟩ := hkeep
    simp [go_sem, e1_3, e2_3, e4_3, e7_3] at e1_4 e2_4 e4_4 e7_4 e16_4
    clear e1_3 e2_3 e4_3 e7_3
    refine Wp.condF (by go_simp) ?_
    have hg := (askS_zero.1 h0).1
    have ho := hg.ok
    have hm := ho.hm2
    have hm1 := ho.hm1
    obtain ⟨i, rfl, hi⟩ := okRunner_nat (askS_zero.1 h0).2
    obtain ⟨a, rfl, rfl, hO⟩ := (hV.ext hE2).ordF2 hg
    simp only [OA.cv, OA.rv] at x0 x1
    have hrA := hO.hr (by omega)
    simp only [hrA] at x1
    have c1 := hO.hT i hi
    have b3 : (i : Int) < (o.n : Int) := by omega
    refine Wp.skip ?_
    refine thenK_normal ?_
    refine Wp.seqRegion (.inl rfl) (by kernel_rfl) fun K' gd hK hg => ?_
    clear hg
    go_simp
    refine hK _ _ ?_
    clear hK K' gd
    refine Wp.keep [1, 2, 4, 8] fun r5 hkeep => ?_
    obtain ⟨e1_5, e2_5, e4_5, e8_5, -⟩ := hkeep
    simp [go_sem, e1_4, e2_4, e4_4, e7_4, e16_4] at e1_5 e2_5 e4_5 e8_5
    clear e1_4 e2_4 e4_4 e7_4 e16_4
    refine Wp.seqRegion (.inl rfl) (by kernel_rfl) fun K' gd hK hg => ?_
    clear hg
    go_simp
    refine hK _ _ ?_
    clear hK K' gd
    refine Wp.keep [2, 4, 8, 9] fun r6 hkeep => ?_
    obtain ⟨e2_6, e4_6, e8_6, e9_6, -⟩ := hkeep
    simp [go_sem, e1_5, e2_5, e4_5, e8_5] at e2_6 e4_6 e8_6 e9_6
    clear e1_5 e2_5 e4_5 e8_5
    refine Wp.seq ?_
    refine Wp.seqRegion (.inl rfl) (by kernel_rfl) fun K' gd hK hg => ?_
    clear hg
    go_simp
    refine hK _ _ ?_
    clear hK K' gd
    refine Wp.keep [2, 4, 8, 9, 26, 27] fun r7 hkeep => ?_
    obtain ⟨e2_7, e4_7, e8_7, e9_7, e26_7, e27_7, -⟩ := hkeep
    simp [go_sem, e2_6, e4_6, e8_6, e9_6] at e2_7 e4_7 e8_7 e9_7 e26_7 e27_7
    clear e2_6 e4_6 e8_6 e9_6
    refine Wp.block ?_
    refine Wp.loop (fun k ρ ds wk => AllEq [2, 4, 9, 26] ρ r7 ∧ ds = [] ∧ (ρ 27 = .int .i64 (k : Int) ∧ ρ 8 = .int .i64 ((bestA o i k : Nat) : Int) ∧ Ext w2 wk)) (o.m) ?_ ?_
    · refine ⟨AllEq.refl _ _, rfl, ?_⟩
      exact ⟨by rw [e27_7]; rfl, by rw [e8_7]; rfl, (by repeat (first | assumption | exact Ext.refl _ | refine Ext.drew ?_ | refine Ext.alloc ?_ _ | refine Ext.trans ?_ (by assumption)))⟩
    · rintro k r8 _ wk hk ⟨hA, rfl, ⟨e27, e8, hEk⟩⟩
      obtain ⟨e2_8, e4_8, e9_8, e26_8, -⟩ := hA
      rw [e2_7] at e2_8
      rw [e4_7] at e4_8
      rw [e9_7] at e9_8
      rw [e26_7] at e26_8
      refine Wp.seqRegion (.inl rfl) (by kernel_rfl) fun K' gd hK hg => ?_
      clear hg
      go_simp
      refine hK _ _ ?_
      clear hK K' gd
      refine Wp.keep [2, 4, 8, 9, 26, 27, 28] fun r9 hkeep => ?_
      obtain ⟨e2_9, e4_9, e8_9, e9_9, e26_9, e27_9, e28_9, -⟩ := hkeep
      simp [go_sem, e2_8, e4_8, e8, e9_8, e26_8, e27] at e2_9 e4_9 e8_9 e9_9 e26_9 e27_9 e28_9
      clear e2_8 e4_8 e8 e9_8 e26_8 e27
      refine Wp.seq ?_
      by_cases h : k < o.m
      · refine Wp.condT (by go_simp) ?_
        have hbk := bestA_m (o := o) i (k := k) hm1 (by omega)
        have z0 := hEk.cell x0
        have z1 := hEk.cell (hO.hC k h)
        have z2 := hEk.cell (hO.hC _ hbk)
        have z3 := hEk.cell (hO.hTT i k hi h)
        have z4 := hEk.cell (hO.hTT i _ hi hbk)
        have m1 := mulOk (ho.vT i k hi h) (y := o.C (bestA o i k)) (by have := ho.vC _ hbk; omega)
        have m2 := mulOk (ho.vT i _ hi hbk) (y := o.C k) (by have := ho.vC _ h; omega)
        have hbs := bestA_succ o i k
        unfold bestF at hbs
        obtain ⟨q, hq⟩ : ∃ q, bestA o i k = q := ⟨_, rfl⟩
        rw [hq] at hbk z2 z4 m1 m2 hbs e8_9
        clear hq
        have b4 : (q : Int) < (o.m : Int) := by omega
        refine Wp.skip ?_
        refine thenK_normal ?_
        refine Wp.seq ?_
        refine Wp.block ?_
        refine Wp.seqRegion (.inl rfl) (by kernel_rfl) fun K' gd hK hg => ?_
        clear hg
        go_simp
        refine hK _ _ ?_
        clear hK K' gd
        refine Wp.keep [2, 4, 8, 9, 10, 26, 27] fun r10 hkeep => ?_
        obtain ⟨e2_10, e4_10, e8_10, e9_10, e10_10, e26_10, e27_10, -⟩ := hkeep
        simp [go_sem, e2_9, e4_9, e8_9, e9_9, e26_9, e27_9, e28_9] at e2_10 e4_10 e8_10 e9_10 e10_10 e26_10 e27_10
        clear e2_9 e4_9 e8_9 e9_9 e26_9 e27_9 e28_9
        refine Wp.seqDraw (.inl rfl) mixed [([0, 1, 2, 3, 4], none), ([5, 6, 7, 8, 9], none), ([10, 11, 12, 13, 14], none), ([15, 16, 17, 18, 19], none), ([20], none)] (by kernel_rfl) fun K' gd hK hg => ?_
        clear hg
        simp only [pick, nth, List.map_cons, List.map_nil, Option.map_none, Option.map_some]
        apply Mops.none
        · intro w' hE'
          have hC' := hE'.cellsS
          go_simp
          with_reducible rfl
        apply Mops.none
        · intro w' hE'
          have hC' := hE'.cellsS
          go_simp
          with_reducible rfl
        apply Mops.none
        · intro w' hE'
          have hC' := hE'.cellsS
          go_simp
          with_reducible rfl
        apply Mops.none
        · intro w' hE'
          have hC' := hE'.cellsS
          go_simp
          with_reducible rfl
        apply Mops.none
        · intro w' hE'
          have hC' := hE'.cellsS
          go_simp
          with_reducible rfl
        refine Mops.done ?_
        refine hK _ _ ?_
        clear hK K' gd
        refine Wp.keep [2, 4, 8, 9, 10, 26, 27, 50] fun r11 hkeep => ?_
        obtain ⟨e2_11, e4_11, e8_11, e9_11, e10_11, e26_11, e27_11, e50_11, -⟩ := hkeep
        simp [go_sem, e2_10, e4_10, e8_10, e9_10, e10_10, e26_10, e27_10] at e2_11 e4_11 e8_11 e9_11 e10_11 e26_11 e27_11 e50_11
        clear e2_10 e4_10 e8_10 e9_10 e10_10 e26_10 e27_10
        by_cases hq : o.T i k * o.C q > o.T i q * o.C k
        · refine Wp.condT (by go_simp) ?_
          refine Wp.loneRegion (.inl rfl) (by kernel_rfl) fun K' gd hK hg => ?_
          clear hg
          go_simp
          refine hK _ _ ?_
          clear hK K' gd
          refine Ends.keep [2, 4, 8, 9, 26, 27] fun r12 hkeep => ?_
          obtain ⟨e2_12, e4_12, e8_12, e9_12, e26_12, e27_12, -⟩ := hkeep
          simp [go_sem, e2_11, e4_11, e8_11, e9_11, e10_11, e26_11, e27_11, e50_11] at e2_12 e4_12 e8_12 e9_12 e26_12 e27_12
          clear e2_11 e4_11 e8_11 e9_11 e10_11 e26_11 e27_11 e50_11
          refine Ends.mk ?_
          refine blockK_normal ?_
          refine thenK_normal ?_
          refine Wp.loneRegion (.inl rfl) (by kernel_rfl) fun K' gd hK hg => ?_
          clear hg
          go_simp
          refine hK _ _ ?_
          clear hK K' gd
          refine Ends.keep [2, 4, 8, 9, 26, 27] fun r13 hkeep => ?_
          obtain ⟨e2_13, e4_13, e8_13, e9_13, e26_13, e27_13, -⟩ := hkeep
          simp [go_sem, e2_12, e4_12, e8_12, e9_12, e26_12, e27_12] at e2_13 e4_13 e8_13 e9_13 e26_13 e27_13
          clear e2_12 e4_12 e8_12 e9_12 e26_12 e27_12
          refine Ends.mk ?_
          refine thenK_normal ⟨by omega, ⟨by rw [e2_13, e2_7], by rw [e4_13, e4_7], by rw [e9_13, e9_7], by rw [e26_13, e26_7], trivial⟩, rfl, ?_⟩
          exact ⟨by rw [e27_13, IntWalk.i64_in _ (by omega)]; rfl, by rw [e8_13, hbs, if_pos hq], (by repeat (first | assumption | exact Ext.refl _ | refine Ext.drew ?_ | refine Ext.alloc ?_ _ | refine Ext.trans ?_ (by assumption)))⟩
        · refine Wp.condF (by go_simp) ?_
          refine Wp.skip ?_
          refine blockK_normal ?_
          refine thenK_normal ?_
          refine Wp.loneRegion (.inl rfl) (by kernel_rfl) fun K' gd hK hg => ?_
          clear hg
          go_simp
          refine hK _ _ ?_
          clear hK K' gd
          refine Ends.keep [2, 4, 8, 9, 26, 27] fun r14 hkeep => ?_
          obtain ⟨e2_14, e4_14, e8_14, e9_14, e26_14, e27_14, -⟩ := hkeep
          simp [go_sem, e2_11, e4_11, e8_11, e9_11, e10_11, e26_11, e27_11, e50_11] at e2_14 e4_14 e8_14 e9_14 e26_14 e27_14
          clear e2_11 e4_11 e8_11 e9_11 e10_11 e26_11 e27_11 e50_11
          refine Ends.mk ?_
          refine thenK_normal ⟨by omega, ⟨by rw [e2_14, e2_7], by rw [e4_14, e4_7], by rw [e9_14, e9_7], by rw [e26_14, e26_7], trivial⟩, rfl, ?_⟩
          exact ⟨by rw [e27_14, IntWalk.i64_in _ (by omega)]; rfl, by rw [e8_14, hbs, if_neg hq], (by repeat (first | assumption | exact Ext.refl _ | refine Ext.drew ?_ | refine Ext.alloc ?_ _ | refine Ext.trans ?_ (by assumption)))⟩
      · refine Wp.condF (by go_simp) ?_
        obtain rfl : k = o.m := by omega
        have hbk := bestA_m (o := o) i (k := o.m) hm1 (by omega)
        have z0 := hEk.cell x0
        have z2 := hEk.cell (hO.hC _ hbk)
        have z4 := hEk.cell (hO.hTT i _ hi hbk)
        have vT := ho.vT i _ hi hbk
        have vC := ho.vC _ hbk
        have hG : rateG o i = Nat.gcd (o.T i (bestA o i o.m)).toNat (o.C (bestA o i o.m)).toNat := rfl
        have hN : rateN o i = (((o.T i (bestA o i o.m)).toNat / rateG o i : Nat) : Int) := rfl
        have hD : rateD o i = (((o.C (bestA o i o.m)).toNat / rateG o i : Nat) : Int) := rfl
        obtain ⟨q, hq⟩ : ∃ q, bestA o i o.m = q := ⟨_, rfl⟩
        rw [hq] at hbk z2 z4 vT vC hG hN hD e8_9
        have hqq : bestA o i o.m = q := hq
        have b4 : (q : Int) < (o.m : Int) := by omega
        obtain ⟨ta, hta⟩ : ∃ ta : Nat, o.T i q = (ta : Int) := ⟨(o.T i q).toNat, by omega⟩
        obtain ⟨ca, hca⟩ : ∃ ca : Nat, o.C q = (ca : Int) := ⟨(o.C q).toNat, by omega⟩
        rw [hta] at z4 vT hG hN
        rw [hca] at z2 vC hG hD
        rw [Int.toNat_natCast] at hN hD
        rw [Int.toNat_natCast, Int.toNat_natCast] at hG
        have gpos : rateG o i ≠ 0 := by rw [hG]; have := Nat.gcd_pos_of_pos_left ca (show 0 < ta by omega); omega
        obtain ⟨g, hg'⟩ : ∃ g, rateG o i = g := ⟨_, rfl⟩
        rw [hg'] at hG gpos hN hD
        have w1 := quoOk (a := ta) (b := g) (by omega)
        have w2' := quoOk (a := ca) (b := g) (by omega)
        have w3' : IntKind.i64.wrap ((ta : Int) / (g : Int)) = (ta : Int) / (g : Int) := by rw [← Int.natCast_ediv]; exact IntWalk.i64_in _ (by have := Nat.div_le_self ta g; generalize ta / g = u at *; omega)
        have w4' : IntKind.i64.wrap ((ca : Int) / (g : Int)) = (ca : Int) / (g : Int) := by rw [← Int.natCast_ediv]; exact IntWalk.i64_in _ (by have := Nat.div_le_self ca g; generalize ca / g = u at *; omega)
        have gz : ¬ ((g : Int) = 0) := by omega
        clear hta hca hg'
        refine Wp.exit ?_
        refine thenK_exit ?_
        refine thenK_exit ?_
        refine blockK_here ?_
        refine thenK_normal ?_
        refine Wp.seqDraw (.inl rfl) mixed [([0, 1, 2, 3, 4], none), ([5, 6, 7, 8], some (9, false)), ([10], none)] (by kernel_rfl) fun K' gd hK hg => ?_
        clear hg
        simp only [pick, nth, List.map_cons, List.map_nil, Option.map_none, Option.map_some]
        apply Mops.none
        · intro w' hE'
          have hC' := hE'.cellsS
          go_simp
          with_reducible rfl
        apply Mops.act
        · intro w' hE'
          have hC' := hE'.cellsS
          go_simp
          with_reducible rfl
        intro K1 hK1
        go_simp
        refine Wcall (.inl rfl) (gcd_c ta ca _ (by omega) (by omega)) ?_
        rintro v w3 ⟨rfl, hE3⟩
        rw [← hG]
        clear hG
        go_simp
        refine hK1 _ _ (by first | assumption | exact Ext.refl _) ?_
        clear hK1 K1
        apply Mops.none
        · intro w' hE'
          have hC' := hE'.cellsS
          go_simp
          with_reducible rfl
        refine Mops.done ?_
        refine hK _ _ ?_
        clear hK K' gd
        refine Wp.keep [2, 4, 8, 9, 11] fun r15 hkeep => ?_
        obtain ⟨e2_15, e4_15, e8_15, e9_15, e11_15, -⟩ := hkeep
        simp [go_sem, e2_9, e4_9, e8_9, e9_9, e26_9, e27_9, e28_9] at e2_15 e4_15 e8_15 e9_15 e11_15
        clear e2_9 e4_9 e8_9 e9_9 e26_9 e27_9 e28_9
        have hEk3 : Ext wk w3 := (by repeat (first | assumption | exact Ext.refl _ | refine Ext.drew ?_ | refine Ext.alloc ?_ _ | refine Ext.trans ?_ (by assumption)))
        have hEw : Ext w2 w3 := Ext.trans hEk hEk3
        have k0 := hEk3.cell z0
        have k2 := hEk3.cell z2
        have k4 := hEk3.cell z4
        have k5 := hEw.cell y0
        have k6 := hEw.cell y1
        have k7 := (hEw.frozen y0).trans f0
        have k8 := (hEw.frozen y1).trans f1
        refine Wp.seqDrawT (.inl rfl) mixed (.rd [0, 1, 2, 3, 4, 5, 6, 7, 8, 9, 10, 11, 12, 13] (.both (.act 14 false (.act 15 true (.act 16 true (.act 17 true .done)))) (.act 15 true (.act 14 false (.act 16 true (.act 17 true .done)))))) (by kernel_rfl) (fun ρ W => AllEq [4] ρ r15 ∧ (ρ 5 = .int .i64 (q : Int) ∧ ρ 6 = .int .i64 0 ∧ Ext w W ∧ W.cell? ⟨w.heap.size + 1, 0, none⟩ = some (.int .i64 (rateN o i)) ∧ W.cell? ⟨w.heap.size + 1, 1, none⟩ = some (.int .i64 (rateD o i)))) (fun K' gd hK hg => ?_) ?_
        · skip
          clear hg
          simp only [pickT, nth, List.map_cons, List.map_nil]
          apply Mtree.reads
          · intro w' hE'
            have hC' := hE'.cellsS
            go_simp
            with_reducible rfl
          refine Mtree.two ?_ ?_
          · skip
            refine Mtree.step fun K1 hK1 => ?_
            go_simp
            refine hK1 _ _ (by first | exact (Ext.refl _).alloc _ | exact Ext.refl _) ?_
            clear hK1 K1
            refine Mtree.stepT fun K1 hK1 => ?_
            go_simp
            refine hK1 _ _ ?_
            clear hK1 K1
            refine Mtree.stepT fun K1 hK1 => ?_
            go_simp
            refine hK1 _ _ ?_
            clear hK1 K1
            refine Mtree.stepT fun K1 hK1 => ?_
            go_simp
            refine hK1 _ _ ?_
            clear hK1 K1
            refine Mtree.fin ?_
            refine hK _ _ ⟨by simp [AllEq, go_sem], ?_⟩
            exact ⟨by go_simp, by go_simp, (by repeat (first | assumption | exact Ext.refl _ | refine Ext.drew ?_ | refine Ext.alloc ?_ _ | refine Ext.setC ?_ (by omega) _ | refine Ext.trans ?_ (by assumption))), by go_simp, by go_simp⟩
          · skip
            refine Mtree.stepT fun K1 hK1 => ?_
            go_simp
            refine hK1 _ _ ?_
            clear hK1 K1
            refine Mtree.step fun K1 hK1 => ?_
            go_simp
            refine hK1 _ _ (by first | exact (Ext.refl _).alloc _ | exact Ext.refl _) ?_
            clear hK1 K1
            refine Mtree.stepT fun K1 hK1 => ?_
            go_simp
            refine hK1 _ _ ?_
            clear hK1 K1
            refine Mtree.stepT fun K1 hK1 => ?_
            go_simp
            refine hK1 _ _ ?_
            clear hK1 K1
            refine Mtree.fin ?_
            refine hK _ _ ⟨by simp [AllEq, go_sem], ?_⟩
            exact ⟨by go_simp, by go_simp, (by repeat (first | assumption | exact Ext.refl _ | refine Ext.drew ?_ | refine Ext.alloc ?_ _ | refine Ext.setC ?_ (by omega) _ | refine Ext.trans ?_ (by assumption))), by go_simp, by go_simp⟩
        · rintro r16 W ⟨hA, ⟨e5, e6, g1, g2, g3⟩⟩
          obtain ⟨e4_16, -⟩ := hA
          rw [e4_15] at e4_16
          clear e2_15 e4_15 e8_15 e9_15 e11_15
          refine Wp.ret ?_
          refine endK_cell_tmp2 (v := .agg #[.int .i64 (rateN o i), .int .i64 (rateD o i)]) Try.results24 (by decide) (by decide) (by decide) e4_16 (by go_simp) ?_
          rw [e5, e6]
          exact ⟨by rw [if_pos h0, Int.toNat_natCast, hqq], (by repeat (first | assumption | exact Ext.refl _ | refine Ext.drew ?_ | refine Ext.alloc ?_ _ | refine Ext.setC ?_ (by omega) _ | refine Ext.trans ?_ (by assumption)))⟩
  · skip
    refine Wp.seqRegion (.inl rfl) (by kernel_rfl) fun K' gd hK hg => ?_
    clear hg
    go_simp
    refine hK _ _ ?_
    clear hK K' gd
    refine Wp.keep [1, 2, 4, 7, 16] fun r17 hkeep => ?_
    obtain ⟨e1_17, e2_17, e4_17, e7_17, e16_17, -⟩ := hkeep
    simp [go_sem, e1_3, e2_3, e4_3, e7_3] at e1_17 e2_17 e4_17 e7_17 e16_17
    clear e1_3 e2_3 e4_3 e7_3
    refine Wp.condT (by go_simp) ?_
    refine Wp.seqRegion (.inl rfl) (by kernel_rfl) fun K' gd hK hg => ?_
    clear hg
    go_simp
    refine hK _ _ ?_
    clear hK K' gd
    refine Wp.keep [4, 5, 6] fun r18 hkeep => ?_
    obtain ⟨e4_18, e5_18, e6_18, -⟩ := hkeep
    simp [go_sem, e1_17, e2_17, e4_17, e7_17, e16_17] at e4_18 e5_18 e6_18
    clear e1_17 e2_17 e4_17 e7_17 e16_17
    refine Wp.ret ?_
    refine thenK_ret ?_
    refine endK_cell_tmp2 (v := .agg #[.int .i64 0, .int .i64 0]) Try.results24 (by decide) (by decide) (by decide) e4_18 (by go_simp) ?_
    rw [e5_18, e6_18]
    exact ⟨by rw [if_neg h0], (by repeat (first | assumption | exact Ext.refl _ | refine Ext.drew ?_ | refine Ext.alloc ?_ _ | refine Ext.setC ?_ (by omega) _ | refine Ext.trans ?_ (by assumption)))⟩
end Go.Proofs.Ytnfagcccgmakdaa
namespace Go.Proofs.Ytnfagcccgmakdaa
open Go.RowKit Go.Wk Go.Proofs
attribute [local irreducible] Go.Wk.Wops Go.Wk.Wp Go.Wk.Mtree Go.Wk.Mops
set_option maxHeartbeats 4000000

theorem upTo20 {c : Nat} (h : c ≤ 20) : c = 0 ∨ c = 1 ∨ c = 2 ∨ c = 3 ∨ c = 4 ∨ c = 5 ∨ c = 6 ∨ c = 7 ∨ c = 8 ∨ c = 9 ∨ c = 10 ∨ c = 11 ∨ c = 12 ∨ c = 13 ∨ c = 14 ∨ c = 15 ∨ c = 16 ∨ c = 17 ∨ c = 18 ∨ c = 19 ∨ c = 20 := by omega
theorem mul64_c (c : Nat) (hc : c ≤ 20) (w : World) : CallsV Try.prog 120 #[.int .u64 1, .int .u64 (c : Int)] w fun v w' => v = .tuple #[.int .u64 0, .int .u64 (c : Int)] ∧ Ext w w' := by
  refine Wp.fn Try.func120 rfl Try.ntmps120 (by simp) ?_
  refine Wp.keep [0, 1] fun r1 hkeep => ?_
  obtain ⟨e0_1, e1_1, -⟩ := hkeep
  simp [go_sem] at e0_1 e1_1
  refine Wp.seqRegion (.inl rfl) (by kernel_rfl) fun K' gd hK hg => ?_
  clear hg
  go_simp
  refine hK _ _ ?_
  clear hK K' gd
  refine Wp.keep [0, 1] fun r2 hkeep => ?_
  obtain ⟨e0_2, e1_2, -⟩ := hkeep
  simp [go_sem, e0_1, e1_1] at e0_2 e1_2
  clear e0_1 e1_1
  refine Wp.seqRegion (.inl rfl) (by kernel_rfl) fun K' gd hK hg => ?_
  clear hg
  go_simp
  refine hK _ _ ?_
  clear hK K' gd
  refine Wp.keep [0, 1, 6] fun r3 hkeep => ?_
  obtain ⟨e0_3, e1_3, e6_3, -⟩ := hkeep
  simp [go_sem, e0_2, e1_2] at e0_3 e1_3 e6_3
  clear e0_2 e1_2
  refine Wp.seqRegion (.inl rfl) (by kernel_rfl) fun K' gd hK hg => ?_
  clear hg
  go_simp
  refine hK _ _ ?_
  clear hK K' gd
  refine Wp.keep [0, 1, 6, 7] fun r4 hkeep => ?_
  obtain ⟨e0_4, e1_4, e6_4, e7_4, -⟩ := hkeep
  simp [go_sem, e0_3, e1_3, e6_3] at e0_4 e1_4 e6_4 e7_4
  clear e0_3 e1_3 e6_3
  refine Wp.seqRegion (.inl rfl) (by kernel_rfl) fun K' gd hK hg => ?_
  clear hg
  go_simp
  refine hK _ _ ?_
  clear hK K' gd
  refine Wp.keep [0, 1, 6, 7, 8] fun r5 hkeep => ?_
  obtain ⟨e0_5, e1_5, e6_5, e7_5, e8_5, -⟩ := hkeep
  simp [go_sem, e0_4, e1_4, e6_4, e7_4] at e0_5 e1_5 e6_5 e7_5 e8_5
  clear e0_4 e1_4 e6_4 e7_4
  refine Wp.seqRegion (.inl rfl) (by kernel_rfl) fun K' gd hK hg => ?_
  clear hg
  go_simp
  refine hK _ _ ?_
  clear hK K' gd
  refine Wp.keep [0, 1, 6, 7, 8, 9] fun r6 hkeep => ?_
  obtain ⟨e0_6, e1_6, e6_6, e7_6, e8_6, e9_6, -⟩ := hkeep
  simp [go_sem, e0_5, e1_5, e6_5, e7_5, e8_5] at e0_6 e1_6 e6_6 e7_6 e8_6 e9_6
  clear e0_5 e1_5 e6_5 e7_5 e8_5
  refine Wp.seqRegion (.inl rfl) (by kernel_rfl) fun K' gd hK hg => ?_
  clear hg
  go_simp
  refine hK _ _ ?_
  clear hK K' gd
  refine Wp.keep [0, 1, 6, 7, 8, 9, 10] fun r7 hkeep => ?_
  obtain ⟨e0_7, e1_7, e6_7, e7_7, e8_7, e9_7, e10_7, -⟩ := hkeep
  simp [go_sem, e0_6, e1_6, e6_6, e7_6, e8_6, e9_6] at e0_7 e1_7 e6_7 e7_7 e8_7 e9_7 e10_7
  clear e0_6 e1_6 e6_6 e7_6 e8_6 e9_6
  refine Wp.seqRegion (.inl rfl) (by kernel_rfl) fun K' gd hK hg => ?_
  clear hg
  go_simp
  refine hK _ _ ?_
  clear hK K' gd
  refine Wp.keep [0, 1, 6, 7, 9, 11] fun r8 hkeep => ?_
  obtain ⟨e0_8, e1_8, e6_8, e7_8, e9_8, e11_8, -⟩ := hkeep
  simp [go_sem, e0_7, e1_7, e6_7, e7_7, e8_7, e9_7, e10_7] at e0_8 e1_8 e6_8 e7_8 e9_8 e11_8
  clear e0_7 e1_7 e6_7 e7_7 e8_7 e9_7 e10_7
  refine Wp.seqRegion (.inl rfl) (by kernel_rfl) fun K' gd hK hg => ?_
  clear hg
  go_simp
  refine hK _ _ ?_
  clear hK K' gd
  refine Wp.keep [0, 1, 6, 7, 9, 11, 12] fun r9 hkeep => ?_
  obtain ⟨e0_9, e1_9, e6_9, e7_9, e9_9, e11_9, e12_9, -⟩ := hkeep
  simp [go_sem, e0_8, e1_8, e6_8, e7_8, e9_8, e11_8] at e0_9 e1_9 e6_9 e7_9 e9_9 e11_9 e12_9
  clear e0_8 e1_8 e6_8 e7_8 e9_8 e11_8
  refine Wp.seqRegion (.inl rfl) (by kernel_rfl) fun K' gd hK hg => ?_
  clear hg
  go_simp
  refine hK _ _ ?_
  clear hK K' gd
  refine Wp.keep [0, 1, 6, 7, 9, 12, 13] fun r10 hkeep => ?_
  obtain ⟨e0_10, e1_10, e6_10, e7_10, e9_10, e12_10, e13_10, -⟩ := hkeep
  simp [go_sem, e0_9, e1_9, e6_9, e7_9, e9_9, e11_9, e12_9] at e0_10 e1_10 e6_10 e7_10 e9_10 e12_10 e13_10
  clear e0_9 e1_9 e6_9 e7_9 e9_9 e11_9 e12_9
  refine Wp.seqRegion (.inl rfl) (by kernel_rfl) fun K' gd hK hg => ?_
  clear hg
  go_simp
  refine hK _ _ ?_
  clear hK K' gd
  refine Wp.keep [0, 1, 7, 9, 12, 13] fun r11 hkeep => ?_
  obtain ⟨e0_11, e1_11, e7_11, e9_11, e12_11, e13_11, -⟩ := hkeep
  simp [go_sem, e0_10, e1_10, e6_10, e7_10, e9_10, e12_10, e13_10] at e0_11 e1_11 e7_11 e9_11 e12_11 e13_11
  clear e0_10 e1_10 e6_10 e7_10 e9_10 e12_10 e13_10
  refine Wp.seqRegion (.inl rfl) (by kernel_rfl) fun K' gd hK hg => ?_
  clear hg
  go_simp
  refine hK _ _ ?_
  clear hK K' gd
  refine Wp.keep [0, 1, 4] fun r12 hkeep => ?_
  obtain ⟨e0_12, e1_12, e4_12, -⟩ := hkeep
  simp [go_sem, e0_11, e1_11, e7_11, e9_11, e12_11, e13_11] at e0_12 e1_12 e4_12
  clear e0_11 e1_11 e7_11 e9_11 e12_11 e13_11
  refine Wp.seqRegion (.inl rfl) (by kernel_rfl) fun K' gd hK hg => ?_
  clear hg
  go_simp
  refine hK _ _ ?_
  clear hK K' gd
  refine Wp.keep [4, 5] fun r13 hkeep => ?_
  obtain ⟨e4_13, e5_13, -⟩ := hkeep
  simp [go_sem, e0_12, e1_12, e4_12] at e4_13 e5_13
  clear e0_12 e1_12 e4_12
  refine Wp.ret ?_
  refine endK_tmp2 Try.results120 (by decide) (by decide) ?_
  rw [e4_13, e5_13]
  refine ⟨?_, Ext.refl _⟩
  clear e4_13 e5_13
  rcases upTo20 hc with rfl | rfl | rfl | rfl | rfl | rfl | rfl | rfl | rfl | rfl | rfl | rfl | rfl | rfl | rfl | rfl | rfl | rfl | rfl | rfl | rfl <;> kernel_rfl
theorem mul_c (c : Nat) (hc : c ≤ 20) (w : World) : CallsV Try.prog 104 #[.int .u64 1, .int .u64 (c : Int)] w fun v w' => v = .tuple #[.int .u64 0, .int .u64 (c : Int)] ∧ Ext w w' := by
  refine Wp.fn Try.func104 rfl Try.ntmps104 (by simp) ?_
  refine Wp.keep [0, 1] fun r1 hkeep => ?_
  obtain ⟨e0_1, e1_1, -⟩ := hkeep
  simp [go_sem] at e0_1 e1_1
  refine Wp.seqRegion (.inl rfl) (by kernel_rfl) fun K' gd hK hg => ?_
  clear hg
  go_simp
  refine hK _ _ ?_
  clear hK K' gd
  refine Wp.keep [0, 1] fun r2 hkeep => ?_
  obtain ⟨e0_2, e1_2, -⟩ := hkeep
  simp [go_sem, e0_1, e1_1] at e0_2 e1_2
  clear e0_1 e1_1
  refine Wp.seq ?_
  refine Wp.condF (by go_simp) ?_
  refine Wp.skip ?_
  refine thenK_normal ?_
  refine Wp.seqRegion (.inl rfl) (by kernel_rfl) fun K' gd hK hg => ?_
  clear hg
  go_simp
  refine Wcall (.inl rfl) (mul64_c c hc _) ?_
  rintro v w2 ⟨rfl, hE⟩
  go_simp
  refine hK _ _ ?_
  clear hK K' gd
  refine Wp.keep [8, 9] fun r3 hkeep => ?_
  obtain ⟨e8_3, e9_3, -⟩ := hkeep
  simp [go_sem, e0_2, e1_2] at e8_3 e9_3
  clear e0_2 e1_2
  refine Wp.seqRegion (.inl rfl) (by kernel_rfl) fun K' gd hK hg => ?_
  clear hg
  go_simp
  refine hK _ _ ?_
  clear hK K' gd
  refine Wp.keep [4, 5] fun r4 hkeep => ?_
  obtain ⟨e4_4, e5_4, -⟩ := hkeep
  simp [go_sem, e8_3, e9_3] at e4_4 e5_4
  clear e8_3 e9_3
  refine Wp.ret ?_
  refine endK_tmp2 Try.results104 (by decide) (by decide) ?_
  rw [e4_4, e5_4]
  exact ⟨rfl, (by repeat (first | assumption | exact Ext.refl _ | refine Ext.drew ?_ | refine Ext.alloc ?_ _ | refine Ext.trans ?_ (by assumption)))⟩
def pat (e0 e1 e2 : Value) (j : Nat) : Value := if j % 3 = 0 then e0 else if j % 3 = 1 then e1 else e2
theorem pat_add (e0 e1 e2 : Value) (n j : Nat) : pat e0 e1 e2 (n * 3 + j) = pat e0 e1 e2 j := by
  unfold pat; rw [show (n * 3 + j) % 3 = j % 3 by omega]
theorem copy_pat {w : World} {g n c sb so sLen cap1 cap2 : Nat} {cur : Array Value} {e0 e1 e2 : Value} (ty : TypeId) (o0 : e0.oneCell' = true) (o1 : e1.oneCell' = true) (o2 : e2.oneCell' = true) (hg : w.heap[g]? = some (.cells cur 37 (0, 0))) (hc : cur.size = c * 3) (hn : n ≤ c)
    (hp : ∀ j, j < n * 3 → cur[j]? = some (pat e0 e1 e2 j)) (hs : ∀ j, j < sLen * 3 → w.cell? ⟨sb, so + j, none⟩ = some (pat e0 e1 e2 j)) :
    ∃ w', (Builtin.copy_ #[23, 23] ty #[.slice (some ⟨g, n * 3, none⟩) (c - n) cap1, .slice (some ⟨sb, so, none⟩) sLen cap2]).run Try.prog w = .ok (goInt (Nat.min sLen (c - n))) w' ∧
      (∃ cur', w'.heap[g]? = some (.cells cur' 37 (0, 0)) ∧ cur'.size = c * 3 ∧ ∀ j, j < (n + Nat.min sLen (c - n)) * 3 → cur'[j]? = some (pat e0 e1 e2 j)) ∧ w.grownBy w' (some g) ∧ w'.heap.size = w.heap.size := by
  obtain ⟨i, z, h1', h2, h3, h4, h5, h6, h7⟩ := runs_T.ex
  have hs' : (Try.prog.info? 37).map (·.size) = some 3 := by rw [h2]; simp [h4]
  obtain ⟨m, hm⟩ : ∃ m, Nat.min sLen (c - n) = m := ⟨_, rfl⟩
  have hm1 : m ≤ sLen := by rw [← hm]; exact Nat.min_le_left _ _
  have hm2 : m ≤ c - n := by rw [← hm]; exact Nat.min_le_right _ _
  have hl : ((List.range (m * 3)).map (pat e0 e1 e2)).length = m * 3 := by simp
  have hr := run_copy_rowN (P := Try.prog) w 23 23 ty 37 3 g (n * 3) (c - n) cap1 ⟨sb, so, none⟩ sLen cap2 cur 37 ((List.range (m * 3)).map (pat e0 e1 e2)) h1' hs' hg (by rw [hl, hm])
    (fun j v hv => by
      have hj : j < m * 3 := by have := (List.getElem?_eq_some_iff.1 hv).1; simpa using this
      rw [List.getElem?_map, List.getElem?_range hj] at hv
      have hv : some (pat e0 e1 e2 j) = some v := hv
      have hv := Option.some.inj hv
      subst hv
      rw [Addr.add_lit]; exact hs j (by omega))
    (by rw [hl, hc]; omega)
    (fun v hv => by
      obtain ⟨j, -, rfl⟩ := List.mem_map.1 hv
      unfold pat; split
      · exact o0
      · split
        · exact o1
        · exact o2)
  rw [hm] at hr ⊢
  refine ⟨_, hr, ⟨_, setRow_heap w g cur _ _ _ hg, ?_, fun j hj => ?_⟩, ⟨rfl, rfl, rfl, by simp [World.setRow], fun k _ hk => setRow_other w g k _ (fun e => hk (by rw [e]))⟩, by simp [World.setRow]⟩
  · simp only [List.size_toArray, List.length_append, List.length_take, List.length_drop, hl, Array.length_toList, hc]; omega
  · rw [List.getElem?_toArray]
    have ht : (cur.toList.take (n * 3)).length = n * 3 := by simp [hc]; omega
    by_cases h1 : j < n * 3
    · rw [List.getElem?_append_left (by rw [List.length_append, ht, hl]; omega), List.getElem?_append_left (by rw [ht]; exact h1), List.getElem?_take, if_pos h1, Array.getElem?_toList]
      exact hp j h1
    · rw [List.getElem?_append_left (by rw [List.length_append, ht, hl]; omega), List.getElem?_append_right (by rw [ht]; omega), ht, List.getElem?_map, List.getElem?_range (by omega)]
      show some (pat e0 e1 e2 (j - n * 3)) = _
      rw [← pat_add e0 e1 e2 n (j - n * 3), show n * 3 + (j - n * 3) = j by omega]
theorem repeat_c (b k rc c : Nat) (e0 e1 e2 : Value) (o0 : e0.oneCell' = true) (o1 : e1.oneCell' = true) (o2 : e2.oneCell' = true) (hc : 1 ≤ c ∧ c ≤ 20) (w : World)
    (h0 : w.cell? ⟨b, k, none⟩ = some e0) (h1 : w.cell? ⟨b, k + 1, none⟩ = some e1) (h2 : w.cell? ⟨b, k + 2, none⟩ = some e2) :
    CallsV Try.prog 62 #[.slice (some ⟨b, k, none⟩) 1 rc, .int .i64 (c : Int)] w fun v w' => ∃ g, v = .slice (some ⟨g, 0, none⟩) c c ∧ w.heap.size ≤ g ∧ RowB w' g 37 (c * 3) ∧
      (∀ i, i < c → w'.cell? ⟨g, i * 3, none⟩ = some e0 ∧ w'.cell? ⟨g, i * 3 + 1, none⟩ = some e1 ∧ w'.cell? ⟨g, i * 3 + 2, none⟩ = some e2) ∧ Ext w w' := by
  have hu1 : IntKind.u64.wrap 1 = 1 := by decide
  have hu2 : IntKind.u64.wrap (c : Int) = (c : Int) := by rcases upTo20 hc.2 with rfl | rfl | rfl | rfl | rfl | rfl | rfl | rfl | rfl | rfl | rfl | rfl | rfl | rfl | rfl | rfl | rfl | rfl | rfl | rfl | rfl <;> decide
  have hu3 : IntKind.i64.wrap (c : Int) = (c : Int) := IntWalk.i64_in _ (by omega)
  have hc9 : c ≤ 1000000000 := by omega
  have hc8 : (c : Int) ≤ 9223372036854775807 := by omega
  refine Wp.fn Try.func62 rfl Try.ntmps62 (by simp) ?_
  refine Wp.keep [0, 1] fun r1 hkeep => ?_
  obtain ⟨e0_1, e1_1, -⟩ := hkeep
  simp [go_sem] at e0_1 e1_1
  refine Wp.seqRegion (.inl rfl) (by kernel_rfl) fun K' gd hK hg => ?_
  clear hg
  go_simp
  refine hK _ _ ?_
  clear hK K' gd
  refine Wp.keep [0, 1] fun r2 hkeep => ?_
  obtain ⟨e0_2, e1_2, -⟩ := hkeep
  simp [go_sem, e0_1, e1_1] at e0_2 e1_2
  clear e0_1 e1_1
  refine Wp.seq ?_
  refine Wp.seqRegion (.inl rfl) (by kernel_rfl) fun K' gd hK hg => ?_
  clear hg
  go_simp
  refine hK _ _ ?_
  clear hK K' gd
  refine Wp.keep [0, 1, 10] fun r3 hkeep => ?_
  obtain ⟨e0_3, e1_3, e10_3, -⟩ := hkeep
  simp [go_sem, e0_2, e1_2] at e0_3 e1_3 e10_3
  clear e0_2 e1_2
  refine Wp.condF (by go_simp) ?_
  refine Wp.skip ?_
  refine thenK_normal ?_
  refine Wp.seqRegion (.inl rfl) (by kernel_rfl) fun K' gd hK hg => ?_
  clear hg
  go_simp
  refine Wcall (.inl rfl) (mul_c c hc.2 _) ?_
  rintro v w2 ⟨rfl, hE⟩
  go_simp
  refine hK _ _ ?_
  clear hK K' gd
  refine Wp.keep [0, 5, 6] fun r4 hkeep => ?_
  obtain ⟨e0_4, e5_4, e6_4, -⟩ := hkeep
  simp [go_sem, e0_3, e1_3, e10_3] at e0_4 e5_4 e6_4
  clear e0_3 e1_3 e10_3
  refine Wp.seq ?_
  refine Wp.seqRegion (.inl rfl) (by kernel_rfl) fun K' gd hK hg => ?_
  have g2 : gd 2 = some 23 := hg 2
  clear hg
  go_simp
  refine hK _ _ ?_
  clear hK K' gd g2
  refine Wp.keep [0, 6, 26] fun r5 hkeep => ?_
  obtain ⟨e0_5, e6_5, e26_5, -⟩ := hkeep
  simp [go_sem, e0_4, e5_4, e6_4] at e0_5 e6_5 e26_5
  clear e0_4 e5_4 e6_4
  refine Wp.condF (by go_simp) ?_
  have hEw2 : Ext w w2 := (by repeat (first | assumption | exact Ext.refl _ | refine Ext.drew ?_ | refine Ext.alloc ?_ _ | refine Ext.trans ?_ (by assumption)))
  have p0 := hEw2.cell h0
  have p1 := hEw2.cell h1
  have p2 := hEw2.cell h2
  refine Wp.skip ?_
  refine thenK_normal ?_
  refine Wp.seqRegion (.inl rfl) (by kernel_rfl) fun K' gd hK hg => ?_
  clear hg
  go_simp
  refine hK _ _ ?_
  clear hK K' gd
  refine Wp.keep [0, 7] fun r6 hkeep => ?_
  obtain ⟨e0_6, e7_6, -⟩ := hkeep
  simp [go_sem, e0_5, e6_5, e26_5] at e0_6 e7_6
  clear e0_5 e6_5 e26_5
  have hg0 : (w2.alloc (.cells (madeC Try.prog 37 c) 37)).heap[w2.heap.size]? = some (.cells (madeC Try.prog 37 c) 37 (0, 0)) := World.alloc_heap_new _ _
  obtain ⟨V1, hV1⟩ : ∃ V1, w2.alloc (.cells (madeC Try.prog 37 c) 37) = V1 := ⟨_, rfl⟩
  have hEV : Ext w V1 := by rw [← hV1]; exact (by repeat (first | assumption | exact Ext.refl _ | refine Ext.drew ?_ | refine Ext.alloc ?_ _ | refine Ext.trans ?_ (by assumption)))
  obtain ⟨g, hgg⟩ : ∃ g, g = w2.heap.size := ⟨_, rfl⟩
  have hgw : w.heap.size ≤ g := by rw [hgg]; exact Below.size hEw2
  rw [← hgg] at hg0 e7_6
  rw [hV1] at hg0 ⊢
  clear hgg
  have hs0 : ∀ j, j < 1 * 3 → V1.cell? ⟨b, k + j, none⟩ = some (pat e0 e1 e2 j) := fun j hj => by rcases (show j = 0 ∨ j = 1 ∨ j = 2 by omega) with rfl | rfl | rfl; exact hEV.cell h0; exact hEV.cell h1; exact hEV.cell h2
  refine Wp.seqRegion (.inl rfl) (by kernel_rfl) fun K' gd hK hg => ?_
  clear hg
  refine Wops.cut 2 fun K1 hK1 => ?_
  simp only [List.take_succ_cons, List.take_zero]
  go_simp
  refine hK1 _ _ ?_
  clear hK1 K1
  simp only [List.drop_succ_cons, List.drop_zero]
  obtain ⟨W1, hrun, ⟨cur, g1, g2, g3⟩, hgr, hsz⟩ := copy_pat (n := 0) (cap1 := c) (cap2 := rc) (sLen := 1) 3 o0 o1 o2 hg0 (madeC_size runs_T c) (Nat.zero_le _) (fun j hj => absurd hj (by omega)) hs0
  refine Wops.law rfl (exec_copy2 rfl hrun (by go_simp) (by go_simp)) ?_
  go_simp
  refine hK _ _ ?_
  clear hK K' gd
  refine Wp.keep [7, 8] fun r7 hkeep => ?_
  obtain ⟨e7_7, e8_7, -⟩ := hkeep
  simp [go_sem, e0_6, e7_6] at e7_7 e8_7
  clear e0_6 e7_6
  have hmin : Nat.min 1 (c - 0) = 1 := Nat.min_eq_left (by omega)
  rw [hmin] at g3
  have hEW : Ext w W1 := Go.RowKit.Below.grown hEV hgr (Below.size hEV) (fun q e => by have e := Option.some.inj e; omega)
  refine Wp.seq ?_
  refine Wp.block ?_
  refine Wp.loop (fun k ρ ds wk => AllEq [7] ρ r7 ∧ ds = [] ∧ (∃ n cur, ρ 8 = .int .i64 ((n : Nat) : Int) ∧ k + 1 ≤ n ∧ n ≤ c ∧ wk.heap[g]? = some (.cells cur 37 (0, 0)) ∧ cur.size = c * 3 ∧ (∀ j, j < n * 3 → cur[j]? = some (pat e0 e1 e2 j)) ∧ Ext w wk)) (c) ?_ ?_
  · refine ⟨AllEq.refl _ _, rfl, ?_⟩
    exact ⟨1, cur, by rw [e8_7]; rfl, by omega, hc.1, g1, g2, fun j hj => g3 j (by omega), hEW⟩
  · rintro k r8 _ wk hk ⟨hA, rfl, ⟨n, cur, e8, hkn, hnc, i1, i2, i3, i4⟩⟩
    obtain ⟨e7_8, -⟩ := hA
    rw [e7_7] at e7_8
    refine Wp.seq ?_
    refine Wp.seqRegion (.inl rfl) (by kernel_rfl) fun K' gd hK hg => ?_
    clear hg
    go_simp
    refine hK _ _ ?_
    clear hK K' gd
    refine Wp.keep [7, 8, 37] fun r9 hkeep => ?_
    obtain ⟨e7_9, e8_9, e37_9, -⟩ := hkeep
    simp [go_sem, e7_8, e8] at e7_9 e8_9 e37_9
    clear e7_8 e8
    by_cases h : n < c
    · refine Wp.condT (by go_simp) ?_
      have b1 : (n : Int) ≤ (c : Int) := by omega
      have b2 : (0 : Int) ≤ (n : Int) := by omega
      have hcn : ¬ c = n := by omega
      obtain ⟨mm, hmm⟩ : ∃ mm, Nat.min n (c - n) = mm := ⟨_, rfl⟩
      have hm1 : mm ≤ c - n := by rw [← hmm]; exact Nat.min_le_right _ _
      have hm2 : 0 < mm := by rw [← hmm]; exact Nat.lt_min.2 ⟨by omega, by omega⟩
      have hwc : IntKind.i64.wrap ((n : Int) + (mm : Int)) = ((n + mm : Nat) : Int) := by rw [IntWalk.i64_in _ (by omega)]; omega
      have hwd : IntKind.i64.wrap ((n : Int) + (mm : Int)) = (n : Int) + (mm : Int) := IntWalk.i64_in _ (by omega)
      have hs1 : ∀ j, j < n * 3 → wk.drew.cell? ⟨g, 0 + j, none⟩ = some (pat e0 e1 e2 j) := fun j hj => by rw [Nat.zero_add]; exact (cell_of_row wk g j cur _ _ i1).trans (i3 j hj)
      refine Wp.skip ?_
      refine thenK_normal ?_
      refine Wp.block ?_
      refine Wp.loneDrawT (.inl rfl) mixed (.rd [1, 2, 3, 4, 5, 6] (.both (.act 0 false (.act 7 true (.act 8 true (.act 9 true .done)))) (.act 7 true (.act 0 false (.act 8 true (.act 9 true .done)))))) (by kernel_rfl) (fun ρ W => AllEq [7] ρ r9 ∧ (∃ n2 cur2, ρ 8 = .int .i64 ((n2 : Nat) : Int) ∧ n < n2 ∧ n2 ≤ c ∧ W.heap[g]? = some (.cells cur2 37 (0, 0)) ∧ cur2.size = c * 3 ∧ (∀ j, j < n2 * 3 → cur2[j]? = some (pat e0 e1 e2 j)) ∧ Ext w W)) (fun K' gd hK hg => ?_) ?_
      · skip
        clear hg
        simp only [pickT, nth, List.map_cons, List.map_nil]
        apply Mtree.reads
        · intro w' hE'
          have hC' := hE'.cellsS
          go_simp
          with_reducible rfl
        refine Mtree.two ?_ ?_
        · skip
          refine Mtree.step fun K1 hK1 => ?_
          go_simp
          refine hK1 _ _ (by first | exact (Ext.refl _).alloc _ | exact Ext.refl _) ?_
          clear hK1 K1
          refine Mtree.stepT fun K1 hK1 => ?_
          obtain ⟨W3, hrun, ⟨cur3, k1, k2, k3⟩, hgr3, hsz3⟩ := copy_pat (w := wk.drew) (n := n) (cap1 := c - n) (cap2 := c) (sLen := n) (sb := g) (so := 0) 3 o0 o1 o2 i1 i2 hnc i3 hs1
          rw [hmm] at hrun k3
          refine if_pos_of rfl (Wstep.law (exec_copy2 rfl hrun (by go_simp) (by go_simp)) ?_)
          refine hK1 _ _ ?_
          clear hK1 K1
          refine Mtree.stepT fun K1 hK1 => ?_
          go_simp
          refine hK1 _ _ ?_
          clear hK1 K1
          refine Mtree.stepT fun K1 hK1 => ?_
          go_simp
          refine hK1 _ _ ?_
          clear hK1 K1
          refine Mtree.fin ?_
          refine hK _ _ ⟨by simp [AllEq, go_sem], ?_⟩
          exact ⟨n + mm, cur3, by go_simp, by omega, by omega, k1, k2, k3, Go.RowKit.Below.grown (Ext.drew i4) hgr3 (Below.size (Ext.drew i4)) (fun q e => by have e := Option.some.inj e; omega)⟩
        · skip
          refine Mtree.stepT fun K1 hK1 => ?_
          obtain ⟨W3, hrun, ⟨cur3, k1, k2, k3⟩, hgr3, hsz3⟩ := copy_pat (w := wk.drew) (n := n) (cap1 := c - n) (cap2 := c) (sLen := n) (sb := g) (so := 0) 3 o0 o1 o2 i1 i2 hnc i3 hs1
          rw [hmm] at hrun k3
          refine if_pos_of rfl (Wstep.law (exec_copy2 rfl hrun (by go_simp) (by go_simp)) ?_)
          refine hK1 _ _ ?_
          clear hK1 K1
          refine Mtree.step fun K1 hK1 => ?_
          go_simp
          refine hK1 _ _ (by first | exact (Ext.refl _).alloc _ | exact Ext.refl _) ?_
          clear hK1 K1
          refine Mtree.stepT fun K1 hK1 => ?_
          go_simp
          refine hK1 _ _ ?_
          clear hK1 K1
          refine Mtree.stepT fun K1 hK1 => ?_
          go_simp
          refine hK1 _ _ ?_
          clear hK1 K1
          refine Mtree.fin ?_
          refine hK _ _ ⟨by simp [AllEq, go_sem], ?_⟩
          exact ⟨n + mm, cur3, by go_simp, by omega, by omega, k1, k2, k3, Go.RowKit.Below.grown (Ext.drew i4) hgr3 (Below.size (Ext.drew i4)) (fun q e => by have e := Option.some.inj e; omega)⟩
      · rintro r10 W ⟨hA, ⟨n2, cur2, e8, hn1, hn2, m1, m2, m3, m4⟩⟩
        obtain ⟨e7_10, -⟩ := hA
        rw [e7_9] at e7_10
        clear e7_9 e8_9 e37_9
        refine Ends.mk ?_
        refine blockK_normal ?_
        refine thenK_normal ⟨by omega, ⟨by rw [e7_10, e7_7], trivial⟩, rfl, ?_⟩
        exact ⟨n2, cur2, e8, by omega, hn2, m1, m2, m3, m4⟩
    · refine Wp.condF (by go_simp) ?_
      obtain rfl : n = c := by omega
      refine Wp.exit ?_
      refine thenK_exit ?_
      refine thenK_exit ?_
      refine blockK_here ?_
      refine thenK_normal ?_
      refine Wp.seqRegion (.inl rfl) (by kernel_rfl) fun K' gd hK hg => ?_
      clear hg
      go_simp
      refine hK _ _ ?_
      clear hK K' gd
      refine Wp.keep [4] fun r11 hkeep => ?_
      obtain ⟨e4_11, -⟩ := hkeep
      simp [go_sem, e7_9, e8_9, e37_9] at e4_11
      clear e7_9 e8_9 e37_9
      refine Wp.ret ?_
      refine endK_tmp Try.results62 (by decide) ?_
      rw [e4_11]
      exact ⟨g, rfl, hgw, ⟨cur, i1, i2⟩, fun i hi => ⟨(cell_of_row wk g _ cur _ _ i1).trans (by rw [i3 _ (by omega)]; unfold pat; rw [if_pos (by omega)]), (cell_of_row wk g _ cur _ _ i1).trans (by rw [i3 _ (by omega)]; unfold pat; rw [if_neg (by omega), if_pos (by omega)]), (cell_of_row wk g _ cur _ _ i1).trans (by rw [i3 _ (by omega)]; unfold pat; rw [if_neg (by omega), if_neg (by omega)])⟩, i4⟩
def alikeO (o : Ord) (i c : Nat) : Ord := ⟨o.cop, List.replicate c (o.runs[i]?.getD default)⟩
theorem alikeO_run (o : Ord) {i c k : Nat} (hk : k < c) : (alikeO o i c).runs[k]?.getD default = o.runs[i]?.getD default := by
  unfold alikeO; simp [hk]
theorem alikeO_n (o : Ord) (i c : Nat) : (alikeO o i c).n = c := by simp [alikeO, Ord.n]
theorem alikeF {w : World} {B : Nat} {a : OA} {o : Ord} {i c g : Nat} (hO : OrdF w B a o) (hi : i < o.n) (hc : c ≤ 20) (hg : RowB w g 37 (c * 3)) (hB : g < B)
    (hr : ∀ k, k < c → w.cell? ⟨g, k * 3, none⟩ = some (.int .i64 (o.ID i)) ∧ w.cell? ⟨g, k * 3 + 1, none⟩ = some (.int .i64 (o.A i)) ∧ w.cell? ⟨g, k * 3 + 2, none⟩ = some (.slice (some ⟨a.tb i, a.to_ i, none⟩) o.m (a.tc i))) :
    OrdF w B ⟨a.cb, a.co, a.cc, some ⟨g, 0, none⟩, g, 0, c, fun _ => a.tb i, fun _ => a.to_ i, fun _ => a.tc i⟩ (alikeO o i c) := by
  have hn := alikeO_n o i c
  have eI : ∀ k, k < (alikeO o i c).n → (alikeO o i c).ID k = o.ID i := fun k hk => by rw [hn] at hk; unfold Ord.ID; rw [alikeO_run o hk]
  have eA : ∀ k, k < (alikeO o i c).n → (alikeO o i c).A k = o.A i := fun k hk => by rw [hn] at hk; unfold Ord.A; rw [alikeO_run o hk]
  have eT : ∀ k j, k < (alikeO o i c).n → (alikeO o i c).T k j = o.T i j := fun k j hk => by rw [hn] at hk; unfold Ord.T; rw [alikeO_run o hk]
  refine ⟨hO.hm1, hO.hm2, by rw [hn]; exact hc, hO.hC, fun _ => rfl, fun k hk => ?_, fun k hk => ?_, fun k hk => ?_, fun k j hk hj => ?_, hO.bC, fun _ => hB, fun _ _ => hO.bT i hi, hO.hcc, by rw [hn]; exact Nat.le_refl _, fun _ _ => hO.htc i hi, hO.vC, fun k hk => ?_, fun k j hk hj => ?_⟩
  · rw [eI k hk]; rw [hn] at hk; simpa using (hr k hk).1
  · rw [eA k hk]; rw [hn] at hk; simpa using (hr k hk).2.1
  · rw [hn] at hk; rw [show 0 + k * 3 + 2 = k * 3 + 2 by omega]; exact (hr k hk).2.2
  · rw [eT k j hk]; exact hO.hTT i j hi hj
  · rw [eA k hk]; exact hO.vA i hi
  · rw [eT k j hk]; exact hO.vT i j hi hj
theorem alike_args {a : OA} {o : Ord} {i c g : Nat} : (#[.agg #[.slice (some ⟨a.cb, a.co, none⟩) o.m a.cc, .slice (some ⟨g, 0, none⟩) c c]] : Array Value) = #[.agg #[OA.cv ⟨a.cb, a.co, a.cc, some ⟨g, 0, none⟩, g, 0, c, fun _ => a.tb i, fun _ => a.to_ i, fun _ => a.tc i⟩ (alikeO o i c), OA.rv ⟨a.cb, a.co, a.cc, some ⟨g, 0, none⟩, g, 0, c, fun _ => a.tb i, fun _ => a.to_ i, fun _ => a.tc i⟩ (alikeO o i c)]] := by
  simp only [OA.cv, OA.rv, alikeO_n]; rfl
theorem timedA {w : World} {a : OA} {o : Ord} {i c g : Nat} (hF : OrdF w w.heap.size ⟨a.cb, a.co, a.cc, some ⟨g, 0, none⟩, g, 0, c, fun _ => a.tb i, fun _ => a.to_ i, fun _ => a.tc i⟩ (alikeO o i c)) :
    CallsV Try.prog 49 #[.agg #[.slice (some ⟨a.cb, a.co, none⟩) o.m a.cc, .slice (some ⟨g, 0, none⟩) c c]] w fun v w' => ∃ b, v = .pointer (some ⟨b, 0, none⟩) ∧ RowF w' b ⟨a.cb, a.co, a.cc, some ⟨g, 0, none⟩, g, 0, c, fun _ => a.tb i, fun _ => a.to_ i, fun _ => a.tc i⟩ (alikeO o i c) (begA (alikeO o i c)) ∧ Ext w w' := by
  rw [alike_args (i := i)]; exact timed_c _ _ _ hF
def alikeN (o : Ord) (x c : Int) : Int := if askS o (okRunner o x) = 0 then (if 1 ≤ c ∧ c ≤ 20 then endS (alikeO o x.toNat c.toNat) else 0) else 0
def alikeE (o : Ord) (x c : Int) : Int := if askS o (okRunner o x) = 0 then (if 1 ≤ c ∧ c ≤ 20 then 0 else 1) else askS o (okRunner o x)
theorem Alike_c (v : Value) (o : Ord) (x c : Int) (w : World) (hV : OrderV w w.heap.size v o) (hf : Fits o) :
    CallsV Try.prog 23 #[v, .int .i64 x, .int .i64 c] w fun v w' => v = .tuple #[.int .i64 (alikeN o x c), .int .i64 (alikeE o x c)] ∧ Ext w w' := by
  obtain ⟨cv, rv, rfl, hV2⟩ := hV
  have hV : OrderV w w.heap.size (.agg #[cv, rv]) o := ⟨cv, rv, rfl, hV2⟩
  refine Wp.fn Try.func23 rfl Try.ntmps23 (by simp) ?_
  refine Wp.keep [0, 1, 2] fun r1 hkeep => ?_
  obtain ⟨e0_1, e1_1, e2_1, -⟩ := hkeep
  simp [go_sem] at e0_1 e1_1 e2_1
  refine Wp.seqRegion (.inl rfl) (by kernel_rfl) fun K' gd hK hg => ?_
  clear hg
  go_simp
  refine hK _ _ ?_
  clear hK K' gd
  refine Wp.keep [1, 2, 3] fun r2 hkeep => ?_
  obtain ⟨e1_2, e2_2, e3_2, -⟩ := hkeep
  simp [go_sem, e0_1, e1_1, e2_1] at e1_2 e2_2 e3_2
  clear e0_1 e1_1 e2_1
  refine Wp.seq ?_
  refine Wp.seqRegion (.inl rfl) (by kernel_rfl) fun K' gd hK hg => ?_
  clear hg
  go_simp
  refine Wcall (.inl rfl) (runner_c _ o x _ (hV.ext (by repeat (first | assumption | exact Ext.refl _ | refine Ext.drew ?_ | refine Ext.alloc ?_ _ | refine Ext.trans ?_ (by assumption)))) hf) ?_
  rintro v w2 ⟨rfl, hE⟩
  have hE2 : Ext w w2 := (by repeat (first | assumption | exact Ext.refl _ | refine Ext.drew ?_ | refine Ext.alloc ?_ _ | refine Ext.trans ?_ (by assumption)))
  have x0 : w2.cell? ⟨w.heap.size, 0, none⟩ = some cv := hE.cell (by go_simp)
  have x1 : w2.cell? ⟨w.heap.size, 1, none⟩ = some rv := hE.cell (by go_simp)
  go_simp
  refine hK _ _ ?_
  clear hK K' gd
  refine Wp.keep [1, 2, 3, 8] fun r3 hkeep => ?_
  obtain ⟨e1_3, e2_3, e3_3, e8_3, -⟩ := hkeep
  simp [go_sem, e1_2, e2_2, e3_2] at e1_3 e2_3 e3_3 e8_3
  clear e1_2 e2_2 e3_2
  by_cases h0 : askS o (okRunner o x) = 0
  · skip
    refine Wp.seqRegion (.inl rfl) (by kernel_rfl) fun K' gd hK hg => ?_
    clear hg
    go_simp
    refine hK _ _ ?_
    clear hK K' gd
    refine Wp.keep [1, 2, 3, 8, 13] fun r4 hkeep => ?_
    obtain ⟨e1_4, e2_4, e3_4, e8_4, e13_4, -⟩ := hkeep
    simp [go_sem, e1_3, e2_3, e3_3, e8_3] at e1_4 e2_4 e3_4 e8_4 e13_4
    clear e1_3 e2_3 e3_3 e8_3
    refine Wp.condF (by go_simp) ?_
    by_cases hcc : 1 ≤ c ∧ c ≤ 20
    · skip
      refine Wp.skip ?_
      refine thenK_normal ?_
      refine Wp.seq ?_
      refine Wp.seqRegion (.inl rfl) (by kernel_rfl) fun K' gd hK hg => ?_
      clear hg
      go_simp
      refine Wcall (.inl rfl) (within_T hcc _) ?_
      rintro v w3 ⟨rfl, rfl⟩
      go_simp
      refine hK _ _ ?_
      clear hK K' gd
      refine Wp.keep [1, 2, 3, 17] fun r5 hkeep => ?_
      obtain ⟨e1_5, e2_5, e3_5, e17_5, -⟩ := hkeep
      simp [go_sem, e1_4, e2_4, e3_4, e8_4, e13_4] at e1_5 e2_5 e3_5 e17_5
      clear e1_4 e2_4 e3_4 e8_4 e13_4
      refine Wp.condF (by go_simp) ?_
      have hg := (askS_zero.1 h0).1
      have ho := hg.ok
      obtain ⟨i, rfl, hi⟩ := okRunner_nat (askS_zero.1 h0).2
      obtain ⟨a, rfl, rfl, hO⟩ := (hV.ext hE2).ordF2 hg
      simp only [OA.cv, OA.rv] at x0 x1
      have hrA := hO.hr (by omega)
      simp only [hrA] at x1
      obtain ⟨c, rfl⟩ : ∃ c' : Nat, c = (c' : Int) := ⟨c.toNat, by omega⟩
      have b1 : (0 : Int) ≤ (i : Int) := by omega
      have b2 : (i : Int) + 1 ≤ (o.n : Int) := by omega
      have hrc := hO.hrc
      have hn := hO.hn2
      have b3 : (i : Int) + 1 ≤ (a.rc : Int) := by omega
      have hwi : IntKind.i64.wrap ((i : Int) + 1) = (i : Int) + 1 := IntWalk.i64_in _ (by omega)
      have b4 : (i : Int) ≤ (i : Int) + 1 := by omega
      have b5 : (0 : Int) ≤ (i : Int) + 1 := by omega
      have hne : ¬ a.rc = i := by omega
      refine Wp.skip ?_
      refine thenK_normal ?_
      refine Wp.seqDraw (.inl rfl) mixed [([0, 1, 2, 3, 4], none), ([5, 6, 7, 8], some (9, false)), ([10], some (11, false)), ([], some (12, false)), ([13, 14], none)] (by kernel_rfl) fun K' gd hK hg => ?_
      clear hg
      simp only [pick, nth, List.map_cons, List.map_nil, Option.map_none, Option.map_some]
      apply Mops.none
      · intro w' hE'
        have hC' := hE'.cellsS
        go_simp
        with_reducible rfl
      apply Mops.act
      · intro w' hE'
        have hC' := hE'.cellsS
        go_simp
        with_reducible rfl
      intro K1 hK1
      go_simp
      refine Wcall (.inl rfl) (repeat_c a.rb (a.ro + i * 3) (a.rc - i) c (.int .i64 (o.ID i)) (.int .i64 (o.A i)) (.slice (some ⟨a.tb i, a.to_ i, none⟩) o.m (a.tc i)) rfl rfl rfl (by omega) _ (cell_drew (hO.hI i hi)) (cell_drew (hO.hA i hi)) (cell_drew (hO.hT i hi))) ?_
      rintro v w4 ⟨g, rfl, hgw, hrow, hr, hE4⟩
      have hE24 : Ext w2 w4 := (by repeat (first | assumption | exact Ext.refl _ | refine Ext.drew ?_ | refine Ext.alloc ?_ _ | refine Ext.trans ?_ (by assumption)))
      have hF := alikeF (hO.ext hE24) hi (by omega) hrow hrow.lt hr
      go_simp
      refine hK1 _ _ (by first | assumption | exact Ext.refl _) ?_
      clear hK1 K1
      apply Mops.act
      · intro w' hE'
        have hC' := hE'.cellsS
        go_simp
        with_reducible rfl
      intro K1 hK1
      go_simp
      refine Wcall (.inl rfl) (timedA hF) ?_
      rintro v w5 ⟨b, rfl, hR, hE5⟩
      go_simp
      refine hK1 _ _ (by first | assumption | exact Ext.refl _) ?_
      clear hK1 K1
      apply Mops.act
      · exact fun _ _ => Rops_done
      intro K1 hK1
      go_simp
      refine Wcall (.inl rfl) (end_c _ (alikeO o i c) b _ (hF.ext hE5) hR) ?_
      rintro v w6 ⟨rfl, hE6⟩
      go_simp
      refine hK1 _ _ (by first | assumption | exact Ext.refl _) ?_
      clear hK1 K1
      apply Mops.none
      · intro w' hE'
        have hC' := hE'.cellsS
        go_simp
        with_reducible rfl
      refine Mops.done ?_
      refine hK _ _ ?_
      clear hK K' gd
      refine Wp.keep [6, 7] fun r6 hkeep => ?_
      obtain ⟨e6_6, e7_6, -⟩ := hkeep
      simp [go_sem, e1_5, e2_5, e3_5, e17_5] at e6_6 e7_6
      clear e1_5 e2_5 e3_5 e17_5
      refine Wp.ret ?_
      refine endK_tmp2 Try.results23 (by decide) (by decide) ?_
      rw [e6_6, e7_6]
      refine ⟨by unfold alikeN alikeE; rw [if_pos h0, if_pos h0, if_pos hcc, if_pos hcc, Int.toNat_natCast, Int.toNat_natCast], (by repeat (first | assumption | exact Ext.refl _ | refine Ext.drew ?_ | refine Ext.alloc ?_ _ | refine Ext.trans ?_ (by assumption)))⟩
    · skip
      refine Wp.skip ?_
      refine thenK_normal ?_
      refine Wp.seq ?_
      refine Wp.seqRegion (.inl rfl) (by kernel_rfl) fun K' gd hK hg => ?_
      clear hg
      go_simp
      refine Wcall (.inl rfl) (within_F hcc _) ?_
      rintro v w3 ⟨rfl, rfl⟩
      go_simp
      refine hK _ _ ?_
      clear hK K' gd
      refine Wp.keep [1, 2, 3, 17] fun r7 hkeep => ?_
      obtain ⟨e1_7, e2_7, e3_7, e17_7, -⟩ := hkeep
      simp [go_sem, e1_4, e2_4, e3_4, e8_4, e13_4] at e1_7 e2_7 e3_7 e17_7
      clear e1_4 e2_4 e3_4 e8_4 e13_4
      refine Wp.condT (by go_simp) ?_
      refine Wp.seqRegion (.inl rfl) (by kernel_rfl) fun K' gd hK hg => ?_
      clear hg
      go_simp
      refine hK _ _ ?_
      clear hK K' gd
      refine Wp.keep [6, 7] fun r8 hkeep => ?_
      obtain ⟨e6_8, e7_8, -⟩ := hkeep
      simp [go_sem, e1_7, e2_7, e3_7, e17_7] at e6_8 e7_8
      clear e1_7 e2_7 e3_7 e17_7
      refine Wp.ret ?_
      refine thenK_ret ?_
      refine endK_tmp2 Try.results23 (by decide) (by decide) ?_
      rw [e6_8, e7_8]
      refine ⟨by unfold alikeN alikeE; rw [if_pos h0, if_pos h0, if_neg hcc, if_neg hcc], (by repeat (first | assumption | exact Ext.refl _ | refine Ext.drew ?_ | refine Ext.alloc ?_ _ | refine Ext.trans ?_ (by assumption)))⟩
  · skip
    refine Wp.seqRegion (.inl rfl) (by kernel_rfl) fun K' gd hK hg => ?_
    clear hg
    go_simp
    refine hK _ _ ?_
    clear hK K' gd
    refine Wp.keep [1, 2, 3, 8, 13] fun r9 hkeep => ?_
    obtain ⟨e1_9, e2_9, e3_9, e8_9, e13_9, -⟩ := hkeep
    simp [go_sem, e1_3, e2_3, e3_3, e8_3] at e1_9 e2_9 e3_9 e8_9 e13_9
    clear e1_3 e2_3 e3_3 e8_3
    refine Wp.condT (by go_simp) ?_
    refine Wp.seqRegion (.inl rfl) (by kernel_rfl) fun K' gd hK hg => ?_
    clear hg
    go_simp
    refine hK _ _ ?_
    clear hK K' gd
    refine Wp.keep [6, 7] fun r10 hkeep => ?_
    obtain ⟨e6_10, e7_10, -⟩ := hkeep
    simp [go_sem, e1_9, e2_9, e3_9, e8_9, e13_9] at e6_10 e7_10
    clear e1_9 e2_9 e3_9 e8_9 e13_9
    refine Wp.ret ?_
    refine thenK_ret ?_
    refine endK_tmp2 Try.results23 (by decide) (by decide) ?_
    rw [e6_10, e7_10]
    refine ⟨by unfold alikeN alikeE; rw [if_neg h0, if_neg h0], (by repeat (first | assumption | exact Ext.refl _ | refine Ext.drew ?_ | refine Ext.alloc ?_ _ | refine Ext.trans ?_ (by assumption)))⟩
end Go.Proofs.Ytnfagcccgmakdaa
namespace Go.Proofs.Ytnfagcccgmakdaa
open Go.RowKit Go.Wk Go.Proofs
attribute [local irreducible] Go.Wk.Wops Go.Wk.Wp Go.Wk.Mtree Go.Wk.Mops
set_option maxHeartbeats 4000000

def cmpI (x y : Int) : Int := if x < y then -1 else if x > y then 1 else 0
theorem isNaN_c (x : Int) (w : World) : CallsV Try.prog 123 #[.int .i64 x] w fun v w' => v = .bool false ∧ Ext w w' := by
  refine Wp.fn Try.func123 rfl Try.ntmps123 (by simp) ?_
  refine Wp.keep [0] fun r1 hkeep => ?_
  obtain ⟨e0_1, -⟩ := hkeep
  simp [go_sem] at e0_1
  refine Wp.seqRegion (.inl rfl) (by kernel_rfl) fun K' gd hK hg => ?_
  clear hg
  go_simp
  refine hK _ _ ?_
  clear hK K' gd
  refine Wp.keep [0] fun r2 hkeep => ?_
  obtain ⟨e0_2, -⟩ := hkeep
  simp [go_sem, e0_1] at e0_2
  clear e0_1
  refine Wp.seqRegion (.inl rfl) (by kernel_rfl) fun K' gd hK hg => ?_
  clear hg
  go_simp
  refine hK _ _ ?_
  clear hK K' gd
  refine Wp.keep [2] fun r3 hkeep => ?_
  obtain ⟨e2_3, -⟩ := hkeep
  simp [go_sem, e0_2] at e2_3
  clear e0_2
  refine Wp.ret ?_
  refine endK_tmp Try.results123 (by decide) ?_
  rw [e2_3]
  exact ⟨rfl, Ext.refl _⟩
theorem compare_c (x y : Int) (w : World) : CallsV Try.prog 111 #[.int .i64 x, .int .i64 y] w fun v w' => v = .int .i64 (cmpI x y) ∧ Ext w w' := by
  refine Wp.fn Try.func111 rfl Try.ntmps111 (by simp) ?_
  refine Wp.keep [0, 1] fun r1 hkeep => ?_
  obtain ⟨e0_1, e1_1, -⟩ := hkeep
  simp [go_sem] at e0_1 e1_1
  refine Wp.seqRegion (.inl rfl) (by kernel_rfl) fun K' gd hK hg => ?_
  clear hg
  go_simp
  refine hK _ _ ?_
  clear hK K' gd
  refine Wp.keep [0, 1] fun r2 hkeep => ?_
  obtain ⟨e0_2, e1_2, -⟩ := hkeep
  simp [go_sem, e0_1, e1_1] at e0_2 e1_2
  clear e0_1 e1_1
  refine Wp.seqRegion (.inl rfl) (by kernel_rfl) fun K' gd hK hg => ?_
  clear hg
  go_simp
  refine Wcall (.inl rfl) (isNaN_c x _) ?_
  rintro v w2 ⟨rfl, hE⟩
  go_simp
  refine hK _ _ ?_
  clear hK K' gd
  refine Wp.keep [0, 1, 5] fun r3 hkeep => ?_
  obtain ⟨e0_3, e1_3, e5_3, -⟩ := hkeep
  simp [go_sem, e0_2, e1_2] at e0_3 e1_3 e5_3
  clear e0_2 e1_2
  refine Wp.seqRegion (.inl rfl) (by kernel_rfl) fun K' gd hK hg => ?_
  clear hg
  go_simp
  refine Wcall (.inl rfl) (isNaN_c y _) ?_
  rintro v w3 ⟨rfl, hE3⟩
  go_simp
  refine hK _ _ ?_
  clear hK K' gd
  refine Wp.keep [0, 1, 5, 6] fun r4 hkeep => ?_
  obtain ⟨e0_4, e1_4, e5_4, e6_4, -⟩ := hkeep
  simp [go_sem, e0_3, e1_3, e5_3] at e0_4 e1_4 e5_4 e6_4
  clear e0_3 e1_3 e5_3
  refine Wp.seq ?_
  refine Wp.seqRegion (.inl rfl) (by kernel_rfl) fun K' gd hK hg => ?_
  clear hg
  go_simp
  refine hK _ _ ?_
  clear hK K' gd
  refine Wp.keep [0, 1, 6, 11] fun r5 hkeep => ?_
  obtain ⟨e0_5, e1_5, e6_5, e11_5, -⟩ := hkeep
  simp [go_sem, e0_4, e1_4, e5_4, e6_4] at e0_5 e1_5 e6_5 e11_5
  clear e0_4 e1_4 e5_4 e6_4
  refine Wp.condF (by go_simp) ?_
  refine Wp.skip ?_
  refine thenK_normal ?_
  refine Wp.seq ?_
  refine Wp.seqRegion (.inl rfl) (by kernel_rfl) fun K' gd hK hg => ?_
  clear hg
  go_simp
  refine hK _ _ ?_
  clear hK K' gd
  refine Wp.keep [0, 1, 13] fun r6 hkeep => ?_
  obtain ⟨e0_6, e1_6, e13_6, -⟩ := hkeep
  simp [go_sem, e0_5, e1_5, e6_5, e11_5] at e0_6 e1_6 e13_6
  clear e0_5 e1_5 e6_5 e11_5
  refine Wp.condF (by go_simp) ?_
  refine Wp.skip ?_
  refine thenK_normal ?_
  refine Wp.seq ?_
  refine Wp.seqRegion (.inl rfl) (by kernel_rfl) fun K' gd hK hg => ?_
  clear hg
  go_simp
  refine hK _ _ ?_
  clear hK K' gd
  refine Wp.keep [0, 1, 16] fun r7 hkeep => ?_
  obtain ⟨e0_7, e1_7, e16_7, -⟩ := hkeep
  simp [go_sem, e0_6, e1_6, e13_6] at e0_7 e1_7 e16_7
  clear e0_6 e1_6 e13_6
  by_cases h : x < y
  · refine Wp.condT (by go_simp) ?_
    refine Wp.seqRegion (.inl rfl) (by kernel_rfl) fun K' gd hK hg => ?_
    clear hg
    go_simp
    refine hK _ _ ?_
    clear hK K' gd
    refine Wp.keep [4] fun r8 hkeep => ?_
    obtain ⟨e4_8, -⟩ := hkeep
    simp [go_sem, e0_7, e1_7, e16_7] at e4_8
    clear e0_7 e1_7 e16_7
    refine Wp.ret ?_
    refine thenK_ret ?_
    refine endK_tmp Try.results111 (by decide) ?_
    rw [e4_8]
    exact ⟨by rw [cmpI, if_pos h], (by repeat (first | assumption | exact Ext.refl _ | refine Ext.drew ?_ | refine Ext.alloc ?_ _ | refine Ext.trans ?_ (by assumption)))⟩
  · refine Wp.condF (by go_simp) ?_
    refine Wp.skip ?_
    refine thenK_normal ?_
    refine Wp.seq ?_
    refine Wp.seqRegion (.inl rfl) (by kernel_rfl) fun K' gd hK hg => ?_
    clear hg
    go_simp
    refine hK _ _ ?_
    clear hK K' gd
    refine Wp.keep [19] fun r9 hkeep => ?_
    obtain ⟨e19_9, -⟩ := hkeep
    simp [go_sem, e0_7, e1_7, e16_7] at e19_9
    clear e0_7 e1_7 e16_7
    by_cases h2 : x > y
    · refine Wp.condT (by go_simp) ?_
      refine Wp.seqRegion (.inl rfl) (by kernel_rfl) fun K' gd hK hg => ?_
      clear hg
      go_simp
      refine hK _ _ ?_
      clear hK K' gd
      refine Wp.keep [4] fun r10 hkeep => ?_
      obtain ⟨e4_10, -⟩ := hkeep
      simp [go_sem, e19_9] at e4_10
      clear e19_9
      refine Wp.ret ?_
      refine thenK_ret ?_
      refine endK_tmp Try.results111 (by decide) ?_
      rw [e4_10]
      exact ⟨by rw [cmpI, if_neg h, if_pos h2], (by repeat (first | assumption | exact Ext.refl _ | refine Ext.drew ?_ | refine Ext.alloc ?_ _ | refine Ext.trans ?_ (by assumption)))⟩
    · refine Wp.condF (by go_simp) ?_
      refine Wp.skip ?_
      refine thenK_normal ?_
      refine Wp.seqRegion (.inl rfl) (by kernel_rfl) fun K' gd hK hg => ?_
      clear hg
      go_simp
      refine hK _ _ ?_
      clear hK K' gd
      refine Wp.keep [4] fun r11 hkeep => ?_
      obtain ⟨e4_11, -⟩ := hkeep
      simp [go_sem, e19_9] at e4_11
      clear e19_9
      refine Wp.ret ?_
      refine endK_tmp Try.results111 (by decide) ?_
      rw [e4_11]
      exact ⟨by rw [cmpI, if_neg h, if_neg h2], (by repeat (first | assumption | exact Ext.refl _ | refine Ext.drew ?_ | refine Ext.alloc ?_ _ | refine Ext.trans ?_ (by assumption)))⟩
def cmpB (ea eb : Bool) (x0 x1 y0 y1 : Int) : Int := if ea && !eb then -1 else if eb && !ea then 1 else if ea then cmpI x0 y0 else cmpI y1 x1
theorem by_c (ia aa ib ab x0 x1 y0 y1 : Int) (ta oa ca tb ob cb : Nat) (ea eb : Bool) (w : World) (h0 : w.cell? ⟨ta, oa, none⟩ = some (.int .i64 x0)) (h1 : w.cell? ⟨ta, oa + 1, none⟩ = some (.int .i64 x1)) (g0 : w.cell? ⟨tb, ob, none⟩ = some (.int .i64 y0)) (g1 : w.cell? ⟨tb, ob + 1, none⟩ = some (.int .i64 y1)) :
    CallsV Try.prog 83 #[.agg #[.int .i64 ia, .int .i64 aa, .slice (some ⟨ta, oa, none⟩) 2 ca, .bool ea], .agg #[.int .i64 ib, .int .i64 ab, .slice (some ⟨tb, ob, none⟩) 2 cb, .bool eb]] w fun v w' => v = .int .i64 (cmpB ea eb x0 x1 y0 y1) ∧ Ext w w' := by
  have k0 : ∀ X Y, ((w.alloc X).alloc Y).cell? ⟨ta, oa, none⟩ = some (.int .i64 x0) := fun X Y => cell_al _ (cell_al _ h0)
  have k1 : ∀ X Y, ((w.alloc X).alloc Y).cell? ⟨ta, oa + 1, none⟩ = some (.int .i64 x1) := fun X Y => cell_al _ (cell_al _ h1)
  have k2 : ∀ X Y, ((w.alloc X).alloc Y).cell? ⟨tb, ob, none⟩ = some (.int .i64 y0) := fun X Y => cell_al _ (cell_al _ g0)
  have k3 : ∀ X Y, ((w.alloc X).alloc Y).cell? ⟨tb, ob + 1, none⟩ = some (.int .i64 y1) := fun X Y => cell_al _ (cell_al _ g1)
  cases ea <;> cases eb
  · skip
    refine Wp.fn Try.func83 rfl Try.ntmps83 (by simp) ?_
    refine Wp.keep [0, 1] fun r1 hkeep => ?_
    obtain ⟨e0_1, e1_1, -⟩ := hkeep
    simp [go_sem] at e0_1 e1_1
    refine Wp.seqRegion (.inl rfl) (by kernel_rfl) fun K' gd hK hg => ?_
    clear hg
    go_simp
    refine hK _ _ ?_
    clear hK K' gd
    refine Wp.keep [2, 3] fun r2 hkeep => ?_
    obtain ⟨e2_2, e3_2, -⟩ := hkeep
    simp [go_sem, e0_1, e1_1] at e2_2 e3_2
    clear e0_1 e1_1
    refine Wp.seq ?_
    refine Wp.block ?_
    refine Wp.seqRegion (.inl rfl) (by kernel_rfl) fun K' gd hK hg => ?_
    have g2 : gd 2 = some 8 := hg 2
    clear hg
    go_simp
    refine hK _ _ ?_
    clear hK K' gd g2
    refine Wp.keep [2, 3, 5] fun r3 hkeep => ?_
    obtain ⟨e2_3, e3_3, e5_3, -⟩ := hkeep
    simp [go_sem, e2_2, e3_2] at e2_3 e3_3 e5_3
    clear e2_2 e3_2
    refine Wp.condF (by go_simp) ?_
    refine Wp.seqRegion (.inl rfl) (by kernel_rfl) fun K' gd hK hg => ?_
    have g2 : gd 2 = some 16 := hg 2
    clear hg
    go_simp
    refine hK _ _ ?_
    clear hK K' gd g2
    refine Wp.keep [2, 3, 13] fun r4 hkeep => ?_
    obtain ⟨e2_4, e3_4, e13_4, -⟩ := hkeep
    simp [go_sem, e2_3, e3_3, e5_3] at e2_4 e3_4 e13_4
    clear e2_3 e3_3 e5_3
    refine Wp.condF (by go_simp) ?_
    refine Wp.seqRegion (.inl rfl) (by kernel_rfl) fun K' gd hK hg => ?_
    clear hg
    go_simp
    refine hK _ _ ?_
    clear hK K' gd
    refine Wp.keep [2, 3, 21] fun r5 hkeep => ?_
    obtain ⟨e2_5, e3_5, e21_5, -⟩ := hkeep
    simp [go_sem, e2_4, e3_4, e13_4] at e2_5 e3_5 e21_5
    clear e2_4 e3_4 e13_4
    refine Wp.condF (by go_simp) ?_
    refine Wp.skip ?_
    refine blockK_normal ?_
    refine thenK_normal ?_
    refine Wp.seqDraw (.inl rfl) mixed [([0, 1, 2, 3, 4], none), ([5, 6, 7, 8, 9], some (10, false)), ([11], none)] (by kernel_rfl) fun K' gd hK hg => ?_
    clear hg
    simp only [pick, nth, List.map_cons, List.map_nil, Option.map_none, Option.map_some]
    apply Mops.none
    · intro w' hE'
      have hC' := hE'.cellsS
      go_simp
      with_reducible rfl
    apply Mops.act
    · intro w' hE'
      have hC' := hE'.cellsS
      go_simp
      with_reducible rfl
    intro K1 hK1
    go_simp
    refine Wcall (.inl rfl) (compare_c y1 x1 _) ?_
    rintro v w3 ⟨rfl, hE3⟩
    go_simp
    refine hK1 _ _ (by first | assumption | exact Ext.refl _) ?_
    clear hK1 K1
    apply Mops.none
    · intro w' hE'
      have hC' := hE'.cellsS
      go_simp
      with_reducible rfl
    refine Mops.done ?_
    refine hK _ _ ?_
    clear hK K' gd
    refine Wp.keep [4] fun r6 hkeep => ?_
    obtain ⟨e4_6, -⟩ := hkeep
    simp [go_sem, e2_5, e3_5, e21_5] at e4_6
    clear e2_5 e3_5 e21_5
    refine Wp.ret ?_
    refine endK_tmp Try.results83 (by decide) ?_
    rw [e4_6]
    exact ⟨rfl, (by repeat (first | assumption | exact Ext.refl _ | refine Ext.drew ?_ | refine Ext.alloc ?_ _ | refine Ext.trans ?_ (by assumption)))⟩
  · skip
    refine Wp.fn Try.func83 rfl Try.ntmps83 (by simp) ?_
    refine Wp.keep [0, 1] fun r1 hkeep => ?_
    obtain ⟨e0_1, e1_1, -⟩ := hkeep
    simp [go_sem] at e0_1 e1_1
    refine Wp.seqRegion (.inl rfl) (by kernel_rfl) fun K' gd hK hg => ?_
    clear hg
    go_simp
    refine hK _ _ ?_
    clear hK K' gd
    refine Wp.keep [2, 3] fun r2 hkeep => ?_
    obtain ⟨e2_2, e3_2, -⟩ := hkeep
    simp [go_sem, e0_1, e1_1] at e2_2 e3_2
    clear e0_1 e1_1
    refine Wp.seq ?_
    refine Wp.block ?_
    refine Wp.seqRegion (.inl rfl) (by kernel_rfl) fun K' gd hK hg => ?_
    have g2 : gd 2 = some 8 := hg 2
    clear hg
    go_simp
    refine hK _ _ ?_
    clear hK K' gd g2
    refine Wp.keep [2, 3, 5] fun r3 hkeep => ?_
    obtain ⟨e2_3, e3_3, e5_3, -⟩ := hkeep
    simp [go_sem, e2_2, e3_2] at e2_3 e3_3 e5_3
    clear e2_2 e3_2
    refine Wp.condF (by go_simp) ?_
    refine Wp.seqRegion (.inl rfl) (by kernel_rfl) fun K' gd hK hg => ?_
    have g2 : gd 2 = some 16 := hg 2
    clear hg
    go_simp
    refine hK _ _ ?_
    clear hK K' gd g2
    refine Wp.keep [2, 3, 13] fun r4 hkeep => ?_
    obtain ⟨e2_4, e3_4, e13_4, -⟩ := hkeep
    simp [go_sem, e2_3, e3_3, e5_3] at e2_4 e3_4 e13_4
    clear e2_3 e3_3 e5_3
    refine Wp.condT (by go_simp) ?_
    refine Wp.seqRegion (.inl rfl) (by kernel_rfl) fun K' gd hK hg => ?_
    clear hg
    go_simp
    refine hK _ _ ?_
    clear hK K' gd
    refine Wp.keep [4] fun r5 hkeep => ?_
    obtain ⟨e4_5, -⟩ := hkeep
    simp [go_sem, e2_4, e3_4, e13_4] at e4_5
    clear e2_4 e3_4 e13_4
    refine Wp.ret ?_
    refine blockK_ret ?_
    refine thenK_ret ?_
    refine endK_tmp Try.results83 (by decide) ?_
    rw [e4_5]
    exact ⟨rfl, (by repeat (first | assumption | exact Ext.refl _ | refine Ext.drew ?_ | refine Ext.alloc ?_ _ | refine Ext.trans ?_ (by assumption)))⟩
  · skip
    refine Wp.fn Try.func83 rfl Try.ntmps83 (by simp) ?_
    refine Wp.keep [0, 1] fun r1 hkeep => ?_
    obtain ⟨e0_1, e1_1, -⟩ := hkeep
    simp [go_sem] at e0_1 e1_1
    refine Wp.seqRegion (.inl rfl) (by kernel_rfl) fun K' gd hK hg => ?_
    clear hg
    go_simp
    refine hK _ _ ?_
    clear hK K' gd
    refine Wp.keep [2, 3] fun r2 hkeep => ?_
    obtain ⟨e2_2, e3_2, -⟩ := hkeep
    simp [go_sem, e0_1, e1_1] at e2_2 e3_2
    clear e0_1 e1_1
    refine Wp.seq ?_
    refine Wp.block ?_
    refine Wp.seqRegion (.inl rfl) (by kernel_rfl) fun K' gd hK hg => ?_
    have g2 : gd 2 = some 8 := hg 2
    clear hg
    go_simp
    refine hK _ _ ?_
    clear hK K' gd g2
    refine Wp.keep [2, 3, 5] fun r3 hkeep => ?_
    obtain ⟨e2_3, e3_3, e5_3, -⟩ := hkeep
    simp [go_sem, e2_2, e3_2] at e2_3 e3_3 e5_3
    clear e2_2 e3_2
    refine Wp.condT (by go_simp) ?_
    refine Wp.seqRegion (.inl rfl) (by kernel_rfl) fun K' gd hK hg => ?_
    clear hg
    go_simp
    refine hK _ _ ?_
    clear hK K' gd
    refine Wp.keep [4] fun r4 hkeep => ?_
    obtain ⟨e4_4, -⟩ := hkeep
    simp [go_sem, e2_3, e3_3, e5_3] at e4_4
    clear e2_3 e3_3 e5_3
    refine Wp.ret ?_
    refine blockK_ret ?_
    refine thenK_ret ?_
    refine endK_tmp Try.results83 (by decide) ?_
    rw [e4_4]
    exact ⟨rfl, (by repeat (first | assumption | exact Ext.refl _ | refine Ext.drew ?_ | refine Ext.alloc ?_ _ | refine Ext.trans ?_ (by assumption)))⟩
  · skip
    refine Wp.fn Try.func83 rfl Try.ntmps83 (by simp) ?_
    refine Wp.keep [0, 1] fun r1 hkeep => ?_
    obtain ⟨e0_1, e1_1, -⟩ := hkeep
    simp [go_sem] at e0_1 e1_1
    refine Wp.seqRegion (.inl rfl) (by kernel_rfl) fun K' gd hK hg => ?_
    clear hg
    go_simp
    refine hK _ _ ?_
    clear hK K' gd
    refine Wp.keep [2, 3] fun r2 hkeep => ?_
    obtain ⟨e2_2, e3_2, -⟩ := hkeep
    simp [go_sem, e0_1, e1_1] at e2_2 e3_2
    clear e0_1 e1_1
    refine Wp.seq ?_
    refine Wp.block ?_
    refine Wp.seqRegion (.inl rfl) (by kernel_rfl) fun K' gd hK hg => ?_
    have g2 : gd 2 = some 8 := hg 2
    clear hg
    go_simp
    refine hK _ _ ?_
    clear hK K' gd g2
    refine Wp.keep [2, 3, 5] fun r3 hkeep => ?_
    obtain ⟨e2_3, e3_3, e5_3, -⟩ := hkeep
    simp [go_sem, e2_2, e3_2] at e2_3 e3_3 e5_3
    clear e2_2 e3_2
    refine Wp.condF (by go_simp) ?_
    refine Wp.seqRegion (.inl rfl) (by kernel_rfl) fun K' gd hK hg => ?_
    have g2 : gd 2 = some 16 := hg 2
    clear hg
    go_simp
    refine hK _ _ ?_
    clear hK K' gd g2
    refine Wp.keep [2, 3, 13] fun r4 hkeep => ?_
    obtain ⟨e2_4, e3_4, e13_4, -⟩ := hkeep
    simp [go_sem, e2_3, e3_3, e5_3] at e2_4 e3_4 e13_4
    clear e2_3 e3_3 e5_3
    refine Wp.condF (by go_simp) ?_
    refine Wp.seqRegion (.inl rfl) (by kernel_rfl) fun K' gd hK hg => ?_
    clear hg
    go_simp
    refine hK _ _ ?_
    clear hK K' gd
    refine Wp.keep [2, 3, 21] fun r5 hkeep => ?_
    obtain ⟨e2_5, e3_5, e21_5, -⟩ := hkeep
    simp [go_sem, e2_4, e3_4, e13_4] at e2_5 e3_5 e21_5
    clear e2_4 e3_4 e13_4
    refine Wp.condT (by go_simp) ?_
    refine Wp.seqDraw (.inl rfl) mixed [([0, 1, 2, 3, 4], none), ([5, 6, 7, 8, 9], some (10, false)), ([11], none)] (by kernel_rfl) fun K' gd hK hg => ?_
    clear hg
    simp only [pick, nth, List.map_cons, List.map_nil, Option.map_none, Option.map_some]
    apply Mops.none
    · intro w' hE'
      have hC' := hE'.cellsS
      go_simp
      with_reducible rfl
    apply Mops.act
    · intro w' hE'
      have hC' := hE'.cellsS
      go_simp
      with_reducible rfl
    intro K1 hK1
    go_simp
    refine Wcall (.inl rfl) (compare_c x0 y0 _) ?_
    rintro v w3 ⟨rfl, hE3⟩
    go_simp
    refine hK1 _ _ (by first | assumption | exact Ext.refl _) ?_
    clear hK1 K1
    apply Mops.none
    · intro w' hE'
      have hC' := hE'.cellsS
      go_simp
      with_reducible rfl
    refine Mops.done ?_
    refine hK _ _ ?_
    clear hK K' gd
    refine Wp.keep [4] fun r6 hkeep => ?_
    obtain ⟨e4_6, -⟩ := hkeep
    simp [go_sem, e2_5, e3_5, e21_5] at e4_6
    clear e2_5 e3_5 e21_5
    refine Wp.ret ?_
    refine blockK_ret ?_
    refine thenK_ret ?_
    refine endK_tmp Try.results83 (by decide) ?_
    rw [e4_6]
    exact ⟨rfl, (by repeat (first | assumption | exact Ext.refl _ | refine Ext.drew ?_ | refine Ext.alloc ?_ _ | refine Ext.trans ?_ (by assumption)))⟩
theorem equalI_c (v1 v2 : Value) (xs ys : List Int) (w : World) (h1 : IntsV w w.heap.size v1 xs) (h2 : IntsV w w.heap.size v2 ys) (hl1 : xs.length ≤ 1000000000) (hl2 : ys.length ≤ 1000000000) :
    CallsV Try.prog 80 #[v1, v2] w fun v w' => v = .bool (decide (xs = ys)) ∧ Ext w w' := by
  obtain ⟨A1, c1, rfl, hx, -⟩ := h1
  obtain ⟨A2, c2, rfl, hy, -⟩ := h2
  refine Wp.fn Try.func80 rfl Try.ntmps80 (by simp) ?_
  refine Wp.keep [0, 1] fun r1 hkeep => ?_
  obtain ⟨e0_1, e1_1, -⟩ := hkeep
  simp [go_sem] at e0_1 e1_1
  by_cases hne : (ys.length : Int) = (xs.length : Int)
  · skip
    refine Wp.seqRegion (.inl rfl) (by kernel_rfl) fun K' gd hK hg => ?_
    clear hg
    go_simp
    refine hK _ _ ?_
    clear hK K' gd
    refine Wp.keep [0, 1] fun r2 hkeep => ?_
    obtain ⟨e0_2, e1_2, -⟩ := hkeep
    simp [go_sem, e0_1, e1_1] at e0_2 e1_2
    clear e0_1 e1_1
    refine Wp.seq ?_
    refine Wp.seqRegion (.inl rfl) (by kernel_rfl) fun K' gd hK hg => ?_
    clear hg
    go_simp
    refine hK _ _ ?_
    clear hK K' gd
    refine Wp.keep [0, 1, 10] fun r3 hkeep => ?_
    obtain ⟨e0_3, e1_3, e10_3, -⟩ := hkeep
    simp [go_sem, e0_2, e1_2] at e0_3 e1_3 e10_3
    clear e0_2 e1_2
    refine Wp.condF (by go_simp) ?_
    have hne' : ys.length = xs.length := by omega
    clear hne
    refine Wp.skip ?_
    refine thenK_normal ?_
    refine Wp.seq ?_
    refine Wp.seqRegion (.inl rfl) (by kernel_rfl) fun K' gd hK hg => ?_
    clear hg
    go_simp
    refine hK _ _ ?_
    clear hK K' gd
    refine Wp.keep [0, 1, 12, 13] fun r4 hkeep => ?_
    obtain ⟨e0_4, e1_4, e12_4, e13_4, -⟩ := hkeep
    simp [go_sem, e0_3, e1_3, e10_3] at e0_4 e1_4 e12_4 e13_4
    clear e0_3 e1_3 e10_3
    refine Wp.block ?_
    refine Wp.loop (fun k ρ ds wk => AllEq [0, 1, 12] ρ r4 ∧ ds = [] ∧ (ρ 13 = .int .i64 (k : Int) ∧ Ext w wk ∧ (∀ j (h1 : j < xs.length) (h2 : j < ys.length), j < k → xs[j] = ys[j]))) (xs.length) ?_ ?_
    · refine ⟨AllEq.refl _ _, rfl, ?_⟩
      exact ⟨by rw [e13_4]; rfl, Ext.refl _, fun j _ _ h => absurd h (Nat.not_lt_zero _)⟩
    · rintro k r5 _ wk hk ⟨hA, rfl, ⟨e13, hEk, hq⟩⟩
      obtain ⟨e0_5, e1_5, e12_5, -⟩ := hA
      rw [e0_4] at e0_5
      rw [e1_4] at e1_5
      rw [e12_4] at e12_5
      refine Wp.seqRegion (.inl rfl) (by kernel_rfl) fun K' gd hK hg => ?_
      clear hg
      go_simp
      refine hK _ _ ?_
      clear hK K' gd
      refine Wp.keep [0, 1, 12, 13, 14] fun r6 hkeep => ?_
      obtain ⟨e0_6, e1_6, e12_6, e13_6, e14_6, -⟩ := hkeep
      simp [go_sem, e0_5, e1_5, e12_5, e13] at e0_6 e1_6 e12_6 e13_6 e14_6
      clear e0_5 e1_5 e12_5 e13
      refine Wp.seq ?_
      by_cases h : k < xs.length
      · refine Wp.condT (by go_simp) ?_
        have h' : k < ys.length := by omega
        obtain ⟨b1, o1, rfl, -, hc1⟩ := hx (by intro e; rw [e] at h; exact absurd h (Nat.not_lt_zero _))
        obtain ⟨b2, o2, rfl, -, hc2⟩ := hy (by intro e; rw [e] at h'; exact absurd h' (Nat.not_lt_zero _))
        have d1 := hEk.cell (hc1 k h)
        have d2 := hEk.cell (hc2 k h')
        obtain ⟨x, hx0⟩ : ∃ x, xs[k] = x := ⟨_, rfl⟩
        obtain ⟨y, hy0⟩ : ∃ y, ys[k] = y := ⟨_, rfl⟩
        rw [hx0] at d1
        rw [hy0] at d2
        have b3 : (k : Int) < (xs.length : Int) := by omega
        by_cases he : ¬ x = y
        · skip
          refine Wp.skip ?_
          refine thenK_normal ?_
          refine Wp.seq ?_
          refine Wp.block ?_
          refine Wp.seqRegion (.inl rfl) (by kernel_rfl) fun K' gd hK hg => ?_
          clear hg
          go_simp
          refine hK _ _ ?_
          clear hK K' gd
          refine Wp.keep [0, 1, 5, 12, 13] fun r7 hkeep => ?_
          obtain ⟨e0_7, e1_7, e5_7, e12_7, e13_7, -⟩ := hkeep
          simp [go_sem, e0_6, e1_6, e12_6, e13_6, e14_6] at e0_7 e1_7 e5_7 e12_7 e13_7
          clear e0_6 e1_6 e12_6 e13_6 e14_6
          refine Wp.seqDraw (.inl rfl) mixed [([0, 1, 2, 3, 4], none), ([5, 6, 7, 8], none)] (by kernel_rfl) fun K' gd hK hg => ?_
          clear hg
          simp only [pick, nth, List.map_cons, List.map_nil, Option.map_none, Option.map_some]
          apply Mops.none
          · intro w' hE'
            have hC' := hE'.cellsS
            go_simp
            with_reducible rfl
          apply Mops.none
          · intro w' hE'
            have hC' := hE'.cellsS
            go_simp
            with_reducible rfl
          refine Mops.done ?_
          refine hK _ _ ?_
          clear hK K' gd
          refine Wp.keep [0, 1, 12, 13, 24] fun r8 hkeep => ?_
          obtain ⟨e0_8, e1_8, e12_8, e13_8, e24_8, -⟩ := hkeep
          simp [go_sem, e0_7, e1_7, e5_7, e12_7, e13_7] at e0_8 e1_8 e12_8 e13_8 e24_8
          clear e0_7 e1_7 e5_7 e12_7 e13_7
          refine Wp.condT (by go_simp) ?_
          refine Wp.seqRegion (.inl rfl) (by kernel_rfl) fun K' gd hK hg => ?_
          clear hg
          go_simp
          refine hK _ _ ?_
          clear hK K' gd
          refine Wp.keep [4] fun r9 hkeep => ?_
          obtain ⟨e4_9, -⟩ := hkeep
          simp [go_sem, e0_8, e1_8, e12_8, e13_8, e24_8] at e4_9
          clear e0_8 e1_8 e12_8 e13_8 e24_8
          refine Wp.ret ?_
          refine blockK_ret ?_
          refine thenK_ret ?_
          refine thenK_ret ?_
          refine blockK_ret ?_
          refine thenK_ret ?_
          refine endK_tmp Try.results80 (by decide) ?_
          rw [e4_9]
          refine ⟨?_, (by repeat (first | assumption | exact Ext.refl _ | refine Ext.drew ?_ | refine Ext.alloc ?_ _ | refine Ext.trans ?_ (by assumption)))⟩
          rw [decide_eq_false (fun e => he (by subst e; rw [← hx0, ← hy0]))]
        · skip
          rw [Classical.not_not] at he
          refine Wp.skip ?_
          refine thenK_normal ?_
          refine Wp.seq ?_
          refine Wp.block ?_
          refine Wp.seqRegion (.inl rfl) (by kernel_rfl) fun K' gd hK hg => ?_
          clear hg
          go_simp
          refine hK _ _ ?_
          clear hK K' gd
          refine Wp.keep [0, 1, 5, 12, 13] fun r10 hkeep => ?_
          obtain ⟨e0_10, e1_10, e5_10, e12_10, e13_10, -⟩ := hkeep
          simp [go_sem, e0_6, e1_6, e12_6, e13_6, e14_6] at e0_10 e1_10 e5_10 e12_10 e13_10
          clear e0_6 e1_6 e12_6 e13_6 e14_6
          refine Wp.seqDraw (.inl rfl) mixed [([0, 1, 2, 3, 4], none), ([5, 6, 7, 8], none)] (by kernel_rfl) fun K' gd hK hg => ?_
          clear hg
          simp only [pick, nth, List.map_cons, List.map_nil, Option.map_none, Option.map_some]
          apply Mops.none
          · intro w' hE'
            have hC' := hE'.cellsS
            go_simp
            with_reducible rfl
          apply Mops.none
          · intro w' hE'
            have hC' := hE'.cellsS
            go_simp
            with_reducible rfl
          refine Mops.done ?_
          refine hK _ _ ?_
          clear hK K' gd
          refine Wp.keep [0, 1, 12, 13, 24] fun r11 hkeep => ?_
          obtain ⟨e0_11, e1_11, e12_11, e13_11, e24_11, -⟩ := hkeep
          simp [go_sem, e0_10, e1_10, e5_10, e12_10, e13_10] at e0_11 e1_11 e12_11 e13_11 e24_11
          clear e0_10 e1_10 e5_10 e12_10 e13_10
          refine Wp.condF (by go_simp) ?_
          refine Wp.skip ?_
          refine blockK_normal ?_
          refine thenK_normal ?_
          refine Wp.loneRegion (.inl rfl) (by kernel_rfl) fun K' gd hK hg => ?_
          clear hg
          go_simp
          refine hK _ _ ?_
          clear hK K' gd
          refine Ends.keep [0, 1, 12, 13] fun r12 hkeep => ?_
          obtain ⟨e0_12, e1_12, e12_12, e13_12, -⟩ := hkeep
          simp [go_sem, e0_11, e1_11, e12_11, e13_11, e24_11] at e0_12 e1_12 e12_12 e13_12
          clear e0_11 e1_11 e12_11 e13_11 e24_11
          refine Ends.mk ?_
          refine thenK_normal ⟨by omega, ⟨by rw [e0_12, e0_4], by rw [e1_12, e1_4], by rw [e12_12, e12_4], trivial⟩, rfl, ?_⟩
          refine ⟨by rw [e13_12, IntWalk.i64_in _ (by omega)]; rfl, (by repeat (first | assumption | exact Ext.refl _ | refine Ext.drew ?_ | refine Ext.alloc ?_ _ | refine Ext.trans ?_ (by assumption))), fun j h1 h2 hj => ?_⟩
          by_cases e : j = k
          · subst e; rw [hx0, hy0]; exact he
          · exact hq j h1 h2 (by omega)
      · refine Wp.condF (by go_simp) ?_
        refine Wp.exit ?_
        refine thenK_exit ?_
        refine thenK_exit ?_
        refine blockK_here ?_
        refine thenK_normal ?_
        refine Wp.seqRegion (.inl rfl) (by kernel_rfl) fun K' gd hK hg => ?_
        clear hg
        go_simp
        refine hK _ _ ?_
        clear hK K' gd
        refine Wp.keep [4] fun r13 hkeep => ?_
        obtain ⟨e4_13, -⟩ := hkeep
        simp [go_sem, e0_6, e1_6, e12_6, e13_6, e14_6] at e4_13
        clear e0_6 e1_6 e12_6 e13_6 e14_6
        refine Wp.ret ?_
        refine endK_tmp Try.results80 (by decide) ?_
        rw [e4_13]
        refine ⟨?_, hEk⟩
        rw [decide_eq_true (List.ext_getElem hne'.symm (fun j h1 h2 => hq j h1 h2 (by omega)))]
  · skip
    have hne2 : ¬ (xs.length : Int) = (ys.length : Int) := fun e => hne e.symm
    refine Wp.seqRegion (.inl rfl) (by kernel_rfl) fun K' gd hK hg => ?_
    clear hg
    go_simp
    refine hK _ _ ?_
    clear hK K' gd
    refine Wp.keep [0, 1] fun r14 hkeep => ?_
    obtain ⟨e0_14, e1_14, -⟩ := hkeep
    simp [go_sem, e0_1, e1_1] at e0_14 e1_14
    clear e0_1 e1_1
    refine Wp.seq ?_
    refine Wp.seqRegion (.inl rfl) (by kernel_rfl) fun K' gd hK hg => ?_
    clear hg
    go_simp
    refine hK _ _ ?_
    clear hK K' gd
    refine Wp.keep [0, 1, 10] fun r15 hkeep => ?_
    obtain ⟨e0_15, e1_15, e10_15, -⟩ := hkeep
    simp [go_sem, e0_14, e1_14] at e0_15 e1_15 e10_15
    clear e0_14 e1_14
    refine Wp.condT (by go_simp) ?_
    refine Wp.seqRegion (.inl rfl) (by kernel_rfl) fun K' gd hK hg => ?_
    clear hg
    go_simp
    refine hK _ _ ?_
    clear hK K' gd
    refine Wp.keep [4] fun r16 hkeep => ?_
    obtain ⟨e4_16, -⟩ := hkeep
    simp [go_sem, e0_15, e1_15, e10_15] at e4_16
    clear e0_15 e1_15 e10_15
    refine Wp.ret ?_
    refine thenK_ret ?_
    refine endK_tmp Try.results80 (by decide) ?_
    rw [e4_16]
    exact ⟨by rw [decide_eq_false (fun e => hne (by rw [e]))], Ext.refl _⟩
end Go.Proofs.Ytnfagcccgmakdaa
namespace Go.Proofs.Ytnfagcccgmakdaa
open Go.RowKit Go.Wk Go.Proofs
attribute [local irreducible] Go.Wk.Wops Go.Wk.Wp Go.Wk.Mtree Go.Wk.Mops
set_option maxHeartbeats 1000000

theorem gb_refl (w : World) (g : Option Nat) : w.grownBy w g := ⟨rfl, rfl, rfl, Nat.le_refl _, fun _ _ _ => rfl⟩
theorem gb_ext {w w1 w2 : World} {g : Option Nat} (h : w.grownBy w1 g) (hE : Ext w1 w2) : w.grownBy w2 g :=
  ⟨hE.os.trans h.os, hE.tape.trans h.tape, hE.output.trans h.output, Nat.le_trans h.size hE.size, fun k hk hne => (hE.block k (Nat.lt_of_lt_of_le hk h.size)).trans (h.block k hk hne)⟩
theorem gb_set {w w1 : World} {g k : Nat} (h : w.grownBy w1 (some g)) (v : Value) : w.grownBy (w1.setCell ⟨g, k, none⟩ v) (some g) :=
  ⟨h.os, h.tape, h.output, by simpa using h.size, fun k' hk hne => (heap_setCell_other w1 ⟨g, k, none⟩ k' v (fun e => hne (by rw [show k' = g from e]))).trans (h.block k' hk hne)⟩
theorem gb_below {w w1 : World} {g : Nat} (h : w.grownBy w1 (some g)) (hg : g ≤ w.heap.size) : Below g w w1 :=
  ⟨h.os, h.tape, h.output, h.size, fun k hk => h.block k (by omega) (fun e => by have e := Option.some.inj e; omega)⟩
def earl (o : Ord) (i : Nat) : Bool := decide (o.T i 0 < o.T i 1)
def ltJ (o : Ord) (x y : Nat) : Bool := decide (cmpB (earl o x) (earl o y) (o.T x 0) (o.T x 1) (o.T y 0) (o.T y 1) < 0)
section
variable (lt : Nat → Nat → Bool)
def posF (x : Nat) (f : Nat → Nat) : Nat → Nat
  | 0 => 0
  | j + 1 => if lt x (f j) then posF x f j else j + 1
def insTo (f : Nat → Nat) (i p : Nat) : Nat → Nat := fun k => if k < p then f k else if k = p then f i else if k ≤ i then f (k - 1) else f k
def insAt (f : Nat → Nat) (i : Nat) : Nat → Nat := insTo f i (posF lt (f i) f i)
def stg (f : Nat → Nat) : Nat → Nat → Nat
  | 0 => f
  | k + 1 => insAt lt (stg f k) (k + 1)
theorem posF_le (x : Nat) (f : Nat → Nat) : ∀ j, posF lt x f j ≤ j
  | 0 => Nat.le_refl _
  | j + 1 => by unfold posF; split; exact Nat.le_trans (posF_le x f j) (Nat.le_succ _); exact Nat.le_refl _
end
theorem insTo_self (f : Nat → Nat) (i : Nat) : insTo f i i = f := by
  funext k; unfold insTo
  split
  · rfl
  · split
    · rename_i h; rw [h]
    · rw [if_neg (by omega)]
theorem insTo_lt {f : Nat → Nat} {i p n B : Nat} (hi : i < n) (hp : p ≤ i) (hf : ∀ k, k < n → f k < B) : ∀ k, k < n → insTo f i p k < B := by
  intro k hk; unfold insTo
  split
  · exact hf k hk
  · split
    · exact hf i hi
    · split
      · exact hf _ (by omega)
      · exact hf k hk
theorem stg_lt {lt : Nat → Nat → Bool} {f : Nat → Nat} {n B : Nat} (hf : ∀ k, k < n → f k < B) : ∀ k, k < n → ∀ j, j < n → stg lt f k j < B
  | 0, _ => hf
  | k + 1, hk => insTo_lt hk (posF_le lt _ _ _) (stg_lt hf k (by omega))
def swapF (f : Nat → Nat) (p q : Nat) : Nat → Nat := fun k => if k = p then f q else if k = q then f p else f k
theorem insTo_step (f : Nat → Nat) {i p q : Nat} (hq : q + 1 = p) (hp : p ≤ i) : swapF (insTo f i p) p q = insTo f i q := by
  funext k; unfold swapF insTo
  by_cases h1 : k = p
  · subst h1
    rw [if_pos rfl, if_pos (by omega), if_neg (by omega), if_neg (by omega), if_pos hp, show k - 1 = q by omega]
  · rw [if_neg h1]
    by_cases h2 : k = q
    · subst h2; rw [if_pos rfl, if_neg (by omega), if_pos rfl, if_neg (by omega), if_pos rfl]
    · rw [if_neg h2]
      by_cases h3 : k < q
      · rw [if_pos (by omega), if_pos h3]
      · rw [if_neg (by omega), if_neg h1, if_neg h3, if_neg h2]
def set4 (w : World) (g k : Nat) (a b c d : Value) : World := (((w.setCell ⟨g, k * 4, none⟩ a).setCell ⟨g, k * 4 + 1, none⟩ b).setCell ⟨g, k * 4 + 2, none⟩ c).setCell ⟨g, k * 4 + 3, none⟩ d
theorem set4_other {w : World} {g k k' r : Nat} {a b c d : Value} (h : k ≠ k') (hr : r < 4) : (set4 w g k a b c d).cell? ⟨g, k' * 4 + r, none⟩ = w.cell? ⟨g, k' * 4 + r, none⟩ := by
  unfold set4
  rw [setCell_off (by omega), setCell_off (by omega), setCell_off (by omega), setCell_off (by omega)]
theorem set4_same {w : World} {g k : Nat} {a b c d a' b' c' d' : Value} (h0 : w.cell? ⟨g, k * 4, none⟩ = some a') (h1 : w.cell? ⟨g, k * 4 + 1, none⟩ = some b') (h2 : w.cell? ⟨g, k * 4 + 2, none⟩ = some c') (h3 : w.cell? ⟨g, k * 4 + 3, none⟩ = some d') :
    (set4 w g k a b c d).cell? ⟨g, k * 4, none⟩ = some a ∧ (set4 w g k a b c d).cell? ⟨g, k * 4 + 1, none⟩ = some b ∧ (set4 w g k a b c d).cell? ⟨g, k * 4 + 2, none⟩ = some c ∧ (set4 w g k a b c d).cell? ⟨g, k * 4 + 3, none⟩ = some d := by
  unfold set4
  refine ⟨?_, ?_, ?_, ?_⟩
  · rw [setCell_off (by omega), setCell_off (by omega), setCell_off (by omega)]; exact World.cell?_setCell_same' _ _ _ (by rw [h0]; rfl)
  · rw [setCell_off (by omega), setCell_off (by omega)]; exact World.cell?_setCell_same' _ _ _ (by rw [setCell_off (by omega), h1]; rfl)
  · rw [setCell_off (by omega)]; exact World.cell?_setCell_same' _ _ _ (by rw [setCell_off (by omega), setCell_off (by omega), h2]; rfl)
  · exact World.cell?_setCell_same' _ _ _ (by rw [setCell_off (by omega), setCell_off (by omega), setCell_off (by omega), h3]; rfl)
/-- block g: scribes with their places -/
structure PlF (w : World) (g N : Nat) (a : OA) (o : Ord) (n : Nat) (f : Nat → Nat) : Prop where
  row : RowB w g 123 N
  c0 : ∀ k, k < n → w.cell? ⟨g, k * 4, none⟩ = some (.int .i64 (o.ID (f k)))
  c1 : ∀ k, k < n → w.cell? ⟨g, k * 4 + 1, none⟩ = some (.int .i64 (o.A (f k)))
  c2 : ∀ k, k < n → w.cell? ⟨g, k * 4 + 2, none⟩ = some (.slice (some ⟨a.tb (f k), a.to_ (f k), none⟩) o.m (a.tc (f k)))
  c3 : ∀ k, k < n → w.cell? ⟨g, k * 4 + 3, none⟩ = some (.bool (earl o (f k)))
theorem PlF.ext {w w' : World} {g N : Nat} {a : OA} {o : Ord} {n : Nat} {f : Nat → Nat} (h : PlF w g N a o n f) (hE : Ext w w') : PlF w' g N a o n f :=
  ⟨h.row.ext hE, fun k hk => hE.cell (h.c0 k hk), fun k hk => hE.cell (h.c1 k hk), fun k hk => hE.cell (h.c2 k hk), fun k hk => hE.cell (h.c3 k hk)⟩
theorem PlF.swap {w : World} {g N : Nat} {a : OA} {o : Ord} {n : Nat} {f : Nat → Nat} (h : PlF w g N a o n f) {p q : Nat} (hp : p < n) (hq : q < n) (hne : p ≠ q) :
    PlF (set4 (set4 w g p (.int .i64 (o.ID (f q))) (.int .i64 (o.A (f q))) (.slice (some ⟨a.tb (f q), a.to_ (f q), none⟩) o.m (a.tc (f q))) (.bool (earl o (f q)))) g q (.int .i64 (o.ID (f p))) (.int .i64 (o.A (f p))) (.slice (some ⟨a.tb (f p), a.to_ (f p), none⟩) o.m (a.tc (f p))) (.bool (earl o (f p)))) g N a o n (swapF f p q) := by
  obtain ⟨r0, r1, r2, r3⟩ := set4_same (a := .int .i64 (o.ID (f q))) (b := .int .i64 (o.A (f q))) (c := .slice (some ⟨a.tb (f q), a.to_ (f q), none⟩) o.m (a.tc (f q))) (d := .bool (earl o (f q))) (h.c0 p hp) (h.c1 p hp) (h.c2 p hp) (h.c3 p hp)
  have q0 := (set4_other (w := w) (g := g) (a := .int .i64 (o.ID (f q))) (b := .int .i64 (o.A (f q))) (c := .slice (some ⟨a.tb (f q), a.to_ (f q), none⟩) o.m (a.tc (f q))) (d := .bool (earl o (f q))) hne (show 0 < 4 by omega)).trans (h.c0 q hq)
  have q1 := (set4_other (w := w) (g := g) (a := .int .i64 (o.ID (f q))) (b := .int .i64 (o.A (f q))) (c := .slice (some ⟨a.tb (f q), a.to_ (f q), none⟩) o.m (a.tc (f q))) (d := .bool (earl o (f q))) hne (show 1 < 4 by omega)).trans (h.c1 q hq)
  have q2 := (set4_other (w := w) (g := g) (a := .int .i64 (o.ID (f q))) (b := .int .i64 (o.A (f q))) (c := .slice (some ⟨a.tb (f q), a.to_ (f q), none⟩) o.m (a.tc (f q))) (d := .bool (earl o (f q))) hne (show 2 < 4 by omega)).trans (h.c2 q hq)
  have q3 := (set4_other (w := w) (g := g) (a := .int .i64 (o.ID (f q))) (b := .int .i64 (o.A (f q))) (c := .slice (some ⟨a.tb (f q), a.to_ (f q), none⟩) o.m (a.tc (f q))) (d := .bool (earl o (f q))) hne (show 3 < 4 by omega)).trans (h.c3 q hq)
  rw [Nat.add_zero] at q0
  obtain ⟨t0, t1, t2, t3⟩ := set4_same (a := .int .i64 (o.ID (f p))) (b := .int .i64 (o.A (f p))) (c := .slice (some ⟨a.tb (f p), a.to_ (f p), none⟩) o.m (a.tc (f p))) (d := .bool (earl o (f p))) q0 q1 q2 q3
  generalize hW : set4 (set4 w g p (.int .i64 (o.ID (f q))) (.int .i64 (o.A (f q))) (.slice (some ⟨a.tb (f q), a.to_ (f q), none⟩) o.m (a.tc (f q))) (.bool (earl o (f q)))) g q (.int .i64 (o.ID (f p))) (.int .i64 (o.A (f p))) (.slice (some ⟨a.tb (f p), a.to_ (f p), none⟩) o.m (a.tc (f p))) (.bool (earl o (f p))) = W at *
  have kp : ∀ r, r < 4 → W.cell? ⟨g, p * 4 + r, none⟩ = (set4 w g p (.int .i64 (o.ID (f q))) (.int .i64 (o.A (f q))) (.slice (some ⟨a.tb (f q), a.to_ (f q), none⟩) o.m (a.tc (f q))) (.bool (earl o (f q)))).cell? ⟨g, p * 4 + r, none⟩ := fun r hr => by rw [← hW]; exact set4_other (Ne.symm hne) hr
  have ko : ∀ r, r < 4 → ∀ k, k ≠ p → k ≠ q → W.cell? ⟨g, k * 4 + r, none⟩ = w.cell? ⟨g, k * 4 + r, none⟩ := fun r hr k e1 e2 => by rw [← hW]; exact (set4_other (Ne.symm e2) hr).trans (set4_other (Ne.symm e1) hr)
  have hrow : RowB W g 123 N := by rw [← hW]; exact (((((((h.row.set _ rfl _).set _ rfl _).set _ rfl _).set _ rfl _).set _ rfl _).set _ rfl _).set _ rfl _).set _ rfl _
  have k0 := kp 0 (by omega)
  have o0 := ko 0 (by omega)
  simp only [Nat.add_zero] at k0 o0
  refine ⟨hrow, fun k hk => ?_, fun k hk => ?_, fun k hk => ?_, fun k hk => ?_⟩
  · unfold swapF
    by_cases e1 : k = p
    · rw [if_pos e1, e1]; exact k0.trans r0
    · by_cases e2 : k = q
      · rw [if_neg e1, if_pos e2, e2]; exact t0
      · rw [if_neg e1, if_neg e2]; exact (o0 k e1 e2).trans (h.c0 k hk)
  · unfold swapF
    by_cases e1 : k = p
    · rw [if_pos e1, e1]; exact (kp 1 (by omega)).trans r1
    · by_cases e2 : k = q
      · rw [if_neg e1, if_pos e2, e2]; exact t1
      · rw [if_neg e1, if_neg e2]; exact (ko 1 (by omega) k e1 e2).trans (h.c1 k hk)
  · unfold swapF
    by_cases e1 : k = p
    · rw [if_pos e1, e1]; exact (kp 2 (by omega)).trans r2
    · by_cases e2 : k = q
      · rw [if_neg e1, if_pos e2, e2]; exact t2
      · rw [if_neg e1, if_neg e2]; exact (ko 2 (by omega) k e1 e2).trans (h.c2 k hk)
  · unfold swapF
    by_cases e1 : k = p
    · rw [if_pos e1, e1]; exact (kp 3 (by omega)).trans r3
    · by_cases e2 : k = q
      · rw [if_neg e1, if_pos e2, e2]; exact t3
      · rw [if_neg e1, if_neg e2]; exact (ko 3 (by omega) k e1 e2).trans (h.c3 k hk)
end Go.Proofs.Ytnfagcccgmakdaa
namespace Go.Proofs.Ytnfagcccgmakdaa
open Go.RowKit Go.Wk Go.Proofs
attribute [local irreducible] Go.Wk.Wops Go.Wk.Wp Go.Wk.Mtree Go.Wk.Mops
set_option maxHeartbeats 4000000

theorem posF_pos {lt : Nat → Nat → Bool} {x q : Nat} {f : Nat → Nat} (h : lt x (f q) = true) : posF lt x f (q + 1) = posF lt x f q := by
  show (if lt x (f q) then _ else _) = _; rw [if_pos h]
theorem posF_neg {lt : Nat → Nat → Bool} {x q : Nat} {f : Nat → Nat} (h : lt x (f q) = false) : posF lt x f (q + 1) = q + 1 := by
  show (if lt x (f q) then _ else _) = _; rw [h]; rfl
theorem insertion_c (a : OA) (o : Ord) (g N cap n : Nat) (f : Nat → Nat) (w : World) (hO : OrdF w g a o) (hg : g ≤ w.heap.size) (hm : o.m = 2) (hP : PlF w g N a o n f) (hf : ∀ k, k < n → f k < o.n) (hn : n ≤ 1000) :
    CallsV Try.prog 121 #[.slice (some ⟨g, 0, none⟩) n cap, .int .i64 0, .int .i64 (n : Int), .func (.func 83) #[] #[]] w fun v w' => v = .tuple #[] ∧ PlF w' g N a o n (stg (ltJ o) f (n - 1)) ∧ w.grownBy w' (some g) := by
  refine Wp.fn Try.func121 rfl Try.ntmps121 (by simp) ?_
  refine Wp.keep [0, 1, 2, 3] fun r1 hkeep => ?_
  obtain ⟨e0_1, e1_1, e2_1, e3_1, -⟩ := hkeep
  simp [go_sem] at e0_1 e1_1 e2_1 e3_1
  refine Wp.seqRegion (.inl rfl) (by kernel_rfl) fun K' gd hK hg => ?_
  clear hg
  go_simp
  refine hK _ _ ?_
  clear hK K' gd
  refine Wp.keep [0, 1, 2, 3, 8] fun r2 hkeep => ?_
  obtain ⟨e0_2, e1_2, e2_2, e3_2, e8_2, -⟩ := hkeep
  simp [go_sem, e0_1, e1_1, e2_1, e3_1] at e0_2 e1_2 e2_2 e3_2 e8_2
  clear e0_1 e1_1 e2_1 e3_1
  refine Wp.block ?_
  refine Wp.loop (fun k ρ ds wk => AllEq [0, 1, 2, 3] ρ r2 ∧ ds = [] ∧ ((k = 0 ∨ k < n) ∧ ρ 8 = .int .i64 ((k : Int) + 1) ∧ PlF wk g N a o n (stg (ltJ o) f k) ∧ w.grownBy wk (some g))) (n) ?_ ?_
  · refine ⟨AllEq.refl _ _, rfl, ?_⟩
    exact ⟨.inl rfl, by rw [e8_2]; rfl, hP, gb_refl _ _⟩
  · rintro k r3 _ wk hk ⟨hA, rfl, ⟨hkn, e8, hPk, hgb⟩⟩
    obtain ⟨e0_3, e1_3, e2_3, e3_3, -⟩ := hA
    rw [e0_2] at e0_3
    rw [e1_2] at e1_3
    rw [e2_2] at e2_3
    rw [e3_2] at e3_3
    refine Wp.seq ?_
    refine Wp.seqRegion (.inl rfl) (by kernel_rfl) fun K' gd hK hg => ?_
    clear hg
    go_simp
    refine hK _ _ ?_
    clear hK K' gd
    refine Wp.keep [0, 1, 2, 3, 8, 14] fun r4 hkeep => ?_
    obtain ⟨e0_4, e1_4, e2_4, e3_4, e8_4, e14_4, -⟩ := hkeep
    simp [go_sem, e0_3, e1_3, e2_3, e3_3, e8] at e0_4 e1_4 e2_4 e3_4 e8_4 e14_4
    clear e0_3 e1_3 e2_3 e3_3 e8
    by_cases h : (k : Int) + 1 < (n : Int)
    · refine Wp.condT (by go_simp) ?_
      have hfk := stg_lt (lt := ltJ o) hf k (by omega)
      have hk1 : k + 1 < n := by omega
      refine Wp.skip ?_
      refine thenK_normal ?_
      refine Wp.seq ?_
      refine Wp.block ?_
      refine Wp.seqRegion (.inl rfl) (by kernel_rfl) fun K' gd hK hg => ?_
      clear hg
      go_simp
      refine hK _ _ ?_
      clear hK K' gd
      refine Wp.keep [0, 1, 2, 3, 8, 9] fun r5 hkeep => ?_
      obtain ⟨e0_5, e1_5, e2_5, e3_5, e8_5, e9_5, -⟩ := hkeep
      simp [go_sem, e0_4, e1_4, e2_4, e3_4, e8_4, e14_4] at e0_5 e1_5 e2_5 e3_5 e8_5 e9_5
      clear e0_4 e1_4 e2_4 e3_4 e8_4 e14_4
      refine Wp.block ?_
      refine Wp.loop (fun u ρ ds wu => AllEq [0, 1, 2, 3, 8] ρ r5 ∧ ds = [] ∧ (∃ j, ρ 9 = .int .i64 ((j : Nat) : Int) ∧ j + u = k + 1 ∧ PlF wu g N a o n (insTo (stg (ltJ o) f k) (k + 1) j) ∧ posF (ltJ o) (stg (ltJ o) f k (k + 1)) (stg (ltJ o) f k) (k + 1) = posF (ltJ o) (stg (ltJ o) f k (k + 1)) (stg (ltJ o) f k) j ∧ w.grownBy wu (some g))) (k + 1) ?_ ?_
      · refine ⟨AllEq.refl _ _, rfl, ?_⟩
        exact ⟨k + 1, by rw [e9_5]; rfl, rfl, by rw [insTo_self]; exact hPk, rfl, hgb⟩
      · rintro u r6 _ wu hu ⟨hA, rfl, ⟨j, e9, hju, hPu, hpos, hgu⟩⟩
        obtain ⟨e0_6, e1_6, e2_6, e3_6, e8_6, -⟩ := hA
        rw [e0_5] at e0_6
        rw [e1_5] at e1_6
        rw [e2_5] at e2_6
        rw [e3_5] at e3_6
        rw [e8_5] at e8_6
        by_cases hj : j = 0
        · skip
          subst hj
          refine Wp.seq ?_
          refine Wp.seqDraw (.inl rfl) mixed [([0, 1, 2, 3], none), ([4, 5, 6, 7, 8], none), ([9, 10, 11, 12, 13], some (14, false)), ([15, 16], none)] (by kernel_rfl) fun K' gd hK hg => ?_
          have g3 : gd 3 = some 21 := hg 3
          clear hg
          simp only [pick, nth, List.map_cons, List.map_nil, Option.map_none, Option.map_some]
          apply Mops.none
          · intro w' hE'
            have hC' := hE'.cellsS
            go_simp
            with_reducible rfl
          apply Mops.none
          · intro w' hE'
            have hC' := hE'.cellsS
            go_simp
            with_reducible rfl
          apply Mops.act
          · intro w' hE'
            have hC' := hE'.cellsS
            go_simp
            with_reducible rfl
          intro K1 hK1
          go_simp
          refine hK1 _ _ (by first | assumption | exact Ext.refl _) ?_
          clear hK1 K1
          apply Mops.none
          · intro w' hE'
            have hC' := hE'.cellsS
            go_simp
            with_reducible rfl
          refine Mops.done ?_
          refine hK _ _ ?_
          clear hK K' gd g3
          refine Wp.keep [0, 1, 2, 3, 8, 9, 34] fun r7 hkeep => ?_
          obtain ⟨e0_7, e1_7, e2_7, e3_7, e8_7, e9_7, e34_7, -⟩ := hkeep
          simp [go_sem, e0_6, e1_6, e2_6, e3_6, e8_6, e9] at e0_7 e1_7 e2_7 e3_7 e8_7 e9_7 e34_7
          clear e0_6 e1_6 e2_6 e3_6 e8_6 e9
          refine Wp.condF (by go_simp) ?_
          refine Wp.exit ?_
          refine thenK_exit ?_
          refine thenK_exit ?_
          refine blockK_here ?_
          refine blockK_normal ?_
          refine thenK_normal ?_
          refine Wp.loneRegion (.inl rfl) (by kernel_rfl) fun K' gd hK hg => ?_
          clear hg
          go_simp
          refine hK _ _ ?_
          clear hK K' gd
          refine Ends.keep [0, 1, 2, 3, 8] fun r8 hkeep => ?_
          obtain ⟨e0_8, e1_8, e2_8, e3_8, e8_8, -⟩ := hkeep
          simp [go_sem, e0_7, e1_7, e2_7, e3_7, e8_7, e9_7, e34_7] at e0_8 e1_8 e2_8 e3_8 e8_8
          clear e0_7 e1_7 e2_7 e3_7 e8_7 e9_7 e34_7
          refine Ends.mk ?_
          refine thenK_normal ⟨by omega, ⟨by rw [e0_8, e0_2], by rw [e1_8, e1_2], by rw [e2_8, e2_2], by rw [e3_8, e3_2], trivial⟩, rfl, ?_⟩
          refine ⟨.inr hk1, by rw [e8_8, IntWalk.i64_in _ (by omega)]; rfl, ?_, gb_ext hgu ((Ext.refl _).drew)⟩
          show PlF _ _ _ _ _ _ (insAt (ltJ o) (stg (ltJ o) f k) (k + 1))
          unfold insAt
          rw [hpos]
          exact hPu.ext ((Ext.refl _).drew)
        · skip
          obtain ⟨q, hqj⟩ : ∃ q, q + 1 = j := ⟨j - 1, by omega⟩
          have hw1 : IntKind.i64.wrap ((j : Int) - 1) = (q : Int) := by rw [IntWalk.i64_in _ (by omega)]; omega
          have hjn : j < n := by omega
          have hqn : q < n := by omega
          have b0 : 0 < j := by omega
          have b2 : (j : Int) < (n : Int) := by omega
          have b3 : (q : Int) < (n : Int) := by omega
          obtain ⟨F, hF⟩ : ∃ F, insTo (stg (ltJ o) f k) (k + 1) j = F := ⟨_, rfl⟩
          have hFj : stg (ltJ o) f k (k + 1) = F j := by rw [← hF]; unfold insTo; rw [if_neg (by omega), if_pos rfl]
          have hFq : stg (ltJ o) f k q = F q := by rw [← hF]; unfold insTo; rw [if_pos (by omega)]
          have hFl : ∀ k, k < n → F k < o.n := by rw [← hF]; exact insTo_lt hk1 (by omega) hfk
          rw [hF] at hPu
          have p0 := hPu.c0 j hjn
          have p1 := hPu.c1 j hjn
          have p2 := hPu.c2 j hjn
          have p3 := hPu.c3 j hjn
          have s0 := hPu.c0 q hqn
          have s1 := hPu.c1 q hqn
          have s2 := hPu.c2 q hqn
          have s3 := hPu.c3 q hqn
          have hOu := hO.below (gb_below hgu hg)
          have t0 := hOu.hTT (F j) 0 (hFl j hjn) (by omega)
          have t1 := hOu.hTT (F j) 1 (hFl j hjn) (by omega)
          have t2 := hOu.hTT (F q) 0 (hFl q hqn) (by omega)
          have t3 := hOu.hTT (F q) 1 (hFl q hqn) (by omega)
          have r := hPu.row.frozen
          rw [hm] at p2 s2
          refine Wp.seq ?_
          refine Wp.seqDraw (.inl rfl) mixed [([0, 1, 2, 3], none), ([4, 5, 6, 7, 8], none), ([9, 10, 11, 12, 13], some (14, false)), ([15, 16], none)] (by kernel_rfl) fun K' gd hK hg => ?_
          have g3 : gd 3 = some 21 := hg 3
          clear hg
          simp only [pick, nth, List.map_cons, List.map_nil, Option.map_none, Option.map_some]
          apply Mops.none
          · intro w' hE'
            have hC' := hE'.cellsS
            go_simp
            with_reducible rfl
          apply Mops.none
          · intro w' hE'
            have hC' := hE'.cellsS
            go_simp
            with_reducible rfl
          apply Mops.act
          · intro w' hE'
            have hC' := hE'.cellsS
            go_simp
            with_reducible rfl
          intro K1 hK1
          go_simp
          refine Wcall (.inl rfl) (by_c (o.ID (F j)) (o.A (F j)) (o.ID (F q)) (o.A (F q)) (o.T (F j) 0) (o.T (F j) 1) (o.T (F q) 0) (o.T (F q) 1) (a.tb (F j)) (a.to_ (F j)) (a.tc (F j)) (a.tb (F q)) (a.to_ (F q)) (a.tc (F q)) (earl o (F j)) (earl o (F q)) _ (cell_drew t0) (cell_drew t1) (cell_drew t2) (cell_drew t3)) ?_
          rintro v w5 ⟨rfl, hE5⟩
          go_simp
          refine hK1 _ _ (by first | assumption | exact Ext.refl _) ?_
          clear hK1 K1
          apply Mops.none
          · intro w' hE'
            have hC' := hE'.cellsS
            go_simp
            with_reducible rfl
          refine Mops.done ?_
          refine hK _ _ ?_
          clear hK K' gd g3
          refine Wp.keep [0, 1, 2, 3, 8, 9, 34] fun r9 hkeep => ?_
          obtain ⟨e0_9, e1_9, e2_9, e3_9, e8_9, e9_9, e34_9, -⟩ := hkeep
          simp [go_sem, e0_6, e1_6, e2_6, e3_6, e8_6, e9] at e0_9 e1_9 e2_9 e3_9 e8_9 e9_9 e34_9
          clear e0_6 e1_6 e2_6 e3_6 e8_6 e9
          have hE5' : Ext wu w5 := (by repeat (first | assumption | exact Ext.refl _ | refine Ext.drew ?_ | refine Ext.alloc ?_ _ | refine Ext.trans ?_ (by assumption)))
          have g0 := hE5'.cell p0
          have g1 := hE5'.cell p1
          have g2 := hE5'.cell p2
          have g3 := hE5'.cell p3
          have l0 := hE5'.cell s0
          have l1 := hE5'.cell s1
          have l2 := hE5'.cell s2
          have l3 := hE5'.cell s3
          have r5 := (hPu.row.ext hE5').frozen
          by_cases hc : cmpB (earl o (F j)) (earl o (F q)) (o.T (F j) 0) (o.T (F j) 1) (o.T (F q) 0) (o.T (F q) 1) < 0
          · refine Wp.condT (by go_simp) ?_
            have hsw := (hPu.ext hE5').swap hjn hqn (by omega)
            rw [hm] at hsw
            have hgs : w.grownBy (set4 (set4 w5 g j (.int .i64 (o.ID (F q))) (.int .i64 (o.A (F q))) (.slice (some ⟨a.tb (F q), a.to_ (F q), none⟩) 2 (a.tc (F q))) (.bool (earl o (F q)))) g q (.int .i64 (o.ID (F j))) (.int .i64 (o.A (F j))) (.slice (some ⟨a.tb (F j), a.to_ (F j), none⟩) 2 (a.tc (F j))) (.bool (earl o (F j)))) (some g) := by unfold set4; exact gb_set (gb_set (gb_set (gb_set (gb_set (gb_set (gb_set (gb_set (gb_ext hgu hE5') _) _) _) _) _) _) _) _
            have hstep := insTo_step (stg (ltJ o) f k) (i := k + 1) hqj (by omega)
            rw [hF] at hstep
            rw [hstep] at hsw
            clear hstep
            refine Wp.skip ?_
            refine thenK_normal ?_
            refine Wp.seq ?_
            refine Wp.block ?_
            refine Wp.loneDrawT (.inl rfl) mixed (.rd [0, 1, 5, 6, 7, 8, 9, 10, 11, 12, 13, 14] (.both (.act 2 false (.both (.act 3 false (.both (.act 4 false (.act 15 true (.act 16 true (.act 17 true .done)))) (.act 15 true (.act 4 false (.act 16 true (.act 17 true .done)))))) (.act 15 true (.act 3 false (.act 4 false (.act 16 true (.act 17 true .done))))))) (.both (.act 3 false (.both (.act 2 false (.both (.act 4 false (.act 15 true (.act 16 true (.act 17 true .done)))) (.act 15 true (.act 4 false (.act 16 true (.act 17 true .done)))))) (.both (.act 4 false (.both (.act 2 false (.act 15 true (.act 16 true (.act 17 true .done)))) (.act 15 true (.act 2 false (.act 16 true (.act 17 true .done)))))) (.act 15 true (.both (.act 2 false (.act 4 false (.act 16 true (.act 17 true .done)))) (.act 4 false (.act 2 false (.act 16 true (.act 17 true .done))))))))) (.act 15 true (.both (.act 2 false (.act 3 false (.act 4 false (.act 16 true (.act 17 true .done))))) (.act 3 false (.both (.act 2 false (.act 4 false (.act 16 true (.act 17 true .done)))) (.act 4 false (.act 2 false (.act 16 true (.act 17 true .done))))))))))) (by kernel_rfl) (fun ρ W => AllEq [0, 1, 2, 3, 8, 9] ρ r9 ∧ (PlF W g N a o n (insTo (stg (ltJ o) f k) (k + 1) q) ∧ w.grownBy W (some g))) (fun K' gd hK hg => ?_) ?_
            · skip
              clear hg
              simp only [pickT, nth, List.map_cons, List.map_nil]
              apply Mtree.reads
              · intro w' hE'
                have hC' := hE'.cellsS
                go_simp
                with_reducible rfl
              refine Mtree.two ?_ ?_
              · skip
                refine Mtree.step fun K1 hK1 => ?_
                go_simp
                refine hK1 _ _ (by first | exact (Ext.refl _).alloc _ | exact Ext.refl _) ?_
                clear hK1 K1
                refine Mtree.two ?_ ?_
                · skip
                  refine Mtree.step fun K1 hK1 => ?_
                  go_simp
                  refine hK1 _ _ (by first | exact (Ext.refl _).alloc _ | exact Ext.refl _) ?_
                  clear hK1 K1
                  refine Mtree.two ?_ ?_
                  · skip
                    refine Mtree.step fun K1 hK1 => ?_
                    go_simp
                    refine hK1 _ _ (by first | exact (Ext.refl _).alloc _ | exact Ext.refl _) ?_
                    clear hK1 K1
                    refine Mtree.stepT fun K1 hK1 => ?_
                    go_simp
                    refine hK1 _ _ ?_
                    clear hK1 K1
                    refine Mtree.stepT fun K1 hK1 => ?_
                    go_simp
                    refine hK1 _ _ ?_
                    clear hK1 K1
                    refine Mtree.stepT fun K1 hK1 => ?_
                    go_simp
                    refine hK1 _ _ ?_
                    clear hK1 K1
                    refine Mtree.fin ?_
                    refine hK _ _ ⟨by simp [AllEq, go_sem], ?_⟩
                    exact ⟨PlF.ext hsw ((Ext.refl _).drew), gb_ext hgs ((Ext.refl _).drew)⟩
                  · skip
                    refine Mtree.stepT fun K1 hK1 => ?_
                    go_simp
                    refine hK1 _ _ ?_
                    clear hK1 K1
                    refine Mtree.step fun K1 hK1 => ?_
                    go_simp
                    refine hK1 _ _ (by first | exact (Ext.refl _).alloc _ | exact Ext.refl _) ?_
                    clear hK1 K1
                    refine Mtree.stepT fun K1 hK1 => ?_
                    go_simp
                    refine hK1 _ _ ?_
                    clear hK1 K1
                    refine Mtree.stepT fun K1 hK1 => ?_
                    go_simp
                    refine hK1 _ _ ?_
                    clear hK1 K1
                    refine Mtree.fin ?_
                    refine hK _ _ ⟨by simp [AllEq, go_sem], ?_⟩
                    exact ⟨PlF.ext hsw ((Ext.refl _).drew), gb_ext hgs ((Ext.refl _).drew)⟩
                · skip
                  refine Mtree.stepT fun K1 hK1 => ?_
                  go_simp
                  refine hK1 _ _ ?_
                  clear hK1 K1
                  refine Mtree.step fun K1 hK1 => ?_
                  go_simp
                  refine hK1 _ _ (by first | exact (Ext.refl _).alloc _ | exact Ext.refl _) ?_
                  clear hK1 K1
                  refine Mtree.step fun K1 hK1 => ?_
                  go_simp
                  refine hK1 _ _ (by first | exact (Ext.refl _).alloc _ | exact Ext.refl _) ?_
                  clear hK1 K1
                  refine Mtree.stepT fun K1 hK1 => ?_
                  go_simp
                  refine hK1 _ _ ?_
                  clear hK1 K1
                  refine Mtree.stepT fun K1 hK1 => ?_
                  go_simp
                  refine hK1 _ _ ?_
                  clear hK1 K1
                  refine Mtree.fin ?_
                  refine hK _ _ ⟨by simp [AllEq, go_sem], ?_⟩
                  exact ⟨PlF.ext hsw ((Ext.refl _).drew), gb_ext hgs ((Ext.refl _).drew)⟩
              · skip
                refine Mtree.two ?_ ?_
                · skip
                  refine Mtree.step fun K1 hK1 => ?_
                  go_simp
                  refine hK1 _ _ (by first | exact (Ext.refl _).alloc _ | exact Ext.refl _) ?_
                  clear hK1 K1
                  refine Mtree.two ?_ ?_
                  · skip
                    refine Mtree.step fun K1 hK1 => ?_
                    go_simp
                    refine hK1 _ _ (by first | exact (Ext.refl _).alloc _ | exact Ext.refl _) ?_
                    clear hK1 K1
                    refine Mtree.two ?_ ?_
                    · skip
                      refine Mtree.step fun K1 hK1 => ?_
                      go_simp
                      refine hK1 _ _ (by first | exact (Ext.refl _).alloc _ | exact Ext.refl _) ?_
                      clear hK1 K1
                      refine Mtree.stepT fun K1 hK1 => ?_
                      go_simp
                      refine hK1 _ _ ?_
                      clear hK1 K1
                      refine Mtree.stepT fun K1 hK1 => ?_
                      go_simp
                      refine hK1 _ _ ?_
                      clear hK1 K1
                      refine Mtree.stepT fun K1 hK1 => ?_
                      go_simp
                      refine hK1 _ _ ?_
                      clear hK1 K1
                      refine Mtree.fin ?_
                      refine hK _ _ ⟨by simp [AllEq, go_sem], ?_⟩
                      exact ⟨PlF.ext hsw ((Ext.refl _).drew), gb_ext hgs ((Ext.refl _).drew)⟩
                    · skip
                      refine Mtree.stepT fun K1 hK1 => ?_
                      go_simp
                      refine hK1 _ _ ?_
                      clear hK1 K1
                      refine Mtree.step fun K1 hK1 => ?_
                      go_simp
                      refine hK1 _ _ (by first | exact (Ext.refl _).alloc _ | exact Ext.refl _) ?_
                      clear hK1 K1
                      refine Mtree.stepT fun K1 hK1 => ?_
                      go_simp
                      refine hK1 _ _ ?_
                      clear hK1 K1
                      refine Mtree.stepT fun K1 hK1 => ?_
                      go_simp
                      refine hK1 _ _ ?_
                      clear hK1 K1
                      refine Mtree.fin ?_
                      refine hK _ _ ⟨by simp [AllEq, go_sem], ?_⟩
                      exact ⟨PlF.ext hsw ((Ext.refl _).drew), gb_ext hgs ((Ext.refl _).drew)⟩
                  · skip
                    refine Mtree.two ?_ ?_
                    · skip
                      refine Mtree.step fun K1 hK1 => ?_
                      go_simp
                      refine hK1 _ _ (by first | exact (Ext.refl _).alloc _ | exact Ext.refl _) ?_
                      clear hK1 K1
                      refine Mtree.two ?_ ?_
                      · skip
                        refine Mtree.step fun K1 hK1 => ?_
                        go_simp
                        refine hK1 _ _ (by first | exact (Ext.refl _).alloc _ | exact Ext.refl _) ?_
                        clear hK1 K1
                        refine Mtree.stepT fun K1 hK1 => ?_
                        go_simp
                        refine hK1 _ _ ?_
                        clear hK1 K1
                        refine Mtree.stepT fun K1 hK1 => ?_
                        go_simp
                        refine hK1 _ _ ?_
                        clear hK1 K1
                        refine Mtree.stepT fun K1 hK1 => ?_
                        go_simp
                        refine hK1 _ _ ?_
                        clear hK1 K1
                        refine Mtree.fin ?_
                        refine hK _ _ ⟨by simp [AllEq, go_sem], ?_⟩
                        exact ⟨PlF.ext hsw ((Ext.refl _).drew), gb_ext hgs ((Ext.refl _).drew)⟩
                      · skip
                        refine Mtree.stepT fun K1 hK1 => ?_
                        go_simp
                        refine hK1 _ _ ?_
                        clear hK1 K1
                        refine Mtree.step fun K1 hK1 => ?_
                        go_simp
                        refine hK1 _ _ (by first | exact (Ext.refl _).alloc _ | exact Ext.refl _) ?_
                        clear hK1 K1
                        refine Mtree.stepT fun K1 hK1 => ?_
                        go_simp
                        refine hK1 _ _ ?_
                        clear hK1 K1
                        refine Mtree.stepT fun K1 hK1 => ?_
                        go_simp
                        refine hK1 _ _ ?_
                        clear hK1 K1
                        refine Mtree.fin ?_
                        refine hK _ _ ⟨by simp [AllEq, go_sem], ?_⟩
                        exact ⟨PlF.ext hsw ((Ext.refl _).drew), gb_ext hgs ((Ext.refl _).drew)⟩
                    · skip
                      refine Mtree.stepT fun K1 hK1 => ?_
                      go_simp
                      refine hK1 _ _ ?_
                      clear hK1 K1
                      refine Mtree.two ?_ ?_
                      · skip
                        refine Mtree.step fun K1 hK1 => ?_
                        go_simp
                        refine hK1 _ _ (by first | exact (Ext.refl _).alloc _ | exact Ext.refl _) ?_
                        clear hK1 K1
                        refine Mtree.step fun K1 hK1 => ?_
                        go_simp
                        refine hK1 _ _ (by first | exact (Ext.refl _).alloc _ | exact Ext.refl _) ?_
                        clear hK1 K1
                        refine Mtree.stepT fun K1 hK1 => ?_
                        go_simp
                        refine hK1 _ _ ?_
                        clear hK1 K1
                        refine Mtree.stepT fun K1 hK1 => ?_
                        go_simp
                        refine hK1 _ _ ?_
                        clear hK1 K1
                        refine Mtree.fin ?_
                        refine hK _ _ ⟨by simp [AllEq, go_sem], ?_⟩
                        exact ⟨PlF.ext hsw ((Ext.refl _).drew), gb_ext hgs ((Ext.refl _).drew)⟩
                      · skip
                        refine Mtree.step fun K1 hK1 => ?_
                        go_simp
                        refine hK1 _ _ (by first | exact (Ext.refl _).alloc _ | exact Ext.refl _) ?_
                        clear hK1 K1
                        refine Mtree.step fun K1 hK1 => ?_
                        go_simp
                        refine hK1 _ _ (by first | exact (Ext.refl _).alloc _ | exact Ext.refl _) ?_
                        clear hK1 K1
                        refine Mtree.stepT fun K1 hK1 => ?_
                        go_simp
                        refine hK1 _ _ ?_
                        clear hK1 K1
                        refine Mtree.stepT fun K1 hK1 => ?_
                        go_simp
                        refine hK1 _ _ ?_
                        clear hK1 K1
                        refine Mtree.fin ?_
                        refine hK _ _ ⟨by simp [AllEq, go_sem], ?_⟩
                        exact ⟨PlF.ext hsw ((Ext.refl _).drew), gb_ext hgs ((Ext.refl _).drew)⟩
                · skip
                  refine Mtree.stepT fun K1 hK1 => ?_
                  go_simp
                  refine hK1 _ _ ?_
                  clear hK1 K1
                  refine Mtree.two ?_ ?_
                  · skip
                    refine Mtree.step fun K1 hK1 => ?_
                    go_simp
                    refine hK1 _ _ (by first | exact (Ext.refl _).alloc _ | exact Ext.refl _) ?_
                    clear hK1 K1
                    refine Mtree.step fun K1 hK1 => ?_
                    go_simp
                    refine hK1 _ _ (by first | exact (Ext.refl _).alloc _ | exact Ext.refl _) ?_
                    clear hK1 K1
                    refine Mtree.step fun K1 hK1 => ?_
                    go_simp
                    refine hK1 _ _ (by first | exact (Ext.refl _).alloc _ | exact Ext.refl _) ?_
                    clear hK1 K1
                    refine Mtree.stepT fun K1 hK1 => ?_
                    go_simp
                    refine hK1 _ _ ?_
                    clear hK1 K1
                    refine Mtree.stepT fun K1 hK1 => ?_
                    go_simp
                    refine hK1 _ _ ?_
                    clear hK1 K1
                    refine Mtree.fin ?_
                    refine hK _ _ ⟨by simp [AllEq, go_sem], ?_⟩
                    exact ⟨PlF.ext hsw ((Ext.refl _).drew), gb_ext hgs ((Ext.refl _).drew)⟩
                  · skip
                    refine Mtree.step fun K1 hK1 => ?_
                    go_simp
                    refine hK1 _ _ (by first | exact (Ext.refl _).alloc _ | exact Ext.refl _) ?_
                    clear hK1 K1
                    refine Mtree.two ?_ ?_
                    · skip
                      refine Mtree.step fun K1 hK1 => ?_
                      go_simp
                      refine hK1 _ _ (by first | exact (Ext.refl _).alloc _ | exact Ext.refl _) ?_
                      clear hK1 K1
                      refine Mtree.step fun K1 hK1 => ?_
                      go_simp
                      refine hK1 _ _ (by first | exact (Ext.refl _).alloc _ | exact Ext.refl _) ?_
                      clear hK1 K1
                      refine Mtree.stepT fun K1 hK1 => ?_
                      go_simp
                      refine hK1 _ _ ?_
                      clear hK1 K1
                      refine Mtree.stepT fun K1 hK1 => ?_
                      go_simp
                      refine hK1 _ _ ?_
                      clear hK1 K1
                      refine Mtree.fin ?_
                      refine hK _ _ ⟨by simp [AllEq, go_sem], ?_⟩
                      exact ⟨PlF.ext hsw ((Ext.refl _).drew), gb_ext hgs ((Ext.refl _).drew)⟩
                    · skip
                      refine Mtree.step fun K1 hK1 => ?_
                      go_simp
                      refine hK1 _ _ (by first | exact (Ext.refl _).alloc _ | exact Ext.refl _) ?_
                      clear hK1 K1
                      refine Mtree.step fun K1 hK1 => ?_
                      go_simp
                      refine hK1 _ _ (by first | exact (Ext.refl _).alloc _ | exact Ext.refl _) ?_
                      clear hK1 K1
                      refine Mtree.stepT fun K1 hK1 => ?_
                      go_simp
                      refine hK1 _ _ ?_
                      clear hK1 K1
                      refine Mtree.stepT fun K1 hK1 => ?_
                      go_simp
                      refine hK1 _ _ ?_
                      clear hK1 K1
                      refine Mtree.fin ?_
                      refine hK _ _ ⟨by simp [AllEq, go_sem], ?_⟩
                      exact ⟨PlF.ext hsw ((Ext.refl _).drew), gb_ext hgs ((Ext.refl _).drew)⟩
            · rintro r10 W ⟨hA, ⟨hN1, hN2⟩⟩
              obtain ⟨e0_10, e1_10, e2_10, e3_10, e8_10, e9_10, -⟩ := hA
              rw [e0_9] at e0_10
              rw [e1_9] at e1_10
              rw [e2_9] at e2_10
              rw [e3_9] at e3_10
              rw [e8_9] at e8_10
              rw [e9_9] at e9_10
              clear e0_9 e1_9 e2_9 e3_9 e8_9 e9_9 e34_9
              refine Ends.mk ?_
              refine blockK_normal ?_
              refine thenK_normal ?_
              refine Wp.loneRegion (.inl rfl) (by kernel_rfl) fun K' gd hK hg => ?_
              clear hg
              go_simp
              refine hK _ _ ?_
              clear hK K' gd
              refine Ends.keep [0, 1, 2, 3, 8, 9] fun r11 hkeep => ?_
              obtain ⟨e0_11, e1_11, e2_11, e3_11, e8_11, e9_11, -⟩ := hkeep
              simp [go_sem, e0_10, e1_10, e2_10, e3_10, e8_10, e9_10] at e0_11 e1_11 e2_11 e3_11 e8_11 e9_11
              clear e0_10 e1_10 e2_10 e3_10 e8_10 e9_10
              refine Ends.mk ?_
              refine thenK_normal ⟨by omega, ⟨by rw [e0_11, e0_5], by rw [e1_11, e1_5], by rw [e2_11, e2_5], by rw [e3_11, e3_5], by rw [e8_11, e8_5], trivial⟩, rfl, ?_⟩
              refine ⟨q, by rw [e9_11], by omega, hN1, ?_, hN2⟩
              rw [hpos, ← hqj]
              exact posF_pos (by rw [hFj, hFq]; exact decide_eq_true hc)
          · refine Wp.condF (by go_simp) ?_
            refine Wp.exit ?_
            refine thenK_exit ?_
            refine thenK_exit ?_
            refine blockK_here ?_
            refine blockK_normal ?_
            refine thenK_normal ?_
            refine Wp.loneRegion (.inl rfl) (by kernel_rfl) fun K' gd hK hg => ?_
            clear hg
            go_simp
            refine hK _ _ ?_
            clear hK K' gd
            refine Ends.keep [0, 1, 2, 3, 8] fun r12 hkeep => ?_
            obtain ⟨e0_12, e1_12, e2_12, e3_12, e8_12, -⟩ := hkeep
            simp [go_sem, e0_9, e1_9, e2_9, e3_9, e8_9, e9_9, e34_9] at e0_12 e1_12 e2_12 e3_12 e8_12
            clear e0_9 e1_9 e2_9 e3_9 e8_9 e9_9 e34_9
            refine Ends.mk ?_
            refine thenK_normal ⟨by omega, ⟨by rw [e0_12, e0_2], by rw [e1_12, e1_2], by rw [e2_12, e2_2], by rw [e3_12, e3_2], trivial⟩, rfl, ?_⟩
            refine ⟨.inr hk1, by rw [e8_12, IntWalk.i64_in _ (by omega)]; rfl, ?_, gb_ext hgu hE5'⟩
            show PlF _ _ _ _ _ _ (insAt (ltJ o) (stg (ltJ o) f k) (k + 1))
            unfold insAt
            rw [hpos, ← hqj]
            rw [posF_neg (by rw [hFj, hFq]; exact decide_eq_false hc), hqj, hF]
            exact hPu.ext hE5'
    · refine Wp.condF (by go_simp) ?_
      refine Wp.exit ?_
      refine thenK_exit ?_
      refine thenK_exit ?_
      refine blockK_here ?_
      refine endN_none Try.results121 ?_
      refine ⟨rfl, ?_, hgb⟩
      rw [show n - 1 = k by omega]
      exact hPk
end Go.Proofs.Ytnfagcccgmakdaa
namespace Go.Proofs.Ytnfagcccgmakdaa
open Go.RowKit Go.Wk Go.Proofs
attribute [local irreducible] Go.Wk.Wops Go.Wk.Wp Go.Wk.Mtree Go.Wk.Mops
set_option maxHeartbeats 4000000

theorem insertion_nop (v c : Value) (x y : Int) (w : World) (h : ¬ x + 1 < y) (hx : 0 ≤ x ∧ x ≤ 1000) :
    CallsV Try.prog 121 #[v, .int .i64 x, .int .i64 y, c] w fun v w' => v = .tuple #[] ∧ w = w' := by
  have hw : IntKind.i64.wrap (x + 1) = x + 1 := IntWalk.i64_in _ (by omega)
  refine Wp.fn Try.func121 rfl Try.ntmps121 (by simp) ?_
  refine Wp.keep [0, 1, 2, 3] fun r1 hkeep => ?_
  obtain ⟨e0_1, e1_1, e2_1, e3_1, -⟩ := hkeep
  simp [go_sem] at e0_1 e1_1 e2_1 e3_1
  refine Wp.seqRegion (.inl rfl) (by kernel_rfl) fun K' gd hK hg => ?_
  clear hg
  go_simp
  refine hK _ _ ?_
  clear hK K' gd
  refine Wp.keep [0, 1, 2, 3, 8] fun r2 hkeep => ?_
  obtain ⟨e0_2, e1_2, e2_2, e3_2, e8_2, -⟩ := hkeep
  simp [go_sem, e0_1, e1_1, e2_1, e3_1] at e0_2 e1_2 e2_2 e3_2 e8_2
  clear e0_1 e1_1 e2_1 e3_1
  refine Wp.block ?_
  refine Wp.loop (fun k ρ ds wk => AllEq [0, 1, 2, 3] ρ r2 ∧ ds = [] ∧ (ρ 8 = .int .i64 (x + 1) ∧ wk = w)) (0) ?_ ?_
  · refine ⟨AllEq.refl _ _, rfl, ?_⟩
    exact ⟨e8_2, rfl⟩
  · rintro k r3 _ wk hk ⟨hA, rfl, ⟨e8, rfl⟩⟩
    obtain ⟨e0_3, e1_3, e2_3, e3_3, -⟩ := hA
    rw [e0_2] at e0_3
    rw [e1_2] at e1_3
    rw [e2_2] at e2_3
    rw [e3_2] at e3_3
    refine Wp.seq ?_
    refine Wp.seqRegion (.inl rfl) (by kernel_rfl) fun K' gd hK hg => ?_
    clear hg
    go_simp
    refine hK _ _ ?_
    clear hK K' gd
    refine Wp.keep [0, 1, 2, 3, 8, 14] fun r4 hkeep => ?_
    obtain ⟨e0_4, e1_4, e2_4, e3_4, e8_4, e14_4, -⟩ := hkeep
    simp [go_sem, e0_3, e1_3, e2_3, e3_3, e8] at e0_4 e1_4 e2_4 e3_4 e8_4 e14_4
    clear e0_3 e1_3 e2_3 e3_3 e8
    refine Wp.condF (by go_simp) ?_
    refine Wp.exit ?_
    refine thenK_exit ?_
    refine thenK_exit ?_
    refine blockK_here ?_
    refine endN_none Try.results121 ?_
    exact ⟨rfl, rfl⟩
theorem gb_trans {w w1 w2 : World} {g : Nat} (h : w.grownBy w1 (some g)) (h2 : w1.grownBy w2 (some g)) : w.grownBy w2 (some g) :=
  ⟨h2.os.trans h.os, h2.tape.trans h.tape, h2.output.trans h.output, Nat.le_trans h.size h2.size, fun k hk hne => (h2.block k (Nat.lt_of_lt_of_le hk h.size) hne).trans (h.block k hk hne)⟩
theorem stable_c (a : OA) (o : Ord) (g N cap n : Nat) (f : Nat → Nat) (w : World) (hO : OrdF w g a o) (hg : g ≤ w.heap.size) (hm : o.m = 2) (hP : PlF w g N a o n f) (hf : ∀ k, k < n → f k < o.n) (hn : n ≤ 20) :
    CallsV Try.prog 110 #[.slice (some ⟨g, 0, none⟩) n cap, .int .i64 (n : Int), .func (.func 83) #[] #[]] w fun v w' => v = .tuple #[] ∧ PlF w' g N a o n (stg (ltJ o) f (n - 1)) ∧ w.grownBy w' (some g) := by
  by_cases h20 : n = 20
  · subst h20
    refine Wp.fn Try.func110 rfl Try.ntmps110 (by simp) ?_
    refine Wp.keep [0, 1, 2] fun r1 hkeep => ?_
    obtain ⟨e0_1, e1_1, e2_1, -⟩ := hkeep
    simp [go_sem] at e0_1 e1_1 e2_1
    refine Wp.seqRegion (.inl rfl) (by kernel_rfl) fun K' gd hK hg => ?_
    clear hg
    go_simp
    refine hK _ _ ?_
    clear hK K' gd
    refine Wp.keep [0, 1, 2, 6] fun r2 hkeep => ?_
    obtain ⟨e0_2, e1_2, e2_2, e6_2, -⟩ := hkeep
    simp [go_sem, e0_1, e1_1, e2_1] at e0_2 e1_2 e2_2 e6_2
    clear e0_1 e1_1 e2_1
    refine Wp.seqRegion (.inl rfl) (by kernel_rfl) fun K' gd hK hg => ?_
    clear hg
    go_simp
    refine hK _ _ ?_
    clear hK K' gd
    refine Wp.keep [0, 1, 2, 6, 7, 8] fun r3 hkeep => ?_
    obtain ⟨e0_3, e1_3, e2_3, e6_3, e7_3, e8_3, -⟩ := hkeep
    simp [go_sem, e0_2, e1_2, e2_2, e6_2] at e0_3 e1_3 e2_3 e6_3 e7_3 e8_3
    clear e0_2 e1_2 e2_2 e6_2
    refine Wp.seq ?_
    refine Wp.block ?_
    refine Wp.loop (fun k ρ ds wk => AllEq [0, 1, 2, 6] ρ r3 ∧ ds = [] ∧ (ρ 7 = .int .i64 ((k * 20 : Nat) : Int) ∧ ρ 8 = .int .i64 (((k + 1) * 20 : Nat) : Int) ∧ PlF wk g N a o 20 (if k = 0 then f else stg (ltJ o) f 19) ∧ w.grownBy wk (some g))) (1) ?_ ?_
    · refine ⟨AllEq.refl _ _, rfl, ?_⟩
      exact ⟨e7_3, e8_3, by rw [if_pos rfl]; exact hP, gb_refl _ _⟩
    · rintro k r4 _ wk hk ⟨hA, rfl, ⟨e7, e8, hPk, hgk⟩⟩
      obtain ⟨e0_4, e1_4, e2_4, e6_4, -⟩ := hA
      rw [e0_3] at e0_4
      rw [e1_3] at e1_4
      rw [e2_3] at e2_4
      rw [e6_3] at e6_4
      by_cases hk0 : k = 0
      · skip
        subst hk0
        rw [if_pos rfl] at hPk
        have e7' : r4 7 = .int .i64 0 := e7
        have e8' : r4 8 = .int .i64 20 := e8
        clear e7 e8
        have e7 := e7'
        have e8 := e8'
        clear e7' e8'
        refine Wp.seq ?_
        refine Wp.seqRegion (.inl rfl) (by kernel_rfl) fun K' gd hK hg => ?_
        clear hg
        go_simp
        refine hK _ _ ?_
        clear hK K' gd
        refine Wp.keep [0, 1, 2, 6, 7, 8, 13] fun r5 hkeep => ?_
        obtain ⟨e0_5, e1_5, e2_5, e6_5, e7_5, e8_5, e13_5, -⟩ := hkeep
        simp [go_sem, e0_4, e1_4, e2_4, e6_4, e7, e8] at e0_5 e1_5 e2_5 e6_5 e7_5 e8_5 e13_5
        clear e0_4 e1_4 e2_4 e6_4 e7 e8
        refine Wp.condT (by go_simp) ?_
        refine Wp.skip ?_
        refine thenK_normal ?_
        refine Wp.block ?_
        refine Wp.seqRegion (.inl rfl) (by kernel_rfl) fun K' gd hK hg => ?_
        clear hg
        go_simp
        refine Wcall (.inl rfl) (insertion_c a o g N cap 20 f _ (hO.below (gb_below hgk hg)) (Nat.le_trans hg hgk.size) hm hPk hf (by omega)) ?_
        rintro v w2 ⟨rfl, hP2, hgb⟩
        go_simp
        refine hK _ _ ?_
        clear hK K' gd
        refine Wp.keep [0, 1, 2, 6, 8] fun r6 hkeep => ?_
        obtain ⟨e0_6, e1_6, e2_6, e6_6, e8_6, -⟩ := hkeep
        simp [go_sem, e0_5, e1_5, e2_5, e6_5, e7_5, e8_5, e13_5] at e0_6 e1_6 e2_6 e6_6 e8_6
        clear e0_5 e1_5 e2_5 e6_5 e7_5 e8_5 e13_5
        refine Wp.seqRegion (.inl rfl) (by kernel_rfl) fun K' gd hK hg => ?_
        clear hg
        go_simp
        refine hK _ _ ?_
        clear hK K' gd
        refine Wp.keep [0, 1, 2, 6, 7, 8] fun r7 hkeep => ?_
        obtain ⟨e0_7, e1_7, e2_7, e6_7, e7_7, e8_7, -⟩ := hkeep
        simp [go_sem, e0_6, e1_6, e2_6, e6_6, e8_6] at e0_7 e1_7 e2_7 e6_7 e7_7 e8_7
        clear e0_6 e1_6 e2_6 e6_6 e8_6
        refine Wp.loneRegion (.inl rfl) (by kernel_rfl) fun K' gd hK hg => ?_
        clear hg
        go_simp
        refine hK _ _ ?_
        clear hK K' gd
        refine Ends.keep [0, 1, 2, 6, 7, 8] fun r8 hkeep => ?_
        obtain ⟨e0_8, e1_8, e2_8, e6_8, e7_8, e8_8, -⟩ := hkeep
        simp [go_sem, e0_7, e1_7, e2_7, e6_7, e7_7, e8_7] at e0_8 e1_8 e2_8 e6_8 e7_8 e8_8
        clear e0_7 e1_7 e2_7 e6_7 e7_7 e8_7
        refine Ends.mk ?_
        refine blockK_normal ?_
        refine thenK_normal ⟨by omega, ⟨by rw [e0_8, e0_3], by rw [e1_8, e1_3], by rw [e2_8, e2_3], by rw [e6_8, e6_3], trivial⟩, rfl, ?_⟩
        exact ⟨e7_8, e8_8, by rw [if_neg (by omega)]; exact hP2, gb_trans hgk hgb⟩
      · skip
        obtain rfl : k = 1 := by omega
        rw [if_neg (by omega)] at hPk
        have e7' : r4 7 = .int .i64 20 := e7
        have e8' : r4 8 = .int .i64 40 := e8
        clear e7 e8
        have e7 := e7'
        have e8 := e8'
        clear e7' e8'
        refine Wp.seq ?_
        refine Wp.seqRegion (.inl rfl) (by kernel_rfl) fun K' gd hK hg => ?_
        clear hg
        go_simp
        refine hK _ _ ?_
        clear hK K' gd
        refine Wp.keep [0, 1, 2, 6, 7, 8, 13] fun r9 hkeep => ?_
        obtain ⟨e0_9, e1_9, e2_9, e6_9, e7_9, e8_9, e13_9, -⟩ := hkeep
        simp [go_sem, e0_4, e1_4, e2_4, e6_4, e7, e8] at e0_9 e1_9 e2_9 e6_9 e7_9 e8_9 e13_9
        clear e0_4 e1_4 e2_4 e6_4 e7 e8
        refine Wp.condF (by go_simp) ?_
        refine Wp.exit ?_
        refine thenK_exit ?_
        refine thenK_exit ?_
        refine blockK_here ?_
        refine thenK_normal ?_
        refine Wp.seqRegion (.inl rfl) (by kernel_rfl) fun K' gd hK hg => ?_
        clear hg
        go_simp
        refine Wcall (.inl rfl) (insertion_nop (.slice (some ⟨g, 0, none⟩) 20 cap) (.func (.func 83) #[] #[]) 20 20 _ (by omega) (by omega)) ?_
        rintro v w2 ⟨rfl, rfl⟩
        go_simp
        refine hK _ _ ?_
        clear hK K' gd
        refine Wp.keep [0, 1, 2, 6] fun r10 hkeep => ?_
        obtain ⟨e0_10, e1_10, e2_10, e6_10, -⟩ := hkeep
        simp [go_sem, e0_9, e1_9, e2_9, e6_9, e7_9, e8_9, e13_9] at e0_10 e1_10 e2_10 e6_10
        clear e0_9 e1_9 e2_9 e6_9 e7_9 e8_9 e13_9
        refine Wp.block ?_
        refine Wp.loop (fun u ρ ds wu => AllEq [0, 1, 2] ρ r10 ∧ ds = [] ∧ (ρ 6 = .int .i64 20 ∧ PlF wu g N a o 20 (stg (ltJ o) f 19) ∧ w.grownBy wu (some g))) (0) ?_ ?_
        · refine ⟨AllEq.refl _ _, rfl, ?_⟩
          exact ⟨e6_10, hPk, hgk⟩
        · rintro u r11 _ wu hu ⟨hA, rfl, ⟨e6, hP3, hg3⟩⟩
          obtain ⟨e0_11, e1_11, e2_11, -⟩ := hA
          rw [e0_10] at e0_11
          rw [e1_10] at e1_11
          rw [e2_10] at e2_11
          refine Wp.seq ?_
          refine Wp.seqRegion (.inl rfl) (by kernel_rfl) fun K' gd hK hg => ?_
          clear hg
          go_simp
          refine hK _ _ ?_
          clear hK K' gd
          refine Wp.keep [0, 1, 2, 6, 30] fun r12 hkeep => ?_
          obtain ⟨e0_12, e1_12, e2_12, e6_12, e30_12, -⟩ := hkeep
          simp [go_sem, e0_11, e1_11, e2_11, e6] at e0_12 e1_12 e2_12 e6_12 e30_12
          clear e0_11 e1_11 e2_11 e6
          refine Wp.condF (by go_simp) ?_
          refine Wp.exit ?_
          refine thenK_exit ?_
          refine thenK_exit ?_
          refine blockK_here ?_
          refine endN_none Try.results110 ?_
          exact ⟨rfl, hP3, hg3⟩
  · have hlt : n < 20 := by omega
    refine Wp.fn Try.func110 rfl Try.ntmps110 (by simp) ?_
    refine Wp.keep [0, 1, 2] fun r1 hkeep => ?_
    obtain ⟨e0_1, e1_1, e2_1, -⟩ := hkeep
    simp [go_sem] at e0_1 e1_1 e2_1
    have b1 : ¬ (20 : Int) ≤ (n : Int) := by omega
    refine Wp.seqRegion (.inl rfl) (by kernel_rfl) fun K' gd hK hg => ?_
    clear hg
    go_simp
    refine hK _ _ ?_
    clear hK K' gd
    refine Wp.keep [0, 1, 2, 6] fun r2 hkeep => ?_
    obtain ⟨e0_2, e1_2, e2_2, e6_2, -⟩ := hkeep
    simp [go_sem, e0_1, e1_1, e2_1] at e0_2 e1_2 e2_2 e6_2
    clear e0_1 e1_1 e2_1
    refine Wp.seqRegion (.inl rfl) (by kernel_rfl) fun K' gd hK hg => ?_
    clear hg
    go_simp
    refine hK _ _ ?_
    clear hK K' gd
    refine Wp.keep [0, 1, 2, 6, 7, 8] fun r3 hkeep => ?_
    obtain ⟨e0_3, e1_3, e2_3, e6_3, e7_3, e8_3, -⟩ := hkeep
    simp [go_sem, e0_2, e1_2, e2_2, e6_2] at e0_3 e1_3 e2_3 e6_3 e7_3 e8_3
    clear e0_2 e1_2 e2_2 e6_2
    refine Wp.seq ?_
    refine Wp.block ?_
    refine Wp.loop (fun k ρ ds wk => AllEq [0, 1, 2, 6] ρ r3 ∧ ds = [] ∧ (ρ 7 = .int .i64 0 ∧ ρ 8 = .int .i64 20 ∧ w = wk)) (0) ?_ ?_
    · refine ⟨AllEq.refl _ _, rfl, ?_⟩
      exact ⟨e7_3, e8_3, rfl⟩
    · rintro k r4 _ wk hk ⟨hA, rfl, ⟨e7, e8, rfl⟩⟩
      obtain ⟨e0_4, e1_4, e2_4, e6_4, -⟩ := hA
      rw [e0_3] at e0_4
      rw [e1_3] at e1_4
      rw [e2_3] at e2_4
      rw [e6_3] at e6_4
      refine Wp.seq ?_
      refine Wp.seqRegion (.inl rfl) (by kernel_rfl) fun K' gd hK hg => ?_
      clear hg
      go_simp
      refine hK _ _ ?_
      clear hK K' gd
      refine Wp.keep [0, 1, 2, 6, 7, 8, 13] fun r5 hkeep => ?_
      obtain ⟨e0_5, e1_5, e2_5, e6_5, e7_5, e8_5, e13_5, -⟩ := hkeep
      simp [go_sem, e0_4, e1_4, e2_4, e6_4, e7, e8] at e0_5 e1_5 e2_5 e6_5 e7_5 e8_5 e13_5
      clear e0_4 e1_4 e2_4 e6_4 e7 e8
      refine Wp.condF (by go_simp) ?_
      refine Wp.exit ?_
      refine thenK_exit ?_
      refine thenK_exit ?_
      refine blockK_here ?_
      refine thenK_normal ?_
      refine Wp.seqRegion (.inl rfl) (by kernel_rfl) fun K' gd hK hg => ?_
      clear hg
      go_simp
      refine Wcall (.inl rfl) (insertion_c a o g N cap n f _ hO hg hm hP hf (by omega)) ?_
      rintro v w2 ⟨rfl, hP2, hgb⟩
      go_simp
      refine hK _ _ ?_
      clear hK K' gd
      refine Wp.keep [0, 1, 2, 6] fun r6 hkeep => ?_
      obtain ⟨e0_6, e1_6, e2_6, e6_6, -⟩ := hkeep
      simp [go_sem, e0_5, e1_5, e2_5, e6_5, e7_5, e8_5, e13_5] at e0_6 e1_6 e2_6 e6_6
      clear e0_5 e1_5 e2_5 e6_5 e7_5 e8_5 e13_5
      have b2 : ¬ (20 : Int) < (n : Int) := by omega
      refine Wp.block ?_
      refine Wp.loop (fun u ρ ds wu => AllEq [0, 1, 2] ρ r6 ∧ ds = [] ∧ (ρ 6 = .int .i64 20 ∧ PlF wu g N a o n (stg (ltJ o) f (n - 1)) ∧ w.grownBy wu (some g))) (0) ?_ ?_
      · refine ⟨AllEq.refl _ _, rfl, ?_⟩
        exact ⟨e6_6, hP2, hgb⟩
      · rintro u r7 _ wu hu ⟨hA, rfl, ⟨e6, hP3, hg3⟩⟩
        obtain ⟨e0_7, e1_7, e2_7, -⟩ := hA
        rw [e0_6] at e0_7
        rw [e1_6] at e1_7
        rw [e2_6] at e2_7
        refine Wp.seq ?_
        refine Wp.seqRegion (.inl rfl) (by kernel_rfl) fun K' gd hK hg => ?_
        clear hg
        go_simp
        refine hK _ _ ?_
        clear hK K' gd
        refine Wp.keep [0, 1, 2, 6, 30] fun r8 hkeep => ?_
        obtain ⟨e0_8, e1_8, e2_8, e6_8, e30_8, -⟩ := hkeep
        simp [go_sem, e0_7, e1_7, e2_7, e6] at e0_8 e1_8 e2_8 e6_8 e30_8
        clear e0_7 e1_7 e2_7 e6
        refine Wp.condF (by go_simp) ?_
        refine Wp.exit ?_
        refine thenK_exit ?_
        refine thenK_exit ?_
        refine blockK_here ?_
        refine endN_none Try.results110 ?_
        exact ⟨rfl, hP3, hg3⟩
theorem sort_c (a : OA) (o : Ord) (g N cap n : Nat) (f : Nat → Nat) (w : World) (hO : OrdF w g a o) (hg : g ≤ w.heap.size) (hm : o.m = 2) (hP : PlF w g N a o n f) (hf : ∀ k, k < n → f k < o.n) (hn : n ≤ 20) :
    CallsV Try.prog 82 #[.slice (some ⟨g, 0, none⟩) n cap, .func (.func 83) #[] #[]] w fun v w' => v = .tuple #[] ∧ PlF w' g N a o n (stg (ltJ o) f (n - 1)) ∧ w.grownBy w' (some g) := by
  refine Wp.fn Try.func82 rfl Try.ntmps82 (by simp) ?_
  refine Wp.keep [0, 1] fun r1 hkeep => ?_
  obtain ⟨e0_1, e1_1, -⟩ := hkeep
  simp [go_sem] at e0_1 e1_1
  refine Wp.loneRegion (.inl rfl) (by kernel_rfl) fun K' gd hK hg => ?_
  clear hg
  go_simp
  refine Wcall (.inl rfl) (stable_c a o g N cap n f _ hO hg hm hP hf hn) ?_
  rintro v w2 ⟨rfl, hP2, hgb⟩
  go_simp
  refine hK _ _ ?_
  clear hK K' gd
  refine Ends.keep [] fun r2 hkeep => ?_
  clear hkeep
  clear e0_1 e1_1
  refine Ends.mk ?_
  refine endN_none Try.results82 ?_
  exact ⟨rfl, hP2, hgb⟩
theorem sort_nil (w : World) :
    CallsV Try.prog 82 #[.slice none 0 0, .func (.func 83) #[] #[]] w fun v w' => v = .tuple #[] ∧ w = w' := by
  have hs : CallsV Try.prog 110 #[.slice none 0 0, .int .i64 0, .func (.func 83) #[] #[]] w fun v w' => v = .tuple #[] ∧ w = w' := by
    refine Wp.fn Try.func110 rfl Try.ntmps110 (by simp) ?_
    refine Wp.keep [0, 1, 2] fun r1 hkeep => ?_
    obtain ⟨e0_1, e1_1, e2_1, -⟩ := hkeep
    simp [go_sem] at e0_1 e1_1 e2_1
    refine Wp.seqRegion (.inl rfl) (by kernel_rfl) fun K' gd hK hg => ?_
    clear hg
    go_simp
    refine hK _ _ ?_
    clear hK K' gd
    refine Wp.keep [0, 1, 2, 6] fun r2 hkeep => ?_
    obtain ⟨e0_2, e1_2, e2_2, e6_2, -⟩ := hkeep
    simp [go_sem, e0_1, e1_1, e2_1] at e0_2 e1_2 e2_2 e6_2
    clear e0_1 e1_1 e2_1
    refine Wp.seqRegion (.inl rfl) (by kernel_rfl) fun K' gd hK hg => ?_
    clear hg
    go_simp
    refine hK _ _ ?_
    clear hK K' gd
    refine Wp.keep [0, 1, 2, 6, 7, 8] fun r3 hkeep => ?_
    obtain ⟨e0_3, e1_3, e2_3, e6_3, e7_3, e8_3, -⟩ := hkeep
    simp [go_sem, e0_2, e1_2, e2_2, e6_2] at e0_3 e1_3 e2_3 e6_3 e7_3 e8_3
    clear e0_2 e1_2 e2_2 e6_2
    refine Wp.seq ?_
    refine Wp.block ?_
    refine Wp.loop (fun k ρ ds wk => AllEq [0, 1, 2, 6] ρ r3 ∧ ds = [] ∧ (ρ 7 = .int .i64 0 ∧ ρ 8 = .int .i64 20 ∧ w = wk)) (0) ?_ ?_
    · refine ⟨AllEq.refl _ _, rfl, ?_⟩
      exact ⟨e7_3, e8_3, rfl⟩
    · rintro k r4 _ wk hk ⟨hA, rfl, ⟨e7, e8, rfl⟩⟩
      obtain ⟨e0_4, e1_4, e2_4, e6_4, -⟩ := hA
      rw [e0_3] at e0_4
      rw [e1_3] at e1_4
      rw [e2_3] at e2_4
      rw [e6_3] at e6_4
      refine Wp.seq ?_
      refine Wp.seqRegion (.inl rfl) (by kernel_rfl) fun K' gd hK hg => ?_
      clear hg
      go_simp
      refine hK _ _ ?_
      clear hK K' gd
      refine Wp.keep [0, 1, 2, 6, 7, 8, 13] fun r5 hkeep => ?_
      obtain ⟨e0_5, e1_5, e2_5, e6_5, e7_5, e8_5, e13_5, -⟩ := hkeep
      simp [go_sem, e0_4, e1_4, e2_4, e6_4, e7, e8] at e0_5 e1_5 e2_5 e6_5 e7_5 e8_5 e13_5
      clear e0_4 e1_4 e2_4 e6_4 e7 e8
      refine Wp.condF (by go_simp) ?_
      refine Wp.exit ?_
      refine thenK_exit ?_
      refine thenK_exit ?_
      refine blockK_here ?_
      refine thenK_normal ?_
      refine Wp.seqRegion (.inl rfl) (by kernel_rfl) fun K' gd hK hg => ?_
      clear hg
      go_simp
      refine Wcall (.inl rfl) (insertion_nop (.slice none 0 0) (.func (.func 83) #[] #[]) 0 0 _ (by omega) (by omega)) ?_
      rintro v w2 ⟨rfl, rfl⟩
      go_simp
      refine hK _ _ ?_
      clear hK K' gd
      refine Wp.keep [0, 1, 2, 6] fun r6 hkeep => ?_
      obtain ⟨e0_6, e1_6, e2_6, e6_6, -⟩ := hkeep
      simp [go_sem, e0_5, e1_5, e2_5, e6_5, e7_5, e8_5, e13_5] at e0_6 e1_6 e2_6 e6_6
      clear e0_5 e1_5 e2_5 e6_5 e7_5 e8_5 e13_5
      refine Wp.block ?_
      refine Wp.loop (fun u ρ ds wu => AllEq [0, 1, 2] ρ r6 ∧ ds = [] ∧ (ρ 6 = .int .i64 20 ∧ w = wu)) (0) ?_ ?_
      · refine ⟨AllEq.refl _ _, rfl, ?_⟩
        exact ⟨e6_6, rfl⟩
      · rintro u r7 _ wu hu ⟨hA, rfl, ⟨e6, rfl⟩⟩
        obtain ⟨e0_7, e1_7, e2_7, -⟩ := hA
        rw [e0_6] at e0_7
        rw [e1_6] at e1_7
        rw [e2_6] at e2_7
        refine Wp.seq ?_
        refine Wp.seqRegion (.inl rfl) (by kernel_rfl) fun K' gd hK hg => ?_
        clear hg
        go_simp
        refine hK _ _ ?_
        clear hK K' gd
        refine Wp.keep [0, 1, 2, 6, 30] fun r8 hkeep => ?_
        obtain ⟨e0_8, e1_8, e2_8, e6_8, e30_8, -⟩ := hkeep
        simp [go_sem, e0_7, e1_7, e2_7, e6] at e0_8 e1_8 e2_8 e6_8 e30_8
        clear e0_7 e1_7 e2_7 e6
        refine Wp.condF (by go_simp) ?_
        refine Wp.exit ?_
        refine thenK_exit ?_
        refine thenK_exit ?_
        refine blockK_here ?_
        refine endN_none Try.results110 ?_
        exact ⟨rfl, rfl⟩
  refine Wp.fn Try.func82 rfl Try.ntmps82 (by simp) ?_
  refine Wp.keep [0, 1] fun r1 hkeep => ?_
  obtain ⟨e0_1, e1_1, -⟩ := hkeep
  simp [go_sem] at e0_1 e1_1
  refine Wp.loneRegion (.inl rfl) (by kernel_rfl) fun K' gd hK hg => ?_
  clear hg
  go_simp
  refine Wcall (.inl rfl) (hs) ?_
  rintro v w2 ⟨rfl, rfl⟩
  go_simp
  refine hK _ _ ?_
  clear hK K' gd
  refine Ends.keep [] fun r2 hkeep => ?_
  clear hkeep
  clear e0_1 e1_1
  refine Ends.mk ?_
  refine endN_none Try.results82 ?_
  exact ⟨rfl, rfl⟩
end Go.Proofs.Ytnfagcccgmakdaa
namespace Go.Proofs.Ytnfagcccgmakdaa
open Go.RowKit Go.Wk Go.Proofs
attribute [local irreducible] Go.Wk.Wops Go.Wk.Wp Go.Wk.Mtree Go.Wk.Mops
set_option maxHeartbeats 4000000

def permO (o : Ord) (σ : Nat → Nat) (c : Nat) : Ord := ⟨o.cop, (List.range c).map fun k => o.runs[σ k]?.getD default⟩
theorem permO_run (o : Ord) (σ : Nat → Nat) {c k : Nat} (hk : k < c) : (permO o σ c).runs[k]?.getD default = o.runs[σ k]?.getD default := by
  unfold permO; simp [hk]
theorem permO_n (o : Ord) (σ : Nat → Nat) (c : Nat) : (permO o σ c).n = c := by simp [permO, Ord.n]
theorem permF {w : World} {B : Nat} {a : OA} {o : Ord} {σ : Nat → Nat} {c g rc : Nat} {rA : Option Addr} (hO : OrdF w B a o) (hσ : ∀ k, k < c → σ k < o.n) (hc : c ≤ 20) (hrc : c ≤ rc) (hA : 0 < c → rA = some ⟨g, 0, none⟩) (hB : 0 < c → g < B)
    (hr : ∀ k, k < c → w.cell? ⟨g, k * 3, none⟩ = some (.int .i64 (o.ID (σ k))) ∧ w.cell? ⟨g, k * 3 + 1, none⟩ = some (.int .i64 (o.A (σ k))) ∧ w.cell? ⟨g, k * 3 + 2, none⟩ = some (.slice (some ⟨a.tb (σ k), a.to_ (σ k), none⟩) o.m (a.tc (σ k)))) :
    OrdF w B ⟨a.cb, a.co, a.cc, rA, g, 0, rc, fun k => a.tb (σ k), fun k => a.to_ (σ k), fun k => a.tc (σ k)⟩ (permO o σ c) := by
  have hn := permO_n o σ c
  have eI : ∀ k, k < (permO o σ c).n → (permO o σ c).ID k = o.ID (σ k) := fun k hk => by rw [hn] at hk; unfold Ord.ID; rw [permO_run o σ hk]
  have eA : ∀ k, k < (permO o σ c).n → (permO o σ c).A k = o.A (σ k) := fun k hk => by rw [hn] at hk; unfold Ord.A; rw [permO_run o σ hk]
  have eT : ∀ k j, k < (permO o σ c).n → (permO o σ c).T k j = o.T (σ k) j := fun k j hk => by rw [hn] at hk; unfold Ord.T; rw [permO_run o σ hk]
  have hs : ∀ k, k < (permO o σ c).n → σ k < o.n := fun k hk => hσ k (by rw [hn] at hk; exact hk)
  refine ⟨hO.hm1, hO.hm2, by rw [hn]; exact hc, hO.hC, fun h => hA (by rw [hn] at h; exact h), fun k hk => ?_, fun k hk => ?_, fun k hk => ?_, fun k j hk hj => ?_, hO.bC, fun h => hB (by rw [hn] at h; exact h), fun k hk => hO.bT _ (hs k hk), hO.hcc, by rw [hn]; exact hrc, fun k hk => hO.htc _ (hs k hk), hO.vC, fun k hk => ?_, fun k j hk hj => ?_⟩
  · rw [eI k hk]; rw [hn] at hk; simpa using (hr k hk).1
  · rw [eA k hk]; rw [hn] at hk; simpa using (hr k hk).2.1
  · rw [hn] at hk; rw [show 0 + k * 3 + 2 = k * 3 + 2 by omega]; exact (hr k hk).2.2
  · rw [eT k j hk]; exact hO.hTT _ j (hs k hk) hj
  · rw [eA k hk]; exact hO.vA _ (hs k hk)
  · rw [eT k j hk]; exact hO.vT _ j (hs k hk) hj
theorem late_c (b : Nat) (o : Ord) (a : OA) (x y : Int) (tv : Value) (w : World) (hO : OrdF w w.heap.size a o) (hn : 0 < o.n) (h : w.cell? ⟨b, 1, none⟩ = some (a.rv o)) :
    CallsV Try.prog 79 #[.agg #[.int .i64 x, .int .i64 y, tv], .pointer (some ⟨b, 0, none⟩)] w fun v w' => v = .bool (!decide (y = o.A 0)) ∧ Ext w w' := by
  have hrA := hO.hr hn
  have c1 := hO.hA 0 hn
  simp only [OA.rv, hrA] at h
  rw [Nat.zero_mul, Nat.add_zero] at c1
  have b1 : (0 : Int) < (o.n : Int) := by omega
  have b2 : ¬ o.n = 0 := by omega
  refine Wp.fn Try.func79 rfl Try.ntmps79 (by simp) ?_
  refine Wp.keep [0, 1] fun r1 hkeep => ?_
  obtain ⟨e0_1, e1_1, -⟩ := hkeep
  simp [go_sem] at e0_1 e1_1
  refine Wp.seqRegion (.inl rfl) (by kernel_rfl) fun K' gd hK hg => ?_
  clear hg
  go_simp
  refine hK _ _ ?_
  clear hK K' gd
  refine Wp.keep [1, 2] fun r2 hkeep => ?_
  obtain ⟨e1_2, e2_2, -⟩ := hkeep
  simp [go_sem, e0_1, e1_1] at e1_2 e2_2
  clear e0_1 e1_1
  refine Wp.seqDraw (.inl rfl) mixed [([0, 1, 2, 3, 4], none), ([5, 6, 7, 8], none)] (by kernel_rfl) fun K' gd hK hg => ?_
  clear hg
  simp only [pick, nth, List.map_cons, List.map_nil, Option.map_none, Option.map_some]
  apply Mops.none
  · intro w' hE'
    have hC' := hE'.cellsS
    go_simp
    with_reducible rfl
  apply Mops.none
  · intro w' hE'
    have hC' := hE'.cellsS
    go_simp
    with_reducible rfl
  refine Mops.done ?_
  refine hK _ _ ?_
  clear hK K' gd
  refine Wp.keep [3] fun r3 hkeep => ?_
  obtain ⟨e3_3, -⟩ := hkeep
  simp [go_sem, e1_2, e2_2] at e3_3
  clear e1_2 e2_2
  refine Wp.ret ?_
  refine endK_tmp Try.results79 (by decide) ?_
  rw [e3_3]
  exact ⟨rfl, (by repeat (first | assumption | exact Ext.refl _ | refine Ext.drew ?_ | refine Ext.alloc ?_ _ | refine Ext.trans ?_ (by assumption)))⟩
theorem placed_T : ElemT Try.prog 121 123 4 := elemT_of (by kernel_rfl)
def pcs (a : OA) (o : Ord) (i : Nat) : List Value := [.int .i64 (o.ID i), .int .i64 (o.A i), .slice (some ⟨a.tb i, a.to_ i, none⟩) o.m (a.tc i), .bool (earl o i)]
def pcL (a : OA) (o : Ord) (k : Nat) : List Value := (List.range k).flatMap (pcs a o)
theorem pcL_succ (a : OA) (o : Ord) (k : Nat) : pcL a o (k + 1) = pcL a o k ++ pcs a o k := by
  unfold pcL; rw [List.range_succ, List.flatMap_append]; simp
theorem pcL_len (a : OA) (o : Ord) : ∀ k, (pcL a o k).length = k * 4
  | 0 => rfl
  | k + 1 => by rw [pcL_succ, List.length_append, pcL_len a o k]; show k * 4 + 4 = _; omega
theorem pcL_get (a : OA) (o : Ord) {i r : Nat} (hr : r < 4) : ∀ k, i < k → (pcL a o k)[i * 4 + r]? = (pcs a o i)[r]?
  | 0, h => absurd h (Nat.not_lt_zero _)
  | k + 1, h => by
    rw [pcL_succ]
    by_cases e : i = k
    · subst e
      rw [List.getElem?_append_right (by rw [pcL_len]; omega), pcL_len, show i * 4 + r - i * 4 = r by omega]
    · rw [List.getElem?_append_left (by rw [pcL_len]; omega)]
      exact pcL_get a o hr k (by omega)
theorem plF_own {w : World} {base g cap n : Nat} {a : OA} {o : Ord} (h : w.ownsRow base 123 4 (.slice (some ⟨g, 0, none⟩) n cap) n (pcL a o n)) : PlF w g (cap * 4) a o n id ∧ base ≤ g := by
  have hc := World.ownsRow.cells h (g := g) rfl
  rcases h.2 with ⟨hv, -⟩ | ⟨g', cap', cur, hv, hb, hg, hnc, hcm, hcs, htake⟩
  · cases hv
  · injection hv with h1 h2 h3
    injection h1 with h1
    injection h1 with h1
    subst h1; subst h3
    have cell : ∀ i r, r < 4 → i < n → ∀ v, (pcs a o i)[r]? = some v → w.cell? ⟨g, i * 4 + r, none⟩ = some v := fun i r hr hi v hv => by
      have := hc (i * 4 + r) v (by rw [pcL_get a o hr n hi]; exact hv)
      rwa [Addr.add_lit, Nat.zero_add] at this
    exact ⟨⟨⟨cur, hg, hcs⟩, fun k hk => cell k 0 (by omega) hk _ rfl, fun k hk => cell k 1 (by omega) hk _ rfl, fun k hk => cell k 2 (by omega) hk _ rfl, fun k hk => cell k 3 (by omega) hk _ rfl⟩, hb⟩
end Go.Proofs.Ytnfagcccgmakdaa
namespace Go.Proofs.Ytnfagcccgmakdaa
open Go.RowKit Go.Wk Go.Proofs
attribute [local irreducible] Go.Wk.Wops Go.Wk.Wp Go.Wk.Mtree Go.Wk.Mops
set_option maxHeartbeats 4000000

def lateB (o : Ord) : Bool := o.runs.any fun r => !decide (r.arr = o.A 0)
def johnE (o : Ord) : Int := if checkS o = 0 then (if o.cop = [1, 1] ∧ lateB o = false then 0 else 4) else checkS o
def johnP (o : Ord) : Nat → Nat := stg (ltJ o) id (o.n - 1)
def johnO (o : Ord) : Ord := permO o (johnP o) o.n
def johnL (o : Ord) : List Int := (List.range o.n).map fun k => o.ID (johnP o k)
theorem ones_ints {w : World} {b c : Nat} (h0 : w.cell? ⟨b, 0, none⟩ = some (.int .i64 1)) (h1 : w.cell? ⟨b, 1, none⟩ = some (.int .i64 1)) (hc : 2 ≤ c) : IntsV w w.heap.size (.slice (some ⟨b, 0, none⟩) 2 c) [1, 1] :=
  ⟨_, _, rfl, fun _ => ⟨b, 0, rfl, cell_lt h0, fun k hk => by
    rcases (show k = 0 ∨ k = 1 by simp at hk; omega) with rfl | rfl
    · exact h0
    · exact h1⟩, hc⟩
theorem news_three {w : World} {k : Nat} {u v x : Value} (h : w.cell? ⟨k, 0, none⟩ = some u) (h2 : w.cell? ⟨k, 1, none⟩ = some v) (h3 : w.cell? ⟨k, 2, none⟩ = some x) : ∀ j y, [u, v, x][j]? = some y → w.cell? ((⟨k, 0, none⟩ : Addr).add j) = some y := by
  intro j y hy
  match j with
  | 0 => simp at hy; subst hy; rw [Addr.add_lit]; exact h
  | 1 => simp at hy; subst hy; rw [Addr.add_lit]; exact h2
  | 2 => simp at hy; subst hy; rw [Addr.add_lit]; exact h3
  | j + 3 => simp at hy
theorem news_four {w : World} {k : Nat} {u v x y : Value} (h : w.cell? ⟨k, 0, none⟩ = some u) (h2 : w.cell? ⟨k, 1, none⟩ = some v) (h3 : w.cell? ⟨k, 2, none⟩ = some x) (h4 : w.cell? ⟨k, 3, none⟩ = some y) : ∀ j z, [u, v, x, y][j]? = some z → w.cell? ((⟨k, 0, none⟩ : Addr).add j) = some z := by
  intro j z hz
  match j with
  | 0 => simp at hz; subst hz; rw [Addr.add_lit]; exact h
  | 1 => simp at hz; subst hz; rw [Addr.add_lit]; exact h2
  | 2 => simp at hz; subst hz; rw [Addr.add_lit]; exact h3
  | 3 => simp at hz; subst hz; rw [Addr.add_lit]; exact h4
  | j + 4 => simp at hz
theorem pcs_one (a : OA) (o : Ord) (k : Nat) : ∀ u ∈ pcs a o k, u.oneCell' = true := by
  intro u hu; simp only [pcs, List.mem_cons, List.not_mem_nil, or_false] at hu
  rcases hu with rfl | rfl | rfl | rfl <;> rfl
def rcs (a : OA) (o : Ord) (i : Nat) : List Value := [.int .i64 (o.ID i), .int .i64 (o.A i), .slice (some ⟨a.tb i, a.to_ i, none⟩) o.m (a.tc i)]
def rcL (a : OA) (o : Ord) (σ : Nat → Nat) (k : Nat) : List Value := (List.range k).flatMap fun i => rcs a o (σ i)
theorem rcL_succ (a : OA) (o : Ord) (σ : Nat → Nat) (k : Nat) : rcL a o σ (k + 1) = rcL a o σ k ++ rcs a o (σ k) := by
  unfold rcL; rw [List.range_succ, List.flatMap_append]; simp
theorem rcL_len (a : OA) (o : Ord) (σ : Nat → Nat) : ∀ k, (rcL a o σ k).length = k * 3
  | 0 => rfl
  | k + 1 => by rw [rcL_succ, List.length_append, rcL_len a o σ k]; show k * 3 + 3 = _; omega
theorem rcL_get (a : OA) (o : Ord) (σ : Nat → Nat) {i r : Nat} (hr : r < 3) : ∀ k, i < k → (rcL a o σ k)[i * 3 + r]? = (rcs a o (σ i))[r]?
  | 0, h => absurd h (Nat.not_lt_zero _)
  | k + 1, h => by
    rw [rcL_succ]
    by_cases e : i = k
    · subst e
      rw [List.getElem?_append_right (by rw [rcL_len]; omega), rcL_len, show i * 3 + r - i * 3 = r by omega]
    · rw [List.getElem?_append_left (by rw [rcL_len]; omega)]
      exact rcL_get a o σ hr k (by omega)
theorem rcs_one (a : OA) (o : Ord) (k : Nat) : ∀ u ∈ rcs a o k, u.oneCell' = true := by
  intro u hu; simp only [rcs, List.mem_cons, List.not_mem_nil, or_false] at hu
  rcases hu with rfl | rfl | rfl <;> rfl
theorem stg_id_lt {lt : Nat → Nat → Bool} {n : Nat} {k : Nat} (h : k < n) : stg lt id (n - 1) k < n := stg_lt (f := id) (fun _ h => h) (n - 1) (by omega) k h
/-- the order of Johnson, as it lies -/
theorem john_own {w : World} {B base n : Nat} {v : Value} {a : OA} {o : Ord} {σ : Nat → Nat} (hO : OrdF w B a o) (hσ : ∀ k, k < n → σ k < o.n) (hn : n ≤ 20) (h : w.ownsRow base 37 3 v n (rcL a o σ n)) (hB : w.heap.size ≤ B) :
    ∃ a', v = OA.rv a' (permO o σ n) ∧ a.cv o = OA.cv a' (permO o σ n) ∧ OrdF w B a' (permO o σ n) := by
  rcases h.2 with ⟨rfl, rfl⟩ | ⟨g, cap, cur, rfl, hb, hg, hnc, hcm, hcs, htake⟩
  · refine ⟨⟨a.cb, a.co, a.cc, none, 0, 0, 0, fun k => a.tb (σ k), fun k => a.to_ (σ k), fun k => a.tc (σ k)⟩, by simp only [OA.rv, permO_n], rfl, permF hO hσ (by omega) (Nat.le_refl _) (fun h => absurd h (Nat.lt_irrefl _)) (fun h => absurd h (Nat.lt_irrefl _)) (fun k hk => absurd hk (Nat.not_lt_zero _))⟩
  · have hgl : g < w.heap.size := (Array.getElem?_eq_some_iff.1 hg).1
    have hc := World.ownsRow.cells h (g := g) rfl
    have cell : ∀ i r, r < 3 → i < n → ∀ v, (rcs a o (σ i))[r]? = some v → w.cell? ⟨g, i * 3 + r, none⟩ = some v := fun i r hr hi v hv => by
      have := hc (i * 3 + r) v (by rw [rcL_get a o σ hr n hi]; exact hv)
      rwa [Addr.add_lit, Nat.zero_add] at this
    exact ⟨⟨a.cb, a.co, a.cc, some ⟨g, 0, none⟩, g, 0, cap, fun k => a.tb (σ k), fun k => a.to_ (σ k), fun k => a.tc (σ k)⟩, by simp only [OA.rv, permO_n], rfl, permF hO hσ hn hnc (fun _ => rfl) (fun _ => by omega) (fun k hk => ⟨cell k 0 (by omega) hk _ rfl, cell k 1 (by omega) hk _ rfl, cell k 2 (by omega) hk _ rfl⟩)⟩
theorem timedJ {w : World} {base n : Nat} {v : Value} {a : OA} {o : Ord} {σ : Nat → Nat} (hO : OrdF w w.heap.size a o) (hσ : ∀ k, k < n → σ k < o.n) (hn : n ≤ 20) (h : w.ownsRow base 37 3 v n (rcL a o σ n)) :
    CallsV Try.prog 49 #[.agg #[.slice (some ⟨a.cb, a.co, none⟩) o.m a.cc, v]] w fun r w' => ∃ a' b, r = .pointer (some ⟨b, 0, none⟩) ∧ RowF w' b a' (permO o σ n) (begA (permO o σ n)) ∧ OrdF w' w'.heap.size a' (permO o σ n) ∧ Ext w w' := by
  obtain ⟨a', hv, hc, hO'⟩ := john_own hO hσ hn h (Nat.le_refl _)
  rw [hv, show Value.slice (some ⟨a.cb, a.co, none⟩) o.m a.cc = OA.cv a' (permO o σ n) from hc]
  exact (timed_c a' _ w hO').mono fun r w' ⟨b, h1, h2, h3⟩ => ⟨a', b, h1, h2, hO'.ext h3, h3⟩
theorem Johnson_c (v : Value) (o : Ord) (w : World) (hV : OrderV w w.heap.size v o) (hf : Fits o) :
    CallsV Try.prog 34 #[v] w fun v w' => ∃ t, v = .tuple #[t, .int .i64 (if johnE o = 0 then endS (johnO o) else 0), .int .i64 (johnE o)] ∧ OwnI w' w.heap.size t (if johnE o = 0 then johnL o else []) ∧ Ext w w' := by
  obtain ⟨cv, rv, rfl, hV2⟩ := hV
  have hV : OrderV w w.heap.size (.agg #[cv, rv]) o := ⟨cv, rv, rfl, hV2⟩
  refine Wp.fn Try.func34 rfl Try.ntmps34 (by simp) ?_
  refine Wp.keep [0] fun r1 hkeep => ?_
  obtain ⟨e0_1, -⟩ := hkeep
  simp [go_sem] at e0_1
  refine Wp.seqRegion (.inl rfl) (by kernel_rfl) fun K' gd hK hg => ?_
  clear hg
  go_simp
  refine hK _ _ ?_
  clear hK K' gd
  refine Wp.keep [1] fun r2 hkeep => ?_
  obtain ⟨e1_2, -⟩ := hkeep
  simp [go_sem, e0_1] at e1_2
  clear e0_1
  refine Wp.seq ?_
  refine Wp.seqRegion (.inl rfl) (by kernel_rfl) fun K' gd hK hg => ?_
  clear hg
  go_simp
  refine Wcall (.inl rfl) (check_c _ o _ (hV.ext (by repeat (first | assumption | exact Ext.refl _ | refine Ext.drew ?_ | refine Ext.alloc ?_ _ | refine Ext.trans ?_ (by assumption)))) hf) ?_
  rintro v w2 ⟨rfl, hE⟩
  have hE2 : Ext w w2 := (by repeat (first | assumption | exact Ext.refl _ | refine Ext.drew ?_ | refine Ext.alloc ?_ _ | refine Ext.trans ?_ (by assumption)))
  have x0 : w2.cell? ⟨w.heap.size, 0, none⟩ = some cv := hE.cell (by go_simp)
  have x1 : w2.cell? ⟨w.heap.size, 1, none⟩ = some rv := hE.cell (by go_simp)
  go_simp
  refine hK _ _ ?_
  clear hK K' gd
  refine Wp.keep [1, 5] fun r3 hkeep => ?_
  obtain ⟨e1_3, e5_3, -⟩ := hkeep
  simp [go_sem, e1_2] at e1_3 e5_3
  clear e1_2
  by_cases h0 : checkS o = 0
  · skip
    refine Wp.seqRegion (.inl rfl) (by kernel_rfl) fun K' gd hK hg => ?_
    clear hg
    go_simp
    refine hK _ _ ?_
    clear hK K' gd
    refine Wp.keep [1, 5, 17] fun r4 hkeep => ?_
    obtain ⟨e1_4, e5_4, e17_4, -⟩ := hkeep
    simp [go_sem, e1_3, e5_3] at e1_4 e5_4 e17_4
    clear e1_3 e5_3
    refine Wp.condF (by go_simp) ?_
    have hg := checkS_zero.1 h0
    have ho := hg.ok
    have hm := ho.hm2
    have hn := ho.hn2
    obtain ⟨a, rfl, rfl, hO⟩ := (hV.ext hE2).ordF2 hg
    have hVo := hO.orderV hg
    have hV3 := hV.ext hE2
    obtain ⟨cv', rv', hcv, hIC, hRV⟩ := hVo
    obtain ⟨rfl, rfl⟩ : a.cv o = cv' ∧ a.rv o = rv' := by injection hcv with hcv; injection hcv with hcv; injection hcv with a1 b1; injection b1 with b1; exact ⟨a1, b1⟩
    by_cases hq : o.cop = [1, 1]
    · skip
      refine Wp.skip ?_
      refine thenK_normal ?_
      refine Wp.seqRegion (.inl rfl) (by kernel_rfl) fun K' gd hK hg => ?_
      clear hg
      go_simp
      refine hK _ _ ?_
      clear hK K' gd
      refine Wp.keep [1, 6] fun r5 hkeep => ?_
      obtain ⟨e1_5, e6_5, -⟩ := hkeep
      simp [go_sem, e1_4, e5_4, e17_4] at e1_5 e6_5
      clear e1_4 e5_4 e17_4
      refine Wp.seq ?_
      refine Wp.seqRegion (.inl rfl) (by kernel_rfl) fun K' gd hK hg => ?_
      have g5 : gd 5 = some 25 := hg 5
      clear hg
      go_simp
      refine Wcall (.inl rfl) ((equalI_c _ _ o.cop [1, 1] _ (hIC.ext (by repeat (first | assumption | exact Ext.refl _ | refine Ext.drew ?_ | refine Ext.alloc ?_ _ | refine Ext.trans ?_ (by assumption)))) (ones_ints (cell_nn w2 #[.int .i64 1, .int .i64 1] 3 0 rfl rfl) (cell_nn w2 #[.int .i64 1, .int .i64 1] 3 1 rfl rfl) (by omega)) (by have := hg.m2; omega) (by simp)).mono (fun v w' h' => (⟨by rw [h'.1, decide_eq_true hq], h'.2⟩ : v = .bool true ∧ Ext _ w'))) ?_
      rintro v w3 ⟨rfl, hE3⟩
      have hE23 : Ext w2 w3 := (by repeat (first | assumption | exact Ext.refl _ | refine Ext.drew ?_ | refine Ext.alloc ?_ _ | refine Ext.trans ?_ (by assumption)))
      have y0 := hE23.cell x0
      have y1 := hE23.cell x1
      go_simp
      refine Wcall (.inl rfl) ((containsR_c _ o.runs (fun r => !decide (r.arr = o.A 0)) 79 #[.pointer (some ⟨w.heap.size, 0, none⟩)] w3 (hRV.ext hE23) (by have := hg.n2; omega) (enters_of Try.func79 (by kernel_rfl) rfl) (fun k' h' tv' W _ hW => late_c w.heap.size o a _ _ tv' W ((hO.ext hE23).ext hW) (Nat.zero_lt_of_lt h') (hW.cell y1))).mono (fun v w' h' => (⟨h'.1, h'.2⟩ : v = .bool (lateB o) ∧ Ext _ w'))) ?_
      rintro v w4 ⟨rfl, hE4⟩
      go_simp
      refine hK _ _ ?_
      clear hK K' gd g5
      refine Wp.keep [1, 30] fun r6 hkeep => ?_
      obtain ⟨e1_6, e30_6, -⟩ := hkeep
      simp [go_sem, e1_5, e6_5] at e1_6 e30_6
      clear e1_5 e6_5
      have hE24 : Ext w2 w4 := (by repeat (first | assumption | exact Ext.refl _ | refine Ext.drew ?_ | refine Ext.alloc ?_ _ | refine Ext.trans ?_ (by assumption)))
      have q0 := hE24.cell x0
      have q1 := hE24.cell x1
      by_cases hl : lateB o = true
      · refine Wp.condT (by go_simp) ?_
        refine Wp.seqRegion (.inl rfl) (by kernel_rfl) fun K' gd hK hg => ?_
        clear hg
        go_simp
        refine hK _ _ ?_
        clear hK K' gd
        refine Wp.keep [2, 3, 4] fun r7 hkeep => ?_
        obtain ⟨e2_7, e3_7, e4_7, -⟩ := hkeep
        simp [go_sem, e1_6, e30_6] at e2_7 e3_7 e4_7
        clear e1_6 e30_6
        refine Wp.ret ?_
        refine thenK_ret ?_
        refine endK_tmp3 Try.results34 (by decide) (by decide) (by decide) ?_
        rw [e2_7, e3_7, e4_7]
        have he : johnE o = 4 := by unfold johnE; rw [if_pos h0, if_neg (fun h => by rw [hl] at h; cases h.2)]
        exact ⟨_, by rw [he]; rfl, by rw [he]; exact World.ownsRow_nil _ _ _ _, (by repeat (first | assumption | exact Ext.refl _ | refine Ext.drew ?_ | refine Ext.alloc ?_ _ | refine Ext.trans ?_ (by assumption)))⟩
      · refine Wp.condF (by go_simp) ?_
        have he : johnE o = 0 := by unfold johnE; rw [if_pos h0, if_pos ⟨hq, by simpa using hl⟩]
        have hm2 : o.m ≤ 2 ∧ 2 ≤ o.m := by unfold Ord.m; rw [hq]; exact ⟨Nat.le_refl _, Nat.le_refl _⟩
        have hO4 := hO.ext hE24
        simp only [OA.cv, OA.rv] at q0 q1
        refine Wp.skip ?_
        refine thenK_normal ?_
        refine Wp.seqRegion (.inl rfl) (by kernel_rfl) fun K' gd hK hg => ?_
        clear hg
        go_simp
        refine hK _ _ ?_
        clear hK K' gd
        refine Wp.keep [1, 7] fun r8 hkeep => ?_
        obtain ⟨e1_8, e7_8, -⟩ := hkeep
        simp [go_sem, e1_6, e30_6] at e1_8 e7_8
        clear e1_6 e30_6
        refine Wp.seq ?_
        refine Wp.seqRegion (.inl rfl) (by kernel_rfl) fun K' gd hK hg => ?_
        clear hg
        go_simp
        refine hK _ _ ?_
        clear hK K' gd
        refine Wp.keep [1, 7, 32, 33, 34] fun r9 hkeep => ?_
        obtain ⟨e1_9, e7_9, e32_9, e33_9, e34_9, -⟩ := hkeep
        simp [go_sem, e1_8, e7_8] at e1_9 e7_9 e32_9 e33_9 e34_9
        clear e1_8 e7_8
        refine Wp.block ?_
        refine Wp.loop (fun k ρ ds wk => AllEq [1, 32, 33] ρ r9 ∧ ds = [] ∧ (∃ v7, ρ 34 = .int .i64 (k : Int) ∧ ρ 7 = v7 ∧ wk.ownsRow w4.heap.size 123 4 v7 k (pcL a o k) ∧ (k = 0 → v7 = .slice none 0 0) ∧ Ext w4 wk)) (o.n) ?_ ?_
        · refine ⟨AllEq.refl _ _, rfl, ?_⟩
          exact ⟨_, by rw [e34_9]; rfl, e7_9, World.ownsRow_nil _ _ _ _, fun _ => rfl, (by repeat (first | assumption | exact Ext.refl _ | refine Ext.drew ?_ | refine Ext.alloc ?_ _ | refine Ext.trans ?_ (by assumption)))⟩
        · rintro k r10 _ wk hk ⟨hA, rfl, ⟨v7, e34, e7, h7, h70, hEk⟩⟩
          obtain ⟨e1_10, e32_10, e33_10, -⟩ := hA
          rw [e1_9] at e1_10
          rw [e32_9] at e32_10
          rw [e33_9] at e33_10
          refine Wp.seqRegion (.inl rfl) (by kernel_rfl) fun K' gd hK hg => ?_
          clear hg
          go_simp
          refine hK _ _ ?_
          clear hK K' gd
          refine Wp.keep [1, 7, 32, 33, 34, 35] fun r11 hkeep => ?_
          obtain ⟨e1_11, e7_11, e32_11, e33_11, e34_11, e35_11, -⟩ := hkeep
          simp [go_sem, e1_10, e7, e32_10, e33_10, e34] at e1_11 e7_11 e32_11 e33_11 e34_11 e35_11
          clear e1_10 e7 e32_10 e33_10 e34
          refine Wp.seq ?_
          by_cases h : k < o.n
          · refine Wp.condT (by go_simp) ?_
            have hOk := hO4.ext hEk
            have hrA := hOk.hr (by omega)
            have c0 := hOk.hI k h
            have c1 := hOk.hA k h
            have c2 := hOk.hT k h
            have t0 := hOk.hTT k 0 h (by omega)
            have t1 := hOk.hTT k 1 h (by omega)
            rw [Nat.add_zero] at t0
            have t2 : ∀ X, (wk.alloc X).cell? ⟨a.tb k, a.to_ k, none⟩ = some (.int .i64 (o.T k 0)) := fun X => cell_al X t0
            have t3 : ∀ X, (wk.alloc X).cell? ⟨a.tb k, a.to_ k + 1, none⟩ = some (.int .i64 (o.T k 1)) := fun X => cell_al X t1
            have b1 : (0 : Int) < (o.m : Int) := by omega
            have b2 : (1 : Int) < (o.m : Int) := by omega
            have b3 : 0 < o.m := by omega
            have b4 : 1 < o.m := by omega
            refine Wp.skip ?_
            refine thenK_normal ?_
            refine Wp.seq ?_
            refine Wp.block ?_
            refine Wp.seqRegion (.inl rfl) (by kernel_rfl) fun K' gd hK hg => ?_
            clear hg
            go_simp
            refine hK _ _ ?_
            clear hK K' gd
            refine Wp.keep [1, 7, 9, 32, 33, 34] fun r12 hkeep => ?_
            obtain ⟨e1_12, e7_12, e9_12, e32_12, e33_12, e34_12, -⟩ := hkeep
            simp [go_sem, e1_11, e7_11, e32_11, e33_11, e34_11, e35_11] at e1_12 e7_12 e9_12 e32_12 e33_12 e34_12
            clear e1_11 e7_11 e32_11 e33_11 e34_11 e35_11
            refine Wp.loneDraw (.inl rfl) mixed [([0, 1, 2, 3, 4], none), ([5, 6, 7, 8, 9], none), ([10, 11], some (12, false)), ([], some (13, true)), ([], some (14, true))] (by kernel_rfl) fun K' gd hK hg => ?_
            clear hg
            simp only [pick, nth, List.map_cons, List.map_nil, Option.map_none, Option.map_some]
            apply Mops.none
            · intro w' hE'
              have hC' := hE'.cellsS
              go_simp
              with_reducible rfl
            apply Mops.none
            · intro w' hE'
              have hC' := hE'.cellsS
              go_simp
              with_reducible rfl
            apply Mops.act
            · intro w' hE'
              have hC' := hE'.cellsS
              go_simp
              with_reducible rfl
            intro K1 hK1
            go_simp
            refine hK1 _ _ ((Ext.refl _).alloc _) ?_
            clear hK1 K1
            apply Mops.last
            · exact fun _ _ => Rops_done
            intro K1 hK1
            obtain ⟨v', w', hrun, hown, hgr, -⟩ := app_run placed_T (ownsRow_ext h7 (by repeat (first | assumption | exact Ext.refl _ | refine Ext.drew ?_ | refine Ext.alloc ?_ _ | refine Ext.trans ?_ (by assumption)))) ⟨wk.heap.size + 1, 0, none⟩ 1 1 (pcs a o k) 121 rfl (news_four (cell_nn _ _ _ 0 (by simp) rfl) (cell_nn _ _ _ 1 (by simp) rfl) (cell_nn _ _ _ 2 (by simp) rfl) (cell_nn _ _ _ 3 (by simp) rfl)) (pcs_one a o k) (by omega) (by have := Below.size hEk; simp; omega) (w := ((wk.alloc (.cells #[.int .i64 (o.ID k), .int .i64 (o.A k), .slice (some ⟨a.tb k, a.to_ k, none⟩) o.m (a.tc k)] 37)).alloc (.cells #[.int .i64 (o.ID k), .int .i64 (o.A k), .slice (some ⟨a.tb k, a.to_ k, none⟩) o.m (a.tc k), .bool (decide (o.T k 0 < o.T k 1))] 123)).drew)
            refine if_pos_of rfl (Wstep.law (exec_append2 rfl hrun (by go_simp) (by go_simp)) ?_)
            refine hK1 _ _ ?_
            clear hK1 K1
            apply Mops.last
            · exact fun _ _ => Rops_done
            intro K1 hK1
            go_simp
            refine hK1 _ _ ?_
            clear hK1 K1
            refine Mops.done ?_
            refine hK _ _ ?_
            clear hK K' gd
            refine Ends.keep [1, 7, 32, 33, 34] fun r13 hkeep => ?_
            obtain ⟨e1_13, e7_13, e32_13, e33_13, e34_13, -⟩ := hkeep
            simp [go_sem, e1_12, e7_12, e9_12, e32_12, e33_12, e34_12] at e1_13 e7_13 e32_13 e33_13 e34_13
            clear e1_12 e7_12 e9_12 e32_12 e33_12 e34_12
            refine Ends.mk ?_
            refine blockK_normal ?_
            refine thenK_normal ?_
            refine Wp.loneRegion (.inl rfl) (by kernel_rfl) fun K' gd hK hg => ?_
            clear hg
            go_simp
            refine hK _ _ ?_
            clear hK K' gd
            refine Ends.keep [1, 7, 32, 33, 34] fun r14 hkeep => ?_
            obtain ⟨e1_14, e7_14, e32_14, e33_14, e34_14, -⟩ := hkeep
            simp [go_sem, e1_13, e7_13, e32_13, e33_13, e34_13] at e1_14 e7_14 e32_14 e33_14 e34_14
            clear e1_13 e7_13 e32_13 e33_13 e34_13
            refine Ends.mk ?_
            refine thenK_normal ⟨by omega, ⟨by rw [e1_14, e1_9], by rw [e32_14, e32_9], by rw [e33_14, e33_9], trivial⟩, rfl, ?_⟩
            refine ⟨v', by rw [e34_14, IntWalk.i64_in _ (by omega)]; rfl, e7_14, by rw [pcL_succ]; exact hown, fun h => absurd h (by omega), ?_⟩
            exact Below.grown (Ext.trans hEk ((((Ext.refl wk).alloc _).alloc _).drew)) (ownsRow_ext h7 ((((Ext.refl wk).alloc _).alloc _).drew)) hgr (Nat.le_refl _) (Nat.le_refl _)
          · refine Wp.condF (by go_simp) ?_
            obtain rfl : k = o.n := by omega
            by_cases hn0 : o.n = 0
            · skip
              obtain rfl := h70 hn0
              refine Wp.exit ?_
              refine thenK_exit ?_
              refine thenK_exit ?_
              refine blockK_here ?_
              refine thenK_normal ?_
              refine Wp.seqRegion (.inl rfl) (by kernel_rfl) fun K' gd hK hg => ?_
              clear hg
              go_simp
              refine Wcall (.inl rfl) (sort_nil _) ?_
              rintro v w6 ⟨rfl, rfl⟩
              go_simp
              refine hK _ _ ?_
              clear hK K' gd
              refine Wp.keep [1, 7] fun r15 hkeep => ?_
              obtain ⟨e1_15, e7_15, -⟩ := hkeep
              simp [go_sem, e1_11, e7_11, e32_11, e33_11, e34_11, e35_11] at e1_15 e7_15
              clear e1_11 e7_11 e32_11 e33_11 e34_11 e35_11
              have p0 := hEk.cell q0
              refine Wp.seqRegion (.inl rfl) (by kernel_rfl) fun K' gd hK hg => ?_
              clear hg
              go_simp
              refine hK _ _ ?_
              clear hK K' gd
              refine Wp.keep [7, 10] fun r16 hkeep => ?_
              obtain ⟨e7_16, e10_16, -⟩ := hkeep
              simp [go_sem, e1_15, e7_15] at e7_16 e10_16
              clear e1_15 e7_15
              refine Wp.seqRegion (.inl rfl) (by kernel_rfl) fun K' gd hK hg => ?_
              clear hg
              go_simp
              refine hK _ _ ?_
              clear hK K' gd
              refine Wp.keep [7, 10, 11] fun r17 hkeep => ?_
              obtain ⟨e7_17, e10_17, e11_17, -⟩ := hkeep
              simp [go_sem, e7_16, e10_16] at e7_17 e10_17 e11_17
              clear e7_16 e10_16
              refine Wp.seq ?_
              have z0 := cell_nn wk #[.slice (some ⟨a.cb, a.co, none⟩) o.m a.cc, .slice none 0 0] 25 0 rfl (v := .slice (some ⟨a.cb, a.co, none⟩) o.m a.cc) rfl
              have z1 := cell_nn wk #[.slice (some ⟨a.cb, a.co, none⟩) o.m a.cc, .slice none 0 0] 25 1 rfl (v := .slice none 0 0) rfl
              refine Wp.seqRegion (.inl rfl) (by kernel_rfl) fun K' gd hK hg => ?_
              clear hg
              go_simp
              refine hK _ _ ?_
              clear hK K' gd
              refine Wp.keep [10, 11, 58, 59, 60] fun r18 hkeep => ?_
              obtain ⟨e10_18, e11_18, e58_18, e59_18, e60_18, -⟩ := hkeep
              simp [go_sem, e7_17, e10_17, e11_17] at e10_18 e11_18 e58_18 e59_18 e60_18
              clear e7_17 e10_17 e11_17
              refine Wp.block ?_
              refine Wp.loop (fun u ρ ds wu => AllEq [10, 58, 59] ρ r18 ∧ ds = [] ∧ (ρ 60 = .int .i64 0 ∧ ρ 11 = .slice none 0 0 ∧ wu.cell? ⟨wk.heap.size, 0, none⟩ = some (.slice (some ⟨a.cb, a.co, none⟩) o.m a.cc) ∧ wu.cell? ⟨wk.heap.size, 1, none⟩ = some (.slice none 0 0) ∧ Ext wk wu)) (0) ?_ ?_
              · refine ⟨AllEq.refl _ _, rfl, ?_⟩
                exact ⟨e60_18, e11_18, z0, z1, (by repeat (first | assumption | exact Ext.refl _ | refine Ext.drew ?_ | refine Ext.alloc ?_ _ | refine Ext.trans ?_ (by assumption)))⟩
              · rintro u r19 _ wu hu ⟨hA, rfl, ⟨e60, e11, i3, i4, hEu⟩⟩
                obtain ⟨e10_19, e58_19, e59_19, -⟩ := hA
                rw [e10_18] at e10_19
                rw [e58_18] at e58_19
                rw [e59_18] at e59_19
                refine Wp.seqRegion (.inl rfl) (by kernel_rfl) fun K' gd hK hg => ?_
                clear hg
                go_simp
                refine hK _ _ ?_
                clear hK K' gd
                refine Wp.keep [10, 11, 58, 59, 60, 61] fun r20 hkeep => ?_
                obtain ⟨e10_20, e11_20, e58_20, e59_20, e60_20, e61_20, -⟩ := hkeep
                simp [go_sem, e10_19, e11, e58_19, e59_19, e60] at e10_20 e11_20 e58_20 e59_20 e60_20 e61_20
                clear e10_19 e11 e58_19 e59_19 e60
                refine Wp.seq ?_
                refine Wp.condF (by go_simp) ?_
                have hOu := (hO4.ext hEk).ext hEu
                have hEwu : Ext w wu := Ext.trans hE2 (Ext.trans hE24 (Ext.trans hEk hEu))
                refine Wp.exit ?_
                refine thenK_exit ?_
                refine thenK_exit ?_
                refine blockK_here ?_
                refine thenK_normal ?_
                refine Wp.seqRegion (.inl rfl) (by kernel_rfl) fun K' gd hK hg => ?_
                clear hg
                go_simp
                refine Wcall (.inl rfl) (timedJ (n := o.n) (σ := johnP o) (base := 0) hOu (fun k hk => by omega) hn (by rw [hn0]; exact World.ownsRow_nil _ _ _ _)) ?_
                rintro v w7 ⟨a7, b7, rfl, hR7, hO7, hE7⟩
                go_simp
                refine Wcall (.inl rfl) (end_c a7 (permO o (johnP o) o.n) b7 _ hO7 hR7) ?_
                rintro v w8 ⟨rfl, hE8⟩
                go_simp
                refine hK _ _ ?_
                clear hK K' gd
                refine Wp.keep [2, 3, 4] fun r21 hkeep => ?_
                obtain ⟨e2_21, e3_21, e4_21, -⟩ := hkeep
                simp [go_sem, e10_20, e11_20, e58_20, e59_20, e60_20, e61_20] at e2_21 e3_21 e4_21
                clear e10_20 e11_20 e58_20 e59_20 e60_20 e61_20
                refine Wp.ret ?_
                refine endK_tmp3 Try.results34 (by decide) (by decide) (by decide) ?_
                rw [e2_21, e3_21, e4_21]
                refine ⟨_, by rw [he, if_pos rfl]; unfold johnO; rw [hn0], ?_, (by repeat (first | assumption | exact Ext.refl _ | refine Ext.drew ?_ | refine Ext.alloc ?_ _ | refine Ext.trans ?_ (by assumption)))⟩
                rw [he, if_pos rfl]
                unfold johnL; rw [hn0]; exact World.ownsRow_nil _ _ _ _
            · skip
              obtain ⟨q0', hq0'⟩ : ∃ q, o.n = q + 1 := ⟨o.n - 1, by omega⟩
              rcases h7.2 with ⟨-, hz⟩ | ⟨g, cap, cur, rfl, hgb0, -⟩
              · exact absurd hz hn0
              obtain ⟨hPk, -⟩ := plF_own h7
              clear hq0'
              refine Wp.exit ?_
              refine thenK_exit ?_
              refine thenK_exit ?_
              refine blockK_here ?_
              refine thenK_normal ?_
              refine Wp.seqRegion (.inl rfl) (by kernel_rfl) fun K' gd hK hg => ?_
              clear hg
              go_simp
              refine Wcall (.inl rfl) (sort_c a o g (cap * 4) cap o.n id _ ((hO4.ext hEk).below (Below.refl _ _) |> fun h => (hO4.below (hEk)).more hgb0) (by have := hPk.row.lt; omega) (by omega) hPk (fun k hk => hk) hn) ?_
              rintro v w6 ⟨rfl, hP6, hgb⟩
              go_simp
              refine hK _ _ ?_
              clear hK K' gd
              refine Wp.keep [1, 7] fun r22 hkeep => ?_
              obtain ⟨e1_22, e7_22, -⟩ := hkeep
              simp [go_sem, e1_11, e7_11, e32_11, e33_11, e34_11, e35_11] at e1_22 e7_22
              clear e1_11 e7_11 e32_11 e33_11 e34_11 e35_11
              have hE46 : Ext w4 w6 := Go.RowKit.Below.grown hEk hgb (Below.size hEk) (fun q e => by have e := Option.some.inj e; omega)
              obtain ⟨σ, hσ⟩ : ∃ σ, stg (ltJ o) id (o.n - 1) = σ := ⟨_, rfl⟩
              have hσl : ∀ k, k < o.n → σ k < o.n := fun k hk => by rw [← hσ]; exact stg_id_lt hk
              rw [hσ] at hP6
              have q0 := hE46.cell q0
              have q1 := hE46.cell q1
              have hO6 := hO4.ext hE46
              have hgl := hP6.row.lt
              refine Wp.seqRegion (.inl rfl) (by kernel_rfl) fun K' gd hK hg => ?_
              clear hg
              go_simp
              refine hK _ _ ?_
              clear hK K' gd
              refine Wp.keep [7, 10] fun r23 hkeep => ?_
              obtain ⟨e7_23, e10_23, -⟩ := hkeep
              simp [go_sem, e1_22, e7_22] at e7_23 e10_23
              clear e1_22 e7_22
              refine Wp.seqRegion (.inl rfl) (by kernel_rfl) fun K' gd hK hg => ?_
              clear hg
              go_simp
              refine hK _ _ ?_
              clear hK K' gd
              refine Wp.keep [7, 10, 11] fun r24 hkeep => ?_
              obtain ⟨e7_24, e10_24, e11_24, -⟩ := hkeep
              simp [go_sem, e7_23, e10_23] at e7_24 e10_24 e11_24
              clear e7_23 e10_23
              refine Wp.seq ?_
              have z0 := cell_nn w6 #[.slice (some ⟨a.cb, a.co, none⟩) o.m a.cc, .slice none 0 0] 25 0 rfl (v := .slice (some ⟨a.cb, a.co, none⟩) o.m a.cc) rfl
              have z1 := cell_nn w6 #[.slice (some ⟨a.cb, a.co, none⟩) o.m a.cc, .slice none 0 0] 25 1 rfl (v := .slice none 0 0) rfl
              have zf := frz_nw w6 #[.slice (some ⟨a.cb, a.co, none⟩) o.m a.cc, .slice none 0 0] 25 rfl
              refine Wp.seqRegion (.inl rfl) (by kernel_rfl) fun K' gd hK hg => ?_
              clear hg
              go_simp
              refine hK _ _ ?_
              clear hK K' gd
              refine Wp.keep [10, 11, 58, 59, 60] fun r25 hkeep => ?_
              obtain ⟨e10_25, e11_25, e58_25, e59_25, e60_25, -⟩ := hkeep
              simp [go_sem, e7_24, e10_24, e11_24] at e10_25 e11_25 e58_25 e59_25 e60_25
              clear e7_24 e10_24 e11_24
              refine Wp.block ?_
              refine Wp.loop (fun u ρ ds wu => AllEq [10, 58, 59] ρ r25 ∧ ds = [] ∧ (∃ v11 v10, ρ 60 = .int .i64 (u : Int) ∧ ρ 11 = v11 ∧ OwnI wu (w6.heap.size + 1) v11 (((List.range u).map fun k => o.ID (σ k))) ∧ wu.ownsRow (w6.heap.size + 1) 37 3 v10 u (rcL a o σ u) ∧ wu.cell? ⟨w6.heap.size, 0, none⟩ = some (.slice (some ⟨a.cb, a.co, none⟩) o.m a.cc) ∧ wu.cell? ⟨w6.heap.size, 1, none⟩ = some v10 ∧ (∀ k, wu.frozen? ⟨w6.heap.size, k, none⟩ = false) ∧ Ext w6 wu)) (o.n) ?_ ?_
              · refine ⟨AllEq.refl _ _, rfl, ?_⟩
                exact ⟨_, _, by rw [e60_25]; rfl, e11_25, World.ownsRow_nil _ _ _ _, World.ownsRow_nil _ _ _ _, z0, z1, zf, (by repeat (first | assumption | exact Ext.refl _ | refine Ext.drew ?_ | refine Ext.alloc ?_ _ | refine Ext.trans ?_ (by assumption)))⟩
              · rintro u r26 _ wu hu ⟨hA, rfl, ⟨v11, v10, e60, e11, i1, i2, i3, i4, i5, hEu⟩⟩
                obtain ⟨e10_26, e58_26, e59_26, -⟩ := hA
                rw [e10_25] at e10_26
                rw [e58_25] at e58_26
                rw [e59_25] at e59_26
                refine Wp.seqRegion (.inl rfl) (by kernel_rfl) fun K' gd hK hg => ?_
                clear hg
                go_simp
                refine hK _ _ ?_
                clear hK K' gd
                refine Wp.keep [10, 11, 58, 59, 60, 61] fun r27 hkeep => ?_
                obtain ⟨e10_27, e11_27, e58_27, e59_27, e60_27, e61_27, -⟩ := hkeep
                simp [go_sem, e10_26, e11, e58_26, e59_26, e60] at e10_27 e11_27 e58_27 e59_27 e60_27 e61_27
                clear e10_26 e11 e58_26 e59_26 e60
                refine Wp.seq ?_
                by_cases h2 : u < o.n
                · refine Wp.condT (by go_simp) ?_
                  have hPu := hP6.ext hEu
                  have c0 := hPu.c0 u h2
                  have c1 := hPu.c1 u h2
                  have c2 := hPu.c2 u h2
                  have c3 := hPu.c3 u h2
                  have j5 := i5 1
                  obtain ⟨s, hs⟩ : ∃ s, σ u = s := ⟨_, rfl⟩
                  rw [hs] at c0 c1 c2 c3
                  have hlt8 : w6.heap.size < wu.heap.size := cell_lt i3
                  have hbb : (u : Int) < (o.n : Int) := by omega
                  refine Wp.skip ?_
                  refine thenK_normal ?_
                  refine Wp.seq ?_
                  refine Wp.block ?_
                  refine Wp.seqRegion (.inl rfl) (by kernel_rfl) fun K' gd hK hg => ?_
                  clear hg
                  go_simp
                  refine hK _ _ ?_
                  clear hK K' gd
                  refine Wp.keep [10, 11, 13, 58, 59, 60] fun r28 hkeep => ?_
                  obtain ⟨e10_28, e11_28, e13_28, e58_28, e59_28, e60_28, -⟩ := hkeep
                  simp [go_sem, e10_27, e11_27, e58_27, e59_27, e60_27, e61_27] at e10_28 e11_28 e13_28 e58_28 e59_28 e60_28
                  clear e10_27 e11_27 e58_27 e59_27 e60_27 e61_27
                  refine Wp.seqRegion (.inl rfl) (by kernel_rfl) fun K' gd hK hg => ?_
                  clear hg
                  refine Wops.cut 5 fun K1 hK1 => ?_
                  simp only [List.take_succ_cons, List.take_zero]
                  go_simp
                  refine hK1 _ _ ?_
                  clear hK1 K1
                  simp only [List.drop_succ_cons, List.drop_zero]
                  obtain ⟨v', w', hrun, hown, hgr, -⟩ := app_run ints_T (ownsRow_ext i1 (by repeat (first | assumption | exact Ext.refl _ | refine Ext.drew ?_ | refine Ext.alloc ?_ _ | refine Ext.trans ?_ (by assumption)))) ⟨wu.heap.size + 1, 0, none⟩ 1 1 [.int .i64 (o.ID s)] 22 rfl (news_one (cell_nn _ _ _ 0 (by simp) rfl)) (one_one rfl) (by simp; omega) (by simp; omega) (w := ((wu.alloc (.cells (pcs a o s).toArray 123)).alloc (.cells #[.int .i64 (o.ID s)] 3)))
                  clear c0 c1 c2 c3
                  refine Wops.law rfl (exec_append2 rfl hrun (by go_simp) (by go_simp)) ?_
                  go_simp
                  refine hK _ _ ?_
                  clear hK K' gd
                  refine Wp.keep [10, 11, 13, 58, 59, 60] fun r29 hkeep => ?_
                  obtain ⟨e10_29, e11_29, e13_29, e58_29, e59_29, e60_29, -⟩ := hkeep
                  simp [go_sem, e10_28, e11_28, e13_28, e58_28, e59_28, e60_28] at e10_29 e11_29 e13_29 e58_29 e59_29 e60_29
                  clear e10_28 e11_28 e13_28 e58_28 e59_28 e60_28
                  obtain ⟨W0, hW0⟩ : ∃ W0, ((wu.alloc (.cells (pcs a o s).toArray 123)).alloc (.cells #[.int .i64 (o.ID s)] 3)) = W0 := ⟨_, rfl⟩
                  have hEW : Ext wu W0 := by rw [← hW0]; exact (by repeat (first | assumption | exact Ext.refl _ | refine Ext.drew ?_ | refine Ext.alloc ?_ _ | refine Ext.trans ?_ (by assumption)))
                  have hWs : W0.heap.size = wu.heap.size + 1 + 1 := by rw [← hW0]; simp
                  have p0 : W0.cell? ⟨wu.heap.size, 0, none⟩ = some (.int .i64 (o.ID s)) := by rw [← hW0]; exact cell_al _ (cell_nn _ _ _ 0 rfl rfl)
                  have p1 : W0.cell? ⟨wu.heap.size, 1, none⟩ = some (.int .i64 (o.A s)) := by rw [← hW0]; exact cell_al _ (cell_nn _ _ _ 1 rfl rfl)
                  have p2 : W0.cell? ⟨wu.heap.size, 2, none⟩ = some (.slice (some ⟨a.tb s, a.to_ s, none⟩) o.m (a.tc s)) := by rw [← hW0]; exact cell_al _ (cell_nn _ _ _ 2 rfl rfl)
                  rw [hW0] at hgr
                  clear hrun hW0
                  have hn11 : ∀ b, wu.heap.size ≤ b → v11.ownBlock ≠ some b := fun b hb e => by have := (World.ownsRow.lt i1 b e).2; omega
                  have p0 := hgr.cell p0 (fun e => hn11 _ (Nat.le_refl _) e.symm)
                  have p1 := hgr.cell p1 (fun e => hn11 _ (Nat.le_refl _) e.symm)
                  have p2 := hgr.cell p2 (fun e => hn11 _ (Nat.le_refl _) e.symm)
                  have hB1 : Below (w6.heap.size + 1) wu w' := Below.grown (Below.mono hEW (by omega)) (ownsRow_ext i1 hEW) hgr (Nat.le_refl _) (by omega)
                  have k3 := (hB1.cell (p := ⟨w6.heap.size, 0, none⟩) (Nat.lt_succ_self _)).trans i3
                  have k4 := (hB1.cell (p := ⟨w6.heap.size, 1, none⟩) (Nat.lt_succ_self _)).trans i4
                  have k5 : ∀ k, w'.frozen? ⟨w6.heap.size, k, none⟩ = false := fun k => fz_same (hB1.block _ (Nat.lt_succ_self _)) (i5 k)
                  have k2 := World.ownsRow.kept (ownsRow_ext i2 hEW) hgr (own_ne (ownsRow_ext i2 hEW) (ownsRow_ext i1 hEW) (by decide))
                  refine Wp.loneRegion (.inl rfl) (by kernel_rfl) fun K' gd hK hg => ?_
                  clear hg
                  refine Wops.cut 5 fun K1 hK1 => ?_
                  simp only [List.take_succ_cons, List.take_zero]
                  go_simp
                  refine hK1 _ _ ?_
                  clear hK1 K1
                  simp only [List.drop_succ_cons, List.drop_zero]
                  obtain ⟨v'', w'', hrun, hown2, hgr2, -⟩ := app_run runs_T (ownsRow_ext k2 (by repeat (first | assumption | exact Ext.refl _ | refine Ext.drew ?_ | refine Ext.alloc ?_ _ | refine Ext.trans ?_ (by assumption)))) ⟨w'.heap.size, 0, none⟩ 1 1 (rcs a o s) 23 rfl (news_three (cell_nn _ _ _ 0 rfl rfl) (cell_nn _ _ _ 1 rfl rfl) (cell_nn _ _ _ 2 rfl rfl)) (rcs_one a o s) (by omega) (by have := Below.size hB1; simp; omega) (w := w'.alloc (.cells (rcs a o s).toArray 37))
                  obtain ⟨g2, cap2, rfl⟩ := ownsRow_succ hown2
                  have hEW2 : Ext w' (w'.alloc (.cells (rcs a o s).toArray 37)) := (by repeat (first | assumption | exact Ext.refl _ | refine Ext.drew ?_ | refine Ext.alloc ?_ _ | refine Ext.trans ?_ (by assumption)))
                  have hB2 : Below (w6.heap.size + 1) w' w'' := Below.grown (Below.mono hEW2 (by have := Below.size hB1; omega)) (ownsRow_ext k2 hEW2) hgr2 (Nat.le_refl _) (by have := Below.size hB1; omega)
                  have m3 := (hB2.cell (p := ⟨w6.heap.size, 0, none⟩) (Nat.lt_succ_self _)).trans k3
                  have m4 := (hB2.cell (p := ⟨w6.heap.size, 1, none⟩) (Nat.lt_succ_self _)).trans k4
                  have m5 : ∀ k, w''.frozen? ⟨w6.heap.size, k, none⟩ = false := fun k => fz_same (hB2.block _ (Nat.lt_succ_self _)) (k5 k)
                  refine Wops.law rfl (exec_append2 rfl hrun (by go_simp) (by go_simp)) ?_
                  go_simp
                  refine hK _ _ ?_
                  clear hK K' gd
                  refine Ends.keep [10, 11, 58, 59, 60] fun r30 hkeep => ?_
                  obtain ⟨e10_30, e11_30, e58_30, e59_30, e60_30, -⟩ := hkeep
                  simp [go_sem, e10_29, e11_29, e13_29, e58_29, e59_29, e60_29] at e10_30 e11_30 e58_30 e59_30 e60_30
                  clear e10_29 e11_29 e13_29 e58_29 e59_29 e60_29
                  refine Ends.mk ?_
                  refine blockK_normal ?_
                  refine thenK_normal ?_
                  refine Wp.loneRegion (.inl rfl) (by kernel_rfl) fun K' gd hK hg => ?_
                  clear hg
                  go_simp
                  refine hK _ _ ?_
                  clear hK K' gd
                  refine Ends.keep [10, 11, 58, 59, 60] fun r31 hkeep => ?_
                  obtain ⟨e10_31, e11_31, e58_31, e59_31, e60_31, -⟩ := hkeep
                  simp [go_sem, e10_30, e11_30, e58_30, e59_30, e60_30] at e10_31 e11_31 e58_31 e59_31 e60_31
                  clear e10_30 e11_30 e58_30 e59_30 e60_30
                  refine Ends.mk ?_
                  refine thenK_normal ⟨by omega, ⟨by rw [e10_31, e10_25], by rw [e58_31, e58_25], by rw [e59_31, e59_25], trivial⟩, rfl, ?_⟩
                  have hB12 : Ext w6 w'' := Below.trans hEu (Below.trans (Below.mono hB1 (Nat.le_succ _)) (Below.mono hB2 (Nat.le_succ _)))
                  have hown' : OwnI w' (w6.heap.size + 1) v' ((List.range (u + 1)).map fun k => o.ID (σ k)) := by rw [List.range_succ, List.map_append]; rw [← hs] at hown; simpa [OwnI] using hown
                  refine ⟨v', _, by rw [e60_31, IntWalk.i64_in _ (by omega)]; rfl, e11_31, ownsRow_setCell_below (World.ownsRow.kept (ownsRow_ext hown' hEW2) hgr2 (own_ne (ownsRow_ext hown' hEW2) (ownsRow_ext k2 hEW2) (by decide))) (Nat.lt_succ_self _) _, ?_, ?_, World.cell?_setCell_same' _ _ _ (by rw [m4]; rfl), fun k => by rw [World.frozen?_setCell]; exact m5 k, Ext.setC hB12 (Nat.le_refl _) _⟩
                  · rw [rcL_succ, hs]; exact ownsRow_setCell_below hown2 (Nat.lt_succ_self _) _
                  · rw [setCell_off (by decide)]; exact m3
                · refine Wp.condF (by go_simp) ?_
                  obtain rfl : u = o.n := by omega
                  have hOu := hO6.ext hEu
                  have hEwu : Ext w wu := Ext.trans hE2 (Ext.trans hE24 (Ext.trans hE46 hEu))
                  have hsl := i1.slice
                  obtain ⟨A11, c11, rfl⟩ := hsl
                  rw [List.length_map, List.length_range] at i1
                  refine Wp.exit ?_
                  refine thenK_exit ?_
                  refine thenK_exit ?_
                  refine blockK_here ?_
                  refine thenK_normal ?_
                  refine Wp.seqRegion (.inl rfl) (by kernel_rfl) fun K' gd hK hg => ?_
                  clear hg
                  go_simp
                  refine Wcall (.inl rfl) (timedJ (n := o.n) (σ := σ) (base := w6.heap.size + 1) hOu hσl hn i2) ?_
                  rintro v w7 ⟨a7, b7, rfl, hR7, hO7, hE7⟩
                  go_simp
                  refine Wcall (.inl rfl) (end_c a7 (permO o σ o.n) b7 _ hO7 hR7) ?_
                  rintro v w8 ⟨rfl, hE8⟩
                  go_simp
                  refine hK _ _ ?_
                  clear hK K' gd
                  refine Wp.keep [2, 3, 4] fun r32 hkeep => ?_
                  obtain ⟨e2_32, e3_32, e4_32, -⟩ := hkeep
                  simp [go_sem, e10_27, e11_27, e58_27, e59_27, e60_27, e61_27] at e2_32 e3_32 e4_32
                  clear e10_27 e11_27 e58_27 e59_27 e60_27 e61_27
                  refine Wp.ret ?_
                  refine endK_tmp3 Try.results34 (by decide) (by decide) (by decide) ?_
                  rw [e2_32, e3_32, e4_32]
                  refine ⟨_, by rw [he, if_pos rfl]; unfold johnO johnP; rw [hσ], ?_, (by repeat (first | assumption | exact Ext.refl _ | refine Ext.drew ?_ | refine Ext.alloc ?_ _ | refine Ext.trans ?_ (by assumption)))⟩
                  rw [he, if_pos rfl]
                  unfold johnL johnP; rw [hσ]
                  exact OwnI.less (base := w6.heap.size + 1) (OwnI.ext i1 (Ext.trans hE7 hE8)) (by have e1 := Below.size hE2; have e2 := Below.size hE24; have e3 := Below.size hE46; omega)
    · skip
      refine Wp.skip ?_
      refine thenK_normal ?_
      refine Wp.seqRegion (.inl rfl) (by kernel_rfl) fun K' gd hK hg => ?_
      clear hg
      go_simp
      refine hK _ _ ?_
      clear hK K' gd
      refine Wp.keep [1, 6] fun r33 hkeep => ?_
      obtain ⟨e1_33, e6_33, -⟩ := hkeep
      simp [go_sem, e1_4, e5_4, e17_4] at e1_33 e6_33
      clear e1_4 e5_4 e17_4
      refine Wp.seq ?_
      refine Wp.seqRegion (.inl rfl) (by kernel_rfl) fun K' gd hK hg => ?_
      have g5 : gd 5 = some 25 := hg 5
      clear hg
      go_simp
      refine Wcall (.inl rfl) ((equalI_c _ _ o.cop [1, 1] _ (hIC.ext (by repeat (first | assumption | exact Ext.refl _ | refine Ext.drew ?_ | refine Ext.alloc ?_ _ | refine Ext.trans ?_ (by assumption)))) (ones_ints (cell_nn w2 #[.int .i64 1, .int .i64 1] 3 0 rfl rfl) (cell_nn w2 #[.int .i64 1, .int .i64 1] 3 1 rfl rfl) (by omega)) (by have := hg.m2; omega) (by simp)).mono (fun v w' h' => (⟨by rw [h'.1, decide_eq_false hq], h'.2⟩ : v = .bool false ∧ Ext _ w'))) ?_
      rintro v w3 ⟨rfl, hE3⟩
      go_simp
      refine hK _ _ ?_
      clear hK K' gd g5
      refine Wp.keep [1, 30] fun r34 hkeep => ?_
      obtain ⟨e1_34, e30_34, -⟩ := hkeep
      simp [go_sem, e1_33, e6_33] at e1_34 e30_34
      clear e1_33 e6_33
      refine Wp.condT (by go_simp) ?_
      refine Wp.seqRegion (.inl rfl) (by kernel_rfl) fun K' gd hK hg => ?_
      clear hg
      go_simp
      refine hK _ _ ?_
      clear hK K' gd
      refine Wp.keep [2, 3, 4] fun r35 hkeep => ?_
      obtain ⟨e2_35, e3_35, e4_35, -⟩ := hkeep
      simp [go_sem, e1_34, e30_34] at e2_35 e3_35 e4_35
      clear e1_34 e30_34
      refine Wp.ret ?_
      refine thenK_ret ?_
      refine endK_tmp3 Try.results34 (by decide) (by decide) (by decide) ?_
      rw [e2_35, e3_35, e4_35]
      have he : johnE o = 4 := by unfold johnE; rw [if_pos h0, if_neg (fun h => hq h.1)]
      exact ⟨_, by rw [he]; rfl, by rw [he]; exact World.ownsRow_nil _ _ _ _, (by repeat (first | assumption | exact Ext.refl _ | refine Ext.drew ?_ | refine Ext.alloc ?_ _ | refine Ext.trans ?_ (by assumption)))⟩
  · skip
    refine Wp.seqRegion (.inl rfl) (by kernel_rfl) fun K' gd hK hg => ?_
    clear hg
    go_simp
    refine hK _ _ ?_
    clear hK K' gd
    refine Wp.keep [1, 5, 17] fun r36 hkeep => ?_
    obtain ⟨e1_36, e5_36, e17_36, -⟩ := hkeep
    simp [go_sem, e1_3, e5_3] at e1_36 e5_36 e17_36
    clear e1_3 e5_3
    refine Wp.condT (by go_simp) ?_
    refine Wp.seqRegion (.inl rfl) (by kernel_rfl) fun K' gd hK hg => ?_
    clear hg
    go_simp
    refine hK _ _ ?_
    clear hK K' gd
    refine Wp.keep [2, 3, 4] fun r37 hkeep => ?_
    obtain ⟨e2_37, e3_37, e4_37, -⟩ := hkeep
    simp [go_sem, e1_36, e5_36, e17_36] at e2_37 e3_37 e4_37
    clear e1_36 e5_36 e17_36
    refine Wp.ret ?_
    refine thenK_ret ?_
    refine endK_tmp3 Try.results34 (by decide) (by decide) (by decide) ?_
    rw [e2_37, e3_37, e4_37]
    have he : johnE o = checkS o := by unfold johnE; rw [if_neg h0]
    exact ⟨_, by rw [he, if_neg h0], by rw [he, if_neg h0]; exact World.ownsRow_nil _ _ _ _, (by repeat (first | assumption | exact Ext.refl _ | refine Ext.drew ?_ | refine Ext.alloc ?_ _ | refine Ext.trans ?_ (by assumption)))⟩
end Go.Proofs.Ytnfagcccgmakdaa
