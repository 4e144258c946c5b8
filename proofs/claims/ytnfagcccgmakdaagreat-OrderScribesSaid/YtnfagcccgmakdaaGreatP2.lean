/- The data of an order, and how it lies in memory. Small functions of the program. The iterators. ends, most, timed. timed. timed. timed. end, Clone, list; ContainsFunc. Check. What Check says; end, stint, asked. asked, End; appends. Clone, list, Times. list, Times. Times; stint; what asked is given. behind; last. The latest days, as data; marks in loops. last. -/
import Derived.Test.YtnfagcccgmakdaaGreatProg
import Derived.Test.YtnfagcccgmakdaaGreatP1
import Derived.Laws.EntriesVeiled
import Derived.Lib.SliceRun
set_option linter.all false
namespace Go.Proofs.YtnfagcccgmakdaaGreat
open Go.RowKit Go.Wk Go.Proofs
theorem mixed : Tryz.prog.follows .mixedOrders = true := by kernel_rfl
structure Run where
  id : Int
  arr : Int
  takes : List Int
structure Ord where
  cop : List Int
  runs : List Run
instance : Inhabited Run := ⟨⟨0, 0, []⟩⟩
def Ord.m (o : Ord) : Nat := o.cop.length
def Ord.n (o : Ord) : Nat := o.runs.length
def Ord.C (o : Ord) (j : Nat) : Int := o.cop[j]?.getD 0
def Ord.T (o : Ord) (i j : Nat) : Int := (o.runs[i]?.getD default).takes[j]?.getD 0
def Ord.A (o : Ord) (i : Nat) : Int := (o.runs[i]?.getD default).arr
def Ord.ID (o : Ord) (i : Nat) : Int := (o.runs[i]?.getD default).id
def IntsV (w : World) (B : Nat) (v : Value) (xs : List Int) : Prop :=
  ∃ (A : Option Addr) (c : Nat), v = .slice A xs.length c ∧ (xs ≠ [] → ∃ b o, A = some ⟨b, o, none⟩ ∧ b < B ∧ ∀ k (h : k < xs.length), w.cell? ⟨b, o + k, none⟩ = some (.int .i64 xs[k])) ∧ xs.length ≤ c
theorem IntsV.below {w w' : World} {B : Nat} {v : Value} {xs : List Int} (h : IntsV w B v xs) (hb : Below B w w') : IntsV w' B v xs := by
  obtain ⟨A, c, hv, hx, hcap⟩ := h
  exact ⟨A, c, hv, fun hne => by
    obtain ⟨b, o, hA, hlt, hc⟩ := hx hne
    exact ⟨b, o, hA, hlt, fun k hk => (hb.cell (p := ⟨b, o + k, none⟩) hlt).trans (hc k hk)⟩, hcap⟩
theorem IntsV.more {w : World} {B B' : Nat} {v : Value} {xs : List Int} (h : IntsV w B v xs) (hB : B ≤ B') : IntsV w B' v xs := by
  obtain ⟨A, c, hv, hx, hcap⟩ := h
  exact ⟨A, c, hv, fun hne => by
    obtain ⟨b, o, hA, hlt, hc⟩ := hx hne
    exact ⟨b, o, hA, by omega, hc⟩, hcap⟩
theorem IntsV.ext {w w' : World} {v : Value} {xs : List Int} (h : IntsV w w.heap.size v xs) (hE : Ext w w') : IntsV w' w'.heap.size v xs := (h.below hE).more hE.size
structure OA where
  cb : Nat
  co : Nat
  cc : Nat
  rA : Option Addr
  rb : Nat
  ro : Nat
  rc : Nat
  tb : Nat → Nat
  to_ : Nat → Nat
  tc : Nat → Nat
def OA.cv (a : OA) (o : Ord) : Value := .slice (some ⟨a.cb, a.co, none⟩) o.m a.cc
def OA.rv (a : OA) (o : Ord) : Value := .slice a.rA o.n a.rc
structure OrdF (w : World) (B : Nat) (a : OA) (o : Ord) : Prop where
  hm1 : 1 ≤ o.m
  hm2 : o.m ≤ 15
  hn2 : o.n ≤ 20
  hC : ∀ j, j < o.m → w.cell? ⟨a.cb, a.co + j, none⟩ = some (.int .i64 (o.C j))
  hr : 0 < o.n → a.rA = some ⟨a.rb, a.ro, none⟩
  hI : ∀ i, i < o.n → w.cell? ⟨a.rb, a.ro + i * 3, none⟩ = some (.int .i64 (o.ID i))
  hA : ∀ i, i < o.n → w.cell? ⟨a.rb, a.ro + i * 3 + 1, none⟩ = some (.int .i64 (o.A i))
  hT : ∀ i, i < o.n → w.cell? ⟨a.rb, a.ro + i * 3 + 2, none⟩ = some (.slice (some ⟨a.tb i, a.to_ i, none⟩) o.m (a.tc i))
  hTT : ∀ i j, i < o.n → j < o.m → w.cell? ⟨a.tb i, a.to_ i + j, none⟩ = some (.int .i64 (o.T i j))
  bC : a.cb < B
  bR : 0 < o.n → a.rb < B
  bT : ∀ i, i < o.n → a.tb i < B
  hcc : o.m ≤ a.cc
  hrc : o.n ≤ a.rc
  htc : ∀ i, i < o.n → o.m ≤ a.tc i
  vC : ∀ j, j < o.m → 1 ≤ o.C j ∧ o.C j ≤ 20
  vA : ∀ i, i < o.n → 0 ≤ o.A i ∧ o.A i ≤ 730
  vT : ∀ i j, i < o.n → j < o.m → 1 ≤ o.T i j ∧ o.T i j ≤ 60
theorem OrdF.below {w w' : World} {B : Nat} {a : OA} {o : Ord} (h : OrdF w B a o) (hb : Below B w w') : OrdF w' B a o :=
  { h with
    hC := fun j hj => (hb.cell (p := ⟨a.cb, a.co + j, none⟩) h.bC).trans (h.hC j hj)
    hI := fun i hi => (hb.cell (p := ⟨a.rb, a.ro + i * 3, none⟩) (h.bR (by omega))).trans (h.hI i hi)
    hA := fun i hi => (hb.cell (p := ⟨a.rb, a.ro + i * 3 + 1, none⟩) (h.bR (by omega))).trans (h.hA i hi)
    hT := fun i hi => (hb.cell (p := ⟨a.rb, a.ro + i * 3 + 2, none⟩) (h.bR (by omega))).trans (h.hT i hi)
    hTT := fun i j hi hj => (hb.cell (p := ⟨a.tb i, a.to_ i + j, none⟩) (h.bT i hi)).trans (h.hTT i j hi hj) }
theorem OrdF.more {w : World} {B B' : Nat} {a : OA} {o : Ord} (h : OrdF w B a o) (hB : B ≤ B') : OrdF w B' a o :=
  { h with
    bC := Nat.lt_of_lt_of_le h.bC hB
    bR := fun hn => Nat.lt_of_lt_of_le (h.bR hn) hB
    bT := fun i hi => Nat.lt_of_lt_of_le (h.bT i hi) hB }
theorem OrdF.ext {w w' : World} {a : OA} {o : Ord} (h : OrdF w w.heap.size a o) (hE : Ext w w') : OrdF w' w'.heap.size a o := (h.below hE).more hE.size
structure RowF (w : World) (b : Nat) (a : OA) (o : Ord) (t : Nat → Nat → Int) : Prop where
  c0 : w.cell? ⟨b, 0, none⟩ = some (a.cv o)
  c1 : w.cell? ⟨b, 1, none⟩ = some (a.rv o)
  ct : ∀ i j, i < 20 → j < 15 → w.cell? ⟨b, 2 + i * 15 + j, none⟩ = some (.int .i64 (t i j))
  fz : ∀ k, w.frozen? ⟨b, k, none⟩ = false
theorem RowF.of_block {w w' : World} {b : Nat} {a : OA} {o : Ord} {t : Nat → Nat → Int} (h : RowF w b a o t) (hb : w'.heap[b]? = w.heap[b]?) : RowF w' b a o t :=
  ⟨(World.cell?_of_block (a := ⟨b, 0, none⟩) hb).trans h.c0, (World.cell?_of_block (a := ⟨b, 1, none⟩) hb).trans h.c1, fun i j hi hj => (World.cell?_of_block (a := ⟨b, 2 + i * 15 + j, none⟩) hb).trans (h.ct i j hi hj), fun k => (World.frozen?_of_block (a := ⟨b, k, none⟩) hb).trans (h.fz k)⟩
theorem RowF.lt {w : World} {b : Nat} {a : OA} {o : Ord} {t : Nat → Nat → Int} (h : RowF w b a o t) : b < w.heap.size := cell_lt h.c0
theorem RowF.ext {w w' : World} {b : Nat} {a : OA} {o : Ord} {t : Nat → Nat → Int} (h : RowF w b a o t) (hE : Ext w w') : RowF w' b a o t := h.of_block (hE.block b h.lt)
theorem RowF.below {w w' : World} {B b : Nat} {a : OA} {o : Ord} {t : Nat → Nat → Int} (h : RowF w b a o t) (hE : Below B w w') (hb : b < B) : RowF w' b a o t := h.of_block (hE.block b hb)
theorem RowF.adm {w w' : World} {m b : Nat} {a : OA} {o : Ord} {t : Nat → Nat → Int} (h : RowF w b a o t) (hA : Adm m w w') : RowF w' b a o t := by
  obtain ⟨u, hu, hc⟩ := cells_of_cell h.c0; exact h.of_block ((hA.block b u hu (.inr hc)).trans hu.symm)
theorem RowF.shut {w w' : World} {m b : Nat} {a : OA} {o : Ord} {t : Nat → Nat → Int} (h : RowF w b a o t) (hS : Shut m w w') : RowF w' b a o t := h.of_block (hS.same h.c0)
theorem idx_inj {i j i' j' : Nat} (hj : j < 15) (hj' : j' < 15) (h : 2 + i * 15 + j = 2 + i' * 15 + j') : i = i' ∧ j = j' := by omega
theorem RowF.set {w : World} {b : Nat} {a : OA} {o : Ord} {t : Nat → Nat → Int} (h : RowF w b a o t) {i j : Nat} (hi : i < 20) (hj : j < 15) (x : Int) :
    RowF (w.setCell ⟨b, 2 + i * 15 + j, none⟩ (.int .i64 x)) b a o (fun i' j' => if i' = i ∧ j' = j then x else t i' j') := by
  refine ⟨?_, ?_, ?_, fun k => (World.frozen?_setCell ..).trans (h.fz k)⟩
  · rw [World.cell?_setCell_other _ _ _ _ (by intro e; injection e; omega)]; exact h.c0
  · rw [World.cell?_setCell_other _ _ _ _ (by intro e; injection e; omega)]; exact h.c1
  · intro i' j' hi' hj'
    by_cases e : i' = i ∧ j' = j
    · obtain ⟨rfl, rfl⟩ := e; rw [if_pos ⟨rfl, rfl⟩]; exact World.cell?_setCell_same' _ _ _ (by rw [h.ct i' j' hi' hj']; rfl)
    · rw [if_neg e, World.cell?_setCell_other _ _ _ _ (by intro e'; injection e' with _ e'; exact e (idx_inj hj' hj (by omega)))]; exact h.ct i' j' hi' hj'
def stintsL (n m : Nat) : List (Nat × Nat) := (List.range (n * m)).map fun k => (k / m, k % m)
theorem stintsL_get {n m i j : Nat} (hi : i < n) (hj : j < m) : (stintsL n m)[i * m + j]? = some (i, j) := by
  have h1 : i * m + j < n * m := by
    have : (i + 1) * m ≤ n * m := Nat.mul_le_mul_right m hi; rw [Nat.add_mul, Nat.one_mul] at this; omega
  have h2 : (i * m + j) / m = i := by
    rw [Nat.mul_comm, Nat.mul_add_div (by omega), Nat.div_eq_of_lt hj]; rfl
  have h3 : (i * m + j) % m = j := by
    rw [Nat.mul_comm, Nat.mul_add_mod, Nat.mod_eq_of_lt hj]
  simp [stintsL, h1, h2, h3]
theorem stintsL_len (n m : Nat) : (stintsL n m).length = n * m := by simp [stintsL]
theorem stintsL_at {n m k : Nat} {x : Nat × Nat} (h : (stintsL n m)[k]? = some x) : x = (k / m, k % m) ∧ k < n * m ∧ x.1 < n ∧ x.2 < m ∧ k = x.1 * m + x.2 := by
  unfold stintsL at h; rw [List.getElem?_map] at h
  by_cases hk : k < n * m
  · rw [List.getElem?_range hk] at h; simp only [Option.map_some, Option.some.injEq] at h; subst h
    have hm : 0 < m := by
      rcases Nat.eq_zero_or_pos m with e | e
      · subst e; simp at hk
      · exact e
    refine ⟨rfl, hk, ?_, Nat.mod_lt _ hm, ?_⟩
    · exact (Nat.div_lt_iff_lt_mul hm).2 hk
    · have := Nat.div_add_mod k m; rw [Nat.mul_comm] at this; exact this.symm
  · rw [List.getElem?_eq_none (by simpa using hk)] at h; cases h
def encS (s : Nat × Nat) : Array Value := #[.agg #[.int .i64 (s.1 : Int), .int .i64 (s.2 : Int)]]
end Go.Proofs.YtnfagcccgmakdaaGreat
namespace Go.Proofs.YtnfagcccgmakdaaGreat
open Go.RowKit Go.Wk Go.Proofs
set_option maxHeartbeats 1000000
theorem within_c (n lo hi : Int) (w : World) :
    CallsV Tryz.prog 87 #[.int .i64 n, .int .i64 lo, .int .i64 hi] w fun v w' => v = .bool (decide (lo ≤ n ∧ n ≤ hi)) ∧ w = w' := by
  by_cases h1 : lo ≤ n
  all_goals
  refine Wp.fn Tryz.func87 rfl Tryz.ntmps87 (by simp) ?_; refine Wp.keep [0, 1, 2] fun r1 hkeep => ?_; obtain ⟨e0_1, e1_1, e2_1, -⟩ := hkeep; simp [go_sem] at e0_1 e1_1 e2_1; refine Wp.seqRegion (.inl rfl) (by kernel_rfl) fun K' gd hK hg => ?_; clear hg; go_simp; refine hK _ _ ?_; clear hK K' gd; refine Wp.keep [0, 1, 2] fun r2 hkeep => ?_; obtain ⟨e0_2, e1_2, e2_2, -⟩ := hkeep; simp [go_sem, e0_1, e1_1, e2_1] at e0_2 e1_2 e2_2; clear e0_1 e1_1 e2_1; refine Wp.seqRegion (.inl rfl) (by kernel_rfl) fun K' gd hK hg => ?_; have g3 : gd 3 = some 10 := hg 3; clear hg; go_simp; refine hK _ _ ?_; clear hK K' gd g3; refine Wp.keep [6] fun r3 hkeep => ?_; obtain ⟨e6_3, -⟩ := hkeep; simp [go_sem, e0_2, e1_2, e2_2] at e6_3; clear e0_2 e1_2 e2_2; refine Wp.ret ?_; refine endK_tmp Tryz.results87 (by decide) ?_; rw [e6_3]; refine ⟨?_, rfl⟩; go_simp
theorem sumI_take (l : List Int) (k : Nat) (h : k < l.length) : (l.take (k + 1)).sum = (l.take k).sum + l[k] := by
  rw [List.take_add_one, List.getElem?_eq_getElem h, Option.toList_some, List.sum_append]; simp
end Go.Proofs.YtnfagcccgmakdaaGreat
namespace Go.Proofs.YtnfagcccgmakdaaGreat
open Go.RowKit Go.Wk Go.Proofs
set_option maxHeartbeats 1000000
theorem stints_it (A1 A2 : Option Addr) (n m c1 c2 bx : Nat) (hn : n ≤ 1000) (hm : m ≤ 1000) :
    Iter Tryz.prog 135 #[.pointer (some ⟨bx, 0, none⟩)] encS (fun W => W.cell? ⟨bx, 0, none⟩ = some (.slice A1 m c1) ∧ W.cell? ⟨bx, 1, none⟩ = some (.slice A2 n c2)) (stintsL n m) := by
  intro l J Jx W hD hJE hJxE hY h0
  show CallsV _ _ #[.func (.yield l) #[] #[], .pointer (some ⟨bx, 0, none⟩)] _ _
  rw [stintsL_len]; refine Wp.fn Tryz.func135 rfl Tryz.ntmps135 (by simp) ?_; refine Wp.keep [0, 1] fun r1 hkeep => ?_; obtain ⟨e0_1, e1_1, -⟩ := hkeep; simp [go_sem] at e0_1 e1_1; obtain ⟨d0, d1⟩ := hD _ _ h0; refine Wp.seqRegion (.inl rfl) (by kernel_rfl) fun K' gd hK hg => ?_; clear hg; go_simp; refine hK _ _ ?_; clear hK K' gd; refine Wp.keep [0, 1, 7, 8] fun r2 hkeep => ?_; obtain ⟨e0_2, e1_2, e7_2, e8_2, -⟩ := hkeep; simp [go_sem, e0_1, e1_1] at e0_2 e1_2 e7_2 e8_2; clear e0_1 e1_1; refine Wp.block ?_; refine Wp.loop (fun k ρ ds wk => AllEq [0, 1, 7] ρ r2 ∧ ds = [] ∧ (ρ 8 = .int .i64 (k : Int) ∧ J (k * m) wk)) (n) ?_ ?_
  · refine ⟨AllEq.refl _ _, rfl, ?_⟩; refine ⟨by rw [e8_2]; rfl, by simpa using h0⟩
  · rintro k r3 _ wk hk ⟨hA, rfl, ⟨e8, hJ⟩⟩; obtain ⟨e0_3, e1_3, e7_3, -⟩ := hA; rw [e0_2] at e0_3; rw [e1_2] at e1_3; rw [e7_2] at e7_3; refine Wp.seqRegion (.inl rfl) (by kernel_rfl) fun K' gd hK hg => ?_; clear hg; go_simp; refine hK _ _ ?_; clear hK K' gd; refine Wp.keep [0, 1, 7, 8, 9] fun r4 hkeep => ?_; obtain ⟨e0_4, e1_4, e7_4, e8_4, e9_4, -⟩ := hkeep; simp [go_sem, e0_3, e1_3, e7_3, e8] at e0_4 e1_4 e7_4 e8_4 e9_4; clear e0_3 e1_3 e7_3 e8; refine Wp.seq ?_
    by_cases h : k < n
    · refine Wp.condT (by go_simp) ?_; obtain ⟨d0, d1⟩ := hD _ _ hJ; refine Wp.skip ?_; refine thenK_normal ?_; refine Wp.seq ?_; refine Wp.block ?_; refine Wp.seqRegion (.inl rfl) (by kernel_rfl) fun K' gd hK hg => ?_; clear hg; go_simp; refine hK _ _ ?_; clear hK K' gd; refine Wp.keep [0, 1, 3, 7, 8] fun r5 hkeep => ?_; obtain ⟨e0_5, e1_5, e3_5, e7_5, e8_5, -⟩ := hkeep; simp [go_sem, e0_4, e1_4, e7_4, e8_4, e9_4] at e0_5 e1_5 e3_5 e7_5 e8_5; clear e0_4 e1_4 e7_4 e8_4 e9_4; refine Wp.seqRegion (.inl rfl) (by kernel_rfl) fun K' gd hK hg => ?_; clear hg; go_simp; refine hK _ _ ?_; clear hK K' gd; refine Wp.keep [0, 1, 3, 7, 8, 13, 14] fun r6 hkeep => ?_; obtain ⟨e0_6, e1_6, e3_6, e7_6, e8_6, e13_6, e14_6, -⟩ := hkeep; simp [go_sem, e0_5, e1_5, e3_5, e7_5, e8_5] at e0_6 e1_6 e3_6 e7_6 e8_6 e13_6 e14_6; clear e0_5 e1_5 e3_5 e7_5 e8_5; refine Wp.block ?_; refine Wp.loop (fun j ρ ds wj => AllEq [0, 1, 3, 7, 8, 13] ρ r6 ∧ ds = [] ∧ (ρ 14 = .int .i64 (j : Int) ∧ J (k * m + j) wj)) (m) ?_ ?_
      · refine ⟨AllEq.refl _ _, rfl, ?_⟩; refine ⟨by rw [e14_6]; rfl, by simpa using hJ⟩
      · rintro j r7 _ wj hj ⟨hA, rfl, ⟨e14, hJj⟩⟩; obtain ⟨e0_7, e1_7, e3_7, e7_7, e8_7, e13_7, -⟩ := hA; rw [e0_6] at e0_7; rw [e1_6] at e1_7; rw [e3_6] at e3_7; rw [e7_6] at e7_7; rw [e8_6] at e8_7; rw [e13_6] at e13_7; refine Wp.seqRegion (.inl rfl) (by kernel_rfl) fun K' gd hK hg => ?_; clear hg; go_simp; refine hK _ _ ?_; clear hK K' gd; refine Wp.keep [0, 1, 3, 7, 8, 13, 14, 15] fun r8 hkeep => ?_; obtain ⟨e0_8, e1_8, e3_8, e7_8, e8_8, e13_8, e14_8, e15_8, -⟩ := hkeep; simp [go_sem, e0_7, e1_7, e3_7, e7_7, e8_7, e13_7, e14] at e0_8 e1_8 e3_8 e7_8 e8_8 e13_8 e14_8 e15_8; clear e0_7 e1_7 e3_7 e7_7 e8_7 e13_7 e14; refine Wp.seq ?_
        by_cases h2 : j < m
        · refine Wp.condT (by go_simp) ?_; obtain ⟨fn, tmps, as_, bo, hy, hR⟩ := hY _ _ _ (stintsL_get h h2) hJj; simp only [encS] at hy; refine Wp.skip ?_; refine thenK_normal ?_; refine Wp.seq ?_; refine Wp.block ?_; refine Wp.seqRegion (.inl rfl) (by kernel_rfl) fun K' gd hK hg => ?_; clear hg; go_simp; refine hK _ _ ?_; clear hK K' gd; refine Wp.keep [0, 1, 3, 4, 7, 8, 13, 14] fun r9 hkeep => ?_; obtain ⟨e0_9, e1_9, e3_9, e4_9, e7_9, e8_9, e13_9, e14_9, -⟩ := hkeep; simp [go_sem, e0_8, e1_8, e3_8, e7_8, e8_8, e13_8, e14_8, e15_8] at e0_9 e1_9 e3_9 e4_9 e7_9 e8_9 e13_9 e14_9; clear e0_8 e1_8 e3_8 e7_8 e8_8 e13_8 e14_8 e15_8; refine Wp.seqRegion (.inl rfl) (by kernel_rfl) fun K' gd hK hg => ?_; clear hg; go_simp; refine Wyield (hR) ?_; rintro e w1 (⟨rfl, hJ1⟩ | ⟨rfl, hJx⟩)
          · refine ⟨_, rfl, ?_⟩; go_simp; refine hK _ _ ?_; clear hK K' gd; refine Wp.keep [0, 1, 3, 7, 8, 13, 14, 22] fun r10 hkeep => ?_; obtain ⟨e0_10, e1_10, e3_10, e7_10, e8_10, e13_10, e14_10, e22_10, -⟩ := hkeep; simp [go_sem, e0_9, e1_9, e3_9, e4_9, e7_9, e8_9, e13_9, e14_9] at e0_10 e1_10 e3_10 e7_10 e8_10 e13_10 e14_10 e22_10; clear e0_9 e1_9 e3_9 e4_9 e7_9 e8_9 e13_9 e14_9; refine Wp.condF (by go_simp) ?_; refine Wp.skip ?_; refine blockK_normal ?_; refine thenK_normal ?_; refine Wp.loneRegion (.inl rfl) (by kernel_rfl) fun K' gd hK hg => ?_; clear hg; go_simp; refine hK _ _ ?_; clear hK K' gd; refine Ends.keep [0, 1, 3, 7, 8, 13, 14] fun r11 hkeep => ?_; obtain ⟨e0_11, e1_11, e3_11, e7_11, e8_11, e13_11, e14_11, -⟩ := hkeep; simp [go_sem, e0_10, e1_10, e3_10, e7_10, e8_10, e13_10, e14_10, e22_10] at e0_11 e1_11 e3_11 e7_11 e8_11 e13_11 e14_11; clear e0_10 e1_10 e3_10 e7_10 e8_10 e13_10 e14_10 e22_10; refine Ends.mk ?_; refine thenK_normal ⟨by omega, ⟨by rw [e0_11, e0_6], by rw [e1_11, e1_6], by rw [e3_11, e3_6], by rw [e7_11, e7_6], by rw [e8_11, e8_6], by rw [e13_11, e13_6], trivial⟩, rfl, ?_⟩; refine ⟨by rw [e14_11, IntWalk.i64_in _ (by omega)]; rfl, ?_⟩; exact hJ1
          · refine ⟨_, rfl, ?_⟩; go_simp; refine hK _ _ ?_; clear hK K' gd; refine Wp.keep [0, 1, 3, 7, 8, 13, 14, 22] fun r12 hkeep => ?_; obtain ⟨e0_12, e1_12, e3_12, e7_12, e8_12, e13_12, e14_12, e22_12, -⟩ := hkeep; simp [go_sem, e0_9, e1_9, e3_9, e4_9, e7_9, e8_9, e13_9, e14_9] at e0_12 e1_12 e3_12 e7_12 e8_12 e13_12 e14_12 e22_12; clear e0_9 e1_9 e3_9 e4_9 e7_9 e8_9 e13_9 e14_9; refine Wp.condT (by go_simp) ?_; refine Wp.ret ?_; refine blockK_ret ?_; refine thenK_ret ?_; refine thenK_ret ?_; refine blockK_ret ?_; refine blockK_ret ?_; refine thenK_ret ?_; refine thenK_ret ?_; refine blockK_ret ?_; refine endK_none Tryz.results135 ?_; exact .inr hJx
        · refine Wp.condF (by go_simp) ?_; obtain rfl : j = m := by omega
          refine Wp.exit ?_; refine thenK_exit ?_; refine thenK_exit ?_; refine blockK_here ?_; refine blockK_normal ?_; refine thenK_normal ?_; refine Wp.loneRegion (.inl rfl) (by kernel_rfl) fun K' gd hK hg => ?_; clear hg; go_simp; refine hK _ _ ?_; clear hK K' gd; refine Ends.keep [0, 1, 7, 8] fun r13 hkeep => ?_; obtain ⟨e0_13, e1_13, e7_13, e8_13, -⟩ := hkeep; simp [go_sem, e0_8, e1_8, e3_8, e7_8, e8_8, e13_8, e14_8, e15_8] at e0_13 e1_13 e7_13 e8_13; clear e0_8 e1_8 e3_8 e7_8 e8_8 e13_8 e14_8 e15_8; refine Ends.mk ?_; refine thenK_normal ⟨by omega, ⟨by rw [e0_13, e0_2], by rw [e1_13, e1_2], by rw [e7_13, e7_2], trivial⟩, rfl, ?_⟩; refine ⟨by rw [e8_13, IntWalk.i64_in _ (by omega)]; rfl, ?_⟩; rw [Nat.add_mul, Nat.one_mul]; exact hJj
    · refine Wp.condF (by go_simp) ?_; obtain rfl : k = n := by omega
      refine Wp.exit ?_; refine thenK_exit ?_; refine thenK_exit ?_; refine blockK_here ?_; refine endN_none Tryz.results135 ?_; exact .inl hJ
def beforeL (o : Ord) (s : Nat × Nat) : List (Nat × Nat) :=
  (if 0 < s.2 then [(s.1, s.2 - 1)] else []) ++ (if o.C s.2 ≤ s.1 then [(s.1 - (o.C s.2).toNat, s.2)] else [])
theorem stints_c (a : OA) (o : Ord) (w : World) :
    CallsV Tryz.prog 76 #[.agg #[a.cv o, a.rv o]] w fun v w' => ∃ bx, v = .func (.func 135) #[] #[.pointer (some ⟨bx, 0, none⟩)] ∧ Ext w w' ∧ w'.cell? ⟨bx, 0, none⟩ = some (a.cv o) ∧ w'.cell? ⟨bx, 1, none⟩ = some (a.rv o) := by
  refine Wp.fn Tryz.func76 rfl Tryz.ntmps76 (by simp) ?_; refine Wp.keep [0] fun r1 hkeep => ?_; obtain ⟨e0_1, -⟩ := hkeep; simp [go_sem] at e0_1; refine Wp.seqRegion (.inl rfl) (by kernel_rfl) fun K' gd hK hg => ?_; clear hg; go_simp; refine hK _ _ ?_; clear hK K' gd; refine Wp.keep [1] fun r2 hkeep => ?_; obtain ⟨e1_2, -⟩ := hkeep; simp [go_sem, e0_1] at e1_2; clear e0_1; refine Wp.seqRegion (.inl rfl) (by kernel_rfl) fun K' gd hK hg => ?_; clear hg; go_simp; refine hK _ _ ?_; clear hK K' gd; refine Wp.keep [2] fun r3 hkeep => ?_; obtain ⟨e2_3, -⟩ := hkeep; simp [go_sem, e1_2] at e2_3; clear e1_2; refine Wp.ret ?_; refine endK_tmp Tryz.results76 (by decide) ?_; rw [e2_3]; exact ⟨_, rfl, (Ext.refl _).alloc _, cell_nw _ _ _ _, cell_nw _ _ _ _⟩
theorem before_c (a : OA) (o : Ord) (i j : Int) (w : World) :
    CallsV Tryz.prog 120 #[.agg #[a.cv o, a.rv o], .agg #[.int .i64 i, .int .i64 j]] w fun v w' => ∃ bs bo, v = .func (.func 146) #[] #[.pointer (some ⟨bs, 0, none⟩), .pointer (some ⟨bo, 0, none⟩)] ∧
      Ext w w' ∧ w'.cell? ⟨bs, 0, none⟩ = some (.int .i64 i) ∧ w'.cell? ⟨bs, 1, none⟩ = some (.int .i64 j) ∧ w'.cell? ⟨bo, 0, none⟩ = some (a.cv o) := by
  refine Wp.fn Tryz.func120 rfl Tryz.ntmps120 (by simp) ?_; refine Wp.keep [0, 1] fun r1 hkeep => ?_; obtain ⟨e0_1, e1_1, -⟩ := hkeep; simp [go_sem] at e0_1 e1_1; refine Wp.seqRegion (.inl rfl) (by kernel_rfl) fun K' gd hK hg => ?_; clear hg; go_simp; refine hK _ _ ?_; clear hK K' gd; refine Wp.keep [2, 3] fun r2 hkeep => ?_; obtain ⟨e2_2, e3_2, -⟩ := hkeep; simp [go_sem, e0_1, e1_1] at e2_2 e3_2; clear e0_1 e1_1; refine Wp.seqRegion (.inl rfl) (by kernel_rfl) fun K' gd hK hg => ?_; clear hg; go_simp; refine hK _ _ ?_; clear hK K' gd; refine Wp.keep [4] fun r3 hkeep => ?_; obtain ⟨e4_3, -⟩ := hkeep; simp [go_sem, e2_2, e3_2] at e4_3; clear e2_2 e3_2; refine Wp.ret ?_; refine endK_tmp Tryz.results120 (by decide) ?_; rw [e4_3]; refine ⟨_, _, rfl, ((Ext.refl _).alloc _).alloc _, ?_, ?_, cell_al _ (cell_nw _ _ _ _)⟩
  all_goals (rw [show w.heap.size + 1 = (w.alloc (.cells #[a.cv o, a.rv o] 25)).heap.size from (World.size_alloc ..).symm]; exact cell_nw _ _ _ _)
theorem before_it (a : OA) (o : Ord) (i j bs bo : Nat) (hi : i < o.n) (hj : j < o.m) (hn : o.n ≤ 1000) (hm : o.m ≤ 1000) :
    Iter Tryz.prog 146 #[.pointer (some ⟨bs, 0, none⟩), .pointer (some ⟨bo, 0, none⟩)] encS
      (fun W => W.cell? ⟨bs, 0, none⟩ = some (.int .i64 (i : Int)) ∧ W.cell? ⟨bs, 1, none⟩ = some (.int .i64 (j : Int)) ∧ W.cell? ⟨bo, 0, none⟩ = some (a.cv o) ∧ W.cell? ⟨a.cb, a.co + j, none⟩ = some (.int .i64 (o.C j)) ∧ 1 ≤ o.C j ∧ o.C j ≤ 20)
      (beforeL o (i, j)) := by
  intro l J Jx W hD hJE hJxE hY h0
  show CallsV _ _ #[.func (.yield l) #[] #[], .pointer (some ⟨bs, 0, none⟩), .pointer (some ⟨bo, 0, none⟩)] _ _
  simp only [OA.cv] at hD; have hv := hD _ _ h0; have hv1 : (1 : Int) ≤ o.C j := hv.2.2.2.2.1; have hv2 : o.C j ≤ 20 := hv.2.2.2.2.2; clear hv; have hjm : (j : Int) < (o.m : Int) := by omega
  have hin : ¬ o.n = 0 := by omega
  by_cases h1 : 0 < j
  · have hwj : IntKind.i64.wrap ((j : Int) - 1) = ((j - 1 : Nat) : Int) := by rw [IntWalk.i64_in _ (by omega)]; omega
    by_cases h2 : o.C j ≤ (i : Int)
    · have hL : beforeL o (i, j) = [(i, j - 1), (i - (o.C j).toNat, j)] := by simp [beforeL, h1, h2]
      rw [hL] at hY ⊢; have hwi : IntKind.i64.wrap ((i : Int) - o.C j) = ((i - (o.C j).toNat : Nat) : Int) := by rw [IntWalk.i64_in _ (by omega)]; omega
      obtain ⟨fn, tmps, as_, bo_, hy, hR⟩ := hY 0 _ _ rfl h0; obtain ⟨d0, d1, d2, d3, -, -⟩ := hD _ _ h0; simp only [encS] at hy; refine Wp.fn Tryz.func146 rfl Tryz.ntmps146 (by simp) ?_; refine Wp.keep [0, 1, 2] fun r1 hkeep => ?_; obtain ⟨e0_1, e1_1, e2_1, -⟩ := hkeep; simp [go_sem] at e0_1 e1_1 e2_1; refine Wp.seq ?_; refine Wp.seqRegion (.inl rfl) (by kernel_rfl) fun K' gd hK hg => ?_; have g3 : gd 3 = some 8 := hg 3; clear hg; go_simp; refine Wyield (hR) ?_; rintro e w1 (⟨rfl, hJ1⟩ | ⟨rfl, hJx⟩)
      · refine ⟨_, rfl, ?_⟩; go_simp; refine hK _ _ ?_; clear hK K' gd g3; refine Wp.keep [0, 1, 2, 18] fun r2 hkeep => ?_; obtain ⟨e0_2, e1_2, e2_2, e18_2, -⟩ := hkeep; simp [go_sem, e0_1, e1_1, e2_1] at e0_2 e1_2 e2_2 e18_2; clear e0_1 e1_1 e2_1; refine Wp.condF (by go_simp) ?_; clear hy d0 d1 d2 d3; obtain ⟨d0, d1, d2, d3, -, -⟩ := hD _ _ hJ1; refine Wp.skip ?_; refine thenK_normal ?_; refine Wp.seqDraw (.inl rfl) mixed [([0, 1, 2, 3, 4], none), ([5, 6, 7, 8, 9], none)] (by kernel_rfl) fun K' gd hK hg => ?_; clear hg; simp only [pick, nth, List.map_cons, List.map_nil, Option.map_none, Option.map_some]; apply Mops.none
        · intro w' hE'; have hC' := hE'.cellsS; go_simp; with_reducible rfl
        apply Mops.none
        · intro w' hE'; have hC' := hE'.cellsS; go_simp; with_reducible rfl
        refine Mops.done ?_; refine hK _ _ ?_; clear hK K' gd; refine Wp.keep [0, 1, 4] fun r3 hkeep => ?_; obtain ⟨e0_3, e1_3, e4_3, -⟩ := hkeep; simp [go_sem, e0_2, e1_2, e2_2, e18_2] at e0_3 e1_3 e4_3; clear e0_2 e1_2 e2_2 e18_2; refine Wp.seqRegion (.inl rfl) (by kernel_rfl) fun K' gd hK hg => ?_; clear hg; go_simp; refine hK _ _ ?_; clear hK K' gd; refine Wp.keep [0, 1, 4, 29] fun r4 hkeep => ?_; obtain ⟨e0_4, e1_4, e4_4, e29_4, -⟩ := hkeep; simp [go_sem, e0_3, e1_3, e4_3] at e0_4 e1_4 e4_4 e29_4; clear e0_3 e1_3 e4_3; refine Wp.condT (by go_simp) ?_; have hJ2 := hJE _ _ _ ((Ext.refl _).drew) hJ1; obtain ⟨fn2, tmps2, as2, bo2, hy, hR2⟩ := hY 1 _ _ rfl hJ2; simp only [encS] at hy; refine Wp.loneRegion (.inl rfl) (by kernel_rfl) fun K' gd hK hg => ?_; clear hg; go_simp; refine Wyield (hR2) ?_; rintro e w1 (⟨rfl, hJ1⟩ | ⟨rfl, hJx⟩)
        · refine ⟨_, rfl, ?_⟩; go_simp; refine hK _ _ ?_; clear hK K' gd; refine Ends.keep [] fun r5 hkeep => ?_; clear hkeep; clear e0_4 e1_4 e4_4 e29_4; refine Ends.mk ?_; refine endN_none Tryz.results146 ?_; exact .inl hJ1
        · refine ⟨_, rfl, ?_⟩; go_simp; refine hK _ _ ?_; clear hK K' gd; refine Ends.keep [] fun r6 hkeep => ?_; clear hkeep; clear e0_4 e1_4 e4_4 e29_4; refine Ends.mk ?_; refine endN_none Tryz.results146 ?_; exact .inr hJx
      · refine ⟨_, rfl, ?_⟩; go_simp; refine hK _ _ ?_; clear hK K' gd g3; refine Wp.keep [0, 1, 2, 18] fun r7 hkeep => ?_; obtain ⟨e0_7, e1_7, e2_7, e18_7, -⟩ := hkeep; simp [go_sem, e0_1, e1_1, e2_1] at e0_7 e1_7 e2_7 e18_7; clear e0_1 e1_1 e2_1; refine Wp.condT (by go_simp) ?_; refine Wp.ret ?_; refine thenK_ret ?_; refine endK_none Tryz.results146 ?_; exact .inr hJx
    · have hL : beforeL o (i, j) = [(i, j - 1)] := by simp [beforeL, h1, h2]
      rw [hL] at hY ⊢; have hwi : IntKind.i64.wrap ((i : Int) - o.C j) = (i : Int) - o.C j := IntWalk.i64_in _ (by omega); obtain ⟨fn, tmps, as_, bo_, hy, hR⟩ := hY 0 _ _ rfl h0; obtain ⟨d0, d1, d2, d3, -, -⟩ := hD _ _ h0; simp only [encS] at hy; refine Wp.fn Tryz.func146 rfl Tryz.ntmps146 (by simp) ?_; refine Wp.keep [0, 1, 2] fun r1 hkeep => ?_; obtain ⟨e0_1, e1_1, e2_1, -⟩ := hkeep; simp [go_sem] at e0_1 e1_1 e2_1; refine Wp.seq ?_; refine Wp.seqRegion (.inl rfl) (by kernel_rfl) fun K' gd hK hg => ?_; have g3 : gd 3 = some 8 := hg 3; clear hg; go_simp; refine Wyield (hR) ?_; rintro e w1 (⟨rfl, hJ1⟩ | ⟨rfl, hJx⟩)
      · refine ⟨_, rfl, ?_⟩; go_simp; refine hK _ _ ?_; clear hK K' gd g3; refine Wp.keep [0, 1, 2, 18] fun r2 hkeep => ?_; obtain ⟨e0_2, e1_2, e2_2, e18_2, -⟩ := hkeep; simp [go_sem, e0_1, e1_1, e2_1] at e0_2 e1_2 e2_2 e18_2; clear e0_1 e1_1 e2_1; refine Wp.condF (by go_simp) ?_; clear hy d0 d1 d2 d3; obtain ⟨d0, d1, d2, d3, -, -⟩ := hD _ _ hJ1; refine Wp.skip ?_; refine thenK_normal ?_; refine Wp.seqDraw (.inl rfl) mixed [([0, 1, 2, 3, 4], none), ([5, 6, 7, 8, 9], none)] (by kernel_rfl) fun K' gd hK hg => ?_; clear hg; simp only [pick, nth, List.map_cons, List.map_nil, Option.map_none, Option.map_some]; apply Mops.none
        · intro w' hE'; have hC' := hE'.cellsS; go_simp; with_reducible rfl
        apply Mops.none
        · intro w' hE'; have hC' := hE'.cellsS; go_simp; with_reducible rfl
        refine Mops.done ?_; refine hK _ _ ?_; clear hK K' gd; refine Wp.keep [0, 1, 4] fun r3 hkeep => ?_; obtain ⟨e0_3, e1_3, e4_3, -⟩ := hkeep; simp [go_sem, e0_2, e1_2, e2_2, e18_2] at e0_3 e1_3 e4_3; clear e0_2 e1_2 e2_2 e18_2; refine Wp.seqRegion (.inl rfl) (by kernel_rfl) fun K' gd hK hg => ?_; clear hg; go_simp; refine hK _ _ ?_; clear hK K' gd; refine Wp.keep [0, 1, 4, 29] fun r4 hkeep => ?_; obtain ⟨e0_4, e1_4, e4_4, e29_4, -⟩ := hkeep; simp [go_sem, e0_3, e1_3, e4_3] at e0_4 e1_4 e4_4 e29_4; clear e0_3 e1_3 e4_3; refine Wp.condF (by go_simp) ?_; refine Wp.skip ?_; refine endN_none Tryz.results146 ?_; exact .inl (hJE _ _ _ ((Ext.refl _).drew) hJ1)
      · refine ⟨_, rfl, ?_⟩; go_simp; refine hK _ _ ?_; clear hK K' gd g3; refine Wp.keep [0, 1, 2, 18] fun r5 hkeep => ?_; obtain ⟨e0_5, e1_5, e2_5, e18_5, -⟩ := hkeep; simp [go_sem, e0_1, e1_1, e2_1] at e0_5 e1_5 e2_5 e18_5; clear e0_1 e1_1 e2_1; refine Wp.condT (by go_simp) ?_; refine Wp.ret ?_; refine thenK_ret ?_; refine endK_none Tryz.results146 ?_; exact .inr hJx
  · by_cases h2 : o.C j ≤ (i : Int)
    · have hL : beforeL o (i, j) = [(i - (o.C j).toNat, j)] := by simp [beforeL, h1, h2]
      rw [hL] at hY ⊢; have hwi : IntKind.i64.wrap ((i : Int) - o.C j) = ((i - (o.C j).toNat : Nat) : Int) := by rw [IntWalk.i64_in _ (by omega)]; omega
      obtain ⟨d0, d1, d2, d3, -, -⟩ := hD _ _ h0; refine Wp.fn Tryz.func146 rfl Tryz.ntmps146 (by simp) ?_; refine Wp.keep [0, 1, 2] fun r1 hkeep => ?_; obtain ⟨e0_1, e1_1, e2_1, -⟩ := hkeep; simp [go_sem] at e0_1 e1_1 e2_1; refine Wp.seq ?_; refine Wp.seqRegion (.inl rfl) (by kernel_rfl) fun K' gd hK hg => ?_; have g3 : gd 3 = some 8 := hg 3; clear hg; go_simp; refine hK _ _ ?_; clear hK K' gd g3; refine Wp.keep [0, 1, 2, 18] fun r2 hkeep => ?_; obtain ⟨e0_2, e1_2, e2_2, e18_2, -⟩ := hkeep; simp [go_sem, e0_1, e1_1, e2_1] at e0_2 e1_2 e2_2 e18_2; clear e0_1 e1_1 e2_1; refine Wp.condF (by go_simp) ?_; refine Wp.skip ?_; refine thenK_normal ?_; refine Wp.seqDraw (.inl rfl) mixed [([0, 1, 2, 3, 4], none), ([5, 6, 7, 8, 9], none)] (by kernel_rfl) fun K' gd hK hg => ?_; clear hg; simp only [pick, nth, List.map_cons, List.map_nil, Option.map_none, Option.map_some]; apply Mops.none
      · intro w' hE'; have hC' := hE'.cellsS; go_simp; with_reducible rfl
      apply Mops.none
      · intro w' hE'; have hC' := hE'.cellsS; go_simp; with_reducible rfl
      refine Mops.done ?_; refine hK _ _ ?_; clear hK K' gd; refine Wp.keep [0, 1, 4] fun r3 hkeep => ?_; obtain ⟨e0_3, e1_3, e4_3, -⟩ := hkeep; simp [go_sem, e0_2, e1_2, e2_2, e18_2] at e0_3 e1_3 e4_3; clear e0_2 e1_2 e2_2 e18_2; refine Wp.seqRegion (.inl rfl) (by kernel_rfl) fun K' gd hK hg => ?_; clear hg; go_simp; refine hK _ _ ?_; clear hK K' gd; refine Wp.keep [0, 1, 4, 29] fun r4 hkeep => ?_; obtain ⟨e0_4, e1_4, e4_4, e29_4, -⟩ := hkeep; simp [go_sem, e0_3, e1_3, e4_3] at e0_4 e1_4 e4_4 e29_4; clear e0_3 e1_3 e4_3; refine Wp.condT (by go_simp) ?_; have hJ2 := hJE _ _ _ ((Ext.refl _).drew) h0; obtain ⟨fn2, tmps2, as2, bo2, hy, hR2⟩ := hY 0 _ _ rfl hJ2; simp only [encS] at hy; refine Wp.loneRegion (.inl rfl) (by kernel_rfl) fun K' gd hK hg => ?_; clear hg; go_simp; refine Wyield (hR2) ?_; rintro e w1 (⟨rfl, hJ1⟩ | ⟨rfl, hJx⟩)
      · refine ⟨_, rfl, ?_⟩; go_simp; refine hK _ _ ?_; clear hK K' gd; refine Ends.keep [] fun r5 hkeep => ?_; clear hkeep; clear e0_4 e1_4 e4_4 e29_4; refine Ends.mk ?_; refine endN_none Tryz.results146 ?_; exact .inl hJ1
      · refine ⟨_, rfl, ?_⟩; go_simp; refine hK _ _ ?_; clear hK K' gd; refine Ends.keep [] fun r6 hkeep => ?_; clear hkeep; clear e0_4 e1_4 e4_4 e29_4; refine Ends.mk ?_; refine endN_none Tryz.results146 ?_; exact .inr hJx
    · have hL : beforeL o (i, j) = [] := by simp [beforeL, h1, h2]
      rw [hL] at hY ⊢; have hwi : IntKind.i64.wrap ((i : Int) - o.C j) = (i : Int) - o.C j := IntWalk.i64_in _ (by omega); obtain ⟨d0, d1, d2, d3, -, -⟩ := hD _ _ h0; refine Wp.fn Tryz.func146 rfl Tryz.ntmps146 (by simp) ?_; refine Wp.keep [0, 1, 2] fun r1 hkeep => ?_; obtain ⟨e0_1, e1_1, e2_1, -⟩ := hkeep; simp [go_sem] at e0_1 e1_1 e2_1; refine Wp.seq ?_; refine Wp.seqRegion (.inl rfl) (by kernel_rfl) fun K' gd hK hg => ?_; have g3 : gd 3 = some 8 := hg 3; clear hg; go_simp; refine hK _ _ ?_; clear hK K' gd g3; refine Wp.keep [0, 1, 2, 18] fun r2 hkeep => ?_; obtain ⟨e0_2, e1_2, e2_2, e18_2, -⟩ := hkeep; simp [go_sem, e0_1, e1_1, e2_1] at e0_2 e1_2 e2_2 e18_2; clear e0_1 e1_1 e2_1; refine Wp.condF (by go_simp) ?_; refine Wp.skip ?_; refine thenK_normal ?_; refine Wp.seqDraw (.inl rfl) mixed [([0, 1, 2, 3, 4], none), ([5, 6, 7, 8, 9], none)] (by kernel_rfl) fun K' gd hK hg => ?_; clear hg; simp only [pick, nth, List.map_cons, List.map_nil, Option.map_none, Option.map_some]; apply Mops.none
      · intro w' hE'; have hC' := hE'.cellsS; go_simp; with_reducible rfl
      apply Mops.none
      · intro w' hE'; have hC' := hE'.cellsS; go_simp; with_reducible rfl
      refine Mops.done ?_; refine hK _ _ ?_; clear hK K' gd; refine Wp.keep [0, 1, 4] fun r3 hkeep => ?_; obtain ⟨e0_3, e1_3, e4_3, -⟩ := hkeep; simp [go_sem, e0_2, e1_2, e2_2, e18_2] at e0_3 e1_3 e4_3; clear e0_2 e1_2 e2_2 e18_2; refine Wp.seqRegion (.inl rfl) (by kernel_rfl) fun K' gd hK hg => ?_; clear hg; go_simp; refine hK _ _ ?_; clear hK K' gd; refine Wp.keep [0, 1, 4, 29] fun r4 hkeep => ?_; obtain ⟨e0_4, e1_4, e4_4, e29_4, -⟩ := hkeep; simp [go_sem, e0_3, e1_3, e4_3] at e0_4 e1_4 e4_4 e29_4; clear e0_3 e1_3 e4_3; refine Wp.condF (by go_simp) ?_; refine Wp.skip ?_; refine endN_none Tryz.results146 ?_; exact .inl (hJE _ _ _ ((Ext.refl _).drew) h0)
end Go.Proofs.YtnfagcccgmakdaaGreat
namespace Go.Proofs.YtnfagcccgmakdaaGreat
open Go.RowKit Go.Wk Go.Proofs
set_option maxHeartbeats 1000000
theorem ends_c (a : OA) (o : Ord) (t : Nat → Nat → Int) (b i j : Nat) (w : World) (hO : OrdF w w.heap.size a o) (hR : RowF w b a o t) (hi : i < o.n) (hj : j < o.m) (ht : 0 ≤ t i j ∧ t i j ≤ 1000000) :
    CallsV Tryz.prog 74 #[.pointer (some ⟨b, 0, none⟩), .agg #[.int .i64 (i : Int), .int .i64 (j : Int)]] w fun v w' => v = .int .i64 (t i j + o.T i j) ∧ Ext w w' := by
  have hT := hO.vT i j hi hj; have hrA := hO.hr (by omega); have c1 := hR.c1; have c2 := hO.hT i hi; have c3 := hO.hTT i j hi hj; have hm := hO.hm2; have hn := hO.hn2; have c4 := hR.ct i j (by omega) (by omega); have b1 : (i : Int) < 20 := by omega
  have b2 : (j : Int) < 15 := by omega
  have b3 : (i : Int) < (o.n : Int) := by omega
  have b4 : (j : Int) < (o.m : Int) := by omega
  have hw : IntKind.i64.wrap (t i j + o.T i j) = t i j + o.T i j := IntWalk.i64_in _ (by omega); simp only [OA.rv, hrA] at c1; clear hO hR hrA; refine Wp.fn Tryz.func74 rfl Tryz.ntmps74 (by simp) ?_; refine Wp.keep [0, 1] fun r1 hkeep => ?_; obtain ⟨e0_1, e1_1, -⟩ := hkeep; simp [go_sem] at e0_1 e1_1; refine Wp.seqRegion (.inl rfl) (by kernel_rfl) fun K' gd hK hg => ?_; clear hg; go_simp; refine hK _ _ ?_; clear hK K' gd; refine Wp.keep [0, 3] fun r2 hkeep => ?_; obtain ⟨e0_2, e3_2, -⟩ := hkeep; simp [go_sem, e0_1, e1_1] at e0_2 e3_2; clear e0_1 e1_1; refine Wp.seqDraw (.inl rfl) mixed [([0, 1, 2, 3, 4], none), ([5, 6, 7, 8, 9], none), ([10, 11, 12, 13, 14], none), ([15, 16, 17, 18, 19], none), ([20, 21, 22, 23, 24], none), ([25], none)] (by kernel_rfl) fun K' gd hK hg => ?_; clear hg; simp only [pick, nth, List.map_cons, List.map_nil, Option.map_none, Option.map_some]; apply Mops.none
  · intro w' hE'; have hC' := hE'.cellsS; go_simp; with_reducible rfl
  apply Mops.none
  · intro w' hE'; have hC' := hE'.cellsS; go_simp; with_reducible rfl
  apply Mops.none
  · intro w' hE'; have hC' := hE'.cellsS; go_simp; with_reducible rfl
  apply Mops.none
  · intro w' hE'; have hC' := hE'.cellsS; go_simp; with_reducible rfl
  apply Mops.none
  · intro w' hE'; have hC' := hE'.cellsS; go_simp; with_reducible rfl
  apply Mops.none
  · intro w' hE'; have hC' := hE'.cellsS; go_simp; with_reducible rfl
  refine Mops.done ?_; refine hK _ _ ?_; clear hK K' gd; refine Wp.keep [4] fun r3 hkeep => ?_; obtain ⟨e4_3, -⟩ := hkeep; simp [go_sem, e0_2, e3_2] at e4_3; clear e0_2 e3_2; refine Wp.ret ?_; refine endK_tmp Tryz.results74 (by decide) ?_; rw [e4_3]; exact ⟨rfl, ((Ext.refl _).alloc _).drew⟩
def mostL (o : Ord) (t : Nat → Nat → Int) (first : Int) (xs : List (Nat × Nat)) : Int := xs.foldl (fun m s => max m (t s.1 s.2 + o.T s.1 s.2)) first
theorem mostL_take (o : Ord) (t : Nat → Nat → Int) (first : Int) (xs : List (Nat × Nat)) {k : Nat} {x : Nat × Nat} (h : xs[k]? = some x) : mostL o t first (xs.take (k + 1)) = max (mostL o t first (xs.take k)) (t x.1 x.2 + o.T x.1 x.2) := by
  unfold mostL; rw [List.take_add_one, h]; simp [List.foldl_append]
theorem max_if (x y : Int) : (if y > x then y else x) = max x y := by omega
set_option maxHeartbeats 2000000 in
theorem most_c (a : OA) (o : Ord) (t : Nat → Nat → Int) (b : Nat) (first : Int) (gf : Nat) (lb : Array Value) (D : World → Prop) (xs : List (Nat × Nat)) (w : World)
    (hit : Iter Tryz.prog gf lb encS D xs) (heg : ∀ args w, (callFunc gf args).run Tryz.prog w = .ok (.enter gf args) w)
    (hO : OrdF w w.heap.size a o) (hR : RowF w b a o t) (hxs : ∀ (k : Nat) (x : Nat × Nat), xs[k]? = some x → x.1 < o.n ∧ x.2 < o.m ∧ 0 ≤ t x.1 x.2 ∧ t x.1 x.2 ≤ 1000000) (hD : ∀ W, Below w.heap.size w W → D W) :
    CallsV Tryz.prog 133 #[.int .i64 first, .func (.func gf) #[] lb, .func (.func 74) #[.pointer (some ⟨b, 0, none⟩)] #[]] w fun v w' => v = .int .i64 (mostL o t first xs) ∧ Ext w w' := by
  refine Wp.fnM Tryz.func133 rfl Tryz.ntmps133 (by simp) ?_; refine Wp.keep [0, 1, 2] fun r1 hkeep => ?_; obtain ⟨e0_1, e1_1, e2_1, -⟩ := hkeep; simp [go_sem] at e0_1 e1_1 e2_1; refine Wp.seqRegion (.inl rfl) (by kernel_rfl) fun K' gd hK hg => ?_; clear hg; go_simp; refine hK _ _ ?_; clear hK K' gd; refine Wp.keep [1, 3, 5] fun r2 hkeep => ?_; obtain ⟨e1_2, e3_2, e5_2, -⟩ := hkeep; simp [go_sem, e0_1, e1_1, e2_1] at e1_2 e3_2 e5_2; clear e0_1 e1_1 e2_1; refine Wp.seq ?_; refine Wp.seqRegion (.inl rfl) (by kernel_rfl) fun K' gd hK hg => ?_; clear hg; go_simp; refine hK _ _ ?_; clear hK K' gd; refine Wp.keep [3, 5, 8] fun r3 hkeep => ?_; obtain ⟨e3_3, e5_3, e8_3, -⟩ := hkeep; simp [go_sem, e1_2, e3_2, e5_2] at e3_3 e5_3 e8_3; clear e1_2 e3_2 e5_2; refine Wp.block ?_; refine Wp.range (hit) (by go_simp) (heg) (fun _ => rfl) (fun k W => Below w.heap.size w W ∧ W.cell? ⟨w.heap.size, 0, none⟩ = some (.int .i64 (mostL o t first (xs.take k))) ∧ W.frozen? ⟨w.heap.size, 0, none⟩ = false ∧ W.cell? ⟨w.heap.size + 1, 0, none⟩ = some (.func (.func 74) #[.pointer (some ⟨b, 0, none⟩)] #[])) (fun _ _ => False) ?_ ?_ ?_ ?_ ?_ ?_ ?_
  · exact fun k W h => hD W h.1
  · exact fun k W W' hA ⟨h1, h2, h3, h4⟩ => ⟨hA.below h1 (Nat.le_refl _) (by simp; omega), hA.cell h2, (hA.frozen h2).trans h3, hA.cell h4⟩
  · exact fun _ _ _ _ h => h
  · exact ⟨((Ext.refl _).alloc _).alloc _, by go_simp; rfl, by go_simp, by go_simp⟩
  · rintro l k x W hx ⟨i1, i2, i3, i4⟩ hl; simp only [encS, List.zip_toArray, List.zip_cons_cons, List.zip_nil_left, putL_cons, putL_nil]; refine Wp.keep [3, 5, 9] fun r4 hkeep => ?_; obtain ⟨e3_4, e5_4, e9_4, -⟩ := hkeep; simp [go_sem, e3_3, e5_3, e8_3] at e3_4 e5_4 e9_4; refine Wp.loneRegion (.inr ⟨_, rfl⟩) (by kernel_rfl) fun K' gd hK hg => ?_; clear hg; go_simp; refine hK _ _ ?_; clear hK K' gd; refine Ends.keep [3, 5, 7] fun r5 hkeep => ?_; obtain ⟨e3_5, e5_5, e7_5, -⟩ := hkeep; simp [go_sem, e3_4, e5_4, e9_4] at e3_5 e5_5 e7_5; clear e3_4 e5_4 e9_4; refine Ends.mk ?_; refine thenK_normal ?_; refine ⟨KeepsOthers.alloc _ _, fun W2 hA2 hl2 => ?_⟩; obtain ⟨lr, hl2⟩ := hl2; have f0 := hA2.cell (cell_al _ i2); have f1 := ((hA2.frozen (cell_al _ i2)).trans (frozen_al _ i2)).trans i3; have f2 := hA2.cell (cell_al _ i4); have f3 := hA2.cell (cell_nw W #[.int .i64 (x.1 : Int), .int .i64 (x.2 : Int)] 56 0); have f4 := hA2.cell (cell_nw W #[.int .i64 (x.1 : Int), .int .i64 (x.2 : Int)] 56 1); have hB2 := hA2.below (i1.alloc i1.size _) (Nat.le_refl _) (by simp; omega); have hO2 : OrdF W2.drew W2.drew.heap.size a o := (hO.below hB2.drew).more hB2.size; have hR2 := hR.below hB2.drew hR.lt; obtain ⟨hx1, hx2, hx3⟩ := hxs k x hx; refine Wp.block ?_; refine Wp.loneDraw (.inr ⟨_, rfl⟩) mixed [([0, 1, 2], some (3, false)), ([4], some (5, true))] (by kernel_rfl) fun K' gd hK hg => ?_; clear hg; simp only [pick, nth, List.map_cons, List.map_nil, Option.map_none, Option.map_some]; apply Mops.act
    · intro w' hE'; have hC' := hE'.cellsS; go_simp; with_reducible rfl
    intro K1 hK1; go_simp; refine Wcall (.inr ⟨_, rfl⟩) (ends_c a o t b x.1 x.2 _ hO2 hR2 hx1 hx2 hx3) ?_; rintro v w2 ⟨rfl, hE⟩; have c2 := hE.cellsS; have z2 := hE.frozenS; go_simp; refine hK1 _ _ (XR) ?_; clear hK1 K1; apply Mops.last
    · intro w' hE'; have hC' := hE'.cellsS; go_simp; with_reducible rfl
    intro K1 hK1; go_simp; refine hK1 _ _ ?_; clear hK1 K1; refine Mops.done ?_; refine hK _ _ ?_; clear hK K' gd; refine Ends.keep [] fun r6 hkeep => ?_; clear hkeep; clear e3_5 e5_5 e7_5; refine Ends.mk ?_; refine blockK_normal ?_; refine ⟨((KeepsOthers.of_ext ((Ext.refl _).drew)).trans (KeepsOthers.of_ext hE)).trans (KeepsOthers.setCell _ _ _), (hB2.drew.toExt hE (Nat.le_refl _)).setCell (Nat.le_refl _) _, ?_, ?_, ?_⟩
    · rw [mostL_take o t first xs hx, ← max_if]; exact World.cell?_setCell_same' _ _ _ (by rw [hE.cell f0]; rfl)
    · rw [World.frozen?_setCell, hE.frozen f0]; exact f1
    · rw [World.cell?_setCell_other _ _ _ _ (by intro e; injection e; omega)]; exact hE.cell f2
  · rintro rm W hrm ⟨i1, i2, i3, i4⟩ hmk; refine blockK_normal ?_; refine thenK_normal ?_; refine Wp.seqRegion (.inl rfl) (by kernel_rfl) fun K' gd hK hg => ?_; clear hg; go_simp; refine hK _ _ ?_; clear hK K' gd; refine Wp.keep [6] fun r7 hkeep => ?_; obtain ⟨e6_7, -⟩ := hkeep; simp [go_sem, e3_3, e5_3, e8_3] at e6_7; clear e3_3 e5_3 e8_3; refine Wp.ret ?_; refine endM_tmp Tryz.results133 (by decide) ((Marks.one (by first | omega | (simp at hrm; omega)) hmk)) fun wz hS => ?_; rw [e6_7]; exact ⟨rfl, Shut.ext i1 hS⟩
  · rintro rm c W hrm hf hmk; exact hf.elim
end Go.Proofs.YtnfagcccgmakdaaGreat
namespace Go.Proofs.YtnfagcccgmakdaaGreat
open Go.RowKit Go.Wk Go.Proofs
set_option maxHeartbeats 2000000
def fillS (o : Ord) (t : Nat → Nat → Int) (i j : Nat) : Int := mostL o t (if j = 0 then o.A i else 0) (beforeL o (i, j))
theorem beforeL_ok {o : Ord} {i j : Nat} (hi : i < o.n) (hj : j < o.m) {k : Nat} {x : Nat × Nat} (h : (beforeL o (i, j))[k]? = some x) : x.1 < o.n ∧ x.2 < o.m := by
  have hx : x ∈ beforeL o (i, j) := List.mem_of_getElem? h; simp only [beforeL, List.mem_append] at hx
  rcases hx with hx | hx
  · split at hx
    · simp at hx; subst hx; exact ⟨hi, by simp; omega⟩
    · simp at hx
  · split at hx
    · simp at hx; subst hx; exact ⟨by simp; omega, hj⟩
    · simp at hx
theorem fill_c (a : OA) (o : Ord) (t : Nat → Nat → Int) (b br bo i j : Nat) (w : World) (hO : OrdF w w.heap.size a o) (hR : RowF w b a o t) (hi : i < o.n) (hj : j < o.m)
    (d0 : w.cell? ⟨br, 0, none⟩ = some (.pointer (some ⟨b, 0, none⟩))) (d1 : w.cell? ⟨bo, 0, none⟩ = some (a.cv o)) (d2 : w.cell? ⟨bo, 1, none⟩ = some (a.rv o))
    (ht : ∀ (k : Nat) (x : Nat × Nat), (beforeL o (i, j))[k]? = some x → 0 ≤ t x.1 x.2 ∧ t x.1 x.2 ≤ 1000000) :
    CallsV Tryz.prog 132 #[.agg #[.int .i64 (i : Int), .int .i64 (j : Int)], .pointer (some ⟨br, 0, none⟩), .pointer (some ⟨bo, 0, none⟩)] w fun v w' => v = .int .i64 (fillS o t i j) ∧ Ext w w' := by
  have hxs : ∀ (k : Nat) (x : Nat × Nat), (beforeL o (i, j))[k]? = some x → x.1 < o.n ∧ x.2 < o.m ∧ 0 ≤ t x.1 x.2 ∧ t x.1 x.2 ≤ 1000000 := fun k x h =>
    ⟨(beforeL_ok hi hj h).1, (beforeL_ok hi hj h).2, ht k x h⟩
  have hrA := hO.hr (by omega); have c1 := hR.c1; have c2 := hO.hA i hi; have b3 : (i : Int) < (o.n : Int) := by omega
  simp only [OA.rv, hrA] at c1; have hm := hO.hm2; have hn := hO.hn2; have hcj := hO.hC j hj; have hvj := hO.vC j hj
  have key : ∀ (f : Int) (bs bo' : Nat) (W : World), Ext w W → W.cell? ⟨bs, 0, none⟩ = some (.int .i64 (i : Int)) → W.cell? ⟨bs, 1, none⟩ = some (.int .i64 (j : Int)) → W.cell? ⟨bo', 0, none⟩ = some (a.cv o) →
      CallsV Tryz.prog 133 #[.int .i64 f, .func (.func 146) #[] #[.pointer (some ⟨bs, 0, none⟩), .pointer (some ⟨bo', 0, none⟩)], .func (.func 74) #[.pointer (some ⟨b, 0, none⟩)] #[]] W fun v w' => v = .int .i64 (mostL o t f (beforeL o (i, j))) ∧ Ext W w' := by
    intro f bs bo' W hE1 g0 g1 g2; refine most_c a o t b f 146 _ _ _ _ (before_it a o i j bs bo' hi hj (by omega) (by omega)) (enters_of Tryz.func146 (by kernel_rfl) rfl) (hO.ext hE1) (hR.ext hE1) hxs ?_; intro W' hB; have hE2 : Ext _ W' := hB; exact ⟨hE2.cell g0, hE2.cell g1, hE2.cell g2, hE2.cell (hE1.cell hcj), hvj⟩
  by_cases hj0 : j = 0
  · subst hj0; refine Wp.fn Tryz.func132 rfl Tryz.ntmps132 (by simp) ?_; refine Wp.keep [0, 1, 2] fun r1 hkeep => ?_; obtain ⟨e0_1, e1_1, e2_1, -⟩ := hkeep; simp [go_sem] at e0_1 e1_1 e2_1; refine Wp.seqRegion (.inl rfl) (by kernel_rfl) fun K' gd hK hg => ?_; clear hg; go_simp; refine hK _ _ ?_; clear hK K' gd; refine Wp.keep [1, 2, 3] fun r2 hkeep => ?_; obtain ⟨e1_2, e2_2, e3_2, -⟩ := hkeep; simp [go_sem, e0_1, e1_1, e2_1] at e1_2 e2_2 e3_2; clear e0_1 e1_1 e2_1; refine Wp.seqRegion (.inl rfl) (by kernel_rfl) fun K' gd hK hg => ?_; clear hg; go_simp; refine hK _ _ ?_; clear hK K' gd; refine Wp.keep [1, 2, 3, 5] fun r3 hkeep => ?_; obtain ⟨e1_3, e2_3, e3_3, e5_3, -⟩ := hkeep; simp [go_sem, e1_2, e2_2, e3_2] at e1_3 e2_3 e3_3 e5_3; clear e1_2 e2_2 e3_2; refine Wp.seq ?_; refine Wp.seqRegion (.inl rfl) (by kernel_rfl) fun K' gd hK hg => ?_; clear hg; go_simp; refine hK _ _ ?_; clear hK K' gd; refine Wp.keep [1, 2, 3, 5, 8] fun r4 hkeep => ?_; obtain ⟨e1_4, e2_4, e3_4, e5_4, e8_4, -⟩ := hkeep; simp [go_sem, e1_3, e2_3, e3_3, e5_3] at e1_4 e2_4 e3_4 e5_4 e8_4; clear e1_3 e2_3 e3_3 e5_3; refine Wp.condT (by go_simp) ?_; refine Wp.loneDraw (.inl rfl) mixed [([0, 1, 2, 3, 4], none), ([5, 6, 7, 8, 9], none), ([10], none)] (by kernel_rfl) fun K' gd hK hg => ?_; clear hg; simp only [pick, nth, List.map_cons, List.map_nil, Option.map_none, Option.map_some]; apply Mops.none
    · intro w' hE'; have hC' := hE'.cellsS; go_simp; with_reducible rfl
    apply Mops.none
    · intro w' hE'; have hC' := hE'.cellsS; go_simp; with_reducible rfl
    apply Mops.none
    · intro w' hE'; have hC' := hE'.cellsS; go_simp; with_reducible rfl
    refine Mops.done ?_; refine hK _ _ ?_; clear hK K' gd; refine Ends.keep [1, 2, 3, 5] fun r5 hkeep => ?_; obtain ⟨e1_5, e2_5, e3_5, e5_5, -⟩ := hkeep; simp [go_sem, e1_4, e2_4, e3_4, e5_4, e8_4] at e1_5 e2_5 e3_5 e5_5; clear e1_4 e2_4 e3_4 e5_4 e8_4; refine Ends.mk ?_; refine thenK_normal ?_; refine Wp.seqDraw (.inl rfl) mixed [([0, 1, 2, 4, 5], some (3, false)), ([], some (6, false)), ([7], none)] (by kernel_rfl) fun K' gd hK hg => ?_; clear hg; simp only [pick, nth, List.map_cons, List.map_nil, Option.map_none, Option.map_some]; apply Mops.act
    · intro w' hE'; have hC' := hE'.cellsS; go_simp; with_reducible rfl
    intro K1 hK1; go_simp; refine Wcall (.inl rfl) (before_c a o i ((0 : Nat) : Int) _) ?_; rintro v w2 ⟨bs, bo', rfl, hE, g0, g1, g2⟩; have c9 := hE.cellsS; have hE0 : Ext w w2 := (((Ext.refl w).alloc _).drew.drew).trans hE; go_simp; refine hK1 _ _ (XR) ?_; clear hK1 K1; apply Mops.act
    · exact fun _ _ => Rops_done
    intro K1 hK1; go_simp; refine Wcall (.inl rfl) (key _ _ _ _ hE0 g0 g1 g2) ?_; rintro v w3 ⟨rfl, hE3⟩; go_simp; refine hK1 _ _ (XR) ?_; clear hK1 K1; apply Mops.none
    · intro w' hE'; have hC' := hE'.cellsS; go_simp; with_reducible rfl
    refine Mops.done ?_; refine hK _ _ ?_; clear hK K' gd; refine Wp.keep [4] fun r6 hkeep => ?_; obtain ⟨e4_6, -⟩ := hkeep; simp [go_sem, e1_5, e2_5, e3_5, e5_5] at e4_6; clear e1_5 e2_5 e3_5 e5_5; refine Wp.ret ?_; refine endK_tmp Tryz.results132 (by decide) ?_; rw [e4_6]; exact ⟨rfl, hE0.trans hE3⟩
  · skip; refine Wp.fn Tryz.func132 rfl Tryz.ntmps132 (by simp) ?_; refine Wp.keep [0, 1, 2] fun r1 hkeep => ?_; obtain ⟨e0_1, e1_1, e2_1, -⟩ := hkeep; simp [go_sem] at e0_1 e1_1 e2_1; refine Wp.seqRegion (.inl rfl) (by kernel_rfl) fun K' gd hK hg => ?_; clear hg; go_simp; refine hK _ _ ?_; clear hK K' gd; refine Wp.keep [1, 2, 3] fun r2 hkeep => ?_; obtain ⟨e1_2, e2_2, e3_2, -⟩ := hkeep; simp [go_sem, e0_1, e1_1, e2_1] at e1_2 e2_2 e3_2; clear e0_1 e1_1 e2_1; refine Wp.seqRegion (.inl rfl) (by kernel_rfl) fun K' gd hK hg => ?_; clear hg; go_simp; refine hK _ _ ?_; clear hK K' gd; refine Wp.keep [1, 2, 3, 5] fun r3 hkeep => ?_; obtain ⟨e1_3, e2_3, e3_3, e5_3, -⟩ := hkeep; simp [go_sem, e1_2, e2_2, e3_2] at e1_3 e2_3 e3_3 e5_3; clear e1_2 e2_2 e3_2; refine Wp.seq ?_; refine Wp.seqRegion (.inl rfl) (by kernel_rfl) fun K' gd hK hg => ?_; clear hg; go_simp; refine hK _ _ ?_; clear hK K' gd; refine Wp.keep [1, 2, 3, 5, 8] fun r4 hkeep => ?_; obtain ⟨e1_4, e2_4, e3_4, e5_4, e8_4, -⟩ := hkeep; simp [go_sem, e1_3, e2_3, e3_3, e5_3] at e1_4 e2_4 e3_4 e5_4 e8_4; clear e1_3 e2_3 e3_3 e5_3; refine Wp.condF (by go_simp) ?_; refine Wp.skip ?_; refine thenK_normal ?_; refine Wp.seqDraw (.inl rfl) mixed [([0, 1, 2, 4, 5], some (3, false)), ([], some (6, false)), ([7], none)] (by kernel_rfl) fun K' gd hK hg => ?_; clear hg; simp only [pick, nth, List.map_cons, List.map_nil, Option.map_none, Option.map_some]; apply Mops.act
    · intro w' hE'; have hC' := hE'.cellsS; go_simp; with_reducible rfl
    intro K1 hK1; go_simp; refine Wcall (.inl rfl) (before_c a o i (j : Int) _) ?_; rintro v w2 ⟨bs, bo', rfl, hE, g0, g1, g2⟩; have c9 := hE.cellsS; have hE0 : Ext w w2 := (((Ext.refl w).alloc _).drew).trans hE; go_simp; refine hK1 _ _ (XR) ?_; clear hK1 K1; apply Mops.act
    · exact fun _ _ => Rops_done
    intro K1 hK1; go_simp; refine Wcall (.inl rfl) (key _ _ _ _ hE0 g0 g1 g2) ?_; rintro v w3 ⟨rfl, hE3⟩; go_simp; refine hK1 _ _ (XR) ?_; clear hK1 K1; apply Mops.none
    · intro w' hE'; have hC' := hE'.cellsS; go_simp; with_reducible rfl
    refine Mops.done ?_; refine hK _ _ ?_; clear hK K' gd; refine Wp.keep [4] fun r5 hkeep => ?_; obtain ⟨e4_5, -⟩ := hkeep; simp [go_sem, e1_4, e2_4, e3_4, e5_4, e8_4] at e4_5; clear e1_4 e2_4 e3_4 e5_4 e8_4; refine Wp.ret ?_; refine endK_tmp Tryz.results132 (by decide) ?_; rw [e4_5]; exact ⟨by unfold fillS; rw [if_neg hj0], hE0.trans hE3⟩
end Go.Proofs.YtnfagcccgmakdaaGreat
namespace Go.Proofs.YtnfagcccgmakdaaGreat
open Go.RowKit Go.Wk Go.Proofs
set_option maxHeartbeats 2000000
structure OrdOk (o : Ord) : Prop where
  hm1 : 1 ≤ o.m
  hm2 : o.m ≤ 15
  hn2 : o.n ≤ 20
  vC : ∀ j, j < o.m → 1 ≤ o.C j ∧ o.C j ≤ 20
  vA : ∀ i, i < o.n → 0 ≤ o.A i ∧ o.A i ≤ 730
  vT : ∀ i j, i < o.n → j < o.m → 1 ≤ o.T i j ∧ o.T i j ≤ 60
theorem OrdF.ok {w : World} {B : Nat} {a : OA} {o : Ord} (h : OrdF w B a o) : OrdOk o := ⟨h.hm1, h.hm2, h.hn2, h.vC, h.vA, h.vT⟩
theorem beforeL_mem {o : Ord} {i j : Nat} {x : Nat × Nat} (hC : 1 ≤ o.C j) (h : x ∈ beforeL o (i, j)) : (x.2 + 1 = j ∧ x.1 = i) ∨ (x.2 = j ∧ (x.1 : Int) + o.C j = i) := by
  simp only [beforeL, List.mem_append] at h
  rcases h with h | h
  · split at h
    · simp at h; subst h; exact .inl ⟨by simp; omega, rfl⟩
    · simp at h
  · split at h
    · simp at h; subst h; exact .inr ⟨rfl, by simp; omega⟩
    · simp at h
theorem mostL_congr {o : Ord} {t t' : Nat → Nat → Int} {first : Int} : ∀ {xs : List (Nat × Nat)}, (∀ x ∈ xs, t x.1 x.2 = t' x.1 x.2) → mostL o t first xs = mostL o t' first xs := by
  intro xs; unfold mostL
  induction xs generalizing first with
  | nil => intro _; rfl
  | cons x xs ih =>
    intro h; simp only [List.foldl_cons]; rw [h x (List.mem_cons_self), ih (fun y hy => h y (List.mem_cons_of_mem _ hy))]
theorem mostL_ge {o : Ord} {t : Nat → Nat → Int} {first : Int} : ∀ {xs : List (Nat × Nat)}, first ≤ mostL o t first xs := by
  intro xs; unfold mostL
  induction xs generalizing first with
  | nil => exact Int.le_refl _
  | cons x xs ih => simp only [List.foldl_cons]; exact Int.le_trans (Int.le_max_left _ _) ih
theorem mostL_ge_mem {o : Ord} {t : Nat → Nat → Int} {first : Int} : ∀ {xs : List (Nat × Nat)} {x : Nat × Nat}, x ∈ xs → t x.1 x.2 + o.T x.1 x.2 ≤ mostL o t first xs := by
  intro xs; unfold mostL
  induction xs generalizing first with
  | nil => intro _ h; cases h
  | cons y xs ih =>
    intro x h; simp only [List.foldl_cons]
    rcases List.mem_cons.1 h with rfl | h
    · exact Int.le_trans (Int.le_max_right first _) mostL_ge
    · exact ih h
theorem mostL_le {o : Ord} {t : Nat → Nat → Int} {first B : Int} : ∀ {xs : List (Nat × Nat)}, first ≤ B → (∀ x ∈ xs, t x.1 x.2 + o.T x.1 x.2 ≤ B) → mostL o t first xs ≤ B := by
  intro xs; unfold mostL
  induction xs generalizing first with
  | nil => intro h _; exact h
  | cons x xs ih =>
    intro h h2; simp only [List.foldl_cons]; exact ih (Int.max_le.2 ⟨h, h2 x (List.mem_cons_self)⟩) fun y hy => h2 y (List.mem_cons_of_mem _ hy)
theorem fillS_congr {o : Ord} {t t' : Nat → Nat → Int} {i j : Nat} (h : ∀ x ∈ beforeL o (i, j), t x.1 x.2 = t' x.1 x.2) : fillS o t i j = fillS o t' i j := mostL_congr h
def begF (o : Ord) : Nat → Nat → Nat → Int
  | 0, _, _ => 0
  | f + 1, i, j => fillS o (begF o f) i j
def beg (o : Ord) (i j : Nat) : Int := begF o (i + j + 1) i j
theorem begF_stable {o : Ord} (ho : OrdOk o) : ∀ (f g i j : Nat), i + j < f → i + j < g → i < o.n → j < o.m → begF o f i j = begF o g i j
  | 0, _, _, _, h, _, _, _ => absurd h (Nat.not_lt_zero _)
  | _ + 1, 0, _, _, _, h, _, _ => absurd h (Nat.not_lt_zero _)
  | f + 1, g + 1, i, j, h1, h2, hi, hj => by
    have hC := (ho.vC j hj).1; refine fillS_congr fun x hx => ?_; have := beforeL_mem hC hx; exact begF_stable ho f g x.1 x.2 (by omega) (by omega) (by omega) (by omega)
theorem beg_eq {o : Ord} (ho : OrdOk o) {i j : Nat} (hi : i < o.n) (hj : j < o.m) : beg o i j = fillS o (beg o) i j := by
  show fillS o (begF o (i + j)) i j = _
  refine fillS_congr fun x hx => ?_; have hC := (ho.vC j hj).1; have := beforeL_mem hC hx; exact begF_stable ho _ _ _ _ (by omega) (by omega) (by omega) (by omega)
theorem beg_bound {o : Ord} (ho : OrdOk o) : ∀ (s i j : Nat), i + j = s → i < o.n → j < o.m → 0 ≤ beg o i j ∧ beg o i j ≤ 730 + 60 * ((i : Int) + j) := by
  intro s
  induction s using Nat.strongRecOn with
  | ind s ih =>
    intro i j hs hi hj; rw [beg_eq ho hi hj]; unfold fillS; have hA := ho.vA i hi; refine ⟨Int.le_trans (by split <;> omega) mostL_ge, mostL_le (by split <;> omega) fun x hx => ?_⟩; have hx := beforeL_mem (ho.vC j hj).1 hx; have hC := (ho.vC j hj).1; have h1 := ih (x.1 + x.2) (by omega) x.1 x.2 rfl (by omega) (by omega); have h2 := ho.vT x.1 x.2 (by omega) (by omega); omega
theorem beg_ok {o : Ord} (ho : OrdOk o) {i j : Nat} (hi : i < o.n) (hj : j < o.m) : 0 ≤ beg o i j ∧ beg o i j ≤ 2770 := by
  have h := beg_bound ho _ i j rfl hi hj; have := ho.hm2; have := ho.hn2; omega
def begT (o : Ord) (k i j : Nat) : Int := if i < o.n ∧ j < o.m ∧ i * o.m + j < k then beg o i j else 0
def begA (o : Ord) (i j : Nat) : Int := if i < o.n ∧ j < o.m then beg o i j else 0
theorem idx_lt {n m i j : Nat} (hi : i < n) (hj : j < m) : i * m + j < n * m := by
  have : (i + 1) * m ≤ n * m := Nat.mul_le_mul_right m hi; rw [Nat.add_mul, Nat.one_mul] at this; omega
theorem begT_all (o : Ord) : begT o (o.n * o.m) = begA o := by
  funext i j
  unfold begT begA
  by_cases h : i < o.n ∧ j < o.m
  · rw [if_pos ⟨h.1, h.2, idx_lt h.1 h.2⟩, if_pos h]
  · rw [if_neg (fun h' => h ⟨h'.1, h'.2.1⟩), if_neg h]
theorem begA_eq {o : Ord} {i j : Nat} (hi : i < o.n) (hj : j < o.m) : begA o i j = beg o i j := if_pos ⟨hi, hj⟩
theorem idx_inj2 {m i j i' j' : Nat} (hj : j < m) (hj' : j' < m) (h : i * m + j = i' * m + j') : i = i' ∧ j = j' := by
  have e1 := congrArg (· / m) h; have e2 := congrArg (· % m) h
  have g : ∀ {a b : Nat}, b < m → (a * m + b) / m = a ∧ (a * m + b) % m = b := fun {a b} hb => by
    rw [Nat.mul_comm, Nat.mul_add_div (by omega), Nat.div_eq_of_lt hb, Nat.mul_add_mod, Nat.mod_eq_of_lt hb]; exact ⟨rfl, rfl⟩
  simp only [(g hj).1, (g hj').1] at e1; simp only [(g hj).2, (g hj').2] at e2; exact ⟨e1, e2⟩
theorem begT_step {o : Ord} {i j : Nat} (hi : i < o.n) (hj : j < o.m) : (fun i' j' => if i' = i ∧ j' = j then beg o i j else begT o (i * o.m + j) i' j') = begT o (i * o.m + j + 1) := by
  funext i' j'
  unfold begT
  by_cases e : i' = i ∧ j' = j
  · obtain ⟨rfl, rfl⟩ := e; rw [if_pos ⟨rfl, rfl⟩, if_pos ⟨hi, hj, by omega⟩]
  · rw [if_neg e]
    by_cases h : i' < o.n ∧ j' < o.m
    · have hne : i' * o.m + j' ≠ i * o.m + j := fun he => e (idx_inj2 h.2 hj he)
      by_cases h2 : i' * o.m + j' < i * o.m + j
      · rw [if_pos ⟨h.1, h.2, h2⟩, if_pos ⟨h.1, h.2, by omega⟩]
      · rw [if_neg (fun h' => h2 h'.2.2), if_neg (fun h' => h2 (by have := h'.2.2; omega))]
    · rw [if_neg (fun h' => h ⟨h'.1, h'.2.1⟩), if_neg (fun h' => h ⟨h'.1, h'.2.1⟩)]
theorem begT_before {o : Ord} (ho : OrdOk o) {i j : Nat} (hi : i < o.n) (hj : j < o.m) {x : Nat × Nat} (hx : x ∈ beforeL o (i, j)) : begT o (i * o.m + j) x.1 x.2 = beg o x.1 x.2 := by
  have hC := (ho.vC j hj).1; have hx := beforeL_mem hC hx
  have : x.1 * o.m + x.2 < i * o.m + j := by
    rcases hx with ⟨h1, h2⟩ | ⟨h1, h2⟩
    · rw [h2]; omega
    · have h3 : x.1 < i := by omega
      have := idx_lt (m := o.m) h3 (show x.2 < o.m by omega); omega
  exact if_pos ⟨by omega, by omega, this⟩
theorem begT_fill {o : Ord} (ho : OrdOk o) {i j : Nat} (hi : i < o.n) (hj : j < o.m) : fillS o (begT o (i * o.m + j)) i j = beg o i j := by
  rw [beg_eq ho hi hj]; exact fillS_congr fun x hx => begT_before ho hi hj hx
theorem zero_row : ∃ x y : Value, Tryz.zeroCells114 = ([x, y] ++ List.replicate 300 (Value.int .i64 0)).toArray := ⟨.slice none 0 0, .slice none 0 0, by kernel_rfl⟩
theorem zero_size : Tryz.zeroCells114.size = 302 := by
  obtain ⟨x, y, h⟩ := zero_row; rw [h, List.size_toArray, List.length_append, List.length_replicate]; rfl
theorem zero_get {k : Nat} (h2 : 2 ≤ k) (hk : k < 302) : Tryz.zeroCells114[k]? = some (.int .i64 0) := by
  obtain ⟨x, y, h⟩ := zero_row; rw [h, List.getElem?_toArray, List.getElem?_append_right (by simpa using h2), List.getElem?_replicate, if_pos (by simp; omega)]
theorem new_row (a : OA) (o : Ord) (w : World) : RowF (w.alloc (.cells ((Tryz.zeroCells114.setIfInBounds 0 (a.cv o)).setIfInBounds 1 (a.rv o)) 114)) w.heap.size a o (fun _ _ => 0) := by
  have hz := zero_size; refine ⟨?_, ?_, fun i j hi hj => ?_, fun k => frozen_nw _ _ _ _⟩
  · rw [cell_nw, Array.getElem?_setIfInBounds_ne (by decide), Array.getElem?_setIfInBounds_self_of_lt (by omega)]
  · rw [cell_nw, Array.getElem?_setIfInBounds_self_of_lt (by rw [Array.size_setIfInBounds]; omega)]
  · rw [cell_nw, Array.getElem?_setIfInBounds_ne (by omega), Array.getElem?_setIfInBounds_ne (by omega), zero_get (by omega) (by omega)]
end Go.Proofs.YtnfagcccgmakdaaGreat
namespace Go.Proofs.YtnfagcccgmakdaaGreat
open Go.RowKit Go.Wk Go.Proofs
set_option maxHeartbeats 2000000
theorem setCell_off {w : World} {b k b' k' : Nat} {v : Value} (h : k ≠ k') : (w.setCell ⟨b, k, none⟩ v).cell? ⟨b', k', none⟩ = w.cell? ⟨b', k', none⟩ :=
  World.cell?_setCell_other _ _ _ _ (by intro e; injection e; omega)
theorem begT_zero (o : Ord) : begT o 0 = fun _ _ => 0 := by
  funext i j; exact if_neg (fun h => Nat.not_lt_zero _ h.2.2)
theorem begT_bound {o : Ord} (ho : OrdOk o) {i j k : Nat} (hi : i < o.n) (hj : j < o.m) {y : Nat × Nat} (hy : (beforeL o (i, j))[k]? = some y) : 0 ≤ begT o (i * o.m + j) y.1 y.2 ∧ begT o (i * o.m + j) y.1 y.2 ≤ 1000000 := by
  have hy := List.mem_of_getElem? hy; rw [begT_before ho hi hj hy]; have hC := (ho.vC j hj).1; have hb := beforeL_mem hC hy; have := beg_ok ho (show y.1 < o.n by omega) (show y.2 < o.m by omega); omega
theorem timed_c (a : OA) (o : Ord) (w : World) (hO : OrdF w w.heap.size a o) : CallsV Tryz.prog 69 #[.agg #[a.cv o, a.rv o]] w fun v w' => ∃ b, v = .pointer (some ⟨b, 0, none⟩) ∧ RowF w' b a o (begA o) ∧ Ext w w' := by
  have ho := hO.ok; have z := zero_size; have hR0 := new_row a o (w.alloc (.cells #[a.cv o, a.rv o] 25)); rw [World.size_alloc] at hR0; refine Wp.fnM Tryz.func69 rfl Tryz.ntmps69 (by simp) ?_; refine Wp.keep [0] fun r1 hkeep => ?_; obtain ⟨e0_1, -⟩ := hkeep; simp [go_sem] at e0_1; refine Wp.seqRegion (.inl rfl) (by kernel_rfl) fun K' gd hK hg => ?_; clear hg; go_simp; refine hK _ _ ?_; clear hK K' gd; refine Wp.keep [1] fun r2 hkeep => ?_; obtain ⟨e1_2, -⟩ := hkeep; simp [go_sem, e0_1] at e1_2; clear e0_1; refine Wp.seqRegion (.inl rfl) (by kernel_rfl) fun K' gd hK hg => ?_; clear hg; go_simp; refine hK _ _ ?_; clear hK K' gd; refine Wp.keep [1, 3] fun r3 hkeep => ?_; obtain ⟨e1_3, e3_3, -⟩ := hkeep; simp [go_sem, e1_2] at e1_3 e3_3; clear e1_2; refine Wp.seqRegion (.inl rfl) (by kernel_rfl) fun K' gd hK hg => ?_; clear hg; go_simp; refine hK _ _ ?_; clear hK K' gd; refine Wp.keep [1, 3, 4] fun r4 hkeep => ?_; obtain ⟨e1_4, e3_4, e4_4, -⟩ := hkeep; simp [go_sem, e1_3, e3_3] at e1_4 e3_4 e4_4; clear e1_3 e3_3; refine Wp.seq ?_; refine Wp.seqRegion (.inl rfl) (by kernel_rfl) fun K' gd hK hg => ?_; clear hg; go_simp; refine Wcall (.inl rfl) ((stints_c a o _)) ?_; rintro v w2 ⟨bx, rfl, hE, s0, s1⟩; go_simp; refine hK _ _ ?_; clear hK K' gd; refine Wp.keep [3, 4, 11] fun r5 hkeep => ?_; obtain ⟨e3_5, e4_5, e11_5, -⟩ := hkeep; simp [go_sem, e1_4, e3_4, e4_4] at e3_5 e4_5 e11_5; clear e1_4 e3_4 e4_4; have hB0 : Below w.heap.size w w2 := (((((Ext.refl w).alloc _).alloc _).alloc _).alloc _).trans hE
  have hR1 : RowF w2 (w.heap.size + 1) a o (begT o 0) := by rw [begT_zero]; exact ((hR0.ext ((Ext.refl _).alloc _)).ext ((Ext.refl _).alloc _)).ext hE
  have q0 := hE.cell (cell_al _ (cell_al _ (cell_al _ (cell_nw w #[a.cv o, a.rv o] 25 0)))); have q1 := hE.cell (cell_al _ (cell_al _ (cell_al _ (cell_nw w #[a.cv o, a.rv o] 25 1)))); have q2 : w2.cell? ⟨w.heap.size + 1 + 1, 0, none⟩ = some (.pointer (some ⟨w.heap.size + 1, 0, none⟩)) := hE.cell (by go_simp); have q3 : w2.cell? ⟨w.heap.size + 1 + 1 + 1, 0, none⟩ = some (.func (.func 132) #[] #[.pointer (some ⟨w.heap.size + 1 + 1, 0, none⟩), .pointer (some ⟨w.heap.size, 0, none⟩)]) := hE.cell (by go_simp); have hsz : w.heap.size + 4 ≤ w2.heap.size := by have := hE.size; simp at this; omega
  have hlt := hR1.lt; clear hR0; refine Wp.block ?_; refine Wp.range (stints_it (some ⟨a.cb, a.co, none⟩) a.rA o.n o.m a.cc a.rc bx (by have := hO.hn2; omega) (by have := hO.hm2; omega)) (by go_simp) (enters_of Tryz.func135 (by kernel_rfl) rfl) (fun _ => rfl) (fun k W => Below w.heap.size w W ∧ RowF W (w.heap.size + 1) a o (begT o k) ∧ W.cell? ⟨w.heap.size, 0, none⟩ = some (a.cv o) ∧ W.cell? ⟨w.heap.size, 1, none⟩ = some (a.rv o) ∧ W.cell? ⟨w.heap.size + 1 + 1, 0, none⟩ = some (.pointer (some ⟨w.heap.size + 1, 0, none⟩)) ∧ W.cell? ⟨w.heap.size + 1 + 1 + 1, 0, none⟩ = some (.func (.func 132) #[] #[.pointer (some ⟨w.heap.size + 1 + 1, 0, none⟩), .pointer (some ⟨w.heap.size, 0, none⟩)]) ∧ W.cell? ⟨bx, 0, none⟩ = some (a.cv o) ∧ W.cell? ⟨bx, 1, none⟩ = some (a.rv o)) (fun _ _ => False) ?_ ?_ ?_ ?_ ?_ ?_ ?_
  · exact fun k W h => ⟨h.2.2.2.2.2.2.1, h.2.2.2.2.2.2.2⟩
  · exact fun k W W' hA ⟨h1, h2, h3, h4, h5, h6, h7, h8⟩ => ⟨hA.below h1 (Nat.le_refl _) (by omega), h2.adm hA, hA.cell h3, hA.cell h4, hA.cell h5, hA.cell h6, hA.cell h7, hA.cell h8⟩
  · exact fun _ _ _ _ h => h
  · exact ⟨hB0, hR1, q0, q1, q2, q3, s0, s1⟩
  · rintro l k x W hx ⟨i1, i2, i3, i4, i5, i6, i7, i8⟩ hl; simp only [encS, List.zip_toArray, List.zip_cons_cons, List.zip_nil_left, putL_cons, putL_nil]; refine Wp.keep [3, 4, 12] fun r6 hkeep => ?_; obtain ⟨e3_6, e4_6, e12_6, -⟩ := hkeep; simp [go_sem, e3_5, e4_5, e11_5] at e3_6 e4_6 e12_6; refine Wp.loneRegion (.inr ⟨_, rfl⟩) (by kernel_rfl) fun K' gd hK hg => ?_; clear hg; go_simp; refine hK _ _ ?_; clear hK K' gd; refine Ends.keep [3, 4, 5] fun r7 hkeep => ?_; obtain ⟨e3_7, e4_7, e5_7, -⟩ := hkeep; simp [go_sem, e3_6, e4_6, e12_6] at e3_7 e4_7 e5_7; clear e3_6 e4_6 e12_6; refine Ends.mk ?_; refine thenK_normal ?_; refine ⟨KeepsOthers.alloc _ _, fun W2 hA2 hl2 => ?_⟩; obtain ⟨lr, hl2⟩ := hl2; have hA3 := (Adm.of_ext ((Ext.refl W).alloc _)).trans hA2; have j1 := hA3.below i1 (Nat.le_refl _) (by omega); have j2 := i2.adm hA3; have j3 := hA3.cell i3; have j4 := hA3.cell i4; have j5 := hA3.cell i5; have j6 := hA3.cell i6; have j7 := hA3.cell i7; have j8 := hA3.cell i8; have f3 := hA2.cell (cell_nw W #[.int .i64 (x.1 : Int), .int .i64 (x.2 : Int)] 56 0); have f4 := hA2.cell (cell_nw W #[.int .i64 (x.1 : Int), .int .i64 (x.2 : Int)] 56 1); obtain ⟨-, -, hx1, hx2, hk⟩ := stintsL_at hx; have hO2 : OrdF W2.drew W2.drew.heap.size a o := (hO.below j1.drew).more j1.drew.size; have hm := hO.hm2; have hn := hO.hn2; have b1 : (x.1 : Int) < 20 := by omega
    have b2 : (x.2 : Int) < 15 := by omega
    refine Wp.block ?_; refine Wp.loneDraw (.inr ⟨_, rfl⟩) mixed [([0, 1, 2, 3, 4], none), ([5, 6, 8, 9, 10], some (7, false)), ([11], some (12, true))] (by kernel_rfl) fun K' gd hK hg => ?_; clear hg; simp only [pick, nth, List.map_cons, List.map_nil, Option.map_none, Option.map_some]; apply Mops.none
    · intro w' hE'; have hC' := hE'.cellsS; go_simp; with_reducible rfl
    apply Mops.act
    · intro w' hE'; have hC' := hE'.cellsS; go_simp; with_reducible rfl
    intro K1 hK1; go_simp; refine Wcall (.inr ⟨_, rfl⟩) (fill_c a o (begT o k) (w.heap.size + 1) (w.heap.size + 1 + 1) w.heap.size x.1 x.2 _ hO2 (j2.ext ((Ext.refl _).drew)) hx1 hx2 j5 j3 j4 (fun k' y hy => by rw [hk]; exact begT_bound ho hx1 hx2 hy)) ?_; rintro v w3 ⟨rfl, hE3⟩; have l2 := (j2.ext (((Ext.refl W2).drew).trans hE3)); have l3 := l2.ct x.1 x.2 (by omega) (by omega); have l4 := l2.fz (2 + x.1 * 15 + x.2); go_simp; refine hK1 _ _ (XR) ?_; clear hK1 K1; apply Mops.last
    · intro w' hE'; have hC' := hE'.cellsS; go_simp; with_reducible rfl
    intro K1 hK1; go_simp; refine hK1 _ _ ?_; clear hK1 K1; refine Mops.done ?_; refine hK _ _ ?_; clear hK K' gd; refine Ends.keep [] fun r8 hkeep => ?_; clear hkeep; clear e3_7 e4_7 e5_7; refine Ends.mk ?_; refine blockK_normal ?_; refine ⟨((KeepsOthers.of_ext ((Ext.refl _).drew)).trans (KeepsOthers.of_ext hE3)).trans (KeepsOthers.setCell _ _ _), (j1.drew.toExt hE3 (Nat.le_refl _)).setCell (Nat.le_succ _) _, ?_, ?_, ?_, ?_, ?_, ?_, ?_⟩
    · rw [hk, begT_fill ho hx1 hx2, ← begT_step hx1 hx2, ← hk]; exact l2.set (by omega) (by omega) _
    · rw [setCell_off (by omega)]; exact hE3.cell j3
    · rw [setCell_off (by omega)]; exact hE3.cell j4
    · rw [setCell_off (by omega)]; exact hE3.cell j5
    · rw [setCell_off (by omega)]; exact hE3.cell j6
    · rw [setCell_off (by omega)]; exact hE3.cell j7
    · rw [setCell_off (by omega)]; exact hE3.cell j8
  · rintro rm W hrm ⟨i1, i2, i3, i4, i5, i6, i7, i8⟩ hmk; refine blockK_normal ?_; refine thenK_normal ?_; refine Wp.seqRegion (.inl rfl) (by kernel_rfl) fun K' gd hK hg => ?_; clear hg; go_simp; refine hK _ _ ?_; clear hK K' gd; refine Wp.keep [2] fun r9 hkeep => ?_; obtain ⟨e2_9, -⟩ := hkeep; simp [go_sem, e3_5, e4_5, e11_5] at e2_9; clear e3_5 e4_5 e11_5; refine Wp.ret ?_; refine endM_tmp Tryz.results69 (by decide) ((Marks.one (by first | omega | (simp at hrm; omega)) hmk)) fun wz hS => ?_; rw [e2_9]; refine ⟨_, rfl, ?_, Shut.ext i1 hS⟩; rw [stintsL_len, begT_all] at i2; exact i2.shut hS
  · rintro rm c W hrm hf hmk; exact hf.elim
end Go.Proofs.YtnfagcccgmakdaaGreat
namespace Go.Proofs.YtnfagcccgmakdaaGreat
open Go.RowKit Go.Wk Go.Proofs
set_option maxHeartbeats 2000000
theorem indexI_c (v : Value) (xs : List Int) (p : Int → Bool) (gf : Nat) (w : World) (hx : IntsV w w.heap.size v xs) (hl : xs.length ≤ 1000000000000000)
    (heg : ∀ args w, (callFunc gf args).run Tryz.prog w = .ok (.enter gf args) w)
    (hp : ∀ x W, Ext w W → CallsV Tryz.prog gf #[.int .i64 x] W fun v W' => v = .bool (p x) ∧ Ext W W') :
    CallsV Tryz.prog 138 #[v, .func (.func gf) #[] #[]] w fun v w' => ∃ r : Int, v = .int .i64 r ∧ decide (0 ≤ r) = xs.any p ∧ Ext w w' := by
  obtain ⟨A, c, rfl, hx, -⟩ := hx; refine Wp.fn Tryz.func138 rfl Tryz.ntmps138 (by simp) ?_; refine Wp.keep [0, 1] fun r1 hkeep => ?_; obtain ⟨e0_1, e1_1, -⟩ := hkeep; simp [go_sem] at e0_1 e1_1; refine Wp.seqRegion (.inl rfl) (by kernel_rfl) fun K' gd hK hg => ?_; clear hg; go_simp; refine hK _ _ ?_; clear hK K' gd; refine Wp.keep [0, 1] fun r2 hkeep => ?_; obtain ⟨e0_2, e1_2, -⟩ := hkeep; simp [go_sem, e0_1, e1_1] at e0_2 e1_2; clear e0_1 e1_1; refine Wp.seq ?_; refine Wp.seqRegion (.inl rfl) (by kernel_rfl) fun K' gd hK hg => ?_; clear hg; go_simp; refine hK _ _ ?_; clear hK K' gd; refine Wp.keep [0, 1, 7, 8] fun r3 hkeep => ?_; obtain ⟨e0_3, e1_3, e7_3, e8_3, -⟩ := hkeep; simp [go_sem, e0_2, e1_2] at e0_3 e1_3 e7_3 e8_3; clear e0_2 e1_2; refine Wp.block ?_; refine Wp.loop (fun k ρ ds wk => AllEq [0, 1, 7] ρ r3 ∧ ds = [] ∧ (ρ 8 = .int .i64 (k : Int) ∧ (xs.take k).any p = false ∧ Ext w wk)) (xs.length) ?_ ?_
  · refine ⟨AllEq.refl _ _, rfl, ?_⟩; exact ⟨by rw [e8_3]; rfl, by simp, Ext.refl w⟩
  · rintro k r4 _ wk hk ⟨hA, rfl, ⟨e8, hn, hE⟩⟩; obtain ⟨e0_4, e1_4, e7_4, -⟩ := hA; rw [e0_3] at e0_4; rw [e1_3] at e1_4; rw [e7_3] at e7_4; refine Wp.seqRegion (.inl rfl) (by kernel_rfl) fun K' gd hK hg => ?_; clear hg; go_simp; refine hK _ _ ?_; clear hK K' gd; refine Wp.keep [0, 1, 7, 8, 9] fun r5 hkeep => ?_; obtain ⟨e0_5, e1_5, e7_5, e8_5, e9_5, -⟩ := hkeep; simp [go_sem, e0_4, e1_4, e7_4, e8] at e0_5 e1_5 e7_5 e8_5 e9_5; clear e0_4 e1_4 e7_4 e8; refine Wp.seq ?_
    by_cases h : k < xs.length
    · refine Wp.condT (by go_simp) ?_; obtain ⟨b, o, rfl, hb, hc⟩ := hx (by intro e; rw [e] at h; exact absurd h (Nat.not_lt_zero _)); have c1 := hE.cell (hc k h); refine Wp.skip ?_; refine thenK_normal ?_; refine Wp.seq ?_; refine Wp.block ?_; refine Wp.seqRegion (.inl rfl) (by kernel_rfl) fun K' gd hK hg => ?_; clear hg; go_simp; refine hK _ _ ?_; clear hK K' gd; refine Wp.keep [0, 1, 5, 7, 8] fun r6 hkeep => ?_; obtain ⟨e0_6, e1_6, e5_6, e7_6, e8_6, -⟩ := hkeep; simp [go_sem, e0_5, e1_5, e7_5, e8_5, e9_5] at e0_6 e1_6 e5_6 e7_6 e8_6; clear e0_5 e1_5 e7_5 e8_5 e9_5; refine Wp.seqRegion (.inl rfl) (by kernel_rfl) fun K' gd hK hg => ?_; clear hg; go_simp; refine Wcall (.inl rfl) (hp _ _ hE) ?_; rintro v w2 ⟨rfl, hE2⟩; go_simp; refine hK _ _ ?_; clear hK K' gd; refine Wp.keep [0, 1, 5, 7, 8, 16] fun r7 hkeep => ?_; obtain ⟨e0_7, e1_7, e5_7, e7_7, e8_7, e16_7, -⟩ := hkeep; simp [go_sem, e0_6, e1_6, e5_6, e7_6, e8_6] at e0_7 e1_7 e5_7 e7_7 e8_7 e16_7; clear e0_6 e1_6 e5_6 e7_6 e8_6
      by_cases hq : p xs[k] = true
      · refine Wp.condT (by go_simp) ?_; refine Wp.seqRegion (.inl rfl) (by kernel_rfl) fun K' gd hK hg => ?_; clear hg; go_simp; refine hK _ _ ?_; clear hK K' gd; refine Wp.keep [4] fun r8 hkeep => ?_; obtain ⟨e4_8, -⟩ := hkeep; simp [go_sem, e0_7, e1_7, e5_7, e7_7, e8_7, e16_7] at e4_8; clear e0_7 e1_7 e5_7 e7_7 e8_7 e16_7; refine Wp.ret ?_; refine blockK_ret ?_; refine thenK_ret ?_; refine thenK_ret ?_; refine blockK_ret ?_; refine thenK_ret ?_; refine endK_tmp Tryz.results138 (by decide) ?_; rw [e4_8]; refine ⟨_, rfl, ?_, hE.trans hE2⟩; rw [List.any_eq_true.2 ⟨xs[k], List.getElem_mem h, hq⟩]; simp
      · refine Wp.condF (by go_simp) ?_; refine Wp.skip ?_; refine blockK_normal ?_; refine thenK_normal ?_; refine Wp.loneRegion (.inl rfl) (by kernel_rfl) fun K' gd hK hg => ?_; clear hg; go_simp; refine hK _ _ ?_; clear hK K' gd; refine Ends.keep [0, 1, 7, 8] fun r9 hkeep => ?_; obtain ⟨e0_9, e1_9, e7_9, e8_9, -⟩ := hkeep; simp [go_sem, e0_7, e1_7, e5_7, e7_7, e8_7, e16_7] at e0_9 e1_9 e7_9 e8_9; clear e0_7 e1_7 e5_7 e7_7 e8_7 e16_7; refine Ends.mk ?_; refine thenK_normal ⟨by omega, ⟨by rw [e0_9, e0_3], by rw [e1_9, e1_3], by rw [e7_9, e7_3], trivial⟩, rfl, ?_⟩; refine ⟨by rw [e8_9, IntWalk.i64_in _ (by omega)]; rfl, ?_, hE.trans hE2⟩; rw [List.take_add_one, List.getElem?_eq_getElem h, List.any_append, hn]; simpa using hq
    · refine Wp.condF (by go_simp) ?_; refine Wp.exit ?_; refine thenK_exit ?_; refine thenK_exit ?_; refine blockK_here ?_; refine thenK_normal ?_; refine Wp.seqRegion (.inl rfl) (by kernel_rfl) fun K' gd hK hg => ?_; clear hg; go_simp; refine hK _ _ ?_; clear hK K' gd; refine Wp.keep [4] fun r10 hkeep => ?_; obtain ⟨e4_10, -⟩ := hkeep; simp [go_sem, e0_5, e1_5, e7_5, e8_5, e9_5] at e4_10; clear e0_5 e1_5 e7_5 e8_5 e9_5; refine Wp.ret ?_; refine endK_tmp Tryz.results138 (by decide) ?_; rw [e4_10]; obtain rfl : k = xs.length := by omega
      rw [List.take_length] at hn; exact ⟨_, rfl, by rw [hn]; rfl, hE⟩
theorem containsI_c (v : Value) (xs : List Int) (p : Int → Bool) (gf : Nat) (w : World) (hx : IntsV w w.heap.size v xs) (hl : xs.length ≤ 1000000000000000)
    (heg : ∀ args w, (callFunc gf args).run Tryz.prog w = .ok (.enter gf args) w)
    (hp : ∀ x W, Ext w W → CallsV Tryz.prog gf #[.int .i64 x] W fun v W' => v = .bool (p x) ∧ Ext W W') :
    CallsV Tryz.prog 85 #[v, .func (.func gf) #[] #[]] w fun v w' => v = .bool (xs.any p) ∧ Ext w w' := by
  refine Wp.fn Tryz.func85 rfl Tryz.ntmps85 (by simp) ?_; refine Wp.keep [0, 1] fun r1 hkeep => ?_; obtain ⟨e0_1, e1_1, -⟩ := hkeep; simp [go_sem] at e0_1 e1_1; refine Wp.seqRegion (.inl rfl) (by kernel_rfl) fun K' gd hK hg => ?_; clear hg; go_simp; refine hK _ _ ?_; clear hK K' gd; refine Wp.keep [0, 1] fun r2 hkeep => ?_; obtain ⟨e0_2, e1_2, -⟩ := hkeep; simp [go_sem, e0_1, e1_1] at e0_2 e1_2; clear e0_1 e1_1; refine Wp.seqRegion (.inl rfl) (by kernel_rfl) fun K' gd hK hg => ?_; clear hg; go_simp; refine Wcall (.inl rfl) (indexI_c v xs p gf w hx hl heg hp) ?_; rintro v w2 ⟨r, rfl, hr, hE⟩; go_simp; refine hK _ _ ?_; clear hK K' gd; refine Wp.keep [4] fun r3 hkeep => ?_; obtain ⟨e4_3, -⟩ := hkeep; simp [go_sem, e0_2, e1_2] at e4_3; clear e0_2 e1_2; refine Wp.ret ?_; refine endK_tmp Tryz.results85 (by decide) ?_; rw [e4_3]; exact ⟨by rw [← hr], hE⟩
theorem within_T {n lo hi : Int} (h : lo ≤ n ∧ n ≤ hi) (w : World) : CallsV Tryz.prog 87 #[.int .i64 n, .int .i64 lo, .int .i64 hi] w fun v w' => v = .bool true ∧ w = w' :=
  (within_c n lo hi w).mono fun v w' ⟨h1, h2⟩ => ⟨by rw [h1, decide_eq_true h], h2⟩
theorem within_F {n lo hi : Int} (h : ¬ (lo ≤ n ∧ n ≤ hi)) (w : World) : CallsV Tryz.prog 87 #[.int .i64 n, .int .i64 lo, .int .i64 hi] w fun v w' => v = .bool false ∧ w = w' :=
  (within_c n lo hi w).mono fun v w' ⟨h1, h2⟩ => ⟨by rw [h1, decide_eq_false h], h2⟩
theorem check1_c (x : Int) (w : World) : CallsV Tryz.prog 86 #[.int .i64 x] w fun v w' => v = .bool (!decide (1 ≤ x ∧ x ≤ 20)) ∧ Ext w w' := by
  refine Wp.fn Tryz.func86 rfl Tryz.ntmps86 (by simp) ?_; refine Wp.keep [0] fun r1 hkeep => ?_; obtain ⟨e0_1, -⟩ := hkeep; simp [go_sem] at e0_1; refine Wp.seqRegion (.inl rfl) (by kernel_rfl) fun K' gd hK hg => ?_; clear hg; go_simp; refine hK _ _ ?_; clear hK K' gd; refine Wp.keep [0] fun r2 hkeep => ?_; obtain ⟨e0_2, -⟩ := hkeep; simp [go_sem, e0_1] at e0_2; clear e0_1; refine Wp.seqRegion (.inl rfl) (by kernel_rfl) fun K' gd hK hg => ?_; clear hg; go_simp; refine Wcall (.inl rfl) (within_c x 1 20 w) ?_; rintro v w2 ⟨rfl, rfl⟩; go_simp; refine hK _ _ ?_; clear hK K' gd; refine Wp.keep [2] fun r3 hkeep => ?_; obtain ⟨e2_3, -⟩ := hkeep; simp [go_sem, e0_2] at e2_3; clear e0_2; refine Wp.ret ?_; refine endK_tmp Tryz.results86 (by decide) ?_; rw [e2_3]; exact ⟨by rw [Bool.decide_and, Bool.not_and], Ext.refl _⟩
theorem check2_c (x : Int) (w : World) : CallsV Tryz.prog 88 #[.int .i64 x] w fun v w' => v = .bool (!decide (1 ≤ x ∧ x ≤ 60)) ∧ Ext w w' := by
  refine Wp.fn Tryz.func88 rfl Tryz.ntmps88 (by simp) ?_; refine Wp.keep [0] fun r1 hkeep => ?_; obtain ⟨e0_1, -⟩ := hkeep; simp [go_sem] at e0_1; refine Wp.seqRegion (.inl rfl) (by kernel_rfl) fun K' gd hK hg => ?_; clear hg; go_simp; refine hK _ _ ?_; clear hK K' gd; refine Wp.keep [0] fun r2 hkeep => ?_; obtain ⟨e0_2, -⟩ := hkeep; simp [go_sem, e0_1] at e0_2; clear e0_1; refine Wp.seqRegion (.inl rfl) (by kernel_rfl) fun K' gd hK hg => ?_; clear hg; go_simp; refine Wcall (.inl rfl) (within_c x 1 60 w) ?_; rintro v w2 ⟨rfl, rfl⟩; go_simp; refine hK _ _ ?_; clear hK K' gd; refine Wp.keep [2] fun r3 hkeep => ?_; obtain ⟨e2_3, -⟩ := hkeep; simp [go_sem, e0_2] at e2_3; clear e0_2; refine Wp.ret ?_; refine endK_tmp Tryz.results88 (by decide) ?_; rw [e2_3]; exact ⟨by rw [Bool.decide_and, Bool.not_and], Ext.refl _⟩
def RunsV (w : World) (B : Nat) (v : Value) (rs : List Run) : Prop :=
  ∃ (A : Option Addr) (c : Nat) (tv : Nat → Value), v = .slice A rs.length c ∧
    (rs ≠ [] → ∃ b o, A = some ⟨b, o, none⟩ ∧ b < B ∧ ∀ k (h : k < rs.length), w.cell? ⟨b, o + k * 3, none⟩ = some (.int .i64 rs[k].id) ∧ w.cell? ⟨b, o + k * 3 + 1, none⟩ = some (.int .i64 rs[k].arr) ∧ w.cell? ⟨b, o + k * 3 + 2, none⟩ = some (tv k)) ∧
    (∀ k (h : k < rs.length), IntsV w B (tv k) rs[k].takes) ∧ rs.length ≤ c
theorem RunsV.below {w w' : World} {B : Nat} {v : Value} {rs : List Run} (h : RunsV w B v rs) (hb : Below B w w') : RunsV w' B v rs := by
  obtain ⟨A, c, tv, hv, hx, ht, hcap⟩ := h; refine ⟨A, c, tv, hv, fun hne => ?_, fun k hk => (ht k hk).below hb, hcap⟩; obtain ⟨b, o, hA, hlt, hc⟩ := hx hne; exact ⟨b, o, hA, hlt, fun k hk => ⟨(hb.cell (p := ⟨b, o + k * 3, none⟩) hlt).trans (hc k hk).1, (hb.cell (p := ⟨b, o + k * 3 + 1, none⟩) hlt).trans (hc k hk).2.1, (hb.cell (p := ⟨b, o + k * 3 + 2, none⟩) hlt).trans (hc k hk).2.2⟩⟩
theorem RunsV.more {w : World} {B B' : Nat} {v : Value} {rs : List Run} (h : RunsV w B v rs) (hB : B ≤ B') : RunsV w B' v rs := by
  obtain ⟨A, c, tv, hv, hx, ht, hcap⟩ := h; refine ⟨A, c, tv, hv, fun hne => ?_, fun k hk => (ht k hk).more hB, hcap⟩; obtain ⟨b, o, hA, hlt, hc⟩ := hx hne; exact ⟨b, o, hA, by omega, hc⟩
theorem RunsV.ext {w w' : World} {v : Value} {rs : List Run} (h : RunsV w w.heap.size v rs) (hE : Ext w w') : RunsV w' w'.heap.size v rs := (h.below hE).more hE.size
theorem RunsV.take {w : World} {B : Nat} {A : Option Addr} {c k : Nat} {rs : List Run} (h : RunsV w B (.slice A rs.length c) rs) (hk : k ≤ rs.length) : RunsV w B (.slice A k c) (rs.take k) := by
  obtain ⟨A', c', tv, hv, hx, ht, hcap⟩ := h
  injection hv with h1 h2 h3; subst h1; subst h3
  have hlen : (rs.take k).length = k := by rw [List.length_take]; omega
  refine ⟨A, c, tv, by rw [hlen], fun hne => ?_, fun i hi => ?_, by omega⟩
  · obtain ⟨b, o, hA, hlt, hc⟩ := hx (by rintro rfl; simp at hne); exact ⟨b, o, hA, hlt, fun i hi => by rw [List.getElem_take]; exact hc i (by omega)⟩
  · rw [List.getElem_take]; exact ht i (by omega)
def OrderV (w : World) (B : Nat) (v : Value) (o : Ord) : Prop := ∃ cv rv, v = .agg #[cv, rv] ∧ IntsV w B cv o.cop ∧ RunsV w B rv o.runs
theorem OrderV.below {w w' : World} {B : Nat} {v : Value} {o : Ord} (h : OrderV w B v o) (hb : Below B w w') : OrderV w' B v o := by
  obtain ⟨cv, rv, hv, h1, h2⟩ := h; exact ⟨cv, rv, hv, h1.below hb, h2.below hb⟩
theorem OrderV.more {w : World} {B B' : Nat} {v : Value} {o : Ord} (h : OrderV w B v o) (hB : B ≤ B') : OrderV w B' v o := by
  obtain ⟨cv, rv, hv, h1, h2⟩ := h; exact ⟨cv, rv, hv, h1.more hB, h2.more hB⟩
theorem OrderV.ext {w w' : World} {v : Value} {o : Ord} (h : OrderV w w.heap.size v o) (hE : Ext w w') : OrderV w' w'.heap.size v o := (h.below hE).more hE.size
theorem indexR_c (v : Value) (rs : List Run) (p : Run → Bool) (gf : Nat) (lb : Array Value) (w : World) (hx : RunsV w w.heap.size v rs) (hl : rs.length ≤ 1000000000000000)
    (heg : ∀ args w, (callFunc gf args).run Tryz.prog w = .ok (.enter gf args) w)
    (hp : ∀ k (h : k < rs.length) tv W, IntsV W W.heap.size tv rs[k].takes → Ext w W → CallsV Tryz.prog gf (#[.agg #[.int .i64 rs[k].id, .int .i64 rs[k].arr, tv]] ++ lb) W fun v W' => v = .bool (p rs[k]) ∧ Ext W W') :
    CallsV Tryz.prog 139 #[v, .func (.func gf) #[] lb] w fun v w' => ∃ r : Int, v = .int .i64 r ∧ decide (0 ≤ r) = rs.any p ∧ Ext w w' := by
  obtain ⟨A, c, tv, rfl, hx, ht, -⟩ := hx; refine Wp.fn Tryz.func139 rfl Tryz.ntmps139 (by simp) ?_; refine Wp.keep [0, 1] fun r1 hkeep => ?_; obtain ⟨e0_1, e1_1, -⟩ := hkeep; simp [go_sem] at e0_1 e1_1; refine Wp.seqRegion (.inl rfl) (by kernel_rfl) fun K' gd hK hg => ?_; clear hg; go_simp; refine hK _ _ ?_; clear hK K' gd; refine Wp.keep [0, 1] fun r2 hkeep => ?_; obtain ⟨e0_2, e1_2, -⟩ := hkeep; simp [go_sem, e0_1, e1_1] at e0_2 e1_2; clear e0_1 e1_1; refine Wp.seq ?_; refine Wp.seqRegion (.inl rfl) (by kernel_rfl) fun K' gd hK hg => ?_; clear hg; go_simp; refine hK _ _ ?_; clear hK K' gd; refine Wp.keep [0, 1, 7, 8] fun r3 hkeep => ?_; obtain ⟨e0_3, e1_3, e7_3, e8_3, -⟩ := hkeep; simp [go_sem, e0_2, e1_2] at e0_3 e1_3 e7_3 e8_3; clear e0_2 e1_2; refine Wp.block ?_; refine Wp.loop (fun k ρ ds wk => AllEq [0, 1, 7] ρ r3 ∧ ds = [] ∧ (ρ 8 = .int .i64 (k : Int) ∧ (rs.take k).any p = false ∧ Ext w wk)) (rs.length) ?_ ?_
  · refine ⟨AllEq.refl _ _, rfl, ?_⟩; exact ⟨by rw [e8_3]; rfl, by simp, Ext.refl w⟩
  · rintro k r4 _ wk hk ⟨hA, rfl, ⟨e8, hn, hE⟩⟩; obtain ⟨e0_4, e1_4, e7_4, -⟩ := hA; rw [e0_3] at e0_4; rw [e1_3] at e1_4; rw [e7_3] at e7_4; refine Wp.seqRegion (.inl rfl) (by kernel_rfl) fun K' gd hK hg => ?_; clear hg; go_simp; refine hK _ _ ?_; clear hK K' gd; refine Wp.keep [0, 1, 7, 8, 9] fun r5 hkeep => ?_; obtain ⟨e0_5, e1_5, e7_5, e8_5, e9_5, -⟩ := hkeep; simp [go_sem, e0_4, e1_4, e7_4, e8] at e0_5 e1_5 e7_5 e8_5 e9_5; clear e0_4 e1_4 e7_4 e8; refine Wp.seq ?_
    by_cases h : k < rs.length
    · refine Wp.condT (by go_simp) ?_; obtain ⟨b, o, rfl, hb, hc⟩ := hx (by intro e; rw [e] at h; exact absurd h (Nat.not_lt_zero _)); have c1 := hE.cell (hc k h).1; have c2 := hE.cell (hc k h).2.1; have c3 := hE.cell (hc k h).2.2; refine Wp.skip ?_; refine thenK_normal ?_; refine Wp.seq ?_; refine Wp.block ?_; refine Wp.seqRegion (.inl rfl) (by kernel_rfl) fun K' gd hK hg => ?_; clear hg; go_simp; refine hK _ _ ?_; clear hK K' gd; refine Wp.keep [0, 1, 5, 7, 8] fun r6 hkeep => ?_; obtain ⟨e0_6, e1_6, e5_6, e7_6, e8_6, -⟩ := hkeep; simp [go_sem, e0_5, e1_5, e7_5, e8_5, e9_5] at e0_6 e1_6 e5_6 e7_6 e8_6; clear e0_5 e1_5 e7_5 e8_5 e9_5; refine Wp.seqRegion (.inl rfl) (by kernel_rfl) fun K' gd hK hg => ?_; clear hg; go_simp; refine Wcall (.inl rfl) (hp k h (tv k) _ ((ht k h).ext hE) hE) ?_; rintro v w2 ⟨rfl, hE2⟩; go_simp; refine hK _ _ ?_; clear hK K' gd; refine Wp.keep [0, 1, 5, 7, 8, 16] fun r7 hkeep => ?_; obtain ⟨e0_7, e1_7, e5_7, e7_7, e8_7, e16_7, -⟩ := hkeep; simp [go_sem, e0_6, e1_6, e5_6, e7_6, e8_6] at e0_7 e1_7 e5_7 e7_7 e8_7 e16_7; clear e0_6 e1_6 e5_6 e7_6 e8_6
      by_cases hq : p rs[k] = true
      · refine Wp.condT (by go_simp) ?_; refine Wp.seqRegion (.inl rfl) (by kernel_rfl) fun K' gd hK hg => ?_; clear hg; go_simp; refine hK _ _ ?_; clear hK K' gd; refine Wp.keep [4] fun r8 hkeep => ?_; obtain ⟨e4_8, -⟩ := hkeep; simp [go_sem, e0_7, e1_7, e5_7, e7_7, e8_7, e16_7] at e4_8; clear e0_7 e1_7 e5_7 e7_7 e8_7 e16_7; refine Wp.ret ?_; refine blockK_ret ?_; refine thenK_ret ?_; refine thenK_ret ?_; refine blockK_ret ?_; refine thenK_ret ?_; refine endK_tmp Tryz.results139 (by decide) ?_; rw [e4_8]; refine ⟨_, rfl, ?_, hE.trans hE2⟩; rw [List.any_eq_true.2 ⟨rs[k], List.getElem_mem h, hq⟩]; simp
      · refine Wp.condF (by go_simp) ?_; refine Wp.skip ?_; refine blockK_normal ?_; refine thenK_normal ?_; refine Wp.loneRegion (.inl rfl) (by kernel_rfl) fun K' gd hK hg => ?_; clear hg; go_simp; refine hK _ _ ?_; clear hK K' gd; refine Ends.keep [0, 1, 7, 8] fun r9 hkeep => ?_; obtain ⟨e0_9, e1_9, e7_9, e8_9, -⟩ := hkeep; simp [go_sem, e0_7, e1_7, e5_7, e7_7, e8_7, e16_7] at e0_9 e1_9 e7_9 e8_9; clear e0_7 e1_7 e5_7 e7_7 e8_7 e16_7; refine Ends.mk ?_; refine thenK_normal ⟨by omega, ⟨by rw [e0_9, e0_3], by rw [e1_9, e1_3], by rw [e7_9, e7_3], trivial⟩, rfl, ?_⟩; refine ⟨by rw [e8_9, IntWalk.i64_in _ (by omega)]; rfl, ?_, hE.trans hE2⟩; rw [List.take_add_one, List.getElem?_eq_getElem h, List.any_append, hn]; simpa using hq
    · refine Wp.condF (by go_simp) ?_; refine Wp.exit ?_; refine thenK_exit ?_; refine thenK_exit ?_; refine blockK_here ?_; refine thenK_normal ?_; refine Wp.seqRegion (.inl rfl) (by kernel_rfl) fun K' gd hK hg => ?_; clear hg; go_simp; refine hK _ _ ?_; clear hK K' gd; refine Wp.keep [4] fun r10 hkeep => ?_; obtain ⟨e4_10, -⟩ := hkeep; simp [go_sem, e0_5, e1_5, e7_5, e8_5, e9_5] at e4_10; clear e0_5 e1_5 e7_5 e8_5 e9_5; refine Wp.ret ?_; refine endK_tmp Tryz.results139 (by decide) ?_; rw [e4_10]; obtain rfl : k = rs.length := by omega
      rw [List.take_length] at hn; exact ⟨_, rfl, by rw [hn]; rfl, hE⟩
theorem containsR_c (v : Value) (rs : List Run) (p : Run → Bool) (gf : Nat) (lb : Array Value) (w : World) (hx : RunsV w w.heap.size v rs) (hl : rs.length ≤ 1000000000000000)
    (heg : ∀ args w, (callFunc gf args).run Tryz.prog w = .ok (.enter gf args) w)
    (hp : ∀ k (h : k < rs.length) tv W, IntsV W W.heap.size tv rs[k].takes → Ext w W → CallsV Tryz.prog gf (#[.agg #[.int .i64 rs[k].id, .int .i64 rs[k].arr, tv]] ++ lb) W fun v W' => v = .bool (p rs[k]) ∧ Ext W W') :
    CallsV Tryz.prog 89 #[v, .func (.func gf) #[] lb] w fun v w' => v = .bool (rs.any p) ∧ Ext w w' := by
  refine Wp.fn Tryz.func89 rfl Tryz.ntmps89 (by simp) ?_; refine Wp.keep [0, 1] fun r1 hkeep => ?_; obtain ⟨e0_1, e1_1, -⟩ := hkeep; simp [go_sem] at e0_1 e1_1; refine Wp.seqRegion (.inl rfl) (by kernel_rfl) fun K' gd hK hg => ?_; clear hg; go_simp; refine hK _ _ ?_; clear hK K' gd; refine Wp.keep [0, 1] fun r2 hkeep => ?_; obtain ⟨e0_2, e1_2, -⟩ := hkeep; simp [go_sem, e0_1, e1_1] at e0_2 e1_2; clear e0_1 e1_1; refine Wp.seqRegion (.inl rfl) (by kernel_rfl) fun K' gd hK hg => ?_; clear hg; go_simp; refine Wcall (.inl rfl) (indexR_c v rs p gf lb w hx hl heg hp) ?_; rintro v w2 ⟨r, rfl, hr, hE⟩; go_simp; refine hK _ _ ?_; clear hK K' gd; refine Wp.keep [4] fun r3 hkeep => ?_; obtain ⟨e4_3, -⟩ := hkeep; simp [go_sem, e0_2, e1_2] at e4_3; clear e0_2 e1_2; refine Wp.ret ?_; refine endK_tmp Tryz.results89 (by decide) ?_; rw [e4_3]; exact ⟨by rw [← hr], hE⟩
theorem check3_c (b : Nat) (x : Int) (y : Int) (z : Value) (i : Int) (w : World) (h : w.cell? ⟨b, 0, none⟩ = some (.int .i64 i)) : CallsV Tryz.prog 90 #[.agg #[.int .i64 x, .int .i64 y, z], .pointer (some ⟨b, 0, none⟩)] w fun v w' => v = .bool (decide (x = i)) ∧ Ext w w' := by
  refine Wp.fn Tryz.func90 rfl Tryz.ntmps90 (by simp) ?_; refine Wp.keep [0, 1] fun r1 hkeep => ?_; obtain ⟨e0_1, e1_1, -⟩ := hkeep; simp [go_sem] at e0_1 e1_1; refine Wp.seqRegion (.inl rfl) (by kernel_rfl) fun K' gd hK hg => ?_; clear hg; go_simp; refine hK _ _ ?_; clear hK K' gd; refine Wp.keep [1, 2] fun r2 hkeep => ?_; obtain ⟨e1_2, e2_2, -⟩ := hkeep; simp [go_sem, e0_1, e1_1] at e1_2 e2_2; clear e0_1 e1_1; refine Wp.seqRegion (.inl rfl) (by kernel_rfl) fun K' gd hK hg => ?_; clear hg; go_simp; refine hK _ _ ?_; clear hK K' gd; refine Wp.keep [3] fun r3 hkeep => ?_; obtain ⟨e3_3, -⟩ := hkeep; simp [go_sem, e1_2, e2_2] at e3_3; clear e1_2 e2_2; refine Wp.ret ?_; refine endK_tmp Tryz.results90 (by decide) ?_; rw [e3_3]; exact ⟨rfl, (Ext.refl _).alloc _⟩
end Go.Proofs.YtnfagcccgmakdaaGreat
namespace Go.Proofs.YtnfagcccgmakdaaGreat
open Go.RowKit Go.Wk Go.Proofs
attribute [local irreducible] Go.Wk.Wops Go.Wk.Wp
set_option maxHeartbeats 4000000
def bad60 (x : Int) : Bool := !decide (1 ≤ x ∧ x ≤ 60)
def bad20 (x : Int) : Bool := !decide (1 ≤ x ∧ x ≤ 20)
def checkRuns (m : Nat) (pre : List Run) : List Run → Int
  | [] => 0
  | r :: l => if ¬ (1 ≤ r.id ∧ r.id ≤ 1099511627776) then 1 else if ¬ (0 ≤ r.arr ∧ r.arr ≤ 730) then 1 else if r.takes.length ≠ m then 1 else if r.takes.any bad60 = true then 1 else
    if pre.any (fun x => decide (x.id = r.id)) = true then 6 else checkRuns m (pre ++ [r]) l
def checkS (o : Ord) : Int := if o.cop.length = 0 then 1 else if 15 < o.cop.length then 2 else if 20 < o.runs.length then 2 else if o.cop.any bad20 = true then 1 else checkRuns o.cop.length [] o.runs
theorem checkRuns_at {m : Nat} {rs : List Run} {k : Nat} (h : k < rs.length) : checkRuns m (rs.take k) (rs.drop k) =
    if ¬ (1 ≤ rs[k].id ∧ rs[k].id ≤ 1099511627776) then 1 else if ¬ (0 ≤ rs[k].arr ∧ rs[k].arr ≤ 730) then 1 else if rs[k].takes.length ≠ m then 1 else if rs[k].takes.any bad60 = true then 1 else
    if (rs.take k).any (fun x => decide (x.id = rs[k].id)) = true then 6 else checkRuns m (rs.take (k + 1)) (rs.drop (k + 1)) := by
  rw [List.drop_eq_getElem_cons h, checkRuns, List.take_add_one, List.getElem?_eq_getElem h]; rfl
def Fits (o : Ord) : Prop := o.cop.length ≤ 1000000000000000 ∧ o.runs.length ≤ 1000000000000000 ∧ ∀ k (h : k < o.runs.length), o.runs[k].takes.length ≤ 1000000000000000
theorem check_c (v : Value) (o : Ord) (w : World) (hV : OrderV w w.heap.size v o) (hf : Fits o) : CallsV Tryz.prog 24 #[v] w fun v w' => v = .int .i64 (checkS o) ∧ Ext w w' := by
  obtain ⟨cv, rv, rfl, hc, hr⟩ := hV; obtain ⟨hf1, hf2, hf3⟩ := hf; have hc0 := hc; have hr0 := hr; obtain ⟨cA, cc, rfl, hcx, hcap⟩ := hc; obtain ⟨rA, rc, tv, rfl, hrx, htv, hrap⟩ := hr; refine Wp.fn Tryz.func24 rfl Tryz.ntmps24 (by simp) ?_; refine Wp.keep [0] fun r1 hkeep => ?_; obtain ⟨e0_1, -⟩ := hkeep; simp [go_sem] at e0_1; refine Wp.seqRegion (.inl rfl) (by kernel_rfl) fun K' gd hK hg => ?_; clear hg; go_simp; refine hK _ _ ?_; clear hK K' gd; refine Wp.keep [1] fun r2 hkeep => ?_; obtain ⟨e1_2, -⟩ := hkeep; simp [go_sem, e0_1] at e1_2; clear e0_1; refine Wp.seq ?_; refine Wp.block ?_; refine Wp.seq ?_; refine Wp.block ?_; refine Wp.block ?_; refine Wp.seq ?_; refine Wp.block ?_; refine Wp.seq ?_; refine Wp.seq ?_; refine Wp.seqRegion (.inl rfl) (by kernel_rfl) fun K' gd hK hg => ?_; clear hg; go_simp; refine hK _ _ ?_; clear hK K' gd; refine Wp.keep [1, 6] fun r3 hkeep => ?_; obtain ⟨e1_3, e6_3, -⟩ := hkeep; simp [go_sem, e1_2] at e1_3 e6_3; clear e1_2
  by_cases g0 : o.cop.length = 0
  · refine Wp.condT (by go_simp) ?_; refine Wp.exit ?_; refine thenK_exit ?_; refine thenK_exit ?_; refine blockK_here ?_; refine thenK_normal ?_; refine Wp.seq ?_; refine Wp.seqRegion (.inl rfl) (by kernel_rfl) fun K' gd hK hg => ?_; clear hg; go_simp; refine hK _ _ ?_; clear hK K' gd; refine Wp.keep [2] fun r4 hkeep => ?_; obtain ⟨e2_4, -⟩ := hkeep; simp [go_sem, e1_3, e6_3] at e2_4; clear e1_3 e6_3; refine Wp.ret ?_; refine thenK_ret ?_; refine blockK_ret ?_; refine blockK_ret ?_; refine thenK_ret ?_; refine blockK_ret ?_; refine thenK_ret ?_; refine endK_tmp Tryz.results24 (by decide) ?_; rw [e2_4]; exact ⟨by rw [checkS, if_pos g0], (Ext.refl _).alloc _⟩
  · refine Wp.condF (by go_simp) ?_; refine Wp.skip ?_; refine thenK_normal ?_; refine Wp.seq ?_; refine Wp.seqRegion (.inl rfl) (by kernel_rfl) fun K' gd hK hg => ?_; clear hg; go_simp; refine hK _ _ ?_; clear hK K' gd; refine Wp.keep [1, 11] fun r5 hkeep => ?_; obtain ⟨e1_5, e11_5, -⟩ := hkeep; simp [go_sem, e1_3, e6_3] at e1_5 e11_5; clear e1_3 e6_3
    by_cases g1 : (15 : Int) < (o.cop.length : Int)
    · refine Wp.condT (by go_simp) ?_; refine Wp.exit ?_; refine thenK_exit ?_; refine thenK_exit ?_; refine blockK_on (by decide) ?_; refine thenK_exit ?_; refine blockK_here ?_; refine blockK_normal ?_; refine thenK_normal ?_; refine Wp.seq ?_; refine Wp.seqRegion (.inl rfl) (by kernel_rfl) fun K' gd hK hg => ?_; clear hg; go_simp; refine hK _ _ ?_; clear hK K' gd; refine Wp.keep [2] fun r6 hkeep => ?_; obtain ⟨e2_6, -⟩ := hkeep; simp [go_sem, e1_5, e11_5] at e2_6; clear e1_5 e11_5; refine Wp.ret ?_; refine thenK_ret ?_; refine blockK_ret ?_; refine thenK_ret ?_; refine endK_tmp Tryz.results24 (by decide) ?_; rw [e2_6]; exact ⟨by rw [checkS, if_neg g0, if_pos (by omega)], (Ext.refl _).alloc _⟩
    · refine Wp.condF (by go_simp) ?_; refine Wp.skip ?_; refine thenK_normal ?_; refine Wp.seqRegion (.inl rfl) (by kernel_rfl) fun K' gd hK hg => ?_; clear hg; go_simp; refine hK _ _ ?_; clear hK K' gd; refine Wp.keep [1, 16] fun r7 hkeep => ?_; obtain ⟨e1_7, e16_7, -⟩ := hkeep; simp [go_sem, e1_5, e11_5] at e1_7 e16_7; clear e1_5 e11_5
      by_cases g2 : (20 : Int) < (o.runs.length : Int)
      · refine Wp.condT (by go_simp) ?_; refine Wp.exit ?_; refine thenK_exit ?_; refine blockK_on (by decide) ?_; refine thenK_exit ?_; refine blockK_on (by decide) ?_; refine blockK_here ?_; refine thenK_normal ?_; refine Wp.seq ?_; refine Wp.seqRegion (.inl rfl) (by kernel_rfl) fun K' gd hK hg => ?_; clear hg; go_simp; refine hK _ _ ?_; clear hK K' gd; refine Wp.keep [2] fun r8 hkeep => ?_; obtain ⟨e2_8, -⟩ := hkeep; simp [go_sem, e1_7, e16_7] at e2_8; clear e1_7 e16_7; refine Wp.ret ?_; refine thenK_ret ?_; refine blockK_ret ?_; refine thenK_ret ?_; refine endK_tmp Tryz.results24 (by decide) ?_; rw [e2_8]; exact ⟨by rw [checkS, if_neg g0, if_neg (by omega), if_pos (by omega)], (Ext.refl _).alloc _⟩
      · refine Wp.condF (by go_simp) ?_; refine Wp.skip ?_; refine thenK_normal ?_; refine Wp.exit ?_; refine blockK_on (by decide) ?_; refine thenK_exit ?_; refine blockK_on (by decide) ?_; refine blockK_on (by decide) ?_; refine thenK_exit ?_; refine blockK_here ?_; refine thenK_normal ?_; refine Wp.seq ?_; refine Wp.seqRegion (.inl rfl) (by kernel_rfl) fun K' gd hK hg => ?_; clear hg; go_simp; refine Wcall (.inl rfl) (containsI_c _ o.cop bad20 86 _ (hc0.ext ((Ext.refl _).alloc _)) hf1 (enters_of Tryz.func86 (by kernel_rfl) rfl) (fun x W _ => check1_c x W)) ?_; rintro v w2 ⟨rfl, hE⟩; have c9 := hE.cellsS; go_simp; refine hK _ _ ?_; clear hK K' gd; refine Wp.keep [1, 23] fun r9 hkeep => ?_; obtain ⟨e1_9, e23_9, -⟩ := hkeep; simp [go_sem, e1_7, e16_7] at e1_9 e23_9; clear e1_7 e16_7
        by_cases g3 : o.cop.any bad20 = true
        · refine Wp.condT (by go_simp) ?_; refine Wp.seqRegion (.inl rfl) (by kernel_rfl) fun K' gd hK hg => ?_; clear hg; go_simp; refine hK _ _ ?_; clear hK K' gd; refine Wp.keep [2] fun r10 hkeep => ?_; obtain ⟨e2_10, -⟩ := hkeep; simp [go_sem, e1_9, e23_9] at e2_10; clear e1_9 e23_9; refine Wp.ret ?_; refine thenK_ret ?_; refine endK_tmp Tryz.results24 (by decide) ?_; rw [e2_10]; exact ⟨by rw [checkS, if_neg g0, if_neg (by omega), if_neg (by omega), if_pos g3], ((Ext.refl _).alloc _).trans hE⟩
        · refine Wp.condF (by go_simp) ?_; have hS : checkS o = checkRuns o.cop.length [] o.runs := by rw [checkS, if_neg g0, if_neg (by omega), if_neg (by omega), if_neg g3]
          refine Wp.skip ?_; refine thenK_normal ?_; refine Wp.seq ?_; refine Wp.seqRegion (.inl rfl) (by kernel_rfl) fun K' gd hK hg => ?_; clear hg; go_simp; refine hK _ _ ?_; clear hK K' gd; refine Wp.keep [1, 25, 26, 27] fun r11 hkeep => ?_; obtain ⟨e1_11, e25_11, e26_11, e27_11, -⟩ := hkeep; simp [go_sem, e1_9, e23_9] at e1_11 e25_11 e26_11 e27_11; clear e1_9 e23_9; refine Wp.block ?_; refine Wp.loop (fun k ρ ds wk => AllEq [1, 25, 26] ρ r11 ∧ ds = [] ∧ (ρ 27 = .int .i64 (k : Int) ∧ checkS o = checkRuns o.cop.length (o.runs.take k) (o.runs.drop k) ∧ Ext w wk ∧ wk.cell? ⟨w.heap.size, 0, none⟩ = some (.slice cA o.cop.length cc) ∧ wk.cell? ⟨w.heap.size, 1, none⟩ = some (.slice rA o.runs.length rc))) (o.runs.length) ?_ ?_
          · refine ⟨AllEq.refl _ _, rfl, ?_⟩; refine ⟨by rw [e27_11]; rfl, hS, ((Ext.refl _).alloc _).trans hE, hE.cell (cell_nw _ _ _ _), hE.cell (cell_nw _ _ _ _)⟩
          · rintro k r12 _ wk hk ⟨hA, rfl, ⟨e27, hs, hE3, q0, q1⟩⟩; obtain ⟨e1_12, e25_12, e26_12, -⟩ := hA; rw [e1_11] at e1_12; rw [e25_11] at e25_12; rw [e26_11] at e26_12; refine Wp.seqRegion (.inl rfl) (by kernel_rfl) fun K' gd hK hg => ?_; clear hg; go_simp; refine hK _ _ ?_; clear hK K' gd; refine Wp.keep [1, 25, 26, 27, 28] fun r13 hkeep => ?_; obtain ⟨e1_13, e25_13, e26_13, e27_13, e28_13, -⟩ := hkeep; simp [go_sem, e1_12, e25_12, e26_12, e27] at e1_13 e25_13 e26_13 e27_13 e28_13; clear e1_12 e25_12 e26_12 e27; refine Wp.seq ?_
            by_cases h : k < o.runs.length
            · refine Wp.condT (by go_simp) ?_; clear c9 hE; obtain ⟨b, off, rfl, hb, hxc⟩ := hrx (by intro e; rw [e] at h; exact absurd h (Nat.not_lt_zero _)); have c1 := hE3.cell (hxc k h).1; have c2 := hE3.cell (hxc k h).2.1; have c3 := hE3.cell (hxc k h).2.2; rw [checkRuns_at h] at hs; have hIV := ((htv k h).ext hE3).ext ((Ext.refl _).alloc (.cells #[.int .i64 o.runs[k].id, .int .i64 o.runs[k].arr, tv k] 103)); have hx3 := hf3 k h; obtain ⟨tA, tc, ht⟩ : ∃ tA tc, tv k = .slice tA o.runs[k].takes.length tc := by obtain ⟨tA, tc, ht, -⟩ := htv k h; exact ⟨tA, tc, ht⟩
              rw [ht] at hIV; refine Wp.skip ?_; refine thenK_normal ?_; refine Wp.seq ?_; refine Wp.block ?_; refine Wp.seqRegion (.inl rfl) (by kernel_rfl) fun K' gd hK hg => ?_; clear hg; go_simp; refine hK _ _ ?_; clear hK K' gd; refine Wp.keep [1, 3, 4, 25, 26, 27] fun r14 hkeep => ?_; obtain ⟨e1_14, e3_14, e4_14, e25_14, e26_14, e27_14, -⟩ := hkeep; simp [go_sem, e1_13, e25_13, e26_13, e27_13, e28_13] at e1_14 e3_14 e4_14 e25_14 e26_14 e27_14; clear e1_13 e25_13 e26_13 e27_13 e28_13; refine Wp.seqRegion (.inl rfl) (by kernel_rfl) fun K' gd hK hg => ?_; clear hg; go_simp; refine Wcall (.inl rfl) (containsI_c _ o.runs[k].takes bad60 88 _ hIV hx3 (enters_of Tryz.func88 (by kernel_rfl) rfl) (fun x W _ => check2_c x W)) ?_; rintro v w3 ⟨rfl, hE4⟩; have c9 := hE4.cellsS; go_simp; refine hK _ _ ?_; clear hK K' gd; refine Wp.keep [1, 3, 4, 5, 25, 26, 27] fun r15 hkeep => ?_; obtain ⟨e1_15, e3_15, e4_15, e5_15, e25_15, e26_15, e27_15, -⟩ := hkeep; simp [go_sem, e1_14, e3_14, e4_14, e25_14, e26_14, e27_14] at e1_15 e3_15 e4_15 e5_15 e25_15 e26_15 e27_15; clear e1_14 e3_14 e4_14 e25_14 e26_14 e27_14; have hkr : k ≤ rc := by omega
              have hE5 : Ext w w3 := (hE3.trans ((Ext.refl _).alloc _)).trans hE4
              by_cases k1 : 1 ≤ o.runs[k].id ∧ o.runs[k].id ≤ 1099511627776
              · skip
                by_cases k2 : 0 ≤ o.runs[k].arr ∧ o.runs[k].arr ≤ 730
                · skip
                  by_cases k3 : (o.runs[k].takes.length : Int) = (o.cop.length : Int)
                  · skip
                    by_cases k4 : o.runs[k].takes.any bad60 = true
                    · skip; refine Wp.seq ?_; refine Wp.seqRegion (.inl rfl) (by kernel_rfl) fun K' gd hK hg => ?_; have g4 : gd 4 = some 39 := hg 4; have g10 : gd 10 = some 45 := hg 10; have g19 : gd 19 = some 54 := hg 19; clear hg; go_simp; refine Wcall (.inl rfl) (within_T k1 _) ?_; rintro v w4 ⟨rfl, rfl⟩; go_simp; refine Wcall (.inl rfl) (within_T k2 _) ?_; rintro v w4 ⟨rfl, rfl⟩; go_simp; refine hK _ _ ?_; clear hK K' gd g4 g10 g19; refine Wp.keep [1, 3, 4, 25, 26, 27, 56] fun r16 hkeep => ?_; obtain ⟨e1_16, e3_16, e4_16, e25_16, e26_16, e27_16, e56_16, -⟩ := hkeep; simp [go_sem, e1_15, e3_15, e4_15, e5_15, e25_15, e26_15, e27_15] at e1_16 e3_16 e4_16 e25_16 e26_16 e27_16 e56_16; clear e1_15 e3_15 e4_15 e5_15 e25_15 e26_15 e27_15; refine Wp.condT (by go_simp) ?_; refine Wp.seqRegion (.inl rfl) (by kernel_rfl) fun K' gd hK hg => ?_; clear hg; go_simp; refine hK _ _ ?_; clear hK K' gd; refine Wp.keep [2] fun r17 hkeep => ?_; obtain ⟨e2_17, -⟩ := hkeep; simp [go_sem, e1_16, e3_16, e4_16, e25_16, e26_16, e27_16, e56_16] at e2_17; clear e1_16 e3_16 e4_16 e25_16 e26_16 e27_16 e56_16; refine Wp.ret ?_; refine thenK_ret ?_; refine blockK_ret ?_; refine thenK_ret ?_; refine thenK_ret ?_; refine blockK_ret ?_; refine thenK_ret ?_; refine endK_tmp Tryz.results24 (by decide) ?_; rw [e2_17]; exact ⟨by rw [hs, if_neg (not_not_intro k1), if_neg (not_not_intro k2), if_neg (not_not_intro (by omega)), if_pos k4], hE5⟩
                    · skip; refine Wp.seq ?_; refine Wp.seqRegion (.inl rfl) (by kernel_rfl) fun K' gd hK hg => ?_; have g4 : gd 4 = some 39 := hg 4; have g10 : gd 10 = some 45 := hg 10; have g19 : gd 19 = some 54 := hg 19; clear hg; go_simp; refine Wcall (.inl rfl) (within_T k1 _) ?_; rintro v w4 ⟨rfl, rfl⟩; go_simp; refine Wcall (.inl rfl) (within_T k2 _) ?_; rintro v w4 ⟨rfl, rfl⟩; go_simp; refine hK _ _ ?_; clear hK K' gd g4 g10 g19; refine Wp.keep [1, 3, 4, 25, 26, 27, 56] fun r18 hkeep => ?_; obtain ⟨e1_18, e3_18, e4_18, e25_18, e26_18, e27_18, e56_18, -⟩ := hkeep; simp [go_sem, e1_15, e3_15, e4_15, e5_15, e25_15, e26_15, e27_15] at e1_18 e3_18 e4_18 e25_18 e26_18 e27_18 e56_18; clear e1_15 e3_15 e4_15 e5_15 e25_15 e26_15 e27_15; refine Wp.condF (by go_simp) ?_; have q5 : w3.cell? ⟨wk.heap.size, 0, none⟩ = some (.int .i64 o.runs[k].id) := hE4.cell (cell_nw wk _ _ _); have q00 := hE4.cell (cell_al _ q0); have q01 := hE4.cell (cell_al _ q1); refine Wp.skip ?_; refine thenK_normal ?_; refine Wp.seqRegion (.inl rfl) (by kernel_rfl) fun K' gd hK hg => ?_; clear hg; go_simp; refine Wcall (.inl rfl) (containsR_c _ (o.runs.take k) (fun x => decide (x.id = o.runs[k].id)) 90 #[.pointer (some ⟨wk.heap.size, 0, none⟩)] w3 ((hr0.take hk).ext hE5) (by rw [List.length_take]; omega) (enters_of Tryz.func90 (by kernel_rfl) rfl) (fun k' h' tv' W _ hW => check3_c _ _ _ _ _ W (hW.cell q5))) ?_; rintro v w5 ⟨rfl, hE6⟩; go_simp; refine hK _ _ ?_; clear hK K' gd; refine Wp.keep [1, 25, 26, 27, 62] fun r19 hkeep => ?_
                      obtain ⟨e1_19, e25_19, e26_19, e27_19, e62_19, -⟩ := hkeep; simp [go_sem, e1_18, e3_18, e4_18, e25_18, e26_18, e27_18, e56_18] at e1_19 e25_19 e26_19 e27_19 e62_19; clear e1_18 e3_18 e4_18 e25_18 e26_18 e27_18 e56_18
                      by_cases k5 : (o.runs.take k).any (fun x => decide (x.id = o.runs[k].id)) = true
                      · refine Wp.condT (by go_simp) ?_; refine Wp.seqRegion (.inl rfl) (by kernel_rfl) fun K' gd hK hg => ?_; clear hg; go_simp; refine hK _ _ ?_; clear hK K' gd; refine Wp.keep [2] fun r20 hkeep => ?_; obtain ⟨e2_20, -⟩ := hkeep; simp [go_sem, e1_19, e25_19, e26_19, e27_19, e62_19] at e2_20; clear e1_19 e25_19 e26_19 e27_19 e62_19; refine Wp.ret ?_; refine blockK_ret ?_; refine thenK_ret ?_; refine thenK_ret ?_; refine blockK_ret ?_; refine thenK_ret ?_; refine endK_tmp Tryz.results24 (by decide) ?_; rw [e2_20]; exact ⟨by rw [hs, if_neg (not_not_intro k1), if_neg (not_not_intro k2), if_neg (not_not_intro (by omega)), if_neg k4, if_pos k5], hE5.trans hE6⟩
                      · refine Wp.condF (by go_simp) ?_; refine Wp.skip ?_; refine blockK_normal ?_; refine thenK_normal ?_; refine Wp.loneRegion (.inl rfl) (by kernel_rfl) fun K' gd hK hg => ?_; clear hg; go_simp; refine hK _ _ ?_; clear hK K' gd; refine Ends.keep [1, 25, 26, 27] fun r21 hkeep => ?_; obtain ⟨e1_21, e25_21, e26_21, e27_21, -⟩ := hkeep; simp [go_sem, e1_19, e25_19, e26_19, e27_19, e62_19] at e1_21 e25_21 e26_21 e27_21; clear e1_19 e25_19 e26_19 e27_19 e62_19; refine Ends.mk ?_; refine thenK_normal ⟨by omega, ⟨by rw [e1_21, e1_11], by rw [e25_21, e25_11], by rw [e26_21, e26_11], trivial⟩, rfl, ?_⟩; refine ⟨by rw [e27_21, IntWalk.i64_in _ (by omega)]; rfl, ?_, hE5.trans hE6, hE6.cell q00, hE6.cell q01⟩; rw [hs, if_neg (not_not_intro k1), if_neg (not_not_intro k2), if_neg (not_not_intro (by omega)), if_neg k4, if_neg k5]
                  · skip; refine Wp.seq ?_; refine Wp.seqRegion (.inl rfl) (by kernel_rfl) fun K' gd hK hg => ?_; have g4 : gd 4 = some 39 := hg 4; have g10 : gd 10 = some 45 := hg 10; have g19 : gd 19 = some 54 := hg 19; clear hg; go_simp; refine Wcall (.inl rfl) (within_T k1 _) ?_; rintro v w4 ⟨rfl, rfl⟩; go_simp; refine Wcall (.inl rfl) (within_T k2 _) ?_; rintro v w4 ⟨rfl, rfl⟩; go_simp; refine hK _ _ ?_; clear hK K' gd g4 g10 g19; refine Wp.keep [1, 3, 4, 25, 26, 27, 56] fun r22 hkeep => ?_; obtain ⟨e1_22, e3_22, e4_22, e25_22, e26_22, e27_22, e56_22, -⟩ := hkeep; simp [go_sem, e1_15, e3_15, e4_15, e5_15, e25_15, e26_15, e27_15] at e1_22 e3_22 e4_22 e25_22 e26_22 e27_22 e56_22; clear e1_15 e3_15 e4_15 e5_15 e25_15 e26_15 e27_15; refine Wp.condT (by go_simp) ?_; refine Wp.seqRegion (.inl rfl) (by kernel_rfl) fun K' gd hK hg => ?_; clear hg; go_simp; refine hK _ _ ?_; clear hK K' gd; refine Wp.keep [2] fun r23 hkeep => ?_; obtain ⟨e2_23, -⟩ := hkeep; simp [go_sem, e1_22, e3_22, e4_22, e25_22, e26_22, e27_22, e56_22] at e2_23; clear e1_22 e3_22 e4_22 e25_22 e26_22 e27_22 e56_22; refine Wp.ret ?_; refine thenK_ret ?_; refine blockK_ret ?_; refine thenK_ret ?_; refine thenK_ret ?_; refine blockK_ret ?_; refine thenK_ret ?_; refine endK_tmp Tryz.results24 (by decide) ?_; rw [e2_23]; exact ⟨by rw [hs, if_neg (not_not_intro k1), if_neg (not_not_intro k2), if_pos (by omega)], hE5⟩
                · skip; refine Wp.seq ?_; refine Wp.seqRegion (.inl rfl) (by kernel_rfl) fun K' gd hK hg => ?_; have g4 : gd 4 = some 39 := hg 4; have g10 : gd 10 = some 45 := hg 10; have g19 : gd 19 = some 54 := hg 19; clear hg; go_simp; refine Wcall (.inl rfl) (within_T k1 _) ?_; rintro v w4 ⟨rfl, rfl⟩; go_simp; refine Wcall (.inl rfl) (within_F k2 _) ?_; rintro v w4 ⟨rfl, rfl⟩; go_simp; refine hK _ _ ?_; clear hK K' gd g4 g10 g19; refine Wp.keep [1, 3, 4, 25, 26, 27, 56] fun r24 hkeep => ?_; obtain ⟨e1_24, e3_24, e4_24, e25_24, e26_24, e27_24, e56_24, -⟩ := hkeep; simp [go_sem, e1_15, e3_15, e4_15, e5_15, e25_15, e26_15, e27_15] at e1_24 e3_24 e4_24 e25_24 e26_24 e27_24 e56_24; clear e1_15 e3_15 e4_15 e5_15 e25_15 e26_15 e27_15; refine Wp.condT (by go_simp) ?_; refine Wp.seqRegion (.inl rfl) (by kernel_rfl) fun K' gd hK hg => ?_; clear hg; go_simp; refine hK _ _ ?_; clear hK K' gd; refine Wp.keep [2] fun r25 hkeep => ?_; obtain ⟨e2_25, -⟩ := hkeep; simp [go_sem, e1_24, e3_24, e4_24, e25_24, e26_24, e27_24, e56_24] at e2_25; clear e1_24 e3_24 e4_24 e25_24 e26_24 e27_24 e56_24; refine Wp.ret ?_; refine thenK_ret ?_; refine blockK_ret ?_; refine thenK_ret ?_; refine thenK_ret ?_; refine blockK_ret ?_; refine thenK_ret ?_; refine endK_tmp Tryz.results24 (by decide) ?_; rw [e2_25]; exact ⟨by rw [hs, if_neg (not_not_intro k1), if_pos k2], hE5⟩
              · skip; refine Wp.seq ?_; refine Wp.seqRegion (.inl rfl) (by kernel_rfl) fun K' gd hK hg => ?_; have g4 : gd 4 = some 39 := hg 4; have g10 : gd 10 = some 45 := hg 10; have g19 : gd 19 = some 54 := hg 19; clear hg; go_simp; refine Wcall (.inl rfl) (within_F k1 _) ?_; rintro v w4 ⟨rfl, rfl⟩; go_simp; refine hK _ _ ?_; clear hK K' gd g4 g10 g19; refine Wp.keep [1, 3, 4, 25, 26, 27, 56] fun r26 hkeep => ?_; obtain ⟨e1_26, e3_26, e4_26, e25_26, e26_26, e27_26, e56_26, -⟩ := hkeep; simp [go_sem, e1_15, e3_15, e4_15, e5_15, e25_15, e26_15, e27_15] at e1_26 e3_26 e4_26 e25_26 e26_26 e27_26 e56_26; clear e1_15 e3_15 e4_15 e5_15 e25_15 e26_15 e27_15; refine Wp.condT (by go_simp) ?_; refine Wp.seqRegion (.inl rfl) (by kernel_rfl) fun K' gd hK hg => ?_; clear hg; go_simp; refine hK _ _ ?_; clear hK K' gd; refine Wp.keep [2] fun r27 hkeep => ?_; obtain ⟨e2_27, -⟩ := hkeep; simp [go_sem, e1_26, e3_26, e4_26, e25_26, e26_26, e27_26, e56_26] at e2_27; clear e1_26 e3_26 e4_26 e25_26 e26_26 e27_26 e56_26; refine Wp.ret ?_; refine thenK_ret ?_; refine blockK_ret ?_; refine thenK_ret ?_; refine thenK_ret ?_; refine blockK_ret ?_; refine thenK_ret ?_; refine endK_tmp Tryz.results24 (by decide) ?_; rw [e2_27]; exact ⟨by rw [hs, if_pos k1], hE5⟩
            · refine Wp.condF (by go_simp) ?_; refine Wp.exit ?_; refine thenK_exit ?_; refine thenK_exit ?_; refine blockK_here ?_; refine thenK_normal ?_; refine Wp.seqRegion (.inl rfl) (by kernel_rfl) fun K' gd hK hg => ?_; clear hg; go_simp; refine hK _ _ ?_; clear hK K' gd; refine Wp.keep [2] fun r28 hkeep => ?_; obtain ⟨e2_28, -⟩ := hkeep; simp [go_sem, e1_13, e25_13, e26_13, e27_13, e28_13] at e2_28; clear e1_13 e25_13 e26_13 e27_13 e28_13; refine Wp.ret ?_; refine endK_tmp Tryz.results24 (by decide) ?_; rw [e2_28]; exact ⟨by rw [hs, show k = o.runs.length by omega, List.drop_length]; rfl, hE3⟩
end Go.Proofs.YtnfagcccgmakdaaGreat
namespace Go.Proofs.YtnfagcccgmakdaaGreat
open Go.RowKit Go.Wk Go.Proofs
attribute [local irreducible] Go.Wk.Wops Go.Wk.Wp
set_option maxHeartbeats 4000000
structure RunOk (m : Nat) (r : Run) : Prop where
  id : 1 ≤ r.id ∧ r.id ≤ 1099511627776
  arr : 0 ≤ r.arr ∧ r.arr ≤ 730
  len : r.takes.length = m
  takes : ∀ x ∈ r.takes, 1 ≤ x ∧ x ≤ 60
theorem any_bad60 {l : List Int} : l.any bad60 = false ↔ ∀ x ∈ l, 1 ≤ x ∧ x ≤ 60 := by
  simp only [List.any_eq_false, bad60, Bool.not_eq_true', decide_eq_false_iff_not, Classical.not_not]
theorem any_bad20 {l : List Int} : l.any bad20 = false ↔ ∀ x ∈ l, 1 ≤ x ∧ x ≤ 20 := by
  simp only [List.any_eq_false, bad20, Bool.not_eq_true', decide_eq_false_iff_not, Classical.not_not]
theorem checkRuns_zero (m : Nat) : ∀ (rs pre : List Run), checkRuns m pre rs = 0 ↔ (∀ r ∈ rs, RunOk m r) ∧ (∀ r ∈ rs, ∀ x ∈ pre, x.id ≠ r.id) ∧ (rs.map (·.id)).Nodup
  | [], pre => by simp [checkRuns]
  | r :: l, pre => by
    unfold checkRuns; have ih := checkRuns_zero m l (pre ++ [r])
    constructor
    · intro h
      split at h
      · cases h
      rename_i h1
      split at h
      · cases h
      rename_i h2
      split at h
      · cases h
      rename_i h3
      split at h
      · cases h
      rename_i h4
      split at h
      · cases h
      rename_i h5
      obtain ⟨i1, i2, i3⟩ := ih.1 h; have h4 := any_bad60.1 (Bool.eq_false_iff.2 h4)
      have h5 : ∀ x ∈ pre, x.id ≠ r.id := by
        intro x hx e; exact h5 (List.any_eq_true.2 ⟨x, hx, by simpa using e⟩)
      refine ⟨?_, ?_, ?_⟩
      · intro x hx
        rcases List.mem_cons.1 hx with rfl | hx
        · exact ⟨Classical.not_not.1 h1, Classical.not_not.1 h2, Classical.not_not.1 h3, h4⟩
        · exact i1 x hx
      · intro x hx y hy
        rcases List.mem_cons.1 hx with rfl | hx
        · exact h5 y hy
        · exact i2 x hx y (List.mem_append_left _ hy)
      · rw [List.map_cons, List.nodup_cons]; refine ⟨?_, i3⟩; intro hm; obtain ⟨x, hx, e⟩ := List.mem_map.1 hm; exact i2 x hx r (List.mem_append_right _ (List.mem_singleton.2 rfl)) e.symm
    · rintro ⟨h1, h2, h3⟩; have hr := h1 r (List.mem_cons_self); rw [List.map_cons, List.nodup_cons] at h3; rw [if_neg (Classical.not_not.2 hr.id), if_neg (Classical.not_not.2 hr.arr), if_neg (Classical.not_not.2 hr.len), if_neg (by rw [any_bad60.2 hr.takes]; decide), if_neg, ih]
      · refine ⟨fun x hx => h1 x (List.mem_cons_of_mem _ hx), fun x hx y hy => ?_, h3.2⟩
        rcases List.mem_append.1 hy with hy | hy
        · exact h2 x (List.mem_cons_of_mem _ hx) y hy
        · rw [List.mem_singleton] at hy; subst hy; intro e; exact h3.1 (List.mem_map.2 ⟨x, hx, e.symm⟩)
      · intro h; obtain ⟨x, hx, e⟩ := List.any_eq_true.1 h; exact h2 r (List.mem_cons_self) x hx (by simpa using e)
structure OrdGood (o : Ord) : Prop where
  m1 : 1 ≤ o.cop.length
  m2 : o.cop.length ≤ 15
  n2 : o.runs.length ≤ 20
  cop : ∀ x ∈ o.cop, 1 ≤ x ∧ x ≤ 20
  runs : ∀ r ∈ o.runs, RunOk o.cop.length r
  ids : (o.runs.map (·.id)).Nodup
theorem checkS_zero {o : Ord} : checkS o = 0 ↔ OrdGood o := by
  unfold checkS
  constructor
  · intro h
    split at h
    · cases h
    split at h
    · cases h
    split at h
    · cases h
    split at h
    · cases h
    rename_i h4
    obtain ⟨i1, -, i3⟩ := (checkRuns_zero _ _ _).1 h; exact ⟨by omega, by omega, by omega, any_bad20.1 (Bool.eq_false_iff.2 h4), i1, i3⟩
  · intro h; have := h.m1; have := h.m2; have := h.n2; rw [if_neg (by omega), if_neg (by omega), if_neg (by omega), if_neg (by rw [any_bad20.2 h.cop]; decide), checkRuns_zero]; exact ⟨h.runs, by simp, h.ids⟩
theorem OrdGood.ok {o : Ord} (h : OrdGood o) : OrdOk o := by
  refine ⟨h.m1, h.m2, h.n2, fun j hj => ?_, fun i hi => ?_, fun i j hi hj => ?_⟩
  · unfold Ord.C; rw [List.getElem?_eq_getElem hj]; exact h.cop _ (List.getElem_mem hj)
  · unfold Ord.A; rw [List.getElem?_eq_getElem hi]; exact (h.runs _ (List.getElem_mem hi)).arr
  · have hi' : i < o.runs.length := hi; have hr := h.runs _ (List.getElem_mem hi'); unfold Ord.T; rw [List.getElem?_eq_getElem hi', Option.getD_some, List.getElem?_eq_getElem (show j < o.runs[i].takes.length by rw [hr.len]; exact hj)]; exact hr.takes _ (List.getElem_mem _)
theorem OrdGood.fits {o : Ord} (h : OrdGood o) : Fits o := ⟨by have := h.m2; omega, by have := h.n2; omega, fun k hk => by rw [(h.runs _ (List.getElem_mem hk)).len]; have := h.m2; omega⟩
theorem OrderV.ordF {w : World} {B : Nat} {v : Value} {o : Ord} (h : OrderV w B v o) (hg : OrdGood o) : ∃ a : OA, v = .agg #[a.cv o, a.rv o] ∧ OrdF w B a o := by
  obtain ⟨cv, rv, rfl, ⟨cA, cc, rfl, hcx, hcc⟩, ⟨rA, rc, tv, rfl, hrx, htv, hrc⟩⟩ := h; have hm1 := hg.m1; obtain ⟨cb, co, rfl, hcb, hcx⟩ := hcx (by intro e; rw [e] at hm1; simp at hm1)
  have ht : ∀ k, ∃ x : Nat × Nat × Nat, ∀ h : k < o.runs.length, tv k = .slice (some ⟨x.1, x.2.1, none⟩) o.m x.2.2 ∧ x.1 < B ∧ o.m ≤ x.2.2 ∧ ∀ j (hj : j < o.runs[k].takes.length), w.cell? ⟨x.1, x.2.1 + j, none⟩ = some (.int .i64 o.runs[k].takes[j]) := by
    intro k
    by_cases hk : k < o.runs.length
    · obtain ⟨tA, tc, h1, h2, h3⟩ := htv k hk; have hlen := (hg.runs _ (List.getElem_mem hk)).len; obtain ⟨b, of, rfl, hb, hx⟩ := h2 (by intro e; rw [e] at hlen; simp at hlen; omega); exact ⟨(b, of, tc), fun _ => ⟨by rw [h1, hlen]; rfl, hb, by show o.cop.length ≤ tc; omega, hx⟩⟩
    · exact ⟨(0, 0, 0), fun h => absurd h hk⟩
  obtain ⟨tf, ht⟩ := Classical.axiomOfChoice ht
  have hr : ∃ x : Nat × Nat, 0 < o.runs.length → rA = some ⟨x.1, x.2, none⟩ ∧ x.1 < B ∧ ∀ k (h : k < o.runs.length), w.cell? ⟨x.1, x.2 + k * 3, none⟩ = some (.int .i64 o.runs[k].id) ∧ w.cell? ⟨x.1, x.2 + k * 3 + 1, none⟩ = some (.int .i64 o.runs[k].arr) ∧ w.cell? ⟨x.1, x.2 + k * 3 + 2, none⟩ = some (tv k) := by
    by_cases hn : 0 < o.runs.length
    · obtain ⟨b, of, h1, h2, h3⟩ := hrx (by intro e; rw [e] at hn; simp at hn); exact ⟨(b, of), fun _ => ⟨h1, h2, h3⟩⟩
    · exact ⟨(0, 0), fun h => absurd h hn⟩
  obtain ⟨⟨rb, ro⟩, hr⟩ := hr; have ok := hg.ok; refine ⟨⟨cb, co, cc, rA, rb, ro, rc, fun i => (tf i).1, fun i => (tf i).2.1, fun i => (tf i).2.2⟩, rfl, ?_⟩; refine ⟨ok.hm1, ok.hm2, ok.hn2, fun j hj => ?_, fun hn => (hr hn).1, fun i hi => ?_, fun i hi => ?_, fun i hi => ?_, fun i j hi hj => ?_, hcb, fun hn => (hr hn).2.1, fun i hi => (ht i hi).2.1, hcc, hrc, fun i hi => (ht i hi).2.2.1, ok.vC, ok.vA, ok.vT⟩
  · unfold Ord.C; rw [List.getElem?_eq_getElem hj]; exact hcx j hj
  · unfold Ord.ID; rw [List.getElem?_eq_getElem hi]; exact ((hr (Nat.zero_lt_of_lt hi)).2.2 i hi).1
  · unfold Ord.A; rw [List.getElem?_eq_getElem hi]; exact ((hr (Nat.zero_lt_of_lt hi)).2.2 i hi).2.1
  · rw [← (ht i hi).1]; exact ((hr (Nat.zero_lt_of_lt hi)).2.2 i hi).2.2
  · have hi' : i < o.runs.length := hi; have hlen := (hg.runs _ (List.getElem_mem hi')).len; have hj2 : j < (o.runs[i]'hi').takes.length := by rw [hlen]; exact hj
    unfold Ord.T; rw [List.getElem?_eq_getElem hi', Option.getD_some, List.getElem?_eq_getElem hj2]; exact (ht i hi).2.2.2 j hj2
def endS (o : Ord) : Int := mostL o (begA o) 0 (stintsL o.n o.m)
theorem stintsL_mem {n m : Nat} {x : Nat × Nat} : x ∈ stintsL n m ↔ x.1 < n ∧ x.2 < m := by
  constructor
  · intro h; obtain ⟨k, hk⟩ := List.getElem?_of_mem h; exact ⟨(stintsL_at hk).2.2.1, (stintsL_at hk).2.2.2.1⟩
  · intro h; exact List.mem_of_getElem? (stintsL_get h.1 h.2)
theorem begA_ok {o : Ord} (ho : OrdOk o) {i j : Nat} (hi : i < o.n) (hj : j < o.m) : 0 ≤ begA o i j ∧ begA o i j ≤ 2770 := by rw [begA_eq hi hj]; exact beg_ok ho hi hj
theorem endS_ok {o : Ord} (ho : OrdOk o) : 0 ≤ endS o ∧ endS o ≤ 2830 := by
  refine ⟨mostL_ge, mostL_le (by omega) fun x hx => ?_⟩; obtain ⟨h1, h2⟩ := stintsL_mem.1 hx; have := (begA_ok ho h1 h2).2; have := (ho.vT x.1 x.2 h1 h2).2; omega
theorem end_c (a : OA) (o : Ord) (b : Nat) (w : World) (hO : OrdF w w.heap.size a o) (hR : RowF w b a o (begA o)) : CallsV Tryz.prog 72 #[.pointer (some ⟨b, 0, none⟩)] w fun v w' => v = .int .i64 (endS o) ∧ Ext w w' := by
  have ho := hO.ok; have c0 := hR.c0; have c1 := hR.c1; refine Wp.fn Tryz.func72 rfl Tryz.ntmps72 (by simp) ?_; refine Wp.keep [0] fun r1 hkeep => ?_; obtain ⟨e0_1, -⟩ := hkeep; simp [go_sem] at e0_1; refine Wp.seqRegion (.inl rfl) (by kernel_rfl) fun K' gd hK hg => ?_; clear hg; go_simp; refine hK _ _ ?_; clear hK K' gd; refine Wp.keep [0] fun r2 hkeep => ?_; obtain ⟨e0_2, -⟩ := hkeep; simp [go_sem, e0_1] at e0_2; clear e0_1; refine Wp.seqRegion (.inl rfl) (by kernel_rfl) fun K' gd hK hg => ?_; clear hg; go_simp; refine Wcall (.inl rfl) ((stints_c a o _)) ?_; rintro v w2 ⟨bx, rfl, hE, s0, s1⟩; go_simp; refine Wcall (.inl rfl) (most_c a o (begA o) b 0 135 _ _ _ w2 (stints_it (some ⟨a.cb, a.co, none⟩) a.rA o.n o.m a.cc a.rc bx (by have := hO.hn2; omega) (by have := hO.hm2; omega)) (enters_of Tryz.func135 (by kernel_rfl) rfl) (hO.ext hE) (hR.ext hE) (fun k x hx => by obtain ⟨h1, h2⟩ := stintsL_mem.1 (List.mem_of_getElem? hx); have := begA_ok ho h1 h2; exact ⟨h1, h2, by omega, by omega⟩) (fun W hB => ⟨Ext.cell hB s0, Ext.cell hB s1⟩)) ?_; rintro v w3 ⟨rfl, hE3⟩; go_simp; refine hK _ _ ?_; clear hK K' gd; refine Wp.keep [2] fun r3 hkeep => ?_; obtain ⟨e2_3, -⟩ := hkeep; simp [go_sem, e0_2] at e2_3; clear e0_2; refine Wp.ret ?_; refine endK_tmp Tryz.results72 (by decide) ?_; rw [e2_3]; exact ⟨rfl, hE.trans hE3⟩
end Go.Proofs.YtnfagcccgmakdaaGreat
namespace Go.Proofs.YtnfagcccgmakdaaGreat
open Go.RowKit Go.Wk Go.Proofs
attribute [local irreducible] Go.Wk.Wops Go.Wk.Wp
set_option maxHeartbeats 4000000
def askS (o : Ord) (p : Bool) : Int := if checkS o = 0 then (if p then 0 else 1) else checkS o
theorem askS_zero {o : Ord} {p : Bool} : askS o p = 0 ↔ OrdGood o ∧ p = true := by
  unfold askS; rw [← checkS_zero]
  split
  · rename_i h; simp [h]
  · rename_i h; exact ⟨fun h' => absurd h' h, fun h' => absurd h'.1 h⟩
theorem asked_c (v : Value) (o : Ord) (p : Bool) (gf : Nat) (lb : Array Value) (w : World) (hV : OrderV w w.heap.size v o) (hf : Fits o)
    (heg : ∀ args w, (callFunc gf args).run Tryz.prog w = .ok (.enter gf args) w)
    (hp : OrdGood o → ∀ W, Ext w W → CallsV Tryz.prog gf lb W fun v W' => v = .bool p ∧ Ext W W') :
    CallsV Tryz.prog 92 #[v, .func (.func gf) #[] lb] w fun v w' => v = .int .i64 (askS o p) ∧ Ext w w' := by
  obtain ⟨cv, rv, rfl, hV2⟩ := hV; have hV : OrderV w w.heap.size (.agg #[cv, rv]) o := ⟨cv, rv, rfl, hV2⟩; refine Wp.fn Tryz.func92 rfl Tryz.ntmps92 (by simp) ?_; refine Wp.keep [0, 1] fun r1 hkeep => ?_; obtain ⟨e0_1, e1_1, -⟩ := hkeep; simp [go_sem] at e0_1 e1_1; refine Wp.seqRegion (.inl rfl) (by kernel_rfl) fun K' gd hK hg => ?_; clear hg; go_simp; refine hK _ _ ?_; clear hK K' gd; refine Wp.keep [1, 2] fun r2 hkeep => ?_; obtain ⟨e1_2, e2_2, -⟩ := hkeep; simp [go_sem, e0_1, e1_1] at e1_2 e2_2; clear e0_1 e1_1; refine Wp.seq ?_; refine Wp.seqRegion (.inl rfl) (by kernel_rfl) fun K' gd hK hg => ?_; clear hg; go_simp; refine Wcall (.inl rfl) (check_c _ o _ (hV.ext ((Ext.refl w).alloc _)) hf) ?_; rintro v w2 ⟨rfl, hE⟩; go_simp; refine hK _ _ ?_; clear hK K' gd; refine Wp.keep [1, 5] fun r3 hkeep => ?_; obtain ⟨e1_3, e5_3, -⟩ := hkeep; simp [go_sem, e1_2, e2_2] at e1_3 e5_3; clear e1_2 e2_2; have hE2 : Ext w w2 := ((Ext.refl w).alloc _).trans hE
  by_cases h0 : checkS o = 0
  · skip; refine Wp.seqRegion (.inl rfl) (by kernel_rfl) fun K' gd hK hg => ?_; clear hg; go_simp; refine hK _ _ ?_; clear hK K' gd; refine Wp.keep [1, 5, 9] fun r4 hkeep => ?_; obtain ⟨e1_4, e5_4, e9_4, -⟩ := hkeep; simp [go_sem, e1_3, e5_3] at e1_4 e5_4 e9_4; clear e1_3 e5_3; refine Wp.condF (by go_simp) ?_; refine Wp.skip ?_; refine thenK_normal ?_; refine Wp.seq ?_; refine Wp.seqRegion (.inl rfl) (by kernel_rfl) fun K' gd hK hg => ?_; clear hg; go_simp; refine Wcall (.inl rfl) (hp (checkS_zero.1 h0) _ hE2) ?_; rintro v w3 ⟨rfl, hE3⟩; go_simp; refine hK _ _ ?_; clear hK K' gd; refine Wp.keep [13] fun r5 hkeep => ?_; obtain ⟨e13_5, -⟩ := hkeep; simp [go_sem, e1_4, e5_4, e9_4] at e13_5; clear e1_4 e5_4 e9_4
    by_cases h2 : p = false
    · refine Wp.condT (by go_simp) ?_; refine Wp.seqRegion (.inl rfl) (by kernel_rfl) fun K' gd hK hg => ?_; clear hg; go_simp; refine hK _ _ ?_; clear hK K' gd; refine Wp.keep [4] fun r6 hkeep => ?_; obtain ⟨e4_6, -⟩ := hkeep; simp [go_sem, e13_5] at e4_6; clear e13_5; refine Wp.ret ?_; refine thenK_ret ?_; refine endK_tmp Tryz.results92 (by decide) ?_; rw [e4_6]; subst h2; exact ⟨by rw [askS, if_pos h0]; rfl, hE2.trans hE3⟩
    · refine Wp.condF (by go_simp) ?_; refine Wp.skip ?_; refine thenK_normal ?_; refine Wp.seqRegion (.inl rfl) (by kernel_rfl) fun K' gd hK hg => ?_; clear hg; go_simp; refine hK _ _ ?_; clear hK K' gd; refine Wp.keep [4] fun r7 hkeep => ?_; obtain ⟨e4_7, -⟩ := hkeep; simp [go_sem, e13_5] at e4_7; clear e13_5; refine Wp.ret ?_; refine endK_tmp Tryz.results92 (by decide) ?_; rw [e4_7]; exact ⟨by rw [askS, if_pos h0, if_pos (by simpa using h2)], hE2.trans hE3⟩
  · skip; refine Wp.seqRegion (.inl rfl) (by kernel_rfl) fun K' gd hK hg => ?_; clear hg; go_simp; refine hK _ _ ?_; clear hK K' gd; refine Wp.keep [1, 5, 9] fun r8 hkeep => ?_; obtain ⟨e1_8, e5_8, e9_8, -⟩ := hkeep; simp [go_sem, e1_3, e5_3] at e1_8 e5_8 e9_8; clear e1_3 e5_3; refine Wp.condT (by go_simp) ?_; refine Wp.seqRegion (.inl rfl) (by kernel_rfl) fun K' gd hK hg => ?_; clear hg; go_simp; refine hK _ _ ?_; clear hK K' gd; refine Wp.keep [4] fun r9 hkeep => ?_; obtain ⟨e4_9, -⟩ := hkeep; simp [go_sem, e1_8, e5_8, e9_8] at e4_9; clear e1_8 e5_8 e9_8; refine Wp.ret ?_; refine thenK_ret ?_; refine endK_tmp Tryz.results92 (by decide) ?_; rw [e4_9]; exact ⟨by rw [askS, if_neg h0], hE2⟩
theorem OrderV.ordF2 {w : World} {B : Nat} {cv rv : Value} {o : Ord} (h : OrderV w B (.agg #[cv, rv]) o) (hg : OrdGood o) : ∃ a : OA, cv = a.cv o ∧ rv = a.rv o ∧ OrdF w B a o := by
  obtain ⟨a, ha, hO⟩ := h.ordF hg
  injection ha with ha
  have h1 := congrArg (fun x : Array Value => x[0]?) ha; have h2 := congrArg (fun x : Array Value => x[1]?) ha; exact ⟨a, by simpa using h1, by simpa using h2, hO⟩
theorem End_c (v : Value) (o : Ord) (w : World) (hV : OrderV w w.heap.size v o) (hf : Fits o) :
    CallsV Tryz.prog 14 #[v] w fun v w' => v = .tuple #[.int .i64 (if checkS o = 0 then endS o else 0), .int .i64 (checkS o)] ∧ Ext w w' := by
  obtain ⟨cv, rv, rfl, hV2⟩ := hV; have hV : OrderV w w.heap.size (.agg #[cv, rv]) o := ⟨cv, rv, rfl, hV2⟩; refine Wp.fn Tryz.func14 rfl Tryz.ntmps14 (by simp) ?_; refine Wp.keep [0] fun r1 hkeep => ?_; obtain ⟨e0_1, -⟩ := hkeep; simp [go_sem] at e0_1; refine Wp.seqRegion (.inl rfl) (by kernel_rfl) fun K' gd hK hg => ?_; clear hg; go_simp; refine hK _ _ ?_; clear hK K' gd; refine Wp.keep [1] fun r2 hkeep => ?_; obtain ⟨e1_2, -⟩ := hkeep; simp [go_sem, e0_1] at e1_2; clear e0_1; refine Wp.seq ?_; refine Wp.seqRegion (.inl rfl) (by kernel_rfl) fun K' gd hK hg => ?_; clear hg; go_simp; refine Wcall (.inl rfl) (check_c _ o _ (hV.ext ((Ext.refl w).alloc _)) hf) ?_; rintro v w2 ⟨rfl, hE⟩; have hc := hE.cellsS; go_simp; refine hK _ _ ?_; clear hK K' gd; refine Wp.keep [1, 4] fun r3 hkeep => ?_; obtain ⟨e1_3, e4_3, -⟩ := hkeep; simp [go_sem, e1_2] at e1_3 e4_3; clear e1_2; have hE2 : Ext w w2 := ((Ext.refl w).alloc _).trans hE
  by_cases h0 : checkS o = 0
  · skip; refine Wp.seqRegion (.inl rfl) (by kernel_rfl) fun K' gd hK hg => ?_; clear hg; go_simp; refine hK _ _ ?_; clear hK K' gd; refine Wp.keep [1, 4, 8] fun r4 hkeep => ?_; obtain ⟨e1_4, e4_4, e8_4, -⟩ := hkeep; simp [go_sem, e1_3, e4_3] at e1_4 e4_4 e8_4; clear e1_3 e4_3; refine Wp.condF (by go_simp) ?_; obtain ⟨a, rfl, rfl, hO⟩ := (hV.ext hE2).ordF2 (checkS_zero.1 h0); refine Wp.skip ?_; refine thenK_normal ?_; refine Wp.seqRegion (.inl rfl) (by kernel_rfl) fun K' gd hK hg => ?_; clear hg; go_simp; refine Wcall (.inl rfl) (timed_c a o _ hO) ?_; rintro v w3 ⟨b, rfl, hR, hE3⟩; go_simp; refine Wcall (.inl rfl) (end_c a o b _ (hO.ext hE3) hR) ?_; rintro v w4 ⟨rfl, hE4⟩; go_simp; refine hK _ _ ?_; clear hK K' gd; refine Wp.keep [2, 3] fun r5 hkeep => ?_; obtain ⟨e2_5, e3_5, -⟩ := hkeep; simp [go_sem, e1_4, e4_4, e8_4] at e2_5 e3_5; clear e1_4 e4_4 e8_4; refine Wp.ret ?_; refine endK_tmp2 Tryz.results14 (by decide) (by decide) ?_; rw [e2_5, e3_5]; exact ⟨by rw [if_pos h0, h0], (hE2.trans hE3).trans hE4⟩
  · skip; refine Wp.seqRegion (.inl rfl) (by kernel_rfl) fun K' gd hK hg => ?_; clear hg; go_simp; refine hK _ _ ?_; clear hK K' gd; refine Wp.keep [1, 4, 8] fun r6 hkeep => ?_; obtain ⟨e1_6, e4_6, e8_6, -⟩ := hkeep; simp [go_sem, e1_3, e4_3] at e1_6 e4_6 e8_6; clear e1_3 e4_3; refine Wp.condT (by go_simp) ?_; refine Wp.seqRegion (.inl rfl) (by kernel_rfl) fun K' gd hK hg => ?_; clear hg; go_simp; refine hK _ _ ?_; clear hK K' gd; refine Wp.keep [2, 3] fun r7 hkeep => ?_; obtain ⟨e2_7, e3_7, -⟩ := hkeep; simp [go_sem, e1_6, e4_6, e8_6] at e2_7 e3_7; clear e1_6 e4_6 e8_6; refine Wp.ret ?_; refine thenK_ret ?_; refine endK_tmp2 Tryz.results14 (by decide) (by decide) ?_; rw [e2_7, e3_7]; exact ⟨by rw [if_neg h0], hE2⟩
structure ElemT (P : Program) (t e : TypeId) (size : Nat) : Prop where
  ex : ∃ (i : TypeInfo) (z : Value), P.underlying t = some (.slice e) ∧ P.info? e = some i ∧ i.zero = some z ∧ i.size = size ∧ z.cells.size = size ∧ 0 < size ∧ i.bytes ≤ 1000
theorem app_run {P : Program} {t e : TypeId} {size : Nat} (T : ElemT P t e size) {w : World} {base : Nat} {v : Value} {n : Nat} {xs : List Value} (hown : w.ownsRow base e size v n xs)
    (a : Addr) (m c : Nat) (news : List Value) (ty : TypeId) (hl : news.length = m * size) (hnews : ∀ j u, news[j]? = some u → w.cell? (a.add j) = some u) (h1 : ∀ u ∈ news, u.oneCell' = true)
    (hn : n + m ≤ 10000000000) (hbase : base ≤ w.heap.size) :
    ∃ v' w', (Builtin.append_ #[t, t] ty #[v, .slice (some a) m c]).run P w = .ok v' w' ∧ w'.ownsRow base e size v' (n + m) (xs ++ news) ∧ w.grownBy w' v.ownBlock ∧
      (v' = .slice none 0 0 ↔ v = .slice none 0 0 ∧ m = 0) := by
  obtain ⟨i, z, h1', h2, h3, h4, h5, h6, h7⟩ := T.ex; exact run_append_own w base t ty e i z size i.bytes h1' h2 h3 h4 rfl h5 h6 v n xs hown a m c news hl hnews h1 (by unfold maxLen; omega) (Nat.le_trans (Nat.mul_le_mul hn h7) (by decide)) hbase
theorem Below.grown {n : Nat} {w0 w w' : World} {v : Value} {base e size k : Nat} {xs : List Value} (h : Below n w0 w) (ho : w.ownsRow base e size v k xs) (hg : w.grownBy w' v.ownBlock) (hb : n ≤ base) (hn : n ≤ w0.heap.size) : Below n w0 w' := by
  refine ⟨hg.os.trans h.os, hg.tape.trans h.tape, hg.output.trans h.output, Nat.le_trans h.size hg.size, fun i hi => ?_⟩; refine (hg.block i (Nat.lt_of_lt_of_le hi (Nat.le_trans hn h.size)) ?_).trans (h.block i hi); intro e; have := (ho.lt i e.symm).1; omega
def OwnI (w : World) (base : Nat) (v : Value) (xs : List Int) : Prop := w.ownsRow base 3 1 v xs.length (xs.map (Value.int .i64))
theorem OwnI.intsV {w : World} {base : Nat} {v : Value} {xs : List Int} (h : OwnI w base v xs) : IntsV w w.heap.size v xs := by
  rcases h.2 with ⟨rfl, hn⟩ | ⟨g, cap, cur, rfl, hb, hg, hnc, hcm, hcs, htake⟩
  · have : xs = [] := List.eq_nil_of_length_eq_zero hn; subst this; exact ⟨none, 0, rfl, fun h => absurd rfl h, Nat.le_refl _⟩
  · refine ⟨_, cap, rfl, fun _ => ⟨g, 0, rfl, (Array.getElem?_eq_some_iff.1 hg).1, fun k hk => ?_⟩, hnc⟩; have := World.ownsRow.cells h (g := g) rfl k (.int .i64 xs[k]) (by simp [hk]); rw [Addr.add_lit] at this; exact this
def elemB (P : Program) (t e : TypeId) (size : Nat) : Bool :=
  match P.underlying t, P.info? e with
  | some (.slice e'), some i => e' == e && i.size == size && decide (0 < size) && decide (i.bytes ≤ 1000) && (match i.zero with | some z => z.cells.size == size | none => false)
  | _, _ => false
theorem elemT_of {P : Program} {t e : TypeId} {size : Nat} (h : elemB P t e size = true) : ElemT P t e size := by
  unfold elemB at h
  split at h
  · rename_i e' i h1 h2
    simp only [Bool.and_eq_true, beq_iff_eq, decide_eq_true_eq] at h; obtain ⟨⟨⟨⟨rfl, h4⟩, h5⟩, h6⟩, h7⟩ := h
    split at h7
    · rename_i z hz
      exact ⟨i, z, h1, h2, hz, h4, by simpa using h7, h5, h6⟩
    · cases h7
  · cases h
theorem ints_T : ElemT Tryz.prog 22 3 1 := elemT_of (by kernel_rfl)
end Go.Proofs.YtnfagcccgmakdaaGreat
namespace Go.Proofs.YtnfagcccgmakdaaGreat
open Go.RowKit Go.Wk Go.Proofs
attribute [local irreducible] Go.Wk.Wops Go.Wk.Wp
set_option maxHeartbeats 4000000
@[go_sem] theorem eqI_nil (w : World) (a : Option Addr) (n c n' c' : Nat) : (binOp .eql 22 (.slice a n c) (.slice none n' c')).run Tryz.prog w = .ok (.bool a.isNone) w :=
  Lib.run_eql_slice_nil w _ 3 a n c n' c' (by kernel_rfl)
theorem own0 (w : World) (e : TypeId) (size : Nat) : (w.alloc (.cells #[] e)).ownsRow w.heap.size e size (.slice (some ⟨w.heap.size, 0, none⟩) 0 0) 0 [] :=
  World.ownsRow_made w #[] 0 (Nat.le_refl _) (Nat.zero_le _) (by simp)
theorem news_of {w : World} {b o : Nat} {xs : List Int} (h : ∀ k (h : k < xs.length), w.cell? ⟨b, o + k, none⟩ = some (.int .i64 xs[k])) :
    ∀ j u, (xs.map (Value.int .i64))[j]? = some u → w.cell? ((⟨b, o, none⟩ : Addr).add j) = some u := by
  intro j u hu; rw [List.getElem?_map] at hu; obtain ⟨x, hx, rfl⟩ := Option.map_eq_some_iff.1 hu; obtain ⟨hj, rfl⟩ := List.getElem?_eq_some_iff.1 hx; rw [Addr.add_lit]; exact h j hj
theorem one_ints {xs : List Int} : ∀ u ∈ xs.map (Value.int .i64), u.oneCell' = true := by
  intro u hu; obtain ⟨x, -, rfl⟩ := List.mem_map.1 hu
  rfl
theorem clone_c (v : Value) (xs : List Int) (w : World) (hx : IntsV w w.heap.size v xs) (hl : xs.length ≤ 1000000000) :
    CallsV Tryz.prog 128 #[v] w fun v' w' => OwnI w' w.heap.size v' xs ∧ Ext w w' := by
  obtain ⟨A, c, rfl, hx, hcap⟩ := hx
  have hA : (∃ b o, A = some ⟨b, o, none⟩ ∧ ∀ k (h : k < xs.length), w.cell? ⟨b, o + k, none⟩ = some (.int .i64 xs[k])) ∨ (xs = [] ∧ A = none) ∨ (xs = [] ∧ ∃ a, A = some a) := by
    by_cases h : xs = []
    · cases A with
      | none => exact .inr (.inl ⟨h, rfl⟩)
      | some a => exact .inr (.inr ⟨h, a, rfl⟩)
    · obtain ⟨b, o, h1, -, h2⟩ := hx h; exact .inl ⟨b, o, h1, h2⟩
  rcases hA with ⟨b, o, rfl, hc⟩ | ⟨rfl, rfl⟩ | ⟨rfl, a, rfl⟩
  · skip; refine Wp.fn Tryz.func128 rfl Tryz.ntmps128 (by simp) ?_; refine Wp.keep [0] fun r1 hkeep => ?_; obtain ⟨e0_1, -⟩ := hkeep; simp [go_sem] at e0_1; refine Wp.seqRegion (.inl rfl) (by kernel_rfl) fun K' gd hK hg => ?_; clear hg; go_simp; refine hK _ _ ?_; clear hK K' gd; refine Wp.keep [0] fun r2 hkeep => ?_; obtain ⟨e0_2, -⟩ := hkeep; simp [go_sem, e0_1] at e0_2; clear e0_1; refine Wp.seq ?_; refine Wp.seqRegion (.inl rfl) (by kernel_rfl) fun K' gd hK hg => ?_; clear hg; go_simp; refine hK _ _ ?_; clear hK K' gd; refine Wp.keep [0, 4] fun r3 hkeep => ?_; obtain ⟨e0_3, e4_3, -⟩ := hkeep; simp [go_sem, e0_2] at e0_3 e4_3; clear e0_2; refine Wp.condF (by go_simp) ?_; refine Wp.skip ?_; refine thenK_normal ?_; refine Wp.seqRegion (.inl rfl) (by kernel_rfl) fun K' gd hK hg => ?_; clear hg; refine Wops.cut 2 fun K1 hK1 => ?_; simp only [List.take_succ_cons, List.take_zero]; go_simp; refine hK1 _ _ ?_; clear hK1 K1; simp only [List.drop_succ_cons, List.drop_zero]; obtain ⟨v', w', hrun, hown, hg, -⟩ := app_run ints_T (own0 w 3 1) ⟨b, o, none⟩ xs.length c (xs.map (Value.int .i64)) 22 (by simp) (news_of fun k h => cell_al _ (hc k h)) one_ints (by omega) (by simp); refine Wops.law rfl (exec_append2 rfl hrun (by go_simp) (by go_simp)) ?_; go_simp; refine hK _ _ ?_; clear hK K' gd; refine Wp.keep [2] fun r4 hkeep => ?_; obtain ⟨e2_4, -⟩ := hkeep; simp [go_sem, e0_3, e4_3] at e2_4; clear e0_3 e4_3; refine Wp.ret ?_; refine endK_tmp Tryz.results128 (by decide) ?_; rw [e2_4]; exact ⟨by simpa [OwnI] using hown, Below.grown ((Ext.refl w).alloc _) (own0 w 3 1) hg (Nat.le_refl _) (Nat.le_refl _)⟩
  · skip; refine Wp.fn Tryz.func128 rfl Tryz.ntmps128 (by simp) ?_; refine Wp.keep [0] fun r1 hkeep => ?_; obtain ⟨e0_1, -⟩ := hkeep; simp [go_sem] at e0_1; refine Wp.seqRegion (.inl rfl) (by kernel_rfl) fun K' gd hK hg => ?_; clear hg; go_simp; refine hK _ _ ?_; clear hK K' gd; refine Wp.keep [0] fun r2 hkeep => ?_; obtain ⟨e0_2, -⟩ := hkeep; simp [go_sem, e0_1] at e0_2; clear e0_1; refine Wp.seq ?_; refine Wp.seqRegion (.inl rfl) (by kernel_rfl) fun K' gd hK hg => ?_; clear hg; go_simp; refine hK _ _ ?_; clear hK K' gd; refine Wp.keep [0, 4] fun r3 hkeep => ?_; obtain ⟨e0_3, e4_3, -⟩ := hkeep; simp [go_sem, e0_2] at e0_3 e4_3; clear e0_2; refine Wp.condT (by go_simp) ?_; refine Wp.seqRegion (.inl rfl) (by kernel_rfl) fun K' gd hK hg => ?_; clear hg; go_simp; refine hK _ _ ?_; clear hK K' gd; refine Wp.keep [2] fun r4 hkeep => ?_; obtain ⟨e2_4, -⟩ := hkeep; simp [go_sem, e0_3, e4_3] at e2_4; clear e0_3 e4_3; refine Wp.ret ?_; refine thenK_ret ?_; refine endK_tmp Tryz.results128 (by decide) ?_; rw [e2_4]; exact ⟨World.ownsRow_nil _ _ _ _, Ext.refl _⟩
  · skip; refine Wp.fn Tryz.func128 rfl Tryz.ntmps128 (by simp) ?_; refine Wp.keep [0] fun r1 hkeep => ?_; obtain ⟨e0_1, -⟩ := hkeep; simp [go_sem] at e0_1; refine Wp.seqRegion (.inl rfl) (by kernel_rfl) fun K' gd hK hg => ?_; clear hg; go_simp; refine hK _ _ ?_; clear hK K' gd; refine Wp.keep [0] fun r2 hkeep => ?_; obtain ⟨e0_2, -⟩ := hkeep; simp [go_sem, e0_1] at e0_2; clear e0_1; refine Wp.seq ?_; refine Wp.seqRegion (.inl rfl) (by kernel_rfl) fun K' gd hK hg => ?_; clear hg; go_simp; refine hK _ _ ?_; clear hK K' gd; refine Wp.keep [0, 4] fun r3 hkeep => ?_; obtain ⟨e0_3, e4_3, -⟩ := hkeep; simp [go_sem, e0_2] at e0_3 e4_3; clear e0_2; refine Wp.condF (by go_simp) ?_; refine Wp.skip ?_; refine thenK_normal ?_; refine Wp.seqRegion (.inl rfl) (by kernel_rfl) fun K' gd hK hg => ?_; clear hg; refine Wops.cut 2 fun K1 hK1 => ?_; simp only [List.take_succ_cons, List.take_zero]; go_simp; refine hK1 _ _ ?_; clear hK1 K1; simp only [List.drop_succ_cons, List.drop_zero]; obtain - := trivial; refine Wops.law rfl (exec_append rfl (by go_simp; exact ⟨rfl, rfl⟩)) ?_; go_simp; refine hK _ _ ?_; clear hK K' gd; refine Wp.keep [2] fun r4 hkeep => ?_; obtain ⟨e2_4, -⟩ := hkeep; simp [go_sem, e0_3, e4_3] at e2_4; clear e0_3 e4_3; refine Wp.ret ?_; refine endK_tmp Tryz.results128 (by decide) ?_; rw [e2_4]; exact ⟨own0 w 3 1, (Ext.refl w).alloc _⟩
end Go.Proofs.YtnfagcccgmakdaaGreat
namespace Go.Proofs.YtnfagcccgmakdaaGreat
open Go.RowKit Go.Wk Go.Proofs
attribute [local irreducible] Go.Wk.Wops Go.Wk.Wp
set_option maxHeartbeats 4000000
section
variable {w w' : World} {base e size n : Nat} {v : Value} {xs : List Value}
theorem ownsRow_ext (h : w.ownsRow base e size v n xs) (hE : Ext w w') : w'.ownsRow base e size v n xs := by
  refine ⟨h.1, ?_⟩
  rcases h.2 with hn | ⟨g, cap, cur, rfl, hb, hg, rest⟩
  · exact .inl hn
  · exact .inr ⟨g, cap, cur, rfl, hb, (Below.block hE g (Array.getElem?_eq_some_iff.1 hg).1).trans hg, rest⟩
theorem ownsRow_less {b2 : Nat} (h : w.ownsRow base e size v n xs) (hb : b2 ≤ base) : w.ownsRow b2 e size v n xs := by
  refine ⟨h.1, ?_⟩
  rcases h.2 with hn | ⟨g, cap, cur, rfl, hb', hg, rest⟩
  · exact .inl hn
  · exact .inr ⟨g, cap, cur, rfl, Nat.le_trans hb hb', hg, rest⟩
theorem own_ne {b2 e2 s2 n2 : Nat} {v2 : Value} {xs2 : List Value} (h : w.ownsRow base e size v n xs) (h2 : w.ownsRow b2 e2 s2 v2 n2 xs2) (hne : e ≠ e2) : v.ownBlock = none ∨ v.ownBlock ≠ v2.ownBlock := by
  rcases h.2 with ⟨rfl, -⟩ | ⟨g, cap, cur, rfl, hb, hg, -⟩
  · exact .inl rfl
  · right
    rcases h2.2 with ⟨rfl, -⟩ | ⟨g2, cap2, cur2, rfl, hb2, hg2, -⟩
    · simp [Value.ownBlock]
    · intro he; simp only [Value.ownBlock, Option.some.injEq] at he; subst he; rw [hg] at hg2
      injection hg2 with hg2; injection hg2 with _ hg2
      exact hne hg2
theorem own_one (h : w.ownsRow base e size v n xs) : v.oneCell' = true := by
  rcases h.2 with ⟨rfl, -⟩ | ⟨g, cap, cur, rfl, -⟩ <;> rfl
end
theorem OwnI.ext {w w' : World} {base : Nat} {v : Value} {xs : List Int} (h : OwnI w base v xs) (hE : Ext w w') : OwnI w' base v xs := ownsRow_ext h hE
theorem OwnI.less {w : World} {base b2 : Nat} {v : Value} {xs : List Int} (h : OwnI w base v xs) (hb : b2 ≤ base) : OwnI w b2 v xs := ownsRow_less h hb
theorem OwnI.slice {w : World} {base : Nat} {v : Value} {xs : List Int} (h : OwnI w base v xs) : ∃ A c, v = .slice A xs.length c := by
  rcases h.2 with ⟨rfl, hn⟩ | ⟨g, cap, cur, rfl, -⟩
  · exact ⟨none, 0, by rw [hn]⟩
  · exact ⟨_, _, rfl⟩
def OwnTab (w : World) (base : Nat) (v : Value) (t : List (List Int)) : Prop :=
  ∃ vs, w.ownsRow base 22 1 v t.length vs ∧ ∀ i (h : i < t.length), ∃ u, vs[i]? = some u ∧ OwnI w base u t[i]
theorem OwnTab.ext {w w' : World} {base : Nat} {v : Value} {t : List (List Int)} (h : OwnTab w base v t) (hE : Ext w w') : OwnTab w' base v t := by
  obtain ⟨vs, h1, h2⟩ := h; exact ⟨vs, ownsRow_ext h1 hE, fun i hi => by obtain ⟨u, h3, h4⟩ := h2 i hi; exact ⟨u, h3, h4.ext hE⟩⟩
theorem OwnTab.less {w : World} {base b2 : Nat} {v : Value} {t : List (List Int)} (h : OwnTab w base v t) (hb : b2 ≤ base) : OwnTab w b2 v t := by
  obtain ⟨vs, h1, h2⟩ := h; exact ⟨vs, ownsRow_less h1 hb, fun i hi => by obtain ⟨u, h3, h4⟩ := h2 i hi; exact ⟨u, h3, h4.less hb⟩⟩
theorem tab_T : ElemT Tryz.prog 28 22 1 := elemT_of (by kernel_rfl)
theorem OwnTab.push {w w' : World} {base : Nat} {v v' u : Value} {t : List (List Int)} {r : List Int} {vs : List Value} (h1 : w.ownsRow base 22 1 v t.length vs) (h2 : ∀ i (h : i < t.length), ∃ u, vs[i]? = some u ∧ OwnI w base u t[i])
    (hu : OwnI w base u r) (hown : w'.ownsRow base 22 1 v' (t.length + 1) (vs ++ [u])) (hg : w.grownBy w' v.ownBlock) : OwnTab w' base v' (t ++ [r]) := by
  have hl : vs.length = t.length := by have := h1.1; omega
  refine ⟨vs ++ [u], by simpa using hown, fun i hi => ?_⟩; have keep : ∀ {u r}, OwnI w base u r → OwnI w' base u r := fun h => World.ownsRow.kept h hg (own_ne h h1 (by decide)); simp only [List.length_append, List.length_singleton] at hi
  by_cases h : i < t.length
  · obtain ⟨u', h3, h4⟩ := h2 i h; refine ⟨u', ?_, ?_⟩
    · rw [List.getElem?_append_left (by omega)]; exact h3
    · rw [List.getElem_append_left h]; exact keep h4
  · have hi' : i = t.length := by omega
    subst hi'; refine ⟨u, ?_, ?_⟩
    · rw [List.getElem?_append_right (by omega)]; simp [hl]
    · rw [List.getElem_append_right (Nat.le_refl _)]; simpa using keep hu
def rowL (o : Ord) (t : Nat → Nat → Int) (i : Nat) : List Int := (List.range o.m).map (t i)
def tabL (o : Ord) (t : Nat → Nat → Int) : List (List Int) := (List.range o.n).map (rowL o t)
theorem rowL_len (o : Ord) (t : Nat → Nat → Int) (i : Nat) : (rowL o t i).length = o.m := by simp [rowL]
theorem tabL_len (o : Ord) (t : Nat → Nat → Int) : (tabL o t).length = o.n := by simp [tabL]
theorem tabL_take (o : Ord) (t : Nat → Nat → Int) {k : Nat} (h : k < o.n) : (tabL o t).take (k + 1) = (tabL o t).take k ++ [rowL o t k] := by
  rw [List.take_add_one]; congr 1; simp [tabL, h]
theorem news_one {w : World} {k : Nat} {u : Value} (h : w.cell? ⟨k, 0, none⟩ = some u) : ∀ j x, [u][j]? = some x → w.cell? ((⟨k, 0, none⟩ : Addr).add j) = some x := by
  intro j x hx
  cases j with
  | zero => simp at hx; subst hx; rw [Addr.add_lit]; exact h
  | succ j => simp at hx
theorem one_one {u : Value} (h : u.oneCell' = true) : ∀ x ∈ [u], x.oneCell' = true := by
  intro x hx; rw [List.mem_singleton] at hx; subst hx; exact h
theorem list_c (a : OA) (o : Ord) (b bt ot : Nat) (t t' : Nat → Nat → Int) (w : World) (hO : OrdF w w.heap.size a o) (hR : RowF w b a o t')
    (ht : ∀ i j, i < o.n → j < o.m → w.cell? ⟨bt, ot + i * 15 + j, none⟩ = some (.int .i64 (t i j))) :
    CallsV Tryz.prog 70 #[.pointer (some ⟨b, 0, none⟩), .pointer (some ⟨bt, ot, none⟩)] w fun v w' => OwnTab w' w.heap.size v (tabL o t) ∧ Ext w w' := by
  have c0 := hR.c0; have c1 := hR.c1; have hm := hO.hm2; have hm1 := hO.hm1; have hn := hO.hn2; simp only [OA.rv] at c1; simp only [OA.cv] at c0; refine Wp.fn Tryz.func70 rfl Tryz.ntmps70 (by simp) ?_; refine Wp.keep [0, 1] fun r1 hkeep => ?_; obtain ⟨e0_1, e1_1, -⟩ := hkeep; simp [go_sem] at e0_1 e1_1; refine Wp.seqRegion (.inl rfl) (by kernel_rfl) fun K' gd hK hg => ?_; clear hg; go_simp; refine hK _ _ ?_; clear hK K' gd; refine Wp.keep [0, 1] fun r2 hkeep => ?_; obtain ⟨e0_2, e1_2, -⟩ := hkeep; simp [go_sem, e0_1, e1_1] at e0_2 e1_2; clear e0_1 e1_1; refine Wp.seqRegion (.inl rfl) (by kernel_rfl) fun K' gd hK hg => ?_; clear hg; go_simp; refine hK _ _ ?_; clear hK K' gd; refine Wp.keep [0, 1, 5] fun r3 hkeep => ?_; obtain ⟨e0_3, e1_3, e5_3, -⟩ := hkeep; simp [go_sem, e0_2, e1_2] at e0_3 e1_3 e5_3; clear e0_2 e1_2; refine Wp.seq ?_; refine Wp.seqRegion (.inl rfl) (by kernel_rfl) fun K' gd hK hg => ?_; clear hg; go_simp; refine hK _ _ ?_; clear hK K' gd; refine Wp.keep [0, 1, 5, 12, 13] fun r4 hkeep => ?_; obtain ⟨e0_4, e1_4, e5_4, e12_4, e13_4, -⟩ := hkeep; simp [go_sem, e0_3, e1_3, e5_3] at e0_4 e1_4 e5_4 e12_4 e13_4; clear e0_3 e1_3 e5_3; refine Wp.block ?_; refine Wp.loop (fun k ρ ds wk => AllEq [0, 1, 12] ρ r4 ∧ ds = [] ∧ (∃ v5, ρ 13 = .int .i64 (k : Int) ∧ ρ 5 = v5 ∧ OwnTab wk w.heap.size v5 ((tabL o t).take k) ∧ Ext w wk)) (o.n) ?_ ?_
  · refine ⟨AllEq.refl _ _, rfl, ?_⟩; exact ⟨_, by rw [e13_4]; rfl, e5_4, ⟨[], by exact World.ownsRow_nil _ _ _ _, fun i hi => absurd hi (by simp)⟩, Ext.refl w⟩
  · rintro k r5 _ wk hk ⟨hA, rfl, ⟨v5, e13, e5, hT, hE⟩⟩; obtain ⟨e0_5, e1_5, e12_5, -⟩ := hA; rw [e0_4] at e0_5; rw [e1_4] at e1_5; rw [e12_4] at e12_5; refine Wp.seqRegion (.inl rfl) (by kernel_rfl) fun K' gd hK hg => ?_; clear hg; go_simp; refine hK _ _ ?_; clear hK K' gd; refine Wp.keep [0, 1, 5, 12, 13, 14] fun r6 hkeep => ?_; obtain ⟨e0_6, e1_6, e5_6, e12_6, e13_6, e14_6, -⟩ := hkeep; simp [go_sem, e0_5, e1_5, e5, e12_5, e13] at e0_6 e1_6 e5_6 e12_6 e13_6 e14_6; clear e0_5 e1_5 e5 e12_5 e13; refine Wp.seq ?_
    by_cases h : k < o.n
    · refine Wp.condT (by go_simp) ?_; obtain ⟨vs, h1, h2⟩ := hT; rw [List.length_take, tabL_len, Nat.min_eq_left hk] at h1; have d0 := hE.cell c0; have d1 := hE.cell c1; have b1 : (k : Int) < 20 := by omega
      have b2 : (o.m : Int) ≤ 15 := by omega
      have hIV : IntsV wk wk.heap.size (.slice (some ⟨bt, ot + k * 15, none⟩) o.m 15) (rowL o t k) := ⟨_, 15, by rw [rowL_len], fun _ => ⟨bt, ot + k * 15, rfl, cell_lt (hE.cell (ht k 0 h hm1)), fun j hj => by rw [rowL_len] at hj; rw [hE.cell (ht k j h hj)]; simp [rowL]⟩, by rw [rowL_len]; exact hm⟩; refine Wp.skip ?_; refine thenK_normal ?_; refine Wp.seq ?_; refine Wp.block ?_; refine Wp.seqRegion (.inl rfl) (by kernel_rfl) fun K' gd hK hg => ?_; clear hg; go_simp; refine hK _ _ ?_; clear hK K' gd; refine Wp.keep [0, 1, 5, 6, 12, 13] fun r7 hkeep => ?_; obtain ⟨e0_7, e1_7, e5_7, e6_7, e12_7, e13_7, -⟩ := hkeep; simp [go_sem, e0_6, e1_6, e5_6, e12_6, e13_6, e14_6] at e0_7 e1_7 e5_7 e6_7 e12_7 e13_7; clear e0_6 e1_6 e5_6 e12_6 e13_6 e14_6; refine Wp.loneDraw (.inl rfl) mixed [([0, 1, 2, 3, 4], none), ([5, 6, 7, 8, 9], none), ([10, 11], some (12, false)), ([], some (13, false)), ([], some (14, true)), ([], some (15, true))] (by kernel_rfl) fun K' gd hK hg => ?_; clear hg; simp only [pick, nth, List.map_cons, List.map_nil, Option.map_none, Option.map_some]; apply Mops.none
      · intro w' hE'; have hC' := hE'.cellsS; go_simp; with_reducible rfl
      apply Mops.none
      · intro w' hE'; have hC' := hE'.cellsS; go_simp; with_reducible rfl
      apply Mops.act
      · intro w' hE'; have hC' := hE'.cellsS; go_simp; with_reducible rfl
      intro K1 hK1; go_simp; refine Wcall (.inl rfl) (clone_c _ (rowL o t k) _ (hIV.ext (Ext.refl _).drew) (by rw [rowL_len]; omega)) ?_; rintro v w2 ⟨hv, hE2⟩; have c9 := hE2.cellsS; obtain ⟨vA, vc, rfl⟩ := hv.slice; rw [rowL_len] at hv ⊢; go_simp; refine hK1 _ _ (XR) ?_; clear hK1 K1; apply Mops.act
      · exact fun _ _ => Rops_done
      intro K1 hK1; go_simp; refine hK1 _ _ ((Ext.refl _).alloc _) ?_; clear hK1 K1; apply Mops.last
      · exact fun _ _ => Rops_done
      intro K1 hK1; obtain ⟨v', w', hrun, hown, hg, -⟩ := app_run tab_T (ownsRow_ext h1 ((((Ext.refl wk).drew).trans hE2).alloc _)) ⟨w2.heap.size, 0, none⟩ 1 1 [.slice vA o.m vc] 28 rfl (news_one (cell_nw w2 #[.slice vA o.m vc] 22 0)) (one_one (own_one hv)) (by omega) (by have := hE.size; have := hE2.size; simp at *; omega); refine if_pos_of rfl (Wstep.law (exec_append2 rfl hrun (by go_simp) (by go_simp)) ?_); refine hK1 _ _ ?_; clear hK1 K1; apply Mops.last
      · exact fun _ _ => Rops_done
      intro K1 hK1; go_simp; refine hK1 _ _ ?_; clear hK1 K1; refine Mops.done ?_; refine hK _ _ ?_; clear hK K' gd; refine Ends.keep [0, 1, 5, 12, 13] fun r8 hkeep => ?_; obtain ⟨e0_8, e1_8, e5_8, e12_8, e13_8, -⟩ := hkeep; simp [go_sem, e0_7, e1_7, e5_7, e6_7, e12_7, e13_7] at e0_8 e1_8 e5_8 e12_8 e13_8; clear e0_7 e1_7 e5_7 e6_7 e12_7 e13_7; refine Ends.mk ?_; refine blockK_normal ?_; refine thenK_normal ?_; refine Wp.loneRegion (.inl rfl) (by kernel_rfl) fun K' gd hK hg => ?_; clear hg; go_simp; refine hK _ _ ?_; clear hK K' gd; refine Ends.keep [0, 1, 5, 12, 13] fun r9 hkeep => ?_; obtain ⟨e0_9, e1_9, e5_9, e12_9, e13_9, -⟩ := hkeep; simp [go_sem, e0_8, e1_8, e5_8, e12_8, e13_8] at e0_9 e1_9 e5_9 e12_9 e13_9; clear e0_8 e1_8 e5_8 e12_8 e13_8; refine Ends.mk ?_; refine thenK_normal ⟨by omega, ⟨by rw [e0_9, e0_4], by rw [e1_9, e1_4], by rw [e12_9, e12_4], trivial⟩, rfl, ?_⟩; have hlen : ((tabL o t).take k).length = k := by rw [List.length_take, tabL_len]; omega
      have hE4 : Ext wk (w2.alloc (.cells #[.slice vA o.m vc] 22)) := (((Ext.refl wk).drew).trans hE2).alloc _; refine ⟨v', by rw [e13_9, IntWalk.i64_in _ (by omega)]; rfl, e5_9, ?_, Below.grown (hE.trans hE4) (ownsRow_ext h1 hE4) hg (Nat.le_refl _) (Nat.le_refl _)⟩; rw [tabL_take o t h]; exact OwnTab.push (by rw [hlen]; exact ownsRow_ext h1 hE4) (fun i hi => by obtain ⟨u, h3, h4⟩ := h2 i hi; exact ⟨u, h3, h4.ext hE4⟩) ((hv.less (by exact hE.size)).ext ((Ext.refl _).alloc _)) (by rw [hlen]; exact hown) hg
    · refine Wp.condF (by go_simp) ?_; refine Wp.exit ?_; refine thenK_exit ?_; refine thenK_exit ?_; refine blockK_here ?_; refine thenK_normal ?_; refine Wp.seqRegion (.inl rfl) (by kernel_rfl) fun K' gd hK hg => ?_; clear hg; go_simp; refine hK _ _ ?_; clear hK K' gd; refine Wp.keep [4] fun r10 hkeep => ?_; obtain ⟨e4_10, -⟩ := hkeep; simp [go_sem, e0_6, e1_6, e5_6, e12_6, e13_6, e14_6] at e4_10; clear e0_6 e1_6 e5_6 e12_6 e13_6 e14_6; refine Wp.ret ?_; refine endK_tmp Tryz.results70 (by decide) ?_; rw [e4_10]; refine ⟨?_, hE⟩; obtain rfl : k = o.n := by omega
      rw [List.take_of_length_le (by rw [tabL_len]; exact Nat.le_refl _)] at hT; exact hT
end Go.Proofs.YtnfagcccgmakdaaGreat
namespace Go.Proofs.YtnfagcccgmakdaaGreat
open Go.RowKit Go.Wk Go.Proofs
attribute [local irreducible] Go.Wk.Wops Go.Wk.Wp
set_option maxHeartbeats 4000000
theorem Times_c (v : Value) (o : Ord) (w : World) (hV : OrderV w w.heap.size v o) (hf : Fits o) :
    CallsV Tryz.prog 12 #[v] w fun v w' => ∃ t, v = .tuple #[t, .int .i64 (checkS o)] ∧ OwnTab w' w.heap.size t (if checkS o = 0 then tabL o (begA o) else []) ∧ Ext w w' := by
  obtain ⟨cv, rv, rfl, hV2⟩ := hV; have hV : OrderV w w.heap.size (.agg #[cv, rv]) o := ⟨cv, rv, rfl, hV2⟩; refine Wp.fn Tryz.func12 rfl Tryz.ntmps12 (by simp) ?_; refine Wp.keep [0] fun r1 hkeep => ?_; obtain ⟨e0_1, -⟩ := hkeep; simp [go_sem] at e0_1; refine Wp.seqRegion (.inl rfl) (by kernel_rfl) fun K' gd hK hg => ?_; clear hg; go_simp; refine hK _ _ ?_; clear hK K' gd; refine Wp.keep [1] fun r2 hkeep => ?_; obtain ⟨e1_2, -⟩ := hkeep; simp [go_sem, e0_1] at e1_2; clear e0_1; refine Wp.seq ?_; refine Wp.seqRegion (.inl rfl) (by kernel_rfl) fun K' gd hK hg => ?_; clear hg; go_simp; refine Wcall (.inl rfl) (check_c _ o _ (hV.ext ((Ext.refl w).alloc _)) hf) ?_; rintro v w2 ⟨rfl, hE⟩; have hc := hE.cellsS; go_simp; refine hK _ _ ?_; clear hK K' gd; refine Wp.keep [1, 4] fun r3 hkeep => ?_; obtain ⟨e1_3, e4_3, -⟩ := hkeep; simp [go_sem, e1_2] at e1_3 e4_3; clear e1_2; have hE2 : Ext w w2 := ((Ext.refl w).alloc _).trans hE
  by_cases h0 : checkS o = 0
  · skip; refine Wp.seqRegion (.inl rfl) (by kernel_rfl) fun K' gd hK hg => ?_; clear hg; go_simp; refine hK _ _ ?_; clear hK K' gd; refine Wp.keep [1, 4, 9] fun r4 hkeep => ?_; obtain ⟨e1_4, e4_4, e9_4, -⟩ := hkeep; simp [go_sem, e1_3, e4_3] at e1_4 e4_4 e9_4; clear e1_3 e4_3; refine Wp.condF (by go_simp) ?_; obtain ⟨a, rfl, rfl, hO⟩ := (hV.ext hE2).ordF2 (checkS_zero.1 h0); refine Wp.skip ?_; refine thenK_normal ?_; refine Wp.seqRegion (.inl rfl) (by kernel_rfl) fun K' gd hK hg => ?_; clear hg; go_simp; refine Wcall (.inl rfl) (timed_c a o _ hO) ?_; rintro v w3 ⟨b, rfl, hR, hE3⟩; go_simp; refine hK _ _ ?_; clear hK K' gd; refine Wp.keep [5] fun r5 hkeep => ?_; obtain ⟨e5_5, -⟩ := hkeep; simp [go_sem, e1_4, e4_4, e9_4] at e5_5; clear e1_4 e4_4 e9_4; refine Wp.seqRegion (.inl rfl) (by kernel_rfl) fun K' gd hK hg => ?_; clear hg; go_simp; refine Wcall (.inl rfl) (list_c a o b b 2 (begA o) (begA o) _ (hO.ext hE3) hR (fun i j hi hj => hR.ct i j (by have := hO.hn2; omega) (by have := hO.hm2; omega))) ?_; rintro v w4 ⟨hT, hE4⟩; go_simp; refine hK _ _ ?_; clear hK K' gd; refine Wp.keep [2, 3] fun r6 hkeep => ?_; obtain ⟨e2_6, e3_6, -⟩ := hkeep; simp [go_sem, e5_5] at e2_6 e3_6; clear e5_5; refine Wp.ret ?_; refine endK_tmp2 Tryz.results12 (by decide) (by decide) ?_; rw [e2_6, e3_6]; refine ⟨_, by rw [h0], ?_, (hE2.trans hE3).trans hE4⟩; rw [if_pos h0]; exact hT.less (hE2.trans hE3).size
  · skip; refine Wp.seqRegion (.inl rfl) (by kernel_rfl) fun K' gd hK hg => ?_; clear hg; go_simp; refine hK _ _ ?_; clear hK K' gd; refine Wp.keep [1, 4, 9] fun r7 hkeep => ?_; obtain ⟨e1_7, e4_7, e9_7, -⟩ := hkeep; simp [go_sem, e1_3, e4_3] at e1_7 e4_7 e9_7; clear e1_3 e4_3; refine Wp.condT (by go_simp) ?_; refine Wp.seqRegion (.inl rfl) (by kernel_rfl) fun K' gd hK hg => ?_; clear hg; go_simp; refine hK _ _ ?_; clear hK K' gd; refine Wp.keep [2, 3] fun r8 hkeep => ?_; obtain ⟨e2_8, e3_8, -⟩ := hkeep; simp [go_sem, e1_7, e4_7, e9_7] at e2_8 e3_8; clear e1_7 e4_7 e9_7; refine Wp.ret ?_; refine thenK_ret ?_; refine endK_tmp2 Tryz.results12 (by decide) (by decide) ?_; rw [e2_8, e3_8]; exact ⟨_, rfl, by rw [if_neg h0]; exact ⟨[], World.ownsRow_nil _ _ _ _, fun i hi => absurd hi (by simp)⟩, hE2⟩
def isStint (o : Ord) (i j : Int) : Bool := decide (0 ≤ i ∧ i ≤ (o.n : Int) - 1) && decide (0 ≤ j ∧ j ≤ (o.m : Int) - 1)
theorem stint_c (v : Value) (o : Ord) (i j : Int) (w : World) (hV : OrderV w w.heap.size v o) (hf : Fits o) :
    CallsV Tryz.prog 97 #[v, .agg #[.int .i64 i, .int .i64 j]] w fun v w' => v = .bool (isStint o i j) ∧ Ext w w' := by
  obtain ⟨cv, rv, rfl, ⟨cA, cc, rfl, -, -⟩, ⟨rA, rc, tv, rfl, -, -, -⟩⟩ := hV; obtain ⟨hf1, hf2, -⟩ := hf; have hw1 : IntKind.i64.wrap ((o.runs.length : Int) - 1) = (o.runs.length : Int) - 1 := IntWalk.i64_in _ (by omega); have hw2 : IntKind.i64.wrap ((o.cop.length : Int) - 1) = (o.cop.length : Int) - 1 := IntWalk.i64_in _ (by omega)
  by_cases h : 0 ≤ i ∧ i ≤ (o.runs.length : Int) - 1
  · skip; refine Wp.fn Tryz.func97 rfl Tryz.ntmps97 (by simp) ?_; refine Wp.keep [0, 1] fun r1 hkeep => ?_; obtain ⟨e0_1, e1_1, -⟩ := hkeep; simp [go_sem] at e0_1 e1_1; refine Wp.seqRegion (.inl rfl) (by kernel_rfl) fun K' gd hK hg => ?_; clear hg; go_simp; refine hK _ _ ?_; clear hK K' gd; refine Wp.keep [2, 3] fun r2 hkeep => ?_; obtain ⟨e2_2, e3_2, -⟩ := hkeep; simp [go_sem, e0_1, e1_1] at e2_2 e3_2; clear e0_1 e1_1; refine Wp.seqRegion (.inl rfl) (by kernel_rfl) fun K' gd hK hg => ?_; have g7 : gd 7 = some 12 := hg 7; clear hg; go_simp; refine Wcall (.inl rfl) (within_T h _) ?_; rintro v w2 ⟨rfl, rfl⟩; go_simp; refine Wcall (.inl rfl) (within_c _ _ _ _) ?_; rintro v w2 ⟨rfl, rfl⟩; go_simp; refine hK _ _ ?_; clear hK K' gd g7; refine Wp.keep [4] fun r3 hkeep => ?_; obtain ⟨e4_3, -⟩ := hkeep; simp [go_sem, e2_2, e3_2] at e4_3; clear e2_2 e3_2; refine Wp.ret ?_; refine endK_tmp Tryz.results97 (by decide) ?_; rw [e4_3]; exact ⟨by unfold isStint; rw [decide_eq_true (show 0 ≤ i ∧ i ≤ (o.n : Int) - 1 from h), Bool.decide_and]; rfl, ((Ext.refl w).alloc _).alloc _⟩
  · skip; refine Wp.fn Tryz.func97 rfl Tryz.ntmps97 (by simp) ?_; refine Wp.keep [0, 1] fun r1 hkeep => ?_; obtain ⟨e0_1, e1_1, -⟩ := hkeep; simp [go_sem] at e0_1 e1_1; refine Wp.seqRegion (.inl rfl) (by kernel_rfl) fun K' gd hK hg => ?_; clear hg; go_simp; refine hK _ _ ?_; clear hK K' gd; refine Wp.keep [2, 3] fun r2 hkeep => ?_; obtain ⟨e2_2, e3_2, -⟩ := hkeep; simp [go_sem, e0_1, e1_1] at e2_2 e3_2; clear e0_1 e1_1; refine Wp.seqRegion (.inl rfl) (by kernel_rfl) fun K' gd hK hg => ?_; have g7 : gd 7 = some 12 := hg 7; clear hg; go_simp; refine Wcall (.inl rfl) (within_F h _) ?_; rintro v w2 ⟨rfl, rfl⟩; go_simp; refine hK _ _ ?_; clear hK K' gd g7; refine Wp.keep [4] fun r3 hkeep => ?_; obtain ⟨e4_3, -⟩ := hkeep; simp [go_sem, e2_2, e3_2] at e4_3; clear e2_2 e3_2; refine Wp.ret ?_; refine endK_tmp Tryz.results97 (by decide) ?_; rw [e4_3]; exact ⟨by unfold isStint; rw [decide_eq_false (show ¬ (0 ≤ i ∧ i ≤ (o.n : Int) - 1) from h)]; rfl, ((Ext.refl w).alloc _).alloc _⟩
theorem askL_c (b : Nat) (x : Int) (w : World) (h : w.cell? ⟨b, 0, none⟩ = some (.int .i64 x)) : CallsV Tryz.prog 93 #[.pointer (some ⟨b, 0, none⟩)] w fun v w' => v = .bool (decide (0 ≤ x ∧ x ≤ 1048576)) ∧ Ext w w' := by
  refine Wp.fn Tryz.func93 rfl Tryz.ntmps93 (by simp) ?_; refine Wp.keep [0] fun r1 hkeep => ?_; obtain ⟨e0_1, -⟩ := hkeep; simp [go_sem] at e0_1; refine Wp.seqRegion (.inl rfl) (by kernel_rfl) fun K' gd hK hg => ?_; clear hg; go_simp; refine hK _ _ ?_; clear hK K' gd; refine Wp.keep [0] fun r2 hkeep => ?_; obtain ⟨e0_2, -⟩ := hkeep; simp [go_sem, e0_1] at e0_2; clear e0_1; refine Wp.seqRegion (.inl rfl) (by kernel_rfl) fun K' gd hK hg => ?_; clear hg; go_simp; refine Wcall (.inl rfl) (within_c x 0 1048576 w) ?_; rintro v w2 ⟨rfl, rfl⟩; go_simp; refine hK _ _ ?_; clear hK K' gd; refine Wp.keep [1] fun r3 hkeep => ?_; obtain ⟨e1_3, -⟩ := hkeep; simp [go_sem, e0_2] at e1_3; clear e0_2; refine Wp.ret ?_; refine endK_tmp Tryz.results93 (by decide) ?_; rw [e1_3]; exact ⟨by rw [Bool.decide_and], Ext.refl _⟩
theorem askH_c (b : Nat) (x : Int) (w : World) (h : w.cell? ⟨b, 0, none⟩ = some (.int .i64 x)) : CallsV Tryz.prog 131 #[.pointer (some ⟨b, 0, none⟩)] w fun v w' => v = .bool (decide (0 ≤ x ∧ x ≤ 1048576)) ∧ Ext w w' := by
  refine Wp.fn Tryz.func131 rfl Tryz.ntmps131 (by simp) ?_; refine Wp.keep [0] fun r1 hkeep => ?_; obtain ⟨e0_1, -⟩ := hkeep; simp [go_sem] at e0_1; refine Wp.seqRegion (.inl rfl) (by kernel_rfl) fun K' gd hK hg => ?_; clear hg; go_simp; refine hK _ _ ?_; clear hK K' gd; refine Wp.keep [0] fun r2 hkeep => ?_; obtain ⟨e0_2, -⟩ := hkeep; simp [go_sem, e0_1] at e0_2; clear e0_1; refine Wp.seqRegion (.inl rfl) (by kernel_rfl) fun K' gd hK hg => ?_; clear hg; go_simp; refine Wcall (.inl rfl) (within_c x 0 1048576 w) ?_; rintro v w2 ⟨rfl, rfl⟩; go_simp; refine hK _ _ ?_; clear hK K' gd; refine Wp.keep [1] fun r3 hkeep => ?_; obtain ⟨e1_3, -⟩ := hkeep; simp [go_sem, e0_2] at e1_3; clear e0_2; refine Wp.ret ?_; refine endK_tmp Tryz.results131 (by decide) ?_; rw [e1_3]; exact ⟨by rw [Bool.decide_and], Ext.refl _⟩
theorem askPq_c (b1 b2 : Nat) (cv rv : Value) (o : Ord) (i j : Int) (w : World) (hV : OrderV w w.heap.size (.agg #[cv, rv]) o) (hf : Fits o) (h0 : w.cell? ⟨b1, 0, none⟩ = some cv) (h1 : w.cell? ⟨b1, 1, none⟩ = some rv) (h2 : w.cell? ⟨b2, 0, none⟩ = some (.int .i64 i)) (h3 : w.cell? ⟨b2, 1, none⟩ = some (.int .i64 j)) :
    CallsV Tryz.prog 119 #[.pointer (some ⟨b1, 0, none⟩), .pointer (some ⟨b2, 0, none⟩)] w fun v w' => v = .bool (isStint o i j) ∧ Ext w w' := by
  refine Wp.fn Tryz.func119 rfl Tryz.ntmps119 (by simp) ?_; refine Wp.keep [0, 1] fun r1 hkeep => ?_; obtain ⟨e0_1, e1_1, -⟩ := hkeep; simp [go_sem] at e0_1 e1_1; refine Wp.seqRegion (.inl rfl) (by kernel_rfl) fun K' gd hK hg => ?_; clear hg; go_simp; refine hK _ _ ?_; clear hK K' gd; refine Wp.keep [0, 1] fun r2 hkeep => ?_; obtain ⟨e0_2, e1_2, -⟩ := hkeep; simp [go_sem, e0_1, e1_1] at e0_2 e1_2; clear e0_1 e1_1; refine Wp.seqRegion (.inl rfl) (by kernel_rfl) fun K' gd hK hg => ?_; clear hg; go_simp; refine Wcall (.inl rfl) (stint_c _ o i j w hV hf) ?_; rintro v w2 ⟨rfl, hE⟩; go_simp; refine hK _ _ ?_; clear hK K' gd; refine Wp.keep [2] fun r3 hkeep => ?_; obtain ⟨e2_3, -⟩ := hkeep; simp [go_sem, e0_2, e1_2] at e2_3; clear e0_2 e1_2; refine Wp.ret ?_; refine endK_tmp Tryz.results119 (by decide) ?_; rw [e2_3]; exact ⟨rfl, hE⟩
theorem askD_c (b1 b2 b3 : Nat) (cv rv : Value) (o : Ord) (i j d : Int) (w : World) (hV : OrderV w w.heap.size (.agg #[cv, rv]) o) (hf : Fits o) (h0 : w.cell? ⟨b1, 0, none⟩ = some cv) (h1 : w.cell? ⟨b1, 1, none⟩ = some rv) (h2 : w.cell? ⟨b2, 0, none⟩ = some (.int .i64 i)) (h3 : w.cell? ⟨b2, 1, none⟩ = some (.int .i64 j)) (h4 : w.cell? ⟨b3, 0, none⟩ = some (.int .i64 d)) :
    CallsV Tryz.prog 96 #[.pointer (some ⟨b1, 0, none⟩), .pointer (some ⟨b2, 0, none⟩), .pointer (some ⟨b3, 0, none⟩)] w fun v w' => v = .bool (isStint o i j && decide (0 ≤ d ∧ d ≤ 60)) ∧ Ext w w' := by
  by_cases h : isStint o i j = true
  · skip; refine Wp.fn Tryz.func96 rfl Tryz.ntmps96 (by simp) ?_; refine Wp.keep [0, 1, 2] fun r1 hkeep => ?_; obtain ⟨e0_1, e1_1, e2_1, -⟩ := hkeep; simp [go_sem] at e0_1 e1_1 e2_1; refine Wp.seqRegion (.inl rfl) (by kernel_rfl) fun K' gd hK hg => ?_; clear hg; go_simp; refine hK _ _ ?_; clear hK K' gd; refine Wp.keep [0, 1, 2] fun r2 hkeep => ?_; obtain ⟨e0_2, e1_2, e2_2, -⟩ := hkeep; simp [go_sem, e0_1, e1_1, e2_1] at e0_2 e1_2 e2_2; clear e0_1 e1_1 e2_1; refine Wp.seqRegion (.inl rfl) (by kernel_rfl) fun K' gd hK hg => ?_; have g3 : gd 3 = some 7 := hg 3; clear hg; go_simp; refine Wcall (.inl rfl) ((stint_c _ o i j w hV hf).mono (fun v w' h' => (⟨by rw [h'.1, h], h'.2⟩ : v = .bool true ∧ Ext w w'))) ?_; rintro v w2 ⟨rfl, hE⟩; have c4 := hE.cell h4; go_simp; refine Wcall (.inl rfl) (within_c _ _ _ _) ?_; rintro v w3 ⟨rfl, rfl⟩; go_simp; refine hK _ _ ?_; clear hK K' gd g3; refine Wp.keep [3] fun r3 hkeep => ?_; obtain ⟨e3_3, -⟩ := hkeep; simp [go_sem, e0_2, e1_2, e2_2] at e3_3; clear e0_2 e1_2 e2_2; refine Wp.ret ?_; refine endK_tmp Tryz.results96 (by decide) ?_; rw [e3_3]; exact ⟨by rw [h, Bool.decide_and]; rfl, hE⟩
  · rw [Bool.not_eq_true] at h; refine Wp.fn Tryz.func96 rfl Tryz.ntmps96 (by simp) ?_; refine Wp.keep [0, 1, 2] fun r1 hkeep => ?_; obtain ⟨e0_1, e1_1, e2_1, -⟩ := hkeep; simp [go_sem] at e0_1 e1_1 e2_1; refine Wp.seqRegion (.inl rfl) (by kernel_rfl) fun K' gd hK hg => ?_; clear hg; go_simp; refine hK _ _ ?_; clear hK K' gd; refine Wp.keep [0, 1, 2] fun r2 hkeep => ?_; obtain ⟨e0_2, e1_2, e2_2, -⟩ := hkeep; simp [go_sem, e0_1, e1_1, e2_1] at e0_2 e1_2 e2_2; clear e0_1 e1_1 e2_1; refine Wp.seqRegion (.inl rfl) (by kernel_rfl) fun K' gd hK hg => ?_; have g3 : gd 3 = some 7 := hg 3; clear hg; go_simp; refine Wcall (.inl rfl) ((stint_c _ o i j w hV hf).mono (fun v w' h' => (⟨by rw [h'.1, h], h'.2⟩ : v = .bool false ∧ Ext w w'))) ?_; rintro v w2 ⟨rfl, hE⟩; go_simp; refine hK _ _ ?_; clear hK K' gd g3; refine Wp.keep [3] fun r3 hkeep => ?_; obtain ⟨e3_3, -⟩ := hkeep; simp [go_sem, e0_2, e1_2, e2_2] at e3_3; clear e0_2 e1_2 e2_2; refine Wp.ret ?_; refine endK_tmp Tryz.results96 (by decide) ?_; rw [e3_3]; exact ⟨by rw [h]; rfl, hE⟩
theorem askR_c (b1 b2 : Nat) (cv rv : Value) (o : Ord) (x : Int) (w : World) (hV : OrderV w w.heap.size (.agg #[cv, rv]) o) (hf : Fits o) (h1 : w.cell? ⟨b1, 0, none⟩ = some (.int .i64 x)) (h2 : w.cell? ⟨b2, 1, none⟩ = some rv) :
    CallsV Tryz.prog 142 #[.pointer (some ⟨b1, 0, none⟩), .pointer (some ⟨b2, 0, none⟩)] w fun v w' => v = .bool (decide (0 ≤ x ∧ x ≤ (o.n : Int) - 1)) ∧ Ext w w' := by
  obtain ⟨cv', rv', hcv, ⟨cA, cc, rfl, -, -⟩, ⟨rA, rc, tv, rfl, -, -, -⟩⟩ := hV; obtain ⟨rfl, rfl⟩ : cv = _ ∧ rv = _ := by injection hcv with hcv; injection hcv with hcv; injection hcv with a b; injection b with b; exact ⟨a, b⟩
  obtain ⟨hf1, hf2, -⟩ := hf; have hw : IntKind.i64.wrap ((o.runs.length : Int) - 1) = (o.runs.length : Int) - 1 := IntWalk.i64_in _ (by omega); refine Wp.fn Tryz.func142 rfl Tryz.ntmps142 (by simp) ?_; refine Wp.keep [0, 1] fun r1 hkeep => ?_; obtain ⟨e0_1, e1_1, -⟩ := hkeep; simp [go_sem] at e0_1 e1_1; refine Wp.seqRegion (.inl rfl) (by kernel_rfl) fun K' gd hK hg => ?_; clear hg; go_simp; refine hK _ _ ?_; clear hK K' gd; refine Wp.keep [0, 1] fun r2 hkeep => ?_; obtain ⟨e0_2, e1_2, -⟩ := hkeep; simp [go_sem, e0_1, e1_1] at e0_2 e1_2; clear e0_1 e1_1; refine Wp.seqRegion (.inl rfl) (by kernel_rfl) fun K' gd hK hg => ?_; clear hg; go_simp; refine Wcall (.inl rfl) (within_c _ _ _ _) ?_; rintro v w2 ⟨rfl, rfl⟩; go_simp; refine hK _ _ ?_; clear hK K' gd; refine Wp.keep [2] fun r3 hkeep => ?_; obtain ⟨e2_3, -⟩ := hkeep; simp [go_sem, e0_2, e1_2] at e2_3; clear e0_2 e1_2; refine Wp.ret ?_; refine endK_tmp Tryz.results142 (by decide) ?_; rw [e2_3]; exact ⟨by rw [Bool.decide_and]; rfl, Ext.refl _⟩
theorem askM_c (b1 b2 : Nat) (cv rv : Value) (o : Ord) (x : Int) (w : World) (hV : OrderV w w.heap.size (.agg #[cv, rv]) o) (hf : Fits o) (h1 : w.cell? ⟨b1, 0, none⟩ = some (.int .i64 x)) (h2 : w.cell? ⟨b2, 0, none⟩ = some cv) :
    CallsV Tryz.prog 103 #[.pointer (some ⟨b1, 0, none⟩), .pointer (some ⟨b2, 0, none⟩)] w fun v w' => v = .bool (decide (0 ≤ x ∧ x ≤ (o.m : Int) - 1)) ∧ Ext w w' := by
  obtain ⟨cv', rv', hcv, ⟨cA, cc, rfl, -, -⟩, ⟨rA, rc, tv, rfl, -, -, -⟩⟩ := hV; obtain ⟨rfl, rfl⟩ : cv = _ ∧ rv = _ := by injection hcv with hcv; injection hcv with hcv; injection hcv with a b; injection b with b; exact ⟨a, b⟩
  obtain ⟨hf1, hf2, -⟩ := hf; have hw : IntKind.i64.wrap ((o.cop.length : Int) - 1) = (o.cop.length : Int) - 1 := IntWalk.i64_in _ (by omega); refine Wp.fn Tryz.func103 rfl Tryz.ntmps103 (by simp) ?_; refine Wp.keep [0, 1] fun r1 hkeep => ?_; obtain ⟨e0_1, e1_1, -⟩ := hkeep; simp [go_sem] at e0_1 e1_1; refine Wp.seqRegion (.inl rfl) (by kernel_rfl) fun K' gd hK hg => ?_; clear hg; go_simp; refine hK _ _ ?_; clear hK K' gd; refine Wp.keep [0, 1] fun r2 hkeep => ?_; obtain ⟨e0_2, e1_2, -⟩ := hkeep; simp [go_sem, e0_1, e1_1] at e0_2 e1_2; clear e0_1 e1_1; refine Wp.seqRegion (.inl rfl) (by kernel_rfl) fun K' gd hK hg => ?_; clear hg; go_simp; refine Wcall (.inl rfl) (within_c _ _ _ _) ?_; rintro v w2 ⟨rfl, rfl⟩; go_simp; refine hK _ _ ?_; clear hK K' gd; refine Wp.keep [2] fun r3 hkeep => ?_; obtain ⟨e2_3, -⟩ := hkeep; simp [go_sem, e0_2, e1_2] at e2_3; clear e0_2 e1_2; refine Wp.ret ?_; refine endK_tmp Tryz.results103 (by decide) ?_; rw [e2_3]; exact ⟨by rw [Bool.decide_and]; rfl, Ext.refl _⟩
theorem askN_c (b1 b2 b3 : Nat) (cv rv : Value) (o : Ord) (x y : Int) (w : World) (hV : OrderV w w.heap.size (.agg #[cv, rv]) o) (hf : Fits o) (h1 : w.cell? ⟨b1, 0, none⟩ = some (.int .i64 x)) (h2 : w.cell? ⟨b2, 0, none⟩ = some cv) (h3 : w.cell? ⟨b3, 0, none⟩ = some (.int .i64 y)) :
    CallsV Tryz.prog 107 #[.pointer (some ⟨b1, 0, none⟩), .pointer (some ⟨b2, 0, none⟩), .pointer (some ⟨b3, 0, none⟩)] w fun v w' => v = .bool (decide (0 ≤ x ∧ x ≤ (o.m : Int) - 1) && decide (0 ≤ y ∧ y ≤ 1048576)) ∧ Ext w w' := by
  obtain ⟨cv', rv', hcv, ⟨cA, cc, rfl, -, -⟩, ⟨rA, rc, tv, rfl, -, -, -⟩⟩ := hV; obtain ⟨rfl, rfl⟩ : cv = _ ∧ rv = _ := by injection hcv with hcv; injection hcv with hcv; injection hcv with a b; injection b with b; exact ⟨a, b⟩
  obtain ⟨hf1, hf2, -⟩ := hf; have hw : IntKind.i64.wrap ((o.cop.length : Int) - 1) = (o.cop.length : Int) - 1 := IntWalk.i64_in _ (by omega)
  by_cases h : 0 ≤ x ∧ x ≤ (o.cop.length : Int) - 1
  · skip; refine Wp.fn Tryz.func107 rfl Tryz.ntmps107 (by simp) ?_; refine Wp.keep [0, 1, 2] fun r1 hkeep => ?_; obtain ⟨e0_1, e1_1, e2_1, -⟩ := hkeep; simp [go_sem] at e0_1 e1_1 e2_1; refine Wp.seqRegion (.inl rfl) (by kernel_rfl) fun K' gd hK hg => ?_; clear hg; go_simp; refine hK _ _ ?_; clear hK K' gd; refine Wp.keep [0, 1, 2] fun r2 hkeep => ?_; obtain ⟨e0_2, e1_2, e2_2, -⟩ := hkeep; simp [go_sem, e0_1, e1_1, e2_1] at e0_2 e1_2 e2_2; clear e0_1 e1_1 e2_1; refine Wp.seqRegion (.inl rfl) (by kernel_rfl) fun K' gd hK hg => ?_; have g6 : gd 6 = some 10 := hg 6; clear hg; go_simp; refine Wcall (.inl rfl) (within_T h _) ?_; rintro v w2 ⟨rfl, rfl⟩; go_simp; refine Wcall (.inl rfl) (within_c _ _ _ _) ?_; rintro v w2 ⟨rfl, rfl⟩; go_simp; refine hK _ _ ?_; clear hK K' gd g6; refine Wp.keep [3] fun r3 hkeep => ?_; obtain ⟨e3_3, -⟩ := hkeep; simp [go_sem, e0_2, e1_2, e2_2] at e3_3; clear e0_2 e1_2 e2_2; refine Wp.ret ?_; refine endK_tmp Tryz.results107 (by decide) ?_; rw [e3_3]; exact ⟨by rw [decide_eq_true (show 0 ≤ x ∧ x ≤ (o.m : Int) - 1 from h), Bool.decide_and]; rfl, Ext.refl _⟩
  · skip; refine Wp.fn Tryz.func107 rfl Tryz.ntmps107 (by simp) ?_; refine Wp.keep [0, 1, 2] fun r1 hkeep => ?_; obtain ⟨e0_1, e1_1, e2_1, -⟩ := hkeep; simp [go_sem] at e0_1 e1_1 e2_1; refine Wp.seqRegion (.inl rfl) (by kernel_rfl) fun K' gd hK hg => ?_; clear hg; go_simp; refine hK _ _ ?_; clear hK K' gd; refine Wp.keep [0, 1, 2] fun r2 hkeep => ?_; obtain ⟨e0_2, e1_2, e2_2, -⟩ := hkeep; simp [go_sem, e0_1, e1_1, e2_1] at e0_2 e1_2 e2_2; clear e0_1 e1_1 e2_1; refine Wp.seqRegion (.inl rfl) (by kernel_rfl) fun K' gd hK hg => ?_; have g6 : gd 6 = some 10 := hg 6; clear hg; go_simp; refine Wcall (.inl rfl) (within_F h _) ?_; rintro v w2 ⟨rfl, rfl⟩; go_simp; refine hK _ _ ?_; clear hK K' gd g6; refine Wp.keep [3] fun r3 hkeep => ?_; obtain ⟨e3_3, -⟩ := hkeep; simp [go_sem, e0_2, e1_2, e2_2] at e3_3; clear e0_2 e1_2 e2_2; refine Wp.ret ?_; refine endK_tmp Tryz.results107 (by decide) ?_; rw [e3_3]; exact ⟨by rw [decide_eq_false (show ¬ (0 ≤ x ∧ x ≤ (o.m : Int) - 1) from h)]; rfl, Ext.refl _⟩
end Go.Proofs.YtnfagcccgmakdaaGreat
namespace Go.Proofs.YtnfagcccgmakdaaGreat
open Go.RowKit Go.Wk Go.Proofs
attribute [local irreducible] Go.Wk.Wops Go.Wk.Wp
set_option maxHeartbeats 4000000
def behindL (o : Ord) (s : Nat × Nat) : List (Nat × Nat) :=
  (if s.2 + 1 < o.m then [(s.1, s.2 + 1)] else []) ++ (if (s.1 : Int) + o.C s.2 < o.n then [(s.1 + (o.C s.2).toNat, s.2)] else [])
theorem behind_c (a : OA) (o : Ord) (i j : Int) (w : World) :
    CallsV Tryz.prog 140 #[.agg #[a.cv o, a.rv o], .agg #[.int .i64 i, .int .i64 j]] w fun v w' => ∃ bs bo, v = .func (.func 151) #[] #[.pointer (some ⟨bs, 0, none⟩), .pointer (some ⟨bo, 0, none⟩)] ∧
      Ext w w' ∧ w'.cell? ⟨bs, 0, none⟩ = some (.int .i64 i) ∧ w'.cell? ⟨bs, 1, none⟩ = some (.int .i64 j) ∧ w'.cell? ⟨bo, 0, none⟩ = some (a.cv o) ∧ w'.cell? ⟨bo, 1, none⟩ = some (a.rv o) ∧ w.heap.size ≤ bs ∧ w.heap.size ≤ bo := by
  refine Wp.fn Tryz.func140 rfl Tryz.ntmps140 (by simp) ?_; refine Wp.keep [0, 1] fun r1 hkeep => ?_; obtain ⟨e0_1, e1_1, -⟩ := hkeep; simp [go_sem] at e0_1 e1_1; refine Wp.seqRegion (.inl rfl) (by kernel_rfl) fun K' gd hK hg => ?_; clear hg; go_simp; refine hK _ _ ?_; clear hK K' gd; refine Wp.keep [2, 3] fun r2 hkeep => ?_; obtain ⟨e2_2, e3_2, -⟩ := hkeep; simp [go_sem, e0_1, e1_1] at e2_2 e3_2; clear e0_1 e1_1; refine Wp.seqRegion (.inl rfl) (by kernel_rfl) fun K' gd hK hg => ?_; clear hg; go_simp; refine hK _ _ ?_; clear hK K' gd; refine Wp.keep [4] fun r3 hkeep => ?_; obtain ⟨e4_3, -⟩ := hkeep; simp [go_sem, e2_2, e3_2] at e4_3; clear e2_2 e3_2; refine Wp.ret ?_; refine endK_tmp Tryz.results140 (by decide) ?_; rw [e4_3]; refine ⟨_, _, rfl, ((Ext.refl _).alloc _).alloc _, ?_, ?_, cell_al _ (cell_nw _ _ _ _), cell_al _ (cell_nw _ _ _ _), by omega, by omega⟩
  all_goals (rw [show w.heap.size + 1 = (w.alloc (.cells #[a.cv o, a.rv o] 25)).heap.size from (World.size_alloc ..).symm]; exact cell_nw _ _ _ _)
theorem behind_it (a : OA) (o : Ord) (i j bs bo : Nat) (hi : i < o.n) (hj : j < o.m) (hn : o.n ≤ 1000) (hm : o.m ≤ 1000) (hC1 : 1 ≤ o.C j) (hC2 : o.C j ≤ 20) :
    Iter Tryz.prog 151 #[.pointer (some ⟨bs, 0, none⟩), .pointer (some ⟨bo, 0, none⟩)] encS
      (fun W => W.cell? ⟨bs, 0, none⟩ = some (.int .i64 (i : Int)) ∧ W.cell? ⟨bs, 1, none⟩ = some (.int .i64 (j : Int)) ∧ W.cell? ⟨bo, 0, none⟩ = some (a.cv o) ∧ W.cell? ⟨bo, 1, none⟩ = some (a.rv o) ∧ W.cell? ⟨a.cb, a.co + j, none⟩ = some (.int .i64 (o.C j)))
      (behindL o (i, j)) := by
  intro l J Jx W hD hJE hJxE hY h0
  show CallsV _ _ #[.func (.yield l) #[] #[], .pointer (some ⟨bs, 0, none⟩), .pointer (some ⟨bo, 0, none⟩)] _ _
  simp only [OA.cv, OA.rv] at hD; have hjm : (j : Int) < (o.m : Int) := by omega
  obtain ⟨m1, hm1⟩ : ∃ m1 : Nat, m1 + 1 = o.m := ⟨o.m - 1, by omega⟩; obtain ⟨p, hp⟩ : ∃ p : Nat, j + 1 = p := ⟨_, rfl⟩; obtain ⟨q, hq⟩ : ∃ q : Nat, i + (o.C j).toNat = q := ⟨_, rfl⟩; have hwm : IntKind.i64.wrap ((o.m : Int) - 1) = (m1 : Int) := by rw [IntWalk.i64_in _ (by omega)]; omega
  have hwj : IntKind.i64.wrap ((j : Int) + 1) = (p : Int) := by rw [IntWalk.i64_in _ (by omega)]; omega
  have hwi : IntKind.i64.wrap ((i : Int) + o.C j) = (q : Int) := by rw [IntWalk.i64_in _ (by omega)]; omega
  by_cases h1 : j + 1 < o.m
  · have h1' : j < m1 := by omega
    by_cases h2 : q < o.n
    · have hL : behindL o (i, j) = [(i, p), (q, j)] := by simp [behindL, ← hp, ← hq, h1, show (i : Int) + o.C j < o.n by omega]
      rw [hL] at hY ⊢; obtain ⟨fn, tmps, as_, bo_, hy, hR⟩ := hY 0 _ _ rfl h0; obtain ⟨d0, d1, d2, d3, d4⟩ := hD _ _ h0; simp only [encS] at hy; refine Wp.fn Tryz.func151 rfl Tryz.ntmps151 (by simp) ?_; refine Wp.keep [0, 1, 2] fun r1 hkeep => ?_; obtain ⟨e0_1, e1_1, e2_1, -⟩ := hkeep; simp [go_sem] at e0_1 e1_1 e2_1; refine Wp.seq ?_; refine Wp.seqRegion (.inl rfl) (by kernel_rfl) fun K' gd hK hg => ?_; have g7 : gd 7 = some 12 := hg 7; clear hg; go_simp; refine Wyield (hR) ?_; rintro e w1 (⟨rfl, hJ1⟩ | ⟨rfl, hJx⟩)
      · refine ⟨_, rfl, ?_⟩; go_simp; refine hK _ _ ?_; clear hK K' gd g7; refine Wp.keep [0, 1, 2, 22] fun r2 hkeep => ?_; obtain ⟨e0_2, e1_2, e2_2, e22_2, -⟩ := hkeep; simp [go_sem, e0_1, e1_1, e2_1] at e0_2 e1_2 e2_2 e22_2; clear e0_1 e1_1 e2_1; refine Wp.condF (by go_simp) ?_; clear hy d0 d1 d2 d3 d4; obtain ⟨d0, d1, d2, d3, d4⟩ := hD _ _ hJ1; refine Wp.skip ?_; refine thenK_normal ?_; refine Wp.seqDraw (.inl rfl) mixed [([0, 1, 2, 3, 4], none), ([5, 6, 7, 8, 9], none)] (by kernel_rfl) fun K' gd hK hg => ?_; clear hg; simp only [pick, nth, List.map_cons, List.map_nil, Option.map_none, Option.map_some]; apply Mops.none
        · intro w' hE'; have hC' := hE'.cellsS; go_simp; with_reducible rfl
        apply Mops.none
        · intro w' hE'; have hC' := hE'.cellsS; go_simp; with_reducible rfl
        refine Mops.done ?_; refine hK _ _ ?_; clear hK K' gd; refine Wp.keep [0, 1, 2, 4] fun r3 hkeep => ?_; obtain ⟨e0_3, e1_3, e2_3, e4_3, -⟩ := hkeep; simp [go_sem, e0_2, e1_2, e2_2, e22_2] at e0_3 e1_3 e2_3 e4_3; clear e0_2 e1_2 e2_2 e22_2; refine Wp.seqRegion (.inl rfl) (by kernel_rfl) fun K' gd hK hg => ?_; clear hg; go_simp; refine hK _ _ ?_; clear hK K' gd; refine Wp.keep [0, 1, 4, 36] fun r4 hkeep => ?_; obtain ⟨e0_4, e1_4, e4_4, e36_4, -⟩ := hkeep; simp [go_sem, e0_3, e1_3, e2_3, e4_3] at e0_4 e1_4 e4_4 e36_4; clear e0_3 e1_3 e2_3 e4_3; refine Wp.condT (by go_simp) ?_; have hJ2 := hJE _ _ _ ((Ext.refl _).drew) hJ1; obtain ⟨fn2, tmps2, as2, bo2, hy, hR2⟩ := hY 1 _ _ rfl hJ2; simp only [encS] at hy; refine Wp.loneRegion (.inl rfl) (by kernel_rfl) fun K' gd hK hg => ?_; clear hg; go_simp; refine Wyield (hR2) ?_; rintro e w1 (⟨rfl, hJ1⟩ | ⟨rfl, hJx⟩)
        · refine ⟨_, rfl, ?_⟩; go_simp; refine hK _ _ ?_; clear hK K' gd; refine Ends.keep [] fun r5 hkeep => ?_; clear hkeep; clear e0_4 e1_4 e4_4 e36_4; refine Ends.mk ?_; refine endN_none Tryz.results151 ?_; exact .inl hJ1
        · refine ⟨_, rfl, ?_⟩; go_simp; refine hK _ _ ?_; clear hK K' gd; refine Ends.keep [] fun r6 hkeep => ?_; clear hkeep; clear e0_4 e1_4 e4_4 e36_4; refine Ends.mk ?_; refine endN_none Tryz.results151 ?_; exact .inr hJx
      · refine ⟨_, rfl, ?_⟩; go_simp; refine hK _ _ ?_; clear hK K' gd g7; refine Wp.keep [0, 1, 2, 22] fun r7 hkeep => ?_; obtain ⟨e0_7, e1_7, e2_7, e22_7, -⟩ := hkeep; simp [go_sem, e0_1, e1_1, e2_1] at e0_7 e1_7 e2_7 e22_7; clear e0_1 e1_1 e2_1; refine Wp.condT (by go_simp) ?_; refine Wp.ret ?_; refine thenK_ret ?_; refine endK_none Tryz.results151 ?_; exact .inr hJx
    · have hL : behindL o (i, j) = [(i, p)] := by simp [behindL, ← hp, ← hq, h1, show ¬ ((i : Int) + o.C j < o.n) by omega]
      rw [hL] at hY ⊢; obtain ⟨fn, tmps, as_, bo_, hy, hR⟩ := hY 0 _ _ rfl h0; obtain ⟨d0, d1, d2, d3, d4⟩ := hD _ _ h0; simp only [encS] at hy; refine Wp.fn Tryz.func151 rfl Tryz.ntmps151 (by simp) ?_; refine Wp.keep [0, 1, 2] fun r1 hkeep => ?_; obtain ⟨e0_1, e1_1, e2_1, -⟩ := hkeep; simp [go_sem] at e0_1 e1_1 e2_1; refine Wp.seq ?_; refine Wp.seqRegion (.inl rfl) (by kernel_rfl) fun K' gd hK hg => ?_; have g7 : gd 7 = some 12 := hg 7; clear hg; go_simp; refine Wyield (hR) ?_; rintro e w1 (⟨rfl, hJ1⟩ | ⟨rfl, hJx⟩)
      · refine ⟨_, rfl, ?_⟩; go_simp; refine hK _ _ ?_; clear hK K' gd g7; refine Wp.keep [0, 1, 2, 22] fun r2 hkeep => ?_; obtain ⟨e0_2, e1_2, e2_2, e22_2, -⟩ := hkeep; simp [go_sem, e0_1, e1_1, e2_1] at e0_2 e1_2 e2_2 e22_2; clear e0_1 e1_1 e2_1; refine Wp.condF (by go_simp) ?_; clear hy d0 d1 d2 d3 d4; obtain ⟨d0, d1, d2, d3, d4⟩ := hD _ _ hJ1; refine Wp.skip ?_; refine thenK_normal ?_; refine Wp.seqDraw (.inl rfl) mixed [([0, 1, 2, 3, 4], none), ([5, 6, 7, 8, 9], none)] (by kernel_rfl) fun K' gd hK hg => ?_; clear hg; simp only [pick, nth, List.map_cons, List.map_nil, Option.map_none, Option.map_some]; apply Mops.none
        · intro w' hE'; have hC' := hE'.cellsS; go_simp; with_reducible rfl
        apply Mops.none
        · intro w' hE'; have hC' := hE'.cellsS; go_simp; with_reducible rfl
        refine Mops.done ?_; refine hK _ _ ?_; clear hK K' gd; refine Wp.keep [0, 1, 2, 4] fun r3 hkeep => ?_; obtain ⟨e0_3, e1_3, e2_3, e4_3, -⟩ := hkeep; simp [go_sem, e0_2, e1_2, e2_2, e22_2] at e0_3 e1_3 e2_3 e4_3; clear e0_2 e1_2 e2_2 e22_2; refine Wp.seqRegion (.inl rfl) (by kernel_rfl) fun K' gd hK hg => ?_; clear hg; go_simp; refine hK _ _ ?_; clear hK K' gd; refine Wp.keep [0, 1, 4, 36] fun r4 hkeep => ?_; obtain ⟨e0_4, e1_4, e4_4, e36_4, -⟩ := hkeep; simp [go_sem, e0_3, e1_3, e2_3, e4_3] at e0_4 e1_4 e4_4 e36_4; clear e0_3 e1_3 e2_3 e4_3; refine Wp.condF (by go_simp) ?_; refine Wp.skip ?_; refine endN_none Tryz.results151 ?_; exact .inl (hJE _ _ _ ((Ext.refl _).drew) hJ1)
      · refine ⟨_, rfl, ?_⟩; go_simp; refine hK _ _ ?_; clear hK K' gd g7; refine Wp.keep [0, 1, 2, 22] fun r5 hkeep => ?_; obtain ⟨e0_5, e1_5, e2_5, e22_5, -⟩ := hkeep; simp [go_sem, e0_1, e1_1, e2_1] at e0_5 e1_5 e2_5 e22_5; clear e0_1 e1_1 e2_1; refine Wp.condT (by go_simp) ?_; refine Wp.ret ?_; refine thenK_ret ?_; refine endK_none Tryz.results151 ?_; exact .inr hJx
  · have h1' : ¬ j < m1 := by omega
    by_cases h2 : q < o.n
    · have hL : behindL o (i, j) = [(q, j)] := by simp [behindL, ← hp, ← hq, h1, show (i : Int) + o.C j < o.n by omega]
      rw [hL] at hY ⊢; obtain ⟨d0, d1, d2, d3, d4⟩ := hD _ _ h0; refine Wp.fn Tryz.func151 rfl Tryz.ntmps151 (by simp) ?_; refine Wp.keep [0, 1, 2] fun r1 hkeep => ?_; obtain ⟨e0_1, e1_1, e2_1, -⟩ := hkeep; simp [go_sem] at e0_1 e1_1 e2_1; refine Wp.seq ?_; refine Wp.seqRegion (.inl rfl) (by kernel_rfl) fun K' gd hK hg => ?_; have g7 : gd 7 = some 12 := hg 7; clear hg; go_simp; refine hK _ _ ?_; clear hK K' gd g7; refine Wp.keep [0, 1, 2, 22] fun r2 hkeep => ?_; obtain ⟨e0_2, e1_2, e2_2, e22_2, -⟩ := hkeep; simp [go_sem, e0_1, e1_1, e2_1] at e0_2 e1_2 e2_2 e22_2; clear e0_1 e1_1 e2_1; refine Wp.condF (by go_simp) ?_; refine Wp.skip ?_; refine thenK_normal ?_; refine Wp.seqDraw (.inl rfl) mixed [([0, 1, 2, 3, 4], none), ([5, 6, 7, 8, 9], none)] (by kernel_rfl) fun K' gd hK hg => ?_; clear hg; simp only [pick, nth, List.map_cons, List.map_nil, Option.map_none, Option.map_some]; apply Mops.none
      · intro w' hE'; have hC' := hE'.cellsS; go_simp; with_reducible rfl
      apply Mops.none
      · intro w' hE'; have hC' := hE'.cellsS; go_simp; with_reducible rfl
      refine Mops.done ?_; refine hK _ _ ?_; clear hK K' gd; refine Wp.keep [0, 1, 2, 4] fun r3 hkeep => ?_; obtain ⟨e0_3, e1_3, e2_3, e4_3, -⟩ := hkeep; simp [go_sem, e0_2, e1_2, e2_2, e22_2] at e0_3 e1_3 e2_3 e4_3; clear e0_2 e1_2 e2_2 e22_2; refine Wp.seqRegion (.inl rfl) (by kernel_rfl) fun K' gd hK hg => ?_; clear hg; go_simp; refine hK _ _ ?_; clear hK K' gd; refine Wp.keep [0, 1, 4, 36] fun r4 hkeep => ?_; obtain ⟨e0_4, e1_4, e4_4, e36_4, -⟩ := hkeep; simp [go_sem, e0_3, e1_3, e2_3, e4_3] at e0_4 e1_4 e4_4 e36_4; clear e0_3 e1_3 e2_3 e4_3; refine Wp.condT (by go_simp) ?_; have hJ2 := hJE _ _ _ ((Ext.refl _).drew) h0; obtain ⟨fn2, tmps2, as2, bo2, hy, hR2⟩ := hY 0 _ _ rfl hJ2; simp only [encS] at hy; refine Wp.loneRegion (.inl rfl) (by kernel_rfl) fun K' gd hK hg => ?_; clear hg; go_simp; refine Wyield (hR2) ?_; rintro e w1 (⟨rfl, hJ1⟩ | ⟨rfl, hJx⟩)
      · refine ⟨_, rfl, ?_⟩; go_simp; refine hK _ _ ?_; clear hK K' gd; refine Ends.keep [] fun r5 hkeep => ?_; clear hkeep; clear e0_4 e1_4 e4_4 e36_4; refine Ends.mk ?_; refine endN_none Tryz.results151 ?_; exact .inl hJ1
      · refine ⟨_, rfl, ?_⟩; go_simp; refine hK _ _ ?_; clear hK K' gd; refine Ends.keep [] fun r6 hkeep => ?_; clear hkeep; clear e0_4 e1_4 e4_4 e36_4; refine Ends.mk ?_; refine endN_none Tryz.results151 ?_; exact .inr hJx
    · have hL : behindL o (i, j) = [] := by simp [behindL, ← hp, ← hq, h1, show ¬ ((i : Int) + o.C j < o.n) by omega]
      rw [hL] at hY ⊢; obtain ⟨d0, d1, d2, d3, d4⟩ := hD _ _ h0; refine Wp.fn Tryz.func151 rfl Tryz.ntmps151 (by simp) ?_; refine Wp.keep [0, 1, 2] fun r1 hkeep => ?_; obtain ⟨e0_1, e1_1, e2_1, -⟩ := hkeep; simp [go_sem] at e0_1 e1_1 e2_1; refine Wp.seq ?_; refine Wp.seqRegion (.inl rfl) (by kernel_rfl) fun K' gd hK hg => ?_; have g7 : gd 7 = some 12 := hg 7; clear hg; go_simp; refine hK _ _ ?_; clear hK K' gd g7; refine Wp.keep [0, 1, 2, 22] fun r2 hkeep => ?_; obtain ⟨e0_2, e1_2, e2_2, e22_2, -⟩ := hkeep; simp [go_sem, e0_1, e1_1, e2_1] at e0_2 e1_2 e2_2 e22_2; clear e0_1 e1_1 e2_1; refine Wp.condF (by go_simp) ?_; refine Wp.skip ?_; refine thenK_normal ?_; refine Wp.seqDraw (.inl rfl) mixed [([0, 1, 2, 3, 4], none), ([5, 6, 7, 8, 9], none)] (by kernel_rfl) fun K' gd hK hg => ?_; clear hg; simp only [pick, nth, List.map_cons, List.map_nil, Option.map_none, Option.map_some]; apply Mops.none
      · intro w' hE'; have hC' := hE'.cellsS; go_simp; with_reducible rfl
      apply Mops.none
      · intro w' hE'; have hC' := hE'.cellsS; go_simp; with_reducible rfl
      refine Mops.done ?_; refine hK _ _ ?_; clear hK K' gd; refine Wp.keep [0, 1, 2, 4] fun r3 hkeep => ?_; obtain ⟨e0_3, e1_3, e2_3, e4_3, -⟩ := hkeep; simp [go_sem, e0_2, e1_2, e2_2, e22_2] at e0_3 e1_3 e2_3 e4_3; clear e0_2 e1_2 e2_2 e22_2; refine Wp.seqRegion (.inl rfl) (by kernel_rfl) fun K' gd hK hg => ?_; clear hg; go_simp; refine hK _ _ ?_; clear hK K' gd; refine Wp.keep [0, 1, 4, 36] fun r4 hkeep => ?_; obtain ⟨e0_4, e1_4, e4_4, e36_4, -⟩ := hkeep; simp [go_sem, e0_3, e1_3, e2_3, e4_3] at e0_4 e1_4 e4_4 e36_4; clear e0_3 e1_3 e2_3 e4_3; refine Wp.condF (by go_simp) ?_; refine Wp.skip ?_; refine endN_none Tryz.results151 ?_; exact .inl (hJE _ _ _ ((Ext.refl _).drew) h0)
end Go.Proofs.YtnfagcccgmakdaaGreat
namespace Go.Proofs.YtnfagcccgmakdaaGreat
open Go.RowKit Go.Wk Go.Proofs
attribute [local irreducible] Go.Wk.Wops Go.Wk.Wp
set_option maxHeartbeats 4000000
theorem Marks.keeps {m : Nat} {W W' : World} (hK : KeepsOthers W W') : ∀ {ds : List Deferred}, Marks m ds W → Marks m ds W'
  | [], _ => trivial
  | _ :: _, ⟨⟨r, hm, hd, hh, hn⟩, h⟩ => ⟨⟨r, hm, hd, hK.same _ _ hh rfl, hn⟩, Marks.keeps hK h⟩
theorem Marks.adm {m n : Nat} {W0 W W' : World} (hn0 : W0.heap.size ≤ n) (hA : Adm n W W') : ∀ {ds : List Deferred}, Marks m ds W0 → Marks m ds W → Marks m ds W'
  | [], _, _ => trivial
  | _ :: _, ⟨⟨r0, _, hd0, hh0, _⟩, h0⟩, ⟨⟨r, hm, hd, hh, hn⟩, h⟩ => by
    have e : r0 = r := by rw [hd] at hd0; injection hd0 with hd0; injection hd0 with hd0; exact hd0.symm
    subst e; exact ⟨⟨r0, hm, hd, hA.block _ _ hh (.inl (Nat.lt_of_lt_of_le (Array.getElem?_eq_some_iff.1 hh0).1 hn0)), hn⟩, Marks.adm hn0 hA h0 h⟩
theorem Marks.ne {m r : Nat} {W0 : World} (hr : W0.heap.size ≤ r) : ∀ {ds : List Deferred}, Marks m ds W0 → ∀ d ∈ ds, d ≠ markOf r
  | _ :: _, ⟨⟨r0, _, hd0, hh0, _⟩, h0⟩, d, hd => by
    rcases List.mem_cons.1 hd with rfl | hd
    · intro e; rw [hd0] at e; injection e with e; injection e with e; have := (Array.getElem?_eq_some_iff.1 hh0).1; omega
    · exact Marks.ne hr h0 d hd
theorem Marks.cons {m r : Nat} {ds : List Deferred} {W0 W : World} (h0 : Marks m ds W0) (hr : W0.heap.size ≤ r) (hm : m ≤ r) (hW : W.heap[r]? = some (.deferred (some []))) (h : Marks m ds W) : Marks m (markOf r :: ds) W :=
  ⟨⟨r, hm, rfl, hW, fun d hd => Marks.ne hr h0 d hd⟩, h⟩
structure TabF (w : World) (b : Nat) (t : Nat → Nat → Int) : Prop where
  ct : ∀ i j, i < 20 → j < 15 → w.cell? ⟨b, i * 15 + j, none⟩ = some (.int .i64 (t i j))
  fz : ∀ k, w.frozen? ⟨b, k, none⟩ = false
theorem TabF.of_block {w w' : World} {b : Nat} {t : Nat → Nat → Int} (h : TabF w b t) (hb : w'.heap[b]? = w.heap[b]?) : TabF w' b t :=
  ⟨fun i j hi hj => (World.cell?_of_block (a := ⟨b, i * 15 + j, none⟩) hb).trans (h.ct i j hi hj), fun k => (World.frozen?_of_block (a := ⟨b, k, none⟩) hb).trans (h.fz k)⟩
theorem TabF.lt {w : World} {b : Nat} {t : Nat → Nat → Int} (h : TabF w b t) : b < w.heap.size := cell_lt (h.ct 0 0 (by decide) (by decide))
theorem TabF.ext {w w' : World} {b : Nat} {t : Nat → Nat → Int} (h : TabF w b t) (hE : Ext w w') : TabF w' b t := h.of_block (hE.block b h.lt)
theorem TabF.adm {w w' : World} {m b : Nat} {t : Nat → Nat → Int} (h : TabF w b t) (hA : Adm m w w') : TabF w' b t := by
  obtain ⟨u, hu, hc⟩ := cells_of_cell (h.ct 0 0 (by decide) (by decide)); exact h.of_block ((hA.block b u hu (.inr hc)).trans hu.symm)
theorem TabF.shut {w w' : World} {m b : Nat} {t : Nat → Nat → Int} (h : TabF w b t) (hS : Shut m w w') : TabF w' b t := h.of_block (hS.same (h.ct 0 0 (by decide) (by decide)))
theorem TabF.set {w : World} {b : Nat} {t : Nat → Nat → Int} (h : TabF w b t) {i j : Nat} (hi : i < 20) (hj : j < 15) (x : Int) :
    TabF (w.setCell ⟨b, i * 15 + j, none⟩ (.int .i64 x)) b (fun i' j' => if i' = i ∧ j' = j then x else t i' j') := by
  refine ⟨?_, fun k => (World.frozen?_setCell ..).trans (h.fz k)⟩; intro i' j' hi' hj'
  by_cases e : i' = i ∧ j' = j
  · obtain ⟨rfl, rfl⟩ := e; rw [if_pos ⟨rfl, rfl⟩]; exact World.cell?_setCell_same' _ _ _ (by rw [h.ct i' j' hi' hj']; rfl)
  · rw [if_neg e, World.cell?_setCell_other _ _ _ _ (by intro e'; injection e' with _ e'; exact e (idx_inj hj' hj (by omega)))]; exact h.ct i' j' hi' hj'
theorem zero_tab : Tryz.zeroCells112 = (List.replicate 300 (Value.int .i64 0)).toArray := by kernel_rfl
theorem new_tab (w : World) : TabF (w.alloc (.cells Tryz.zeroCells112 112)) w.heap.size (fun _ _ => 0) := by
  refine ⟨fun i j hi hj => ?_, fun k => frozen_nw _ _ _ _⟩; rw [cell_nw, zero_tab, List.getElem?_toArray, List.getElem?_replicate, if_pos (by omega)]
def leastL (t : Nat → Nat → Int) (first : Int) (xs : List (Nat × Nat)) : Int := xs.foldl (fun m s => min m (t s.1 s.2)) first
theorem leastL_take (t : Nat → Nat → Int) (first : Int) (xs : List (Nat × Nat)) {k : Nat} {x : Nat × Nat} (h : xs[k]? = some x) : leastL t first (xs.take (k + 1)) = min (leastL t first (xs.take k)) (t x.1 x.2) := by
  unfold leastL; rw [List.take_add_one, h]; simp [List.foldl_append]
theorem min_if (x y : Int) : (if y < x then y else x) = min x y := by omega
theorem leastL_congr {t t' : Nat → Nat → Int} {first : Int} : ∀ {xs : List (Nat × Nat)}, (∀ x ∈ xs, t x.1 x.2 = t' x.1 x.2) → leastL t first xs = leastL t' first xs := by
  intro xs; unfold leastL
  induction xs generalizing first with
  | nil => intro _; rfl
  | cons x xs ih =>
    intro h; simp only [List.foldl_cons]; rw [h x (List.mem_cons_self), ih (fun y hy => h y (List.mem_cons_of_mem _ hy))]
theorem leastL_le {t : Nat → Nat → Int} {first : Int} : ∀ {xs : List (Nat × Nat)}, leastL t first xs ≤ first := by
  intro xs; unfold leastL
  induction xs generalizing first with
  | nil => exact Int.le_refl _
  | cons x xs ih => simp only [List.foldl_cons]; exact Int.le_trans ih (Int.min_le_left _ _)
theorem leastL_ge {t : Nat → Nat → Int} {first B : Int} : ∀ {xs : List (Nat × Nat)}, B ≤ first → (∀ x ∈ xs, B ≤ t x.1 x.2) → B ≤ leastL t first xs := by
  intro xs; unfold leastL
  induction xs generalizing first with
  | nil => intro h _; exact h
  | cons x xs ih =>
    intro h h2; simp only [List.foldl_cons]; exact ih (Int.le_min.2 ⟨h, h2 x (List.mem_cons_self)⟩) fun y hy => h2 y (List.mem_cons_of_mem _ hy)
theorem behindL_mem {o : Ord} {i j : Nat} {x : Nat × Nat} (hC : 1 ≤ o.C j) (h : x ∈ behindL o (i, j)) : (x.2 = j + 1 ∧ x.1 = i ∧ x.2 < o.m) ∨ (x.2 = j ∧ (x.1 : Int) = i + o.C j ∧ x.1 < o.n) := by
  simp only [behindL, List.mem_append] at h
  rcases h with h | h
  · split at h
    · simp at h; subst h; exact .inl ⟨rfl, rfl, by simp; omega⟩
    · simp at h
  · split at h
    · simp at h; subst h; exact .inr ⟨rfl, by simp; omega, by simp; omega⟩
    · simp at h
def lstF (o : Ord) (d : Int) : Nat → Nat → Nat → Int
  | 0, _, _ => 0
  | f + 1, i, j => leastL (lstF o d f) d (behindL o (i, j)) - o.T i j
def lst (o : Ord) (d : Int) (i j : Nat) : Int := lstF o d ((o.n - i) + (o.m - j) + 1) i j
theorem lstF_stable {o : Ord} {d : Int} (ho : OrdOk o) : ∀ (f g i j : Nat), (o.n - i) + (o.m - j) < f → (o.n - i) + (o.m - j) < g → i < o.n → j < o.m → lstF o d f i j = lstF o d g i j
  | 0, _, _, _, h, _, _, _ => absurd h (Nat.not_lt_zero _)
  | _ + 1, 0, _, _, _, h, _, _ => absurd h (Nat.not_lt_zero _)
  | f + 1, g + 1, i, j, h1, h2, hi, hj => by
    have hC := (ho.vC j hj).1
    show leastL _ _ _ - _ = leastL _ _ _ - _
    congr 1
    refine leastL_congr fun x hx => ?_; have := behindL_mem hC hx; exact lstF_stable ho f g x.1 x.2 (by omega) (by omega) (by omega) (by omega)
theorem lst_eq {o : Ord} {d : Int} (ho : OrdOk o) {i j : Nat} (hi : i < o.n) (hj : j < o.m) : lst o d i j = leastL (lst o d) d (behindL o (i, j)) - o.T i j := by
  show leastL (lstF o d ((o.n - i) + (o.m - j))) _ _ - _ = _
  congr 1
  refine leastL_congr fun x hx => ?_; have hC := (ho.vC j hj).1; have := behindL_mem hC hx; exact lstF_stable ho _ _ _ _ (by omega) (by omega) (by omega) (by omega)
theorem lst_bound {o : Ord} {d : Int} (ho : OrdOk o) : ∀ (s i j : Nat), (o.n - i) + (o.m - j) = s → i < o.n → j < o.m → d - 60 * (s : Int) ≤ lst o d i j ∧ lst o d i j ≤ d := by
  intro s
  induction s using Nat.strongRecOn with
  | ind s ih =>
    intro i j hs hi hj; rw [lst_eq ho hi hj]; have hT := ho.vT i j hi hj; have hC := (ho.vC j hj).1
    have h1 : d - 60 * ((s : Int) - 1) ≤ leastL (lst o d) d (behindL o (i, j)) := leastL_ge (by omega) fun x hx => by
      have hx := behindL_mem hC hx; have h1 := ih ((o.n - x.1) + (o.m - x.2)) (by omega) x.1 x.2 rfl (by omega) (by omega); omega
    have h2 : leastL (lst o d) d (behindL o (i, j)) ≤ d := leastL_le; omega
theorem lst_ok {o : Ord} {d : Int} (ho : OrdOk o) {i j : Nat} (hi : i < o.n) (hj : j < o.m) : d - 2100 ≤ lst o d i j ∧ lst o d i j ≤ d := by
  have h := lst_bound (d := d) ho _ i j rfl hi hj; have := ho.hm2; have := ho.hn2; omega
def lstT (o : Ord) (d : Int) (k i j : Nat) : Int := if i < o.n ∧ j < o.m ∧ (o.n - 1 - i) * o.m + (o.m - 1 - j) < k then lst o d i j else 0
def lstA (o : Ord) (d : Int) (i j : Nat) : Int := if i < o.n ∧ j < o.m then lst o d i j else 0
theorem lstT_zero (o : Ord) (d : Int) : lstT o d 0 = fun _ _ => 0 := by
  funext i j; exact if_neg (fun h => Nat.not_lt_zero _ h.2.2)
theorem lstT_all (o : Ord) (d : Int) : lstT o d (o.n * o.m) = lstA o d := by
  funext i j
  unfold lstT lstA
  by_cases h : i < o.n ∧ j < o.m
  · rw [if_pos ⟨h.1, h.2, idx_lt (by omega) (by omega)⟩, if_pos h]
  · rw [if_neg (fun h' => h ⟨h'.1, h'.2.1⟩), if_neg h]
theorem lstA_eq {o : Ord} {d : Int} {i j : Nat} (hi : i < o.n) (hj : j < o.m) : lstA o d i j = lst o d i j := if_pos ⟨hi, hj⟩
theorem lstT_step {o : Ord} {d : Int} {i j k l : Nat} (hi : i + k + 1 = o.n) (hj : j + l + 1 = o.m) : (fun i' j' => if i' = i ∧ j' = j then lst o d i j else lstT o d (k * o.m + l) i' j') = lstT o d (k * o.m + l + 1) := by
  have ek : o.n - 1 - i = k := by omega
  have el : o.m - 1 - j = l := by omega
  funext i' j'
  unfold lstT
  by_cases e : i' = i ∧ j' = j
  · obtain ⟨rfl, rfl⟩ := e; rw [if_pos ⟨rfl, rfl⟩, if_pos ⟨by omega, by omega, by rw [ek, el]; omega⟩]
  · rw [if_neg e]
    by_cases h : i' < o.n ∧ j' < o.m
    · have hne : (o.n - 1 - i') * o.m + (o.m - 1 - j') ≠ k * o.m + l := fun he => by
        have := idx_inj2 (m := o.m) (by omega) (by omega) he; exact e (by omega)
      by_cases h2 : (o.n - 1 - i') * o.m + (o.m - 1 - j') < k * o.m + l
      · rw [if_pos ⟨h.1, h.2, h2⟩, if_pos ⟨h.1, h.2, by omega⟩]
      · rw [if_neg (fun h' => h2 h'.2.2), if_neg (fun h' => h2 (by have := h'.2.2; omega))]
    · rw [if_neg (fun h' => h ⟨h'.1, h'.2.1⟩), if_neg (fun h' => h ⟨h'.1, h'.2.1⟩)]
theorem lstT_behind {o : Ord} {d : Int} (ho : OrdOk o) {i j k l : Nat} (hi : i + k + 1 = o.n) (hj : j + l + 1 = o.m) {x : Nat × Nat} (hx : x ∈ behindL o (i, j)) : lstT o d (k * o.m + l) x.1 x.2 = lst o d x.1 x.2 := by
  have hC := (ho.vC j (by omega)).1; have hx := behindL_mem hC hx
  have : (o.n - 1 - x.1) * o.m + (o.m - 1 - x.2) < k * o.m + l := by
    rcases hx with ⟨h1, h2, h3⟩ | ⟨h1, h2, h3⟩
    · rw [h2, show o.n - 1 - i = k by omega]; omega
    · have h3 : o.n - 1 - x.1 < k := by omega
      have := idx_lt (m := o.m) h3 (show o.m - 1 - x.2 < o.m by omega); omega
  exact if_pos ⟨by omega, by omega, this⟩
end Go.Proofs.YtnfagcccgmakdaaGreat
namespace Go.Proofs.YtnfagcccgmakdaaGreat
open Go.RowKit Go.Wk Go.Proofs
attribute [local irreducible] Go.Wk.Wops Go.Wk.Wp
set_option maxHeartbeats 4000000
theorem stripTake {α : Type} (l : List α) : l.take l.length = l := List.take_length
theorem setCell_blk {w : World} {b k b' k' : Nat} {v : Value} (h : b ≠ b') : (w.setCell ⟨b, k, none⟩ v).cell? ⟨b', k', none⟩ = w.cell? ⟨b', k', none⟩ :=
  World.cell?_setCell_other _ _ _ _ (by intro e; injection e; omega)
theorem TabF.other {w : World} {b b' k : Nat} {t : Nat → Nat → Int} {v : Value} (h : TabF w b t) (hb : b' ≠ b) : TabF (w.setCell ⟨b', k, none⟩ v) b t :=
  ⟨fun i j hi hj => (setCell_blk hb).trans (h.ct i j hi hj), fun _ => (World.frozen?_setCell ..).trans (h.fz _)⟩
theorem last_c (a : OA) (o : Ord) (b : Nat) (d : Int) (t' : Nat → Nat → Int) (w : World) (hO : OrdF w w.heap.size a o) (hR : RowF w b a o t') (hd : 0 ≤ d ∧ d ≤ 1048576) :
    CallsV Tryz.prog 94 #[.pointer (some ⟨b, 0, none⟩), .int .i64 d] w fun v w' => ∃ bt, v = .pointer (some ⟨bt, 0, none⟩) ∧ TabF w' bt (lstA o d) ∧ Ext w w' ∧ w.heap.size ≤ bt := by
  have ho := hO.ok; have c0 := hR.c0; have c1 := hR.c1; have hm := hO.hm2; have hm1 := hO.hm1; have hn := hO.hn2; simp only [OA.rv] at c1; simp only [OA.cv] at c0; obtain ⟨m1, hm1'⟩ : ∃ m1 : Nat, m1 + 1 = o.m := ⟨o.m - 1, by omega⟩; have hwm : IntKind.i64.wrap ((o.m : Int) - 1) = (m1 : Int) := by rw [IntWalk.i64_in _ (by omega)]; omega
  refine Wp.fnM Tryz.func94 rfl Tryz.ntmps94 (by simp) ?_; refine Wp.keep [0, 1] fun r1 hkeep => ?_; obtain ⟨e0_1, e1_1, -⟩ := hkeep; simp [go_sem] at e0_1 e1_1; refine Wp.seqRegion (.inl rfl) (by kernel_rfl) fun K' gd hK hg => ?_; clear hg; go_simp; refine hK _ _ ?_; clear hK K' gd; refine Wp.keep [0, 1] fun r2 hkeep => ?_; obtain ⟨e0_2, e1_2, -⟩ := hkeep; simp [go_sem, e0_1, e1_1] at e0_2 e1_2; clear e0_1 e1_1; refine Wp.seqRegion (.inl rfl) (by kernel_rfl) fun K' gd hK hg => ?_; clear hg; go_simp; refine hK _ _ ?_; clear hK K' gd; refine Wp.keep [0, 1, 5] fun r3 hkeep => ?_; obtain ⟨e0_3, e1_3, e5_3, -⟩ := hkeep; simp [go_sem, e0_2, e1_2] at e0_3 e1_3 e5_3; clear e0_2 e1_2; refine Wp.seq ?_; refine Wp.seqRegion (.inl rfl) (by kernel_rfl) fun K' gd hK hg => ?_; clear hg; go_simp; refine hK _ _ ?_; clear hK K' gd; refine Wp.keep [0, 1, 5, 16, 17] fun r4 hkeep => ?_; obtain ⟨e0_4, e1_4, e5_4, e16_4, e17_4, -⟩ := hkeep; simp [go_sem, e0_3, e1_3, e5_3] at e0_4 e1_4 e5_4 e16_4 e17_4; clear e0_3 e1_3 e5_3; refine Wp.block ?_; refine Wp.loop (fun u ρ ds wu => AllEq [0, 1, 5, 16] ρ r4 ∧ Marks w.heap.size ds wu ∧ (ρ 17 = .int .i64 (u : Int) ∧ Ext w wu ∧ TabF wu w.heap.size (lstT o d (u * o.m)))) (o.n) ?_ ?_
  · refine ⟨AllEq.refl _ _, trivial, ?_⟩; refine ⟨by rw [e17_4]; rfl, (Ext.refl w).alloc _, ?_⟩; rw [Nat.zero_mul, lstT_zero]; exact new_tab w
  · rintro u r5 dsu wu hu ⟨hA, hMu, ⟨e17, hE, hT⟩⟩; obtain ⟨e0_5, e1_5, e5_5, e16_5, -⟩ := hA; rw [e0_4] at e0_5; rw [e1_4] at e1_5; rw [e5_4] at e5_5; rw [e16_4] at e16_5; refine Wp.seqRegion (.inl rfl) (by kernel_rfl) fun K' gd hK hg => ?_; clear hg; go_simp; refine hK _ _ ?_; clear hK K' gd; refine Wp.keep [0, 1, 5, 16, 17, 18] fun r6 hkeep => ?_; obtain ⟨e0_6, e1_6, e5_6, e16_6, e17_6, e18_6, -⟩ := hkeep; simp [go_sem, e0_5, e1_5, e5_5, e16_5, e17] at e0_6 e1_6 e5_6 e16_6 e17_6 e18_6; clear e0_5 e1_5 e5_5 e16_5 e17; refine Wp.seq ?_
    by_cases h : u < o.n
    · refine Wp.condT (by go_simp) ?_; have d0 := hE.cell c0; have d1 := hE.cell c1; refine Wp.skip ?_; refine thenK_normal ?_; refine Wp.seq ?_; refine Wp.block ?_; refine Wp.seqRegion (.inl rfl) (by kernel_rfl) fun K' gd hK hg => ?_; clear hg; go_simp; refine hK _ _ ?_; clear hK K' gd; refine Wp.keep [0, 1, 5, 6, 16, 17] fun r7 hkeep => ?_; obtain ⟨e0_7, e1_7, e5_7, e6_7, e16_7, e17_7, -⟩ := hkeep; simp [go_sem, e0_6, e1_6, e5_6, e16_6, e17_6, e18_6] at e0_7 e1_7 e5_7 e6_7 e16_7 e17_7; clear e0_6 e1_6 e5_6 e16_6 e17_6 e18_6; refine Wp.seqRegion (.inl rfl) (by kernel_rfl) fun K' gd hK hg => ?_; clear hg; go_simp; refine hK _ _ ?_; clear hK K' gd; refine Wp.keep [0, 1, 5, 6, 16, 17, 25, 26] fun r8 hkeep => ?_; obtain ⟨e0_8, e1_8, e5_8, e6_8, e16_8, e17_8, e25_8, e26_8, -⟩ := hkeep; simp [go_sem, e0_7, e1_7, e5_7, e6_7, e16_7, e17_7] at e0_8 e1_8 e5_8 e6_8 e16_8 e17_8 e25_8 e26_8; clear e0_7 e1_7 e5_7 e6_7 e16_7 e17_7; refine Wp.block ?_; refine Wp.loop (fun z ρ ds wz => AllEq [0, 1, 5, 6, 16, 17, 25] ρ r8 ∧ Marks w.heap.size ds wz ∧ (ρ 26 = .int .i64 (z : Int) ∧ Ext w wz ∧ TabF wz w.heap.size (lstT o d (u * o.m + z)))) (o.m) ?_ ?_
      · refine ⟨AllEq.refl _ _, hMu, ?_⟩; exact ⟨by rw [e26_8]; rfl, hE, hT⟩
      · rintro z r9 dsz wz hz ⟨hA, hMz, ⟨e26, hEz, hTz⟩⟩; obtain ⟨e0_9, e1_9, e5_9, e6_9, e16_9, e17_9, e25_9, -⟩ := hA; rw [e0_8] at e0_9; rw [e1_8] at e1_9; rw [e5_8] at e5_9; rw [e6_8] at e6_9; rw [e16_8] at e16_9; rw [e17_8] at e17_9; rw [e25_8] at e25_9; refine Wp.seqRegion (.inl rfl) (by kernel_rfl) fun K' gd hK hg => ?_; clear hg; go_simp; refine hK _ _ ?_; clear hK K' gd; refine Wp.keep [0, 1, 5, 6, 16, 17, 25, 26, 27] fun r10 hkeep => ?_; obtain ⟨e0_10, e1_10, e5_10, e6_10, e16_10, e17_10, e25_10, e26_10, e27_10, -⟩ := hkeep; simp [go_sem, e0_9, e1_9, e5_9, e6_9, e16_9, e17_9, e25_9, e26] at e0_10 e1_10 e5_10 e6_10 e16_10 e17_10 e25_10 e26_10 e27_10; clear e0_9 e1_9 e5_9 e6_9 e16_9 e17_9 e25_9 e26; refine Wp.seq ?_
        by_cases h2 : z < o.m
        · refine Wp.condT (by go_simp) ?_; clear d0 d1; have d0 := hEz.cell c0; have d1 := hEz.cell c1; obtain ⟨n1, hn1⟩ : ∃ n1 : Nat, n1 + 1 = o.n := ⟨o.n - 1, by omega⟩; obtain ⟨i, hi⟩ : ∃ i : Nat, i + u + 1 = o.n := ⟨o.n - 1 - u, by omega⟩; obtain ⟨q, hl⟩ : ∃ q : Nat, q + z + 1 = o.m := ⟨o.m - 1 - z, by omega⟩; have hwn : IntKind.i64.wrap ((o.n : Int) - 1) = (n1 : Int) := by rw [IntWalk.i64_in _ (by omega)]; omega
          have hwi : IntKind.i64.wrap ((n1 : Int) - (u : Int)) = (i : Int) := by rw [IntWalk.i64_in _ (by omega)]; omega
          have hwl : IntKind.i64.wrap ((m1 : Int) - (z : Int)) = (q : Int) := by rw [IntWalk.i64_in _ (by omega)]; omega
          refine Wp.skip ?_; refine thenK_normal ?_; refine Wp.seq ?_; refine Wp.block ?_; refine Wp.seqRegion (.inl rfl) (by kernel_rfl) fun K' gd hK hg => ?_; clear hg; go_simp; refine hK _ _ ?_; clear hK K' gd; refine Wp.keep [0, 1, 5, 6, 7, 16, 17, 25, 26] fun r11 hkeep => ?_; obtain ⟨e0_11, e1_11, e5_11, e6_11, e7_11, e16_11, e17_11, e25_11, e26_11, -⟩ := hkeep; simp [go_sem, e0_10, e1_10, e5_10, e6_10, e16_10, e17_10, e25_10, e26_10, e27_10] at e0_11 e1_11 e5_11 e6_11 e7_11 e16_11 e17_11 e25_11 e26_11; clear e0_10 e1_10 e5_10 e6_10 e16_10 e17_10 e25_10 e26_10 e27_10; refine Wp.seqDraw (.inl rfl) mixed [([0, 1, 2, 3, 4], none), ([5, 6, 7, 8, 9], none), ([10, 11, 12, 13, 14], none), ([15, 16, 17, 18], some (19, false)), ([], some (20, true))] (by kernel_rfl) fun K' gd hK hg => ?_; clear hg; simp only [pick, nth, List.map_cons, List.map_nil, Option.map_none, Option.map_some]; apply Mops.none
          · intro w' hE'; have hC' := hE'.cellsS; go_simp; with_reducible rfl
          apply Mops.none
          · intro w' hE'; have hC' := hE'.cellsS; go_simp; with_reducible rfl
          apply Mops.none
          · intro w' hE'; have hC' := hE'.cellsS; go_simp; with_reducible rfl
          apply Mops.act
          · intro w' hE'; have hC' := hE'.cellsS; go_simp; with_reducible rfl
          intro K1 hK1; go_simp; refine hK1 _ _ ((Ext.refl _).alloc _) ?_; clear hK1 K1; apply Mops.last
          · exact fun _ _ => Rops_done
          intro K1 hK1; go_simp; refine hK1 _ _ ?_; clear hK1 K1; refine Mops.done ?_; refine hK _ _ ?_; clear hK K' gd; refine Wp.keep [0, 1, 5, 6, 8, 16, 17, 25, 26] fun r12 hkeep => ?_; obtain ⟨e0_12, e1_12, e5_12, e6_12, e8_12, e16_12, e17_12, e25_12, e26_12, -⟩ := hkeep; simp [go_sem, e0_11, e1_11, e5_11, e6_11, e7_11, e16_11, e17_11, e25_11, e26_11] at e0_12 e1_12 e5_12 e6_12 e8_12 e16_12 e17_12 e25_12 e26_12; clear e0_11 e1_11 e5_11 e6_11 e7_11 e16_11 e17_11 e25_11 e26_11; refine Wp.seqRegion (.inl rfl) (by kernel_rfl) fun K' gd hK hg => ?_; clear hg; go_simp; refine hK _ _ ?_; clear hK K' gd; refine Wp.keep [0, 1, 5, 6, 8, 9, 16, 17, 25, 26] fun r13 hkeep => ?_; obtain ⟨e0_13, e1_13, e5_13, e6_13, e8_13, e9_13, e16_13, e17_13, e25_13, e26_13, -⟩ := hkeep; simp [go_sem, e0_12, e1_12, e5_12, e6_12, e8_12, e16_12, e17_12, e25_12, e26_12] at e0_13 e1_13 e5_13 e6_13 e8_13 e9_13 e16_13 e17_13 e25_13 e26_13; clear e0_12 e1_12 e5_12 e6_12 e8_12 e16_12 e17_12 e25_12 e26_12; refine Wp.seq ?_; obtain ⟨V, hW⟩ : ∃ V, ((wz.alloc (.cells #[.int .i64 (i : Int), .int .i64 (q : Int)] 56)).alloc (.cells #[.int .i64 d] 3)).drew = V := ⟨_, rfl⟩; have hEW : Ext wz V := by rw [← hW]; exact (((Ext.refl wz).alloc _).alloc _).drew
          have x0 := hEW.cell d0; have x1 := hEW.cell d1; have x2 : V.cell? ⟨wz.heap.size, 0, none⟩ = some (.int .i64 (i : Int)) := by rw [← hW]; exact cell_drew (cell_al _ (cell_nw wz _ _ 0))
          have x3 : V.cell? ⟨wz.heap.size, 1, none⟩ = some (.int .i64 (q : Int)) := by rw [← hW]; exact cell_drew (cell_al _ (cell_nw wz _ _ 1))
          have x4 : V.cell? ⟨wz.heap.size + 1, 0, none⟩ = some (.int .i64 d) := by rw [← hW]; have hh := cell_nw (wz.alloc (.cells #[.int .i64 (i : Int), .int .i64 (q : Int)] 56)) #[.int .i64 d] 3 0; rw [World.size_alloc] at hh; exact cell_drew hh
          have x5 : V.frozen? ⟨wz.heap.size + 1, 0, none⟩ = false := by rw [← hW]; have hh := frozen_nw (wz.alloc (.cells #[.int .i64 (i : Int), .int .i64 (q : Int)] 56)) #[.int .i64 d] 3 0; rw [World.size_alloc] at hh; exact hh
          have x6 : V.heap.size = wz.heap.size + 2 := by rw [← hW]; simp
          rw [hW]; clear hW; refine Wp.seqDraw (.inl rfl) mixed [([0, 1, 2, 3, 4], some (5, false))] (by kernel_rfl) fun K' gd hK hg => ?_; clear hg; simp only [pick, nth, List.map_cons, List.map_nil, Option.map_none, Option.map_some]; apply Mops.act
          · intro w' hE'; have hC' := hE'.cellsS; go_simp; with_reducible rfl
          intro K1 hK1; go_simp; refine Wcall (.inl rfl) (behind_c a o (i : Int) (q : Int) _) ?_; rintro v w2 ⟨bs, bo, rfl, hE2, s0, s1, s2, s3, hbs, hbo⟩; go_simp; refine hK1 _ _ (XR) ?_; clear hK1 K1; refine Mops.done ?_; refine hK _ _ ?_; clear hK K' gd; refine Wp.keep [0, 1, 5, 6, 8, 9, 16, 17, 25, 26, 54] fun r14 hkeep => ?_; obtain ⟨e0_14, e1_14, e5_14, e6_14, e8_14, e9_14, e16_14, e17_14, e25_14, e26_14, e54_14, -⟩ := hkeep; simp [go_sem, e0_13, e1_13, e5_13, e6_13, e8_13, e9_13, e16_13, e17_13, e25_13, e26_13] at e0_14 e1_14 e5_14 e6_14 e8_14 e9_14 e16_14 e17_14 e25_14 e26_14 e54_14; clear e0_13 e1_13 e5_13 e6_13 e8_13 e9_13 e16_13 e17_13 e25_13 e26_13; have hbs2 : V.heap.size ≤ bs := hbs; have hbo2 : V.heap.size ≤ bo := hbo; have hEW2 : Ext V w2 := ((Ext.refl V).drew).trans hE2; have hEw : Ext w w2 := (hEz.trans hEW).trans hEW2; have y2 := hEW2.cell x2; have y3 := hEW2.cell x3; have y4 := hEW2.cell x4; have y5 := (hEW2.frozen x4).trans x5; have hT2 := (hTz.ext hEW).ext hEW2; have hM2 := Marks.keeps (KeepsOthers.of_ext hEW2) (Marks.keeps (KeepsOthers.of_ext hEW) hMz); have hC := ho.vC q (by omega); have hsz : wz.heap.size + 2 ≤ w2.heap.size := by have := hEW2.size; omega
          have hwj : w.heap.size + 1 ≤ wz.heap.size := by have := hTz.lt; omega
          refine Wp.block ?_; refine Wp.range (behind_it a o i q bs bo (by omega) (by omega) (by omega) (by omega) hC.1 hC.2) (by go_simp) (enters_of Tryz.func151 (by kernel_rfl) rfl) (fun _ => rfl) (fun u' V' => Ext w V' ∧ TabF V' w.heap.size (lstT o d (u * o.m + z)) ∧ Marks w.heap.size dsz V' ∧ V'.cell? ⟨wz.heap.size + 1, 0, none⟩ = some (.int .i64 (leastL (lst o d) d ((behindL o (i, q)).take u'))) ∧ V'.frozen? ⟨wz.heap.size + 1, 0, none⟩ = false ∧ V'.cell? ⟨wz.heap.size, 0, none⟩ = some (.int .i64 (i : Int)) ∧ V'.cell? ⟨wz.heap.size, 1, none⟩ = some (.int .i64 (q : Int)) ∧ (V'.cell? ⟨bs, 0, none⟩ = some (.int .i64 (i : Int)) ∧ V'.cell? ⟨bs, 1, none⟩ = some (.int .i64 (q : Int)) ∧ V'.cell? ⟨bo, 0, none⟩ = some (a.cv o) ∧ V'.cell? ⟨bo, 1, none⟩ = some (a.rv o))) (fun _ _ => False) ?_ ?_ ?_ ?_ ?_ ?_ ?_
          · exact fun u' V' ⟨h1, _, _, _, _, _, _, g0, g1, g2, g3⟩ => ⟨g0, g1, g2, g3, Ext.cell h1 (hO.hC q (by omega))⟩
          · exact fun u' V' V'' hA ⟨h1, h2, h3, h4, h5, h6, h7, g0, g1, g2, g3⟩ => ⟨hA.below h1 (Nat.le_refl _) (by omega), h2.adm hA, Marks.adm (Nat.le_refl _) hA hM2 h3, hA.cell h4, (hA.frozen h4).trans h5, hA.cell h6, hA.cell h7, hA.cell g0, hA.cell g1, hA.cell g2, hA.cell g3⟩
          · exact fun _ _ _ _ h => h
          · exact ⟨hEw, hT2, hM2, y4, y5, y2, y3, s0, s1, s2, s3⟩
          · rintro l k x W hx ⟨i1, i2, i3, i4, i5, i6, i7, g0, g1, g2, g3⟩ hl; simp only [encS, List.zip_toArray, List.zip_cons_cons, List.zip_nil_left, putL_cons, putL_nil]; refine Wp.keep [5, 9, 55] fun r15 hkeep => ?_; obtain ⟨e5_15, e9_15, e55_15, -⟩ := hkeep; simp [go_sem, e0_14, e1_14, e5_14, e6_14, e8_14, e9_14, e16_14, e17_14, e25_14, e26_14, e54_14] at e5_15 e9_15 e55_15; refine Wp.loneRegion (.inr ⟨_, rfl⟩) (by kernel_rfl) fun K' gd hK hg => ?_; clear hg; go_simp; refine hK _ _ ?_; clear hK K' gd; refine Ends.keep [5, 9, 10] fun r16 hkeep => ?_; obtain ⟨e5_16, e9_16, e10_16, -⟩ := hkeep; simp [go_sem, e5_15, e9_15, e55_15] at e5_16 e9_16 e10_16; clear e5_15 e9_15 e55_15; refine Ends.mk ?_; refine thenK_normal ?_; refine ⟨KeepsOthers.alloc _ _, fun W2 hA2 hl2 => ?_⟩; obtain ⟨lr, hl2⟩ := hl2; have hA3 := (Adm.of_ext ((Ext.refl W).alloc _)).trans hA2; have j1 := hA3.below i1 (Nat.le_refl _) (by omega); have j2 := i2.adm hA3; have j3 := Marks.adm (Nat.le_refl _) hA3 hM2 i3; have j4 := hA3.cell i4; have j5 := (hA3.frozen i4).trans i5; have j6 := hA3.cell i6; have j7 := hA3.cell i7; have k0 := hA3.cell g0; have k1 := hA3.cell g1; have k2 := hA3.cell g2; have k3 := hA3.cell g3; have f3 := hA2.cell (cell_nw W #[.int .i64 (x.1 : Int), .int .i64 (x.2 : Int)] 56 0); have f4 := hA2.cell (cell_nw W #[.int .i64 (x.1 : Int), .int .i64 (x.2 : Int)] 56 1); have hxm := behindL_mem hC.1 (List.mem_of_getElem? hx); have hx1 : x.1 < o.n := by omega
            have hx2 : x.2 < o.m := by omega
            have b1 : (x.1 : Int) < 20 := by omega
            have b2 : (x.2 : Int) < 15 := by omega
            have f5 := j2.ct x.1 x.2 (by omega) (by omega); rw [lstT_behind ho hi (by omega) (List.mem_of_getElem? hx)] at f5; refine Wp.block ?_; refine Wp.loneDraw (.inr ⟨_, rfl⟩) mixed [([0, 1, 2, 3, 4], none), ([5, 6, 7, 8], some (9, true))] (by kernel_rfl) fun K' gd hK hg => ?_; clear hg; simp only [pick, nth, List.map_cons, List.map_nil, Option.map_none, Option.map_some]; apply Mops.none
            · intro w' hE'; have hC' := hE'.cellsS; go_simp; with_reducible rfl
            apply Mops.last
            · intro w' hE'; have hC' := hE'.cellsS; go_simp; with_reducible rfl
            intro K1 hK1; go_simp; refine hK1 _ _ ?_; clear hK1 K1; refine Mops.done ?_; refine hK _ _ ?_; clear hK K' gd; refine Ends.keep [] fun r17 hkeep => ?_; clear hkeep; clear e5_16 e9_16 e10_16; refine Ends.mk ?_; refine blockK_normal ?_; refine ⟨(KeepsOthers.setCell _ _ _).trans (KeepsOthers.of_ext ((Ext.refl _).drew)), (j1.setCell (show w.heap.size ≤ wz.heap.size + 1 by omega) _).drew, (TabF.other j2 (show wz.heap.size + 1 ≠ w.heap.size by omega)).ext (Ext.refl _).drew, Marks.keeps ((KeepsOthers.setCell _ _ _).trans (KeepsOthers.of_ext ((Ext.refl _).drew))) j3, ?_, ?_, ?_, ?_, ?_, ?_, ?_, ?_⟩
            · rw [leastL_take _ _ _ hx, ← min_if]; exact cell_drew (World.cell?_setCell_same' _ _ _ (by rw [j4]; rfl))
            · exact (World.frozen?_setCell ..).trans j5
            · exact cell_drew ((setCell_blk (by omega)).trans j6)
            · exact cell_drew ((setCell_blk (by omega)).trans j7)
            · exact cell_drew ((setCell_blk (by omega)).trans k0)
            · exact cell_drew ((setCell_blk (by omega)).trans k1)
            · exact cell_drew ((setCell_blk (by omega)).trans k2)
            · exact cell_drew ((setCell_blk (by omega)).trans k3)
          · rintro rm W hrm ⟨i1, i2, i3, i4, i5, i6, i7, g0, g1, g2, g3⟩ hmk; refine blockK_normal ?_; refine thenK_normal ?_; rw [stripTake] at i4; have d2 := i1.cell c1; have hrA := hO.hr (by omega); simp only [hrA] at d2; have d3 := i1.cell (hO.hT i (by omega)); have d4 := i1.cell (hO.hTT i q (by omega) (by omega)); have d5 := i2.ct i q (by omega) (by omega); have d6 := i2.fz (i * 15 + q); have b1 : (i : Int) < 20 := by omega
            have b2 : (q : Int) < 15 := by omega
            have b3 : (i : Int) < (o.n : Int) := by omega
            have b4 : (q : Int) < (o.m : Int) := by omega
            have hlq := lst_ok (d := d) ho (show i < o.n by omega) (show q < o.m by omega); have hle := lst_eq (d := d) ho (show i < o.n by omega) (show q < o.m by omega); have hwe : IntKind.i64.wrap (leastL (lst o d) d (behindL o (i, q)) - o.T i q) = lst o d i q := by rw [← hle]; exact IntWalk.i64_in _ (by omega)
            clear hle; refine Wp.loneDraw (.inl rfl) mixed [([0, 1, 2, 3, 4], none), ([5, 6, 7, 8, 9], none), ([10, 11, 12, 13, 14], none), ([15, 16, 17, 18, 19], none), ([20, 21], some (22, true))] (by kernel_rfl) fun K' gd hK hg => ?_; clear hg; simp only [pick, nth, List.map_cons, List.map_nil, Option.map_none, Option.map_some]; apply Mops.none
            · intro w' hE'; have hC' := hE'.cellsS; go_simp; with_reducible rfl
            apply Mops.none
            · intro w' hE'; have hC' := hE'.cellsS; go_simp; with_reducible rfl
            apply Mops.none
            · intro w' hE'; have hC' := hE'.cellsS; go_simp; with_reducible rfl
            apply Mops.none
            · intro w' hE'; have hC' := hE'.cellsS; go_simp; with_reducible rfl
            apply Mops.last
            · intro w' hE'; have hC' := hE'.cellsS; go_simp; with_reducible rfl
            intro K1 hK1; go_simp; refine hK1 _ _ ?_; clear hK1 K1; refine Mops.done ?_; refine hK _ _ ?_; clear hK K' gd; refine Ends.keep [0, 1, 5, 6, 16, 17, 25, 26] fun r18 hkeep => ?_; obtain ⟨e0_18, e1_18, e5_18, e6_18, e16_18, e17_18, e25_18, e26_18, -⟩ := hkeep; simp [go_sem, e0_14, e1_14, e5_14, e6_14, e8_14, e9_14, e16_14, e17_14, e25_14, e26_14, e54_14] at e0_18 e1_18 e5_18 e6_18 e16_18 e17_18 e25_18 e26_18; clear e0_14 e1_14 e5_14 e6_14 e8_14 e9_14 e16_14 e17_14 e25_14 e26_14 e54_14; refine Ends.mk ?_; refine blockK_normal ?_; refine thenK_normal ?_; refine Wp.loneRegion (.inl rfl) (by kernel_rfl) fun K' gd hK hg => ?_; clear hg; go_simp; refine hK _ _ ?_; clear hK K' gd; refine Ends.keep [0, 1, 5, 6, 16, 17, 25, 26] fun r19 hkeep => ?_; obtain ⟨e0_19, e1_19, e5_19, e6_19, e16_19, e17_19, e25_19, e26_19, -⟩ := hkeep; simp [go_sem, e0_18, e1_18, e5_18, e6_18, e16_18, e17_18, e25_18, e26_18] at e0_19 e1_19 e5_19 e6_19 e16_19 e17_19 e25_19 e26_19; clear e0_18 e1_18 e5_18 e6_18 e16_18 e17_18 e25_18 e26_18; refine Ends.mk ?_; refine thenK_normal ⟨by omega, ⟨by rw [e0_19, e0_8], by rw [e1_19, e1_8], by rw [e5_19, e5_8], by rw [e6_19, e6_8], by rw [e16_19, e16_8], by rw [e17_19, e17_8], by rw [e25_19, e25_8], trivial⟩, Marks.keeps ((KeepsOthers.setCell _ _ _).trans (KeepsOthers.of_ext ((Ext.refl _).drew))) (Marks.cons hM2 hrm (by omega) hmk i3), ?_⟩; refine ⟨by rw [e26_19, IntWalk.i64_in _ (by omega)]; rfl, (i1.setCell (Nat.le_refl _) _).drew, ?_⟩; rw [← Nat.add_assoc, ← lstT_step hi (show q + z + 1 = o.m by omega)]; exact (i2.set (by omega) (by omega) _).ext (Ext.refl _).drew
          · rintro rm c W hrm hf hmk; exact hf.elim
        · refine Wp.condF (by go_simp) ?_; obtain rfl : z = o.m := by omega
          refine Wp.exit ?_; refine thenK_exit ?_; refine thenK_exit ?_; refine blockK_here ?_; refine blockK_normal ?_; refine thenK_normal ?_; refine Wp.loneRegion (.inl rfl) (by kernel_rfl) fun K' gd hK hg => ?_; clear hg; go_simp; refine hK _ _ ?_; clear hK K' gd; refine Ends.keep [0, 1, 5, 16, 17] fun r20 hkeep => ?_; obtain ⟨e0_20, e1_20, e5_20, e16_20, e17_20, -⟩ := hkeep; simp [go_sem, e0_10, e1_10, e5_10, e6_10, e16_10, e17_10, e25_10, e26_10, e27_10] at e0_20 e1_20 e5_20 e16_20 e17_20; clear e0_10 e1_10 e5_10 e6_10 e16_10 e17_10 e25_10 e26_10 e27_10; refine Ends.mk ?_; refine thenK_normal ⟨by omega, ⟨by rw [e0_20, e0_4], by rw [e1_20, e1_4], by rw [e5_20, e5_4], by rw [e16_20, e16_4], trivial⟩, hMz, ?_⟩; refine ⟨by rw [e17_20, IntWalk.i64_in _ (by omega)]; rfl, hEz, ?_⟩; rw [Nat.add_mul, Nat.one_mul]; exact hTz
    · refine Wp.condF (by go_simp) ?_; refine Wp.exit ?_; refine thenK_exit ?_; refine thenK_exit ?_; refine blockK_here ?_; refine thenK_normal ?_; refine Wp.seqRegion (.inl rfl) (by kernel_rfl) fun K' gd hK hg => ?_; clear hg; go_simp; refine hK _ _ ?_; clear hK K' gd; refine Wp.keep [4] fun r21 hkeep => ?_; obtain ⟨e4_21, -⟩ := hkeep; simp [go_sem, e0_6, e1_6, e5_6, e16_6, e17_6, e18_6] at e4_21; clear e0_6 e1_6 e5_6 e16_6 e17_6 e18_6; refine Wp.ret ?_; refine endM_tmp Tryz.results94 (by decide) (hMu) fun wz hS => ?_; rw [e4_21]; obtain rfl : u = o.n := by omega
      rw [lstT_all] at hT; exact ⟨_, rfl, hT.shut hS, Shut.ext hE hS, Nat.le_refl _⟩
end Go.Proofs.YtnfagcccgmakdaaGreat
