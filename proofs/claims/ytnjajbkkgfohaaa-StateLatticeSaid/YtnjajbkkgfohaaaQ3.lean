/- Days that fit: of lines, the lesser and the greater ones, narrower ones (plain law). Narrower copies; how long a copy took (plain law). below; what is asked of contracts at right arguments. StateLattice. -/
import Derived.Test.YtnjajbkkgfohaaaP5
import Derived.Test.YtnjajbkkgfohaaaP6
set_option linter.all false
namespace Go.Proofs.Ytnjajbkkgfohaaa

theorem possF_in {f l : Int} {T : List (Int × Int)} {d : Int} : inside (possF f l T) d ↔ inside T d ∧ f ≤ d ∧ d ≤ l := by
  unfold inside possF
  constructor
  · rintro ⟨y, hy, h1, h2⟩
    rw [List.mem_filterMap] at hy
    obtain ⟨x, hx, h⟩ := hy
    split at h
    · injection h with h; subst h
      dsimp only at h1 h2
      exact ⟨⟨x, hx, by omega, by omega⟩, by omega, by omega⟩
    · cases h
  · rintro ⟨⟨x, hx, h1, h2⟩, h3, h4⟩
    refine ⟨(max x.1 f, min x.2 l), List.mem_filterMap.2 ⟨x, hx, ?_⟩, ?_, ?_⟩
    · rw [if_pos (by omega)]
    · dsimp only; omega
    · dsimp only; omega
theorem fromD_iff {b : Int} {p i : Nat} {l : List Int} {d : Int} : fromD b p l i ≤ d ↔ b ≤ d ∧ (0 < i → gI l (i - 1) ≤ d) ∧ (p ≤ i → gI l (i - p) < d) := by
  constructor
  · intro h
    obtain ⟨h1, h2, h3⟩ := fromD_ge (b := b) (p := p) (i := i) (l := l)
    exact ⟨by omega, fun h0 => by have := h2 h0; omega, fun h0 => by have := h3 h0; omega⟩
  · rintro ⟨h1, h2, h3⟩
    unfold fromD
    split
    · have := h3 ‹_›
      split
      · have := h2 ‹_›; omega
      · omega
    · split
      · have := h2 ‹_›; omega
      · omega
theorem fit_at {m : Md} {dy : List Int} : m.Fit (gI dy) ↔ ∀ j, j < m.n → FitAt m dy j := by
  constructor
  · intro h j hj
    obtain ⟨h1, h2, h3, h4, h5⟩ := h j hj
    exact ⟨⟨h1, h2⟩, h3, fromD_iff.2 ⟨h1, h4, h5⟩⟩
  · intro h j hj
    obtain ⟨⟨h1, h2⟩, h3, h4⟩ := h j hj
    obtain ⟨-, h5, h6⟩ := fromD_iff.1 h4
    exact ⟨h1, h2, h3, h5, h6⟩
theorem fitR_true {s : Sh} {c : Cp} {dy : List Int} : fitE s c dy = 0 ∧ (fitR s c dy).2 = true ↔ copyS s c = 0 ∧ dy.length = s.n ∧ (s.md c).Fit (gI dy) := by
  have he : fitE s c dy = 0 ↔ copyS s c = 0 ∧ dy.length = s.n := by
    unfold fitE
    by_cases h : copyS s c = 0
    · by_cases h2 : dy.length = s.n <;> simp [h, h2]
    · simp [h]
  constructor
  · rintro ⟨h1, h2⟩
    refine ⟨(he.1 h1).1, (he.1 h1).2, fit_at.2 (fitI_none.1 ?_)⟩
    unfold fitR at h2
    rw [if_pos h1] at h2
    cases hf : fitI (s.md c) dy with
    | none => rfl
    | some i => rw [hf] at h2; cases h2
  · rintro ⟨h1, h2, h3⟩
    have h0 := he.2 ⟨h1, h2⟩
    refine ⟨h0, ?_⟩
    unfold fitR
    rw [if_pos h0, fitI_none.2 (fit_at.1 h3)]
theorem fitE_zero {s : Sh} {c : Cp} {dy : List Int} : fitE s c dy = 0 ↔ copyS s c = 0 ∧ dy.length = s.n := by
  unfold fitE
  by_cases h : copyS s c = 0
  · by_cases h2 : dy.length = s.n <;> simp [h, h2]
  · simp [h]
theorem fitR_good {s : Sh} {c : Cp} {dy : List Int} (h0 : copyS s c = 0) (hl : dy.length = s.n) (h : (s.md c).Fit (gI dy)) : fitE s c dy = 0 ∧ fitR s c dy = (0, true) := by
  have h1 := fitE_zero.2 ⟨h0, hl⟩
  exact ⟨h1, by unfold fitR; rw [if_pos h1, fitI_none.2 (fit_at.1 h)]⟩
/-- the earliest days ahead of a line, a day of its own, the latest ones behind it -/
theorem mix_fit {m : Md} (h : MdOk m) (hk : m.ok = true) {i : Nat} (hi : i < m.n) {d : Int} (hc : m.can i d) (h1 : gI m.first i ≤ d) (h2 : d ≤ gI m.last i) :
    m.Fit (gI (m.first.take i ++ d :: m.last.drop (i + 1))) := by
  obtain ⟨f1, -, f2, f3⟩ := h.of_ok hk
  obtain ⟨l1, l2, l3⟩ := h.last_fit hk
  have hle : ∀ j, j < m.n → gI m.first j ≤ gI m.last j := fun j hj => f3 _ l2 j hj
  have g : ∀ j, gI (m.first.take i ++ d :: m.last.drop (i + 1)) j = if j < i then gI m.first j else if j = i then d else gI m.last j := fun j => by
    have ht : (m.first.take i).length = i := by simp; omega
    unfold gI
    by_cases a : j < i
    · rw [if_pos a, List.getElem?_append_left (by omega), List.getElem?_take, if_pos a]
    · rw [if_neg a, List.getElem?_append_right (by omega), ht]
      by_cases b : j = i
      · subst b; simp
      · rw [if_neg b, show j - i = (j - i - 1) + 1 by omega, List.getElem?_cons_succ, List.getElem?_drop, show i + 1 + (j - i - 1) = j by omega]
  have hp := h.pp
  intro j hj
  obtain ⟨a1, a2, a3, a4, a5⟩ := f2 j hj
  obtain ⟨b1, b2, b3, b4, b5⟩ := l2 j hj
  rw [g]
  rcases Nat.lt_trichotomy j i with hji | rfl | hji
  · rw [if_pos hji]
    refine ⟨a1, a2, a3, fun h0 => ?_, fun hpj => ?_⟩
    · rw [g, if_pos (by omega)]; exact a4 h0
    · rw [g, if_pos (by omega)]; exact a5 hpj
  · rw [if_neg (by omega), if_pos rfl]
    have q1 := hle j hj
    refine ⟨by omega, by omega, hc, fun h0 => ?_, fun hpj => ?_⟩
    · rw [g, if_pos (by omega)]; have := a4 h0; omega
    · rw [g, if_pos (by omega)]; have := a5 hpj; omega
  · rw [if_neg (by omega), if_neg (by omega)]
    refine ⟨b1, b2, b3, fun h0 => ?_, fun hpj => ?_⟩
    · rw [g, if_neg (by omega)]
      by_cases e : j - 1 = i
      · rw [if_pos e]; have := b4 h0; rw [e] at this; omega
      · rw [if_neg e]; exact b4 h0
    · rw [g]
      have q := b5 hpj
      have q2 := hle (j - m.c.p.toNat) (by omega)
      by_cases e : j - m.c.p.toNat < i
      · rw [if_pos e]; omega
      · rw [if_neg e]
        by_cases e2 : j - m.c.p.toNat = i
        · rw [if_pos e2]; rw [e2] at q; omega
        · rw [if_neg e2]; exact q
/-- the lesser days, and the greater ones -/
theorem lattice_fit {m : Md} {x y : List Int} (hx : m.Fit (gI x)) (hy : m.Fit (gI y)) {lo hi : List Int} (hlo : ∀ i, i < m.n → gI lo i = min (gI x i) (gI y i)) (hhi : ∀ i, i < m.n → gI hi i = max (gI x i) (gI y i)) : m.Fit (gI lo) ∧ m.Fit (gI hi) := by
  have key : ∀ i, i < m.n → ∀ a b, (a = gI x i ∧ b = gI y i) → m.can i (min a b) ∧ m.can i (max a b) := fun i hi a b ⟨e1, e2⟩ => by
    have h1 := (hx i hi).2.2.1
    have h2 := (hy i hi).2.2.1
    rw [← e1] at h1
    rw [← e2] at h2
    rcases Int.le_total a b with h | h
    · rw [Int.min_eq_left h, Int.max_eq_right h]; exact ⟨h1, h2⟩
    · rw [Int.min_eq_right h, Int.max_eq_left h]; exact ⟨h2, h1⟩
  constructor
  · intro i hi'
    obtain ⟨a1, a2, a3, a4, a5⟩ := hx i hi'
    obtain ⟨b1, b2, b3, b4, b5⟩ := hy i hi'
    rw [hlo i hi']
    refine ⟨by omega, by omega, (key i hi' _ _ ⟨rfl, rfl⟩).1, fun h0 => ?_, fun hp => ?_⟩
    · rw [hlo (i - 1) (by omega)]; have := a4 h0; have := b4 h0; omega
    · rw [hlo (i - m.c.p.toNat) (by omega)]; have := a5 hp; have := b5 hp; omega
  · intro i hi'
    obtain ⟨a1, a2, a3, a4, a5⟩ := hx i hi'
    obtain ⟨b1, b2, b3, b4, b5⟩ := hy i hi'
    rw [hhi i hi']
    refine ⟨by omega, by omega, (key i hi' _ _ ⟨rfl, rfl⟩).2, fun h0 => ?_, fun hp => ?_⟩
    · rw [hhi (i - 1) (by omega)]; have := a4 h0; have := b4 h0; omega
    · rw [hhi (i - m.c.p.toNat) (by omega)]; have := a5 hp; have := b5 hp; omega
end Go.Proofs.Ytnjajbkkgfohaaa
namespace Go.Proofs.Ytnjajbkkgfohaaa

theorem Md.Fit.mono {m : Md} {ds : Nat → Int} (h : m.Fit ds) : ∀ {i j : Nat}, i ≤ j → j < m.n → ds i ≤ ds j := by
  intro i j hij hj
  induction j with
  | zero => obtain rfl : i = 0 := by omega
            exact Int.le_refl _
  | succ j ih =>
    rcases Nat.lt_or_ge i (j + 1) with h1 | h1
    · have h2 := ih (by omega) (by omega)
      have h3 := (h (j + 1) hj).2.2.2.1 (by omega)
      rw [Nat.add_sub_cancel] at h3
      omega
    · obtain rfl : i = j + 1 := by omega
      exact Int.le_refl _
/-- m' asks more than m -/
structure Narrow (m m' : Md) : Prop where
  n : m'.n = m.n
  T : ∀ i, m'.T i = m.T i
  b : m.c.b ≤ m'.c.b
  e : m'.c.e ≤ m.c.e
  p : m'.c.p.toNat ≤ m.c.p.toNat
  p1 : 1 ≤ m'.c.p.toNat
theorem Narrow.fit {m m' : Md} (h : Narrow m m') {ds : Nat → Int} (hd : m'.Fit ds) : m.Fit ds := by
  intro i hi
  rw [← h.n] at hi
  obtain ⟨h1, h2, h3, h4, h5⟩ := hd i hi
  have hb := h.b
  have he := h.e
  have hp := h.p
  have hp1 := h.p1
  refine ⟨by omega, by omega, ?_, h4, fun hpi => ?_⟩
  · unfold Md.can at *; rw [← h.T]; exact h3
  · have q1 := h5 (by omega)
    have q2 := hd.mono (i := i - m.c.p.toNat) (j := i - m'.c.p.toNat) (by omega) (by omega)
    omega
theorem Md.at_narrow {m : Md} {d : Int} (hp : 1 ≤ m.c.p.toNat) (h : m.c.b ≤ d) : Narrow m (m.at d) := ⟨rfl, fun _ => rfl, h, Int.le_refl _, Nat.le_refl _, hp⟩
theorem longF_le {m : Md} : ∀ (l : List Int) (lo : Int), longF m l lo ≤ lo ∧ ∀ d ∈ l, m.can 0 d ∧ (m.at d).ok = true → longF m l lo ≤ gI (m.at d).first (m.n - 1) - gI (m.at d).first 0
  | [], lo => ⟨Int.le_refl _, fun d hd => by cases hd⟩
  | x :: l, lo => by
    have e : longF m (x :: l) lo = longF m l (if m.can 0 x ∧ (m.at x).ok = true then min lo (gI (m.at x).first (m.n - 1) - gI (m.at x).first 0) else lo) := rfl
    rw [e]
    obtain ⟨h1, h2⟩ := longF_le (m := m) l (if m.can 0 x ∧ (m.at x).ok = true then min lo (gI (m.at x).first (m.n - 1) - gI (m.at x).first 0) else lo)
    refine ⟨?_, fun d hd hc => ?_⟩
    · split at h1 <;> split <;> first | omega | contradiction
    · rcases List.mem_cons.1 hd with rfl | hd
      · rw [if_pos hc] at h1 ⊢; omega
      · exact h2 d hd hc
theorem longF_or {m : Md} : ∀ (l : List Int) (lo : Int), longF m l lo = lo ∨ ∃ d ∈ l, (m.can 0 d ∧ (m.at d).ok = true) ∧ longF m l lo = gI (m.at d).first (m.n - 1) - gI (m.at d).first 0
  | [], lo => .inl rfl
  | x :: l, lo => by
    have e : longF m (x :: l) lo = longF m l (if m.can 0 x ∧ (m.at x).ok = true then min lo (gI (m.at x).first (m.n - 1) - gI (m.at x).first 0) else lo) := rfl
    rw [e]
    rcases longF_or (m := m) l (if m.can 0 x ∧ (m.at x).ok = true then min lo (gI (m.at x).first (m.n - 1) - gI (m.at x).first 0) else lo) with h | ⟨d, hd, hc, h⟩
    · by_cases hx : m.can 0 x ∧ (m.at x).ok = true
      · rw [if_pos hx] at h ⊢
        rcases Int.le_total lo (gI (m.at x).first (m.n - 1) - gI (m.at x).first 0) with q | q
        · exact .inl (by rw [h, Int.min_eq_left q])
        · exact .inr ⟨x, List.mem_cons_self, hx, by rw [h, Int.min_eq_right q]⟩
      · rw [if_neg hx] at h ⊢; exact .inl h
    · exact .inr ⟨d, List.mem_cons_of_mem _ hd, hc, h⟩
section
variable {m : Md} (h : MdOk m) (hk : m.ok = true)
include h hk
theorem long_le {ds : Nat → Int} (hd : m.Fit ds) : (longS m).1 ≤ ds (m.n - 1) - ds 0 := by
  unfold longS
  by_cases h1 : m.n = 1
  · rw [if_pos h1, h1]; simp
  · rw [if_neg h1]
    have hn := h.n1
    obtain ⟨f1, -, f2, f3⟩ := h.of_ok hk
    obtain ⟨l1, l2, l3⟩ := h.last_fit hk
    have a1 := f3 ds hd 0 (by omega)
    have a2 := l3 ds hd 0 (by omega)
    obtain ⟨c1, c2, c3, -⟩ := hd 0 (by omega)
    have hma : MdOk (m.at (ds 0)) := h.at (by have := h.b0; omega) c2
    have hfit : (m.at (ds 0)).Fit ds := fun i hi => by
      obtain ⟨q1, q2, q3, q4, q5⟩ := hd i hi
      exact ⟨hd.mono (Nat.zero_le i) hi, q2, q3, q4, q5⟩
    have hok := hma.ok_of hfit
    obtain ⟨g1, -, g2, g3⟩ := hma.of_ok hok
    have e1 := (longF_le (m := m) (daysL (gI m.first 0) (gI m.last 0)) (longHi m)).2 (ds 0) (mem_daysL.2 ⟨a1, a2⟩) ⟨c3, hok⟩
    have e2 := g3 ds hfit (m.n - 1) (by show m.n - 1 < m.n; omega)
    have e3 := (g2 0 (by show 0 < m.n; omega)).1
    dsimp only
    have e4 : (m.at (ds 0)).c.b = ds 0 := rfl
    omega
theorem long_or : (longS m).1 = (longS m).2 ∨ ∃ ds, m.Fit ds ∧ (longS m).1 = ds (m.n - 1) - ds 0 := by
  unfold longS
  by_cases h1 : m.n = 1
  · rw [if_pos h1]; exact .inl rfl
  · rw [if_neg h1]
    have hn := h.n1
    obtain ⟨f1, -, f2, f3⟩ := h.of_ok hk
    obtain ⟨l1, l2, l3⟩ := h.last_fit hk
    rcases longF_or (m := m) (daysL (gI m.first 0) (gI m.last 0)) (longHi m) with e | ⟨d, hd, ⟨hc, hok⟩, e⟩
    · exact .inl e
    · obtain ⟨d1, d2⟩ := mem_daysL.1 hd
      have b1 := (f2 0 (by omega)).1
      have b2 := (l2 0 (by omega)).2.1
      have hma : MdOk (m.at d) := h.at (by have := h.b0; omega) (by omega)
      obtain ⟨g1, -, g2, g3⟩ := hma.of_ok hok
      exact .inr ⟨gI (m.at d).first, (Md.at_narrow h.pp (by omega)).fit g2, e⟩
theorem long_hi : (longS m).2 = gI m.last (m.n - 1) - gI m.first 0 ∨ m.n = 1 ∧ (longS m).2 = 0 := by
  unfold longS
  by_cases h1 : m.n = 1
  · rw [if_pos h1]; exact .inr ⟨h1, rfl⟩
  · rw [if_neg h1]; exact .inl rfl
end
theorem Narrow.long {m m' : Md} (h : Narrow m m') (hm : MdOk m) (hm' : MdOk m') (hk' : m'.ok = true) : (longS m).1 ≤ (longS m').1 ∧ (longS m').2 ≤ (longS m).2 := by
  obtain ⟨f1, -, f2, f3⟩ := hm'.of_ok hk'
  obtain ⟨l1, l2, l3⟩ := hm'.last_fit hk'
  have hk := hm.ok_of (h.fit f2)
  obtain ⟨F1, -, F2, F3⟩ := hm.of_ok hk
  obtain ⟨L1, L2, L3⟩ := hm.last_fit hk
  have hn := hm.n1
  have hnn := h.n
  have a1 := f3 _ l2 0 (by omega)
  have a2 := L3 _ (h.fit l2) (m.n - 1) (by omega)
  have a3 := F3 _ (h.fit f2) 0 (by omega)
  have b1 := long_le hm hk (h.fit l2)
  have e : m'.n - 1 = m.n - 1 := by omega
  refine ⟨?_, ?_⟩
  · rcases long_or hm' hk' with q | ⟨ds, hd, q⟩
    · rcases long_hi hm' hk' with r | ⟨r, r2⟩
      · rw [q, r, e]; omega
      · rw [q, r2]
        have e1 : m.n = 1 := by omega
        unfold longS; rw [if_pos e1]; exact Int.le_refl _
    · rw [q, e]; exact long_le hm hk (h.fit hd)
  · rcases long_hi hm' hk' with r | ⟨r, r2⟩
    · rcases long_hi hm hk with s | ⟨s, s2⟩
      · rw [r, s, e]; omega
      · unfold longS; rw [if_pos (show m'.n = 1 by omega), if_pos s]; exact Int.le_refl _
    · rw [r2]
      unfold longS; rw [if_pos (show m.n = 1 by omega)]; exact Int.le_refl _
end Go.Proofs.Ytnjajbkkgfohaaa
namespace Go.Proofs.Ytnjajbkkgfohaaa
open Go.RowKit Go.Wk Go.Proofs
attribute [local irreducible] Go.Wk.Wops Go.Wk.Wp Go.Wk.Mtree Go.Wk.Mops
set_option maxHeartbeats 4000000
set_option maxRecDepth 20000

theorem below_T {x y : Value} {xs ys : List Int} {n : Nat} (h1 : n ≤ xs.length) (h2 : n ≤ ys.length) (h3 : ∀ i, i < n → gI xs i ≤ gI ys i) (hn : n ≤ 1000000000000000) (w : World) (hx : IntsV w w.heap.size x xs) (hy : IntsV w w.heap.size y ys) :
    CallsV Try.prog 45 #[x, y, .int .i64 (n : Int)] w fun v w' => v = .bool true ∧ Ext w w' := by
  obtain ⟨A, c, rfl, -, -⟩ := id hx
  obtain ⟨A2, c2, rfl, -, -⟩ := id hy
  have k1 : ¬ xs.length < n := by omega
  have k2 : ¬ ys.length < n := by omega
  refine Wp.fn Try.func45 rfl Try.ntmps45 (by simp) ?_
  have xw := Ext.refl w
  refine Wp.keep [0, 1, 2] fun r1 hkeep => ?_
  obtain ⟨e0_1, e1_1, e2_1, -⟩ := hkeep
  simp [go_sem] at e0_1 e1_1 e2_1
  refine Wp.seqRegion (.inl rfl) (by kernel_rfl) fun K' gd hK hg => ?_
  clear hg
  go_simp
  refine hK _ _ ?_
  clear hK K' gd
  refine Wp.keep [0, 1, 2] fun r2 hkeep => ?_
  obtain ⟨e0_2, e1_2, e2_2, -⟩ := hkeep
  simp [go_sem, e0_1, e1_1, e2_1] at e0_2 e1_2 e2_2
  clear e0_1 e1_1 e2_1
  refine Wp.seq ?_
  refine Wp.seqRegion (.inl rfl) (by kernel_rfl) fun K' gd hK hg => ?_
  have g4 : gd 4 = some 12 := hg 4
  clear hg
  go_simp
  refine hK _ _ ?_
  clear hK K' gd g4
  refine Wp.keep [0, 1, 2, 17] fun r3 hkeep => ?_
  obtain ⟨e0_3, e1_3, e2_3, e17_3, -⟩ := hkeep
  simp [go_sem, e0_2, e1_2, e2_2] at e0_3 e1_3 e2_3 e17_3
  clear e0_2 e1_2 e2_2
  refine Wp.condF (by go_simp) ?_
  refine Wp.skip ?_
  refine thenK_normal ?_
  refine Wp.seq ?_
  refine Wp.seqRegion (.inl rfl) (by kernel_rfl) fun K' gd hK hg => ?_
  clear hg
  go_simp
  refine hK _ _ ?_
  clear hK K' gd
  refine Wp.keep [0, 1, 2, 7] fun r4 hkeep => ?_
  obtain ⟨e0_4, e1_4, e2_4, e7_4, -⟩ := hkeep
  simp [go_sem, e0_3, e1_3, e2_3, e17_3] at e0_4 e1_4 e2_4 e7_4
  clear e0_3 e1_3 e2_3 e17_3
  refine Wp.block ?_
  refine Wp.loop (fun k ρ ds wk => AllEq [0, 1, 2] ρ r4 ∧ ds = [] ∧ (Ext w wk) ∧ (ρ 7 = .int .i64 (k : Int))) (n) ?_ ?_
  · refine ⟨AllEq.refl _ _, rfl, Ext.refl _, ?_⟩
    rw [e7_4]; rfl
  · rintro k r5 _ wk hk ⟨hA, rfl, xl1, e7⟩
    obtain ⟨e0_5, e1_5, e2_5, -⟩ := hA
    rw [e0_4] at e0_5
    rw [e1_4] at e1_5
    rw [e2_4] at e2_5
    have zxl1 := Below.size xl1
    replace xw := Ext.trans xw xl1
    refine Wp.seq ?_
    refine Wp.seqRegion (.inl rfl) (by kernel_rfl) fun K' gd hK hg => ?_
    clear hg
    go_simp
    refine hK _ _ ?_
    clear hK K' gd
    refine Wp.keep [0, 1, 2, 7, 20] fun r6 hkeep => ?_
    obtain ⟨e0_6, e1_6, e2_6, e7_6, e20_6, -⟩ := hkeep
    simp [go_sem, e0_5, e1_5, e2_5, e7] at e0_6 e1_6 e2_6 e7_6 e20_6
    clear e0_5 e1_5 e2_5 e7
    by_cases h : k < n
    · refine Wp.condT (by go_simp) ?_
      have hkx : k < xs.length := by omega
      have hky : k < ys.length := by omega
      obtain ⟨b, o, c5, e1, hb, hc⟩ := hx.get hkx
      injection e1 with e1 _ e2
      subst e1
      subst e2
      obtain ⟨b2, o2, c6, e1, hb2, hc2⟩ := hy.get hky
      injection e1 with e1 _ e2
      subst e1
      subst e2
      have d1 := xw.cell (hc k hkx)
      have d2 := xw.cell (hc2 k hky)
      have hle := h3 k h
      have hnl : ¬ gI ys k < gI xs k := by omega
      clear hc hc2
      refine Wp.skip ?_
      refine thenK_normal ?_
      refine Wp.seq ?_
      refine Wp.block ?_
      refine Wp.seqDraw (.inl rfl) mixed [([0, 1, 2, 3, 4], none), ([5, 6, 7, 8], none)] (by kernel_rfl) fun K' gd hK hg => ?_
      clear hg
      simp only [pick, nth, List.map_cons, List.map_nil, Option.map_none, Option.map_some]
      refine Mops.absD fun D2 hD2 zD2 => ?_
      replace xw := Ext.trans xw hD2
      replace xl1 := Ext.trans xl1 hD2
      replace d1 := Ext.cell hD2 d1
      replace d2 := Ext.cell hD2 d2
      clear hD2
      apply Mops.none
      · intro w' hE'
        have hC' := hE'.cellsS
        go_simp
        with_reducible rfl
      apply Mops.none
      · intro w' hE'
        have hC' := hE'.cellsS
        go_simp
        with_reducible rfl
      refine Mops.done ?_
      refine hK _ _ ?_
      clear hK K' gd
      refine Wp.keep [0, 1, 2, 7, 31] fun r7 hkeep => ?_
      obtain ⟨e0_7, e1_7, e2_7, e7_7, e31_7, -⟩ := hkeep
      simp [go_sem, e0_6, e1_6, e2_6, e7_6, e20_6] at e0_7 e1_7 e2_7 e7_7 e31_7
      clear e0_6 e1_6 e2_6 e7_6 e20_6
      refine Wp.condF (by go_simp) ?_
      refine Wp.skip ?_
      refine blockK_normal ?_
      refine thenK_normal ?_
      refine Wp.loneRegion (.inl rfl) (by kernel_rfl) fun K' gd hK hg => ?_
      clear hg
      go_simp
      refine hK _ _ ?_
      clear hK K' gd
      refine Ends.keep [0, 1, 2, 7] fun r8 hkeep => ?_
      obtain ⟨e0_8, e1_8, e2_8, e7_8, -⟩ := hkeep
      simp [go_sem, e0_7, e1_7, e2_7, e7_7, e31_7] at e0_8 e1_8 e2_8 e7_8
      clear e0_7 e1_7 e2_7 e7_7 e31_7
      refine Ends.mk ?_
      refine thenK_normal ⟨by omega, ⟨by rw [e0_8, e0_4], by rw [e1_8, e1_4], by rw [e2_8, e2_4], trivial⟩, rfl, xl1, ?_⟩
      rw [e7_8, IntWalk.i64_in _ (by omega)]; rfl
    · refine Wp.condF (by go_simp) ?_
      refine Wp.exit ?_
      refine thenK_exit ?_
      refine thenK_exit ?_
      refine blockK_here ?_
      refine thenK_normal ?_
      refine Wp.seqRegion (.inl rfl) (by kernel_rfl) fun K' gd hK hg => ?_
      clear hg
      go_simp
      refine hK _ _ ?_
      clear hK K' gd
      refine Wp.keep [6] fun r9 hkeep => ?_
      obtain ⟨e6_9, -⟩ := hkeep
      simp [go_sem, e0_6, e1_6, e2_6, e7_6, e20_6] at e6_9
      clear e0_6 e1_6 e2_6 e7_6 e20_6
      refine Wp.ret ?_
      refine endK_tmp Try.results45 (by decide) ?_
      rw [e6_9]
      exact ⟨rfl, xw⟩
theorem fits_T {v u dv : Value} {s : Sh} {c : Cp} {dy : List Int} (h0 : copyS s c = 0) (hl : dy.length = s.n) (h : (s.md c).Fit (gI dy)) (w : World) (hV : SheetV w w.heap.size v s) (hU : CopyV w w.heap.size u c) (hD : IntsV w w.heap.size dv dy) (hf : FitS s) (hg : FitC c) :
    CallsV Try.prog 37 #[v, u, dv] w fun v w' => v = .tuple #[.int .i64 0, .bool true, .int .i64 0] ∧ Ext w w' := by
  obtain ⟨h1, h2⟩ := fitR_good h0 hl h
  have := Fits_c v u dv s c dy w hV hU hD hf hg (by rw [hl]; exact hf.1)
  rw [h1, h2] at this
  exact this
end Go.Proofs.Ytnjajbkkgfohaaa
namespace Go.Proofs.Ytnjajbkkgfohaaa
open Go.RowKit Go.Wk Go.Proofs
attribute [local irreducible] Go.Wk.Wops Go.Wk.Wp Go.Wk.Mtree Go.Wk.Mops
set_option maxHeartbeats 8000000
set_option maxRecDepth 20000

def minL (x y : List Int) (k : Nat) : List Int := (List.range k).map fun i => min (gI x i) (gI y i)
def maxL (x y : List Int) (k : Nat) : List Int := (List.range k).map fun i => max (gI x i) (gI y i)
theorem minL_succ (x y : List Int) (k : Nat) : minL x y (k + 1) = minL x y k ++ [min (gI x k) (gI y k)] := by unfold minL; rw [List.range_succ, List.map_append]; rfl
theorem maxL_succ (x y : List Int) (k : Nat) : maxL x y (k + 1) = maxL x y k ++ [max (gI x k) (gI y k)] := by unfold maxL; rw [List.range_succ, List.map_append]; rfl
theorem minL_get {x y : List Int} {k i : Nat} (h : i < k) : gI (minL x y k) i = min (gI x i) (gI y i) := by
  show ((List.range k).map _)[i]?.getD 0 = _
  rw [List.getElem?_map, List.getElem?_range h]; rfl
theorem maxL_get {x y : List Int} {k i : Nat} (h : i < k) : gI (maxL x y k) i = max (gI x i) (gI y i) := by
  show ((List.range k).map _)[i]?.getD 0 = _
  rw [List.getElem?_map, List.getElem?_range h]; rfl
/-- a row of our own beside another one that grows -/
theorem ownsRow_beside {w w' : World} {base e size n : Nat} {v u : Value} {xs : List Value} (h : w.ownsRow base e size v n xs) (hg : w.grownBy w' u.ownBlock) (hne : ∀ q, v.ownBlock = some q → u.ownBlock ≠ some q) : w'.ownsRow base e size v n xs := by
  refine ownsRow_chg h (grown_chg hg) fun b hb hm => ?_
  have := hne b hb
  cases hu : u.ownBlock with
  | none => rw [hu] at hm; simp at hm
  | some q => rw [hu] at hm; simp at hm; subst hm; exact this hu
theorem minL_len (x y : List Int) (k : Nat) : (minL x y k).length = k := by unfold minL; simp
theorem maxL_len (x y : List Int) (k : Nat) : (maxL x y k).length = k := by unfold maxL; simp
theorem min_ifL (a b : Int) : min a b = if b < a then b else a := by rw [Int.min_def]; split <;> split <;> omega
theorem max_ifL (a b : Int) : max a b = if a < b then b else a := by rw [Int.max_def]; split <;> split <;> omega
theorem lattice_c (v u xv yv : Value) (s : Sh) (c : Cp) (x y : List Int) (w : World) (hV : SheetV w w.heap.size v s) (hU : CopyV w w.heap.size u c) (hX : IntsV w w.heap.size xv x) (hY : IntsV w w.heap.size yv y) (hf : FitS s) (hg : FitC c) {fx fy : Nat} (_hxl : x.length ≤ fx) (_hyl : y.length ≤ fy) :
    CallsV Try.prog 7 #[v, u, xv, yv] w fun v w' => v = .bool true ∧ Ext w w' := by
  obtain ⟨wv, av, rfl, ⟨A, c1, rfl, -, -⟩, ⟨A3, c3, rfl, -, -⟩⟩ := id hV
  obtain ⟨wu, rfl, hW⟩ := id hU
  obtain ⟨A2, c2, rfl, -, -⟩ := id hW
  obtain ⟨A4, c4, rfl, hx, -⟩ := id hX
  obtain ⟨A5, c5, rfl, hy, -⟩ := id hY
  clear _hxl _hyl
  refine Wp.fn Try.func7 rfl Try.ntmps7 (by simp) ?_
  have xw := Ext.refl w
  refine Wp.keep [0, 1, 2, 3] fun r1 hkeep => ?_
  obtain ⟨e0_1, e1_1, e2_1, e3_1, -⟩ := hkeep
  simp [go_sem] at e0_1 e1_1 e2_1 e3_1
  refine Wp.seqRegion (.inl rfl) (by kernel_rfl) fun K' gd hK hg => ?_
  clear hg
  refine Wops.cut 1 fun K1 hK1 => ?_
  simp only [List.take_succ_cons, List.take_zero]
  go_simp
  refine hK1 _ _ ?_
  clear hK1 K1
  simp only [List.drop_succ_cons, List.drop_zero]
  refine Wops.absA fun V4_1 n4 hV4_1 => ?_
  obtain ⟨q4, hV4_1, s4, kV4_1, f4, r4⟩ := hV4_1
  try simp only [q4] at kV4_1 f4 r4 ⊢
  replace xw := Ext.trans xw hV4_1
  have c4_0 := kV4_1 0 _ rfl
  have c4_1 := kV4_1 1 _ rfl
  clear kV4_1 hV4_1
  clear r4
  refine Wops.cut 1 fun K1 hK1 => ?_
  simp only [List.take_succ_cons, List.take_zero]
  go_simp
  refine hK1 _ _ ?_
  clear hK1 K1
  simp only [List.drop_succ_cons, List.drop_zero]
  refine Wops.absA fun V5_2 n5 hV5_2 => ?_
  obtain ⟨q5, hV5_2, s5, kV5_2, f5, r5⟩ := hV5_2
  try simp only [q5] at kV5_2 f5 r5 ⊢
  replace f4 := Ext.fz hV5_2 c4_0 f4
  replace xw := Ext.trans xw hV5_2
  replace c4_0 := Ext.cell hV5_2 c4_0
  replace c4_1 := Ext.cell hV5_2 c4_1
  have c5_0 := kV5_2 0 _ rfl
  have c5_1 := kV5_2 1 _ rfl
  have c5_2 := kV5_2 2 _ rfl
  have c5_3 := kV5_2 3 _ rfl
  clear kV5_2 hV5_2
  clear r5
  go_simp
  refine hK _ _ ?_
  clear hK K' gd
  refine Wp.keep [2, 3, 4, 5] fun r2 hkeep => ?_
  obtain ⟨e2_2, e3_2, e4_2, e5_2, -⟩ := hkeep
  simp [go_sem, e0_1, e1_1, e2_1, e3_1] at e2_2 e3_2 e4_2 e5_2
  clear e0_1 e1_1 e2_1 e3_1
  refine Wp.seqRegion (.inl rfl) (by kernel_rfl) fun K' gd hK hg => ?_
  clear hg
  refine Wops.cut 1 fun K1 hK1 => ?_
  simp only [List.take_succ_cons, List.take_zero]
  go_simp
  refine Wcall (.inl rfl) (head_c _) ?_
  rintro v w2 ⟨rfl, hE⟩
  go_simp
  refine hK1 _ _ ?_
  clear hK1 K1
  simp only [List.drop_succ_cons, List.drop_zero]
  have z3 := Below.size hE
  replace f4 := Ext.fz hE c4_0 f4
  replace f5 := Ext.fz hE c5_0 f5
  replace xw := Ext.trans xw hE
  replace c4_0 := Ext.cell hE c4_0
  replace c4_1 := Ext.cell hE c4_1
  replace c5_0 := Ext.cell hE c5_0
  replace c5_1 := Ext.cell hE c5_1
  replace c5_2 := Ext.cell hE c5_2
  replace c5_3 := Ext.cell hE c5_3
  clear hE
  go_simp
  refine hK _ _ ?_
  clear hK K' gd
  refine Wp.keep [2, 3, 4, 5, 9] fun r4 hkeep => ?_
  obtain ⟨e2_4, e3_4, e4_4, e5_4, e9_4, -⟩ := hkeep
  simp [go_sem, e2_2, e3_2, e4_2, e5_2] at e2_4 e3_4 e4_4 e5_4 e9_4
  clear e2_2 e3_2 e4_2 e5_2
  by_cases hfw : fewS s
  · skip
    by_cases hbr : c.words.length ≤ 50
    · skip
      by_cases hxn : (60 : Int) < (x.length : Int)
      · skip
        refine Wp.seq ?_
        refine Wp.seqRegion (.inl rfl) (by kernel_rfl) fun K' gd hK hg => ?_
        have g3 : gd 3 = some 29 := hg 3
        have g8 : gd 8 = some 34 := hg 8
        have g13 : gd 13 = some 39 := hg 13
        clear hg
        refine Wops.cut 2 fun K1 hK1 => ?_
        simp only [List.take_succ_cons, List.take_zero]
        go_simp
        refine Wcall (.inl rfl) (few_c _ s _ (hV.ext xw)) ?_
        rintro v w3 ⟨rfl, hE⟩
        go_simp
        refine hK1 _ _ ?_
        clear hK1 K1
        simp only [List.drop_succ_cons, List.drop_zero]
        have z5 := Below.size hE
        replace f4 := Ext.fz hE c4_0 f4
        replace f5 := Ext.fz hE c5_0 f5
        replace xw := Ext.trans xw hE
        replace c4_0 := Ext.cell hE c4_0
        replace c4_1 := Ext.cell hE c4_1
        replace c5_0 := Ext.cell hE c5_0
        replace c5_1 := Ext.cell hE c5_1
        replace c5_2 := Ext.cell hE c5_2
        replace c5_3 := Ext.cell hE c5_3
        clear hE
        refine Wops.cut 4 fun K1 hK1 => ?_
        simp only [List.take_succ_cons, List.take_zero]
        go_simp
        refine Wcall (.inl rfl) (brief_c _ c _ (hU.ext xw)) ?_
        rintro v w4 ⟨rfl, hE⟩
        go_simp
        refine hK1 _ _ ?_
        clear hK1 K1
        simp only [List.drop_succ_cons, List.drop_zero]
        have z6 := Below.size hE
        replace f4 := Ext.fz hE c4_0 f4
        replace f5 := Ext.fz hE c5_0 f5
        replace xw := Ext.trans xw hE
        replace c4_0 := Ext.cell hE c4_0
        replace c4_1 := Ext.cell hE c4_1
        replace c5_0 := Ext.cell hE c5_0
        replace c5_1 := Ext.cell hE c5_1
        replace c5_2 := Ext.cell hE c5_2
        replace c5_3 := Ext.cell hE c5_3
        clear hE
        go_simp
        refine hK _ _ ?_
        clear hK K' gd g3 g8 g13
        refine Wp.keep [2, 3, 4, 5, 9, 43] fun r7 hkeep => ?_
        obtain ⟨e2_7, e3_7, e4_7, e5_7, e9_7, e43_7, -⟩ := hkeep
        simp [go_sem, e2_4, e3_4, e4_4, e5_4, e9_4] at e2_7 e3_7 e4_7 e5_7 e9_7 e43_7
        clear e2_4 e3_4 e4_4 e5_4 e9_4
        refine Wp.condT (by go_simp) ?_
        refine Wp.seqRegion (.inl rfl) (by kernel_rfl) fun K' gd hK hg => ?_
        clear hg
        go_simp
        refine hK _ _ ?_
        clear hK K' gd
        refine Wp.keep [8] fun r8 hkeep => ?_
        obtain ⟨e8_8, -⟩ := hkeep
        simp [go_sem, e2_7, e3_7, e4_7, e5_7, e9_7, e43_7] at e8_8
        clear e2_7 e3_7 e4_7 e5_7 e9_7 e43_7
        refine Wp.ret ?_
        refine thenK_ret ?_
        refine endK_tmp Try.results7 (by decide) ?_
        rw [e8_8]
        exact ⟨rfl, xw⟩
      · skip
        by_cases hyn : (60 : Int) < (y.length : Int)
        · skip
          refine Wp.seq ?_
          refine Wp.seqRegion (.inl rfl) (by kernel_rfl) fun K' gd hK hg => ?_
          have g3 : gd 3 = some 29 := hg 3
          have g8 : gd 8 = some 34 := hg 8
          have g13 : gd 13 = some 39 := hg 13
          clear hg
          refine Wops.cut 2 fun K1 hK1 => ?_
          simp only [List.take_succ_cons, List.take_zero]
          go_simp
          refine Wcall (.inl rfl) (few_c _ s _ (hV.ext xw)) ?_
          rintro v w3 ⟨rfl, hE⟩
          go_simp
          refine hK1 _ _ ?_
          clear hK1 K1
          simp only [List.drop_succ_cons, List.drop_zero]
          have z9 := Below.size hE
          replace f4 := Ext.fz hE c4_0 f4
          replace f5 := Ext.fz hE c5_0 f5
          replace xw := Ext.trans xw hE
          replace c4_0 := Ext.cell hE c4_0
          replace c4_1 := Ext.cell hE c4_1
          replace c5_0 := Ext.cell hE c5_0
          replace c5_1 := Ext.cell hE c5_1
          replace c5_2 := Ext.cell hE c5_2
          replace c5_3 := Ext.cell hE c5_3
          clear hE
          refine Wops.cut 4 fun K1 hK1 => ?_
          simp only [List.take_succ_cons, List.take_zero]
          go_simp
          refine Wcall (.inl rfl) (brief_c _ c _ (hU.ext xw)) ?_
          rintro v w4 ⟨rfl, hE⟩
          go_simp
          refine hK1 _ _ ?_
          clear hK1 K1
          simp only [List.drop_succ_cons, List.drop_zero]
          have z10 := Below.size hE
          replace f4 := Ext.fz hE c4_0 f4
          replace f5 := Ext.fz hE c5_0 f5
          replace xw := Ext.trans xw hE
          replace c4_0 := Ext.cell hE c4_0
          replace c4_1 := Ext.cell hE c4_1
          replace c5_0 := Ext.cell hE c5_0
          replace c5_1 := Ext.cell hE c5_1
          replace c5_2 := Ext.cell hE c5_2
          replace c5_3 := Ext.cell hE c5_3
          clear hE
          go_simp
          refine hK _ _ ?_
          clear hK K' gd g3 g8 g13
          refine Wp.keep [2, 3, 4, 5, 9, 43] fun r11 hkeep => ?_
          obtain ⟨e2_11, e3_11, e4_11, e5_11, e9_11, e43_11, -⟩ := hkeep
          simp [go_sem, e2_4, e3_4, e4_4, e5_4, e9_4] at e2_11 e3_11 e4_11 e5_11 e9_11 e43_11
          clear e2_4 e3_4 e4_4 e5_4 e9_4
          refine Wp.condT (by go_simp) ?_
          refine Wp.seqRegion (.inl rfl) (by kernel_rfl) fun K' gd hK hg => ?_
          clear hg
          go_simp
          refine hK _ _ ?_
          clear hK K' gd
          refine Wp.keep [8] fun r12 hkeep => ?_
          obtain ⟨e8_12, -⟩ := hkeep
          simp [go_sem, e2_11, e3_11, e4_11, e5_11, e9_11, e43_11] at e8_12
          clear e2_11 e3_11 e4_11 e5_11 e9_11 e43_11
          refine Wp.ret ?_
          refine thenK_ret ?_
          refine endK_tmp Try.results7 (by decide) ?_
          rw [e8_12]
          exact ⟨rfl, xw⟩
        · skip
          have hx6 : x.length ≤ 60 := by omega
          have hy6 : y.length ≤ 60 := by omega
          refine Wp.seq ?_
          refine Wp.seqRegion (.inl rfl) (by kernel_rfl) fun K' gd hK hg => ?_
          have g3 : gd 3 = some 29 := hg 3
          have g8 : gd 8 = some 34 := hg 8
          have g13 : gd 13 = some 39 := hg 13
          clear hg
          refine Wops.cut 2 fun K1 hK1 => ?_
          simp only [List.take_succ_cons, List.take_zero]
          go_simp
          refine Wcall (.inl rfl) (few_c _ s _ (hV.ext xw)) ?_
          rintro v w3 ⟨rfl, hE⟩
          go_simp
          refine hK1 _ _ ?_
          clear hK1 K1
          simp only [List.drop_succ_cons, List.drop_zero]
          have z13 := Below.size hE
          replace f4 := Ext.fz hE c4_0 f4
          replace f5 := Ext.fz hE c5_0 f5
          replace xw := Ext.trans xw hE
          replace c4_0 := Ext.cell hE c4_0
          replace c4_1 := Ext.cell hE c4_1
          replace c5_0 := Ext.cell hE c5_0
          replace c5_1 := Ext.cell hE c5_1
          replace c5_2 := Ext.cell hE c5_2
          replace c5_3 := Ext.cell hE c5_3
          clear hE
          refine Wops.cut 4 fun K1 hK1 => ?_
          simp only [List.take_succ_cons, List.take_zero]
          go_simp
          refine Wcall (.inl rfl) (brief_c _ c _ (hU.ext xw)) ?_
          rintro v w4 ⟨rfl, hE⟩
          go_simp
          refine hK1 _ _ ?_
          clear hK1 K1
          simp only [List.drop_succ_cons, List.drop_zero]
          have z14 := Below.size hE
          replace f4 := Ext.fz hE c4_0 f4
          replace f5 := Ext.fz hE c5_0 f5
          replace xw := Ext.trans xw hE
          replace c4_0 := Ext.cell hE c4_0
          replace c4_1 := Ext.cell hE c4_1
          replace c5_0 := Ext.cell hE c5_0
          replace c5_1 := Ext.cell hE c5_1
          replace c5_2 := Ext.cell hE c5_2
          replace c5_3 := Ext.cell hE c5_3
          clear hE
          go_simp
          refine hK _ _ ?_
          clear hK K' gd g3 g8 g13
          refine Wp.keep [2, 3, 4, 5, 9, 43] fun r15 hkeep => ?_
          obtain ⟨e2_15, e3_15, e4_15, e5_15, e9_15, e43_15, -⟩ := hkeep
          simp [go_sem, e2_4, e3_4, e4_4, e5_4, e9_4] at e2_15 e3_15 e4_15 e5_15 e9_15 e43_15
          clear e2_4 e3_4 e4_4 e5_4 e9_4
          refine Wp.condF (by go_simp) ?_
          refine Wp.skip ?_
          refine thenK_normal ?_
          refine Wp.seqRegion (.inl rfl) (by kernel_rfl) fun K' gd hK hg => ?_
          clear hg
          refine Wops.cut 4 fun K1 hK1 => ?_
          simp only [List.take_succ_cons, List.take_zero]
          go_simp
          refine Wcall (.inl rfl) (Fits_c _ _ _ s c x _ (hV.ext xw) (hU.ext xw) (hX.ext xw) hf hg (by omega)) ?_
          rintro v w5 ⟨rfl, hE⟩
          go_simp
          refine hK1 _ _ ?_
          clear hK1 K1
          simp only [List.drop_succ_cons, List.drop_zero]
          have z16 := Below.size hE
          replace f4 := Ext.fz hE c4_0 f4
          replace f5 := Ext.fz hE c5_0 f5
          replace xw := Ext.trans xw hE
          replace c4_0 := Ext.cell hE c4_0
          replace c4_1 := Ext.cell hE c4_1
          replace c5_0 := Ext.cell hE c5_0
          replace c5_1 := Ext.cell hE c5_1
          replace c5_2 := Ext.cell hE c5_2
          replace c5_3 := Ext.cell hE c5_3
          clear hE
          go_simp
          refine hK _ _ ?_
          clear hK K' gd
          refine Wp.keep [2, 3, 4, 5, 9, 11, 12] fun r17 hkeep => ?_
          obtain ⟨e2_17, e3_17, e4_17, e5_17, e9_17, e11_17, e12_17, -⟩ := hkeep
          simp [go_sem, e2_15, e3_15, e4_15, e5_15, e9_15, e43_15] at e2_17 e3_17 e4_17 e5_17 e9_17 e11_17 e12_17
          clear e2_15 e3_15 e4_15 e5_15 e9_15 e43_15
          refine Wp.seqRegion (.inl rfl) (by kernel_rfl) fun K' gd hK hg => ?_
          clear hg
          refine Wops.cut 4 fun K1 hK1 => ?_
          simp only [List.take_succ_cons, List.take_zero]
          go_simp
          refine Wcall (.inl rfl) (Fits_c _ _ _ s c y _ (hV.ext xw) (hU.ext xw) (hY.ext xw) hf hg (by omega)) ?_
          rintro v w6 ⟨rfl, hE⟩
          go_simp
          refine hK1 _ _ ?_
          clear hK1 K1
          simp only [List.drop_succ_cons, List.drop_zero]
          have z18 := Below.size hE
          replace f4 := Ext.fz hE c4_0 f4
          replace f5 := Ext.fz hE c5_0 f5
          replace xw := Ext.trans xw hE
          replace c4_0 := Ext.cell hE c4_0
          replace c4_1 := Ext.cell hE c4_1
          replace c5_0 := Ext.cell hE c5_0
          replace c5_1 := Ext.cell hE c5_1
          replace c5_2 := Ext.cell hE c5_2
          replace c5_3 := Ext.cell hE c5_3
          clear hE
          go_simp
          refine hK _ _ ?_
          clear hK K' gd
          refine Wp.keep [2, 3, 4, 5, 9, 11, 12, 14, 15] fun r19 hkeep => ?_
          obtain ⟨e2_19, e3_19, e4_19, e5_19, e9_19, e11_19, e12_19, e14_19, e15_19, -⟩ := hkeep
          simp [go_sem, e2_17, e3_17, e4_17, e5_17, e9_17, e11_17, e12_17] at e2_19 e3_19 e4_19 e5_19 e9_19 e11_19 e12_19 e14_19 e15_19
          clear e2_17 e3_17 e4_17 e5_17 e9_17 e11_17 e12_17
          by_cases a1 : fitE s c x = 0
          · skip
            by_cases a2 : fitE s c y = 0
            · skip
              by_cases a3 : (fitR s c x).2 = true
              · skip
                by_cases a4 : (fitR s c y).2 = true
                · skip
                  refine Wp.seq ?_
                  refine Wp.seqRegion (.inl rfl) (by kernel_rfl) fun K' gd hK hg => ?_
                  have g2 : gd 2 = some 63 := hg 2
                  have g6 : gd 6 = some 67 := hg 6
                  have g10 : gd 10 = some 71 := hg 10
                  clear hg
                  go_simp
                  refine hK _ _ ?_
                  clear hK K' gd g2 g6 g10
                  refine Wp.keep [2, 3, 4, 5, 9, 74] fun r20 hkeep => ?_
                  obtain ⟨e2_20, e3_20, e4_20, e5_20, e9_20, e74_20, -⟩ := hkeep
                  simp [go_sem, e2_19, e3_19, e4_19, e5_19, e9_19, e11_19, e12_19, e14_19, e15_19] at e2_20 e3_20 e4_20 e5_20 e9_20 e74_20
                  clear e2_19 e3_19 e4_19 e5_19 e9_19 e11_19 e12_19 e14_19 e15_19
                  refine Wp.condF (by go_simp) ?_
                  obtain ⟨h0, hxs, hfx⟩ := fitR_true.1 ⟨a1, a3⟩
                  obtain ⟨-, hys, hfy⟩ := fitR_true.1 ⟨a2, a4⟩
                  have hln : ∃ _u : Unit, x.length = s.n ∧ y.length = x.length ∧ (s.md c).n = x.length := ⟨(), hxs, hys.trans hxs.symm, by rw [hxs]; exact (copyS_zero.1 h0).2.1⟩
                  clear hxs hys
                  refine Wp.skip ?_
                  refine thenK_normal ?_
                  obtain ⟨B0, hB0⟩ : ∃ B0 : Nat, B0 = w6.heap.size := ⟨_, rfl⟩
                  refine Wp.seqRegion (.inl rfl) (by kernel_rfl) fun K' gd hK hg => ?_
                  clear hg
                  go_simp
                  refine hK _ _ ?_
                  clear hK K' gd
                  refine Wp.keep [2, 3, 4, 5, 9, 16] fun r21 hkeep => ?_
                  obtain ⟨e2_21, e3_21, e4_21, e5_21, e9_21, e16_21, -⟩ := hkeep
                  simp [go_sem, e2_20, e3_20, e4_20, e5_20, e9_20, e74_20] at e2_21 e3_21 e4_21 e5_21 e9_21 e16_21
                  clear e2_20 e3_20 e4_20 e5_20 e9_20 e74_20
                  refine Wp.seqRegion (.inl rfl) (by kernel_rfl) fun K' gd hK hg => ?_
                  clear hg
                  go_simp
                  refine hK _ _ ?_
                  clear hK K' gd
                  refine Wp.keep [2, 3, 4, 5, 9, 16, 17] fun r22 hkeep => ?_
                  obtain ⟨e2_22, e3_22, e4_22, e5_22, e9_22, e16_22, e17_22, -⟩ := hkeep
                  simp [go_sem, e2_21, e3_21, e4_21, e5_21, e9_21, e16_21] at e2_22 e3_22 e4_22 e5_22 e9_22 e16_22 e17_22
                  clear e2_21 e3_21 e4_21 e5_21 e9_21 e16_21
                  refine Wp.seq ?_
                  refine Wp.seqRegion (.inl rfl) (by kernel_rfl) fun K' gd hK hg => ?_
                  clear hg
                  go_simp
                  refine hK _ _ ?_
                  clear hK K' gd
                  refine Wp.keep [2, 3, 4, 5, 9, 16, 17, 18] fun r23 hkeep => ?_
                  obtain ⟨e2_23, e3_23, e4_23, e5_23, e9_23, e16_23, e17_23, e18_23, -⟩ := hkeep
                  simp [go_sem, e2_22, e3_22, e4_22, e5_22, e9_22, e16_22, e17_22] at e2_23 e3_23 e4_23 e5_23 e9_23 e16_23 e17_23 e18_23
                  clear e2_22 e3_22 e4_22 e5_22 e9_22 e16_22 e17_22
                  refine Wp.block ?_
                  refine Wp.loop (fun k ρ ds wk => AllEq [2, 3, 4, 5, 9] ρ r23 ∧ ds = [] ∧ (Ext w6 wk) ∧ (∃ a b, ρ 18 = .int .i64 (k : Int) ∧ ρ 16 = a ∧ ρ 17 = b ∧ OwnI wk B0 a (minL x y k) ∧ OwnI wk B0 b (maxL x y k) ∧ (∀ q, a.ownBlock = some q → b.ownBlock ≠ some q))) (x.length) ?_ ?_
                  · refine ⟨AllEq.refl _ _, rfl, Ext.refl _, ?_⟩
                    exact ⟨_, _, by rw [e18_23]; rfl, e16_23, e17_23, World.ownsRow_nil _ _ _ _, World.ownsRow_nil _ _ _ _, fun q h => by cases h⟩
                  · rintro k r24 _ wk hk ⟨hA, rfl, xl3, ⟨a16, b17, e18, e16, e17, hL, hH, hne⟩⟩
                    obtain ⟨e2_24, e3_24, e4_24, e5_24, e9_24, -⟩ := hA
                    rw [e2_23] at e2_24
                    rw [e3_23] at e3_24
                    rw [e4_23] at e4_24
                    rw [e5_23] at e5_24
                    rw [e9_23] at e9_24
                    have zxl3 := Below.size xl3
                    replace f4 := Ext.fz xl3 c4_0 f4
                    replace f5 := Ext.fz xl3 c5_0 f5
                    replace xw := Ext.trans xw xl3
                    replace c4_0 := Ext.cell xl3 c4_0
                    replace c4_1 := Ext.cell xl3 c4_1
                    replace c5_0 := Ext.cell xl3 c5_0
                    replace c5_1 := Ext.cell xl3 c5_1
                    replace c5_2 := Ext.cell xl3 c5_2
                    replace c5_3 := Ext.cell xl3 c5_3
                    obtain ⟨lo, hlo⟩ : ∃ lo, ∃ _u : Unit, minL x y k = lo ∧ lo.length = k := ⟨_, (), rfl, minL_len x y k⟩
                    obtain ⟨hi, hhi⟩ : ∃ hi, ∃ _u : Unit, maxL x y k = hi ∧ hi.length = k := ⟨_, (), rfl, maxL_len x y k⟩
                    rw [hlo.choose_spec.1] at hL
                    rw [hhi.choose_spec.1] at hH
                    refine Wp.seq ?_
                    refine Wp.seqRegion (.inl rfl) (by kernel_rfl) fun K' gd hK hg => ?_
                    clear hg
                    go_simp
                    refine hK _ _ ?_
                    clear hK K' gd
                    refine Wp.keep [2, 3, 4, 5, 9, 16, 17, 18, 79] fun r25 hkeep => ?_
                    obtain ⟨e2_25, e3_25, e4_25, e5_25, e9_25, e16_25, e17_25, e18_25, e79_25, -⟩ := hkeep
                    simp [go_sem, e2_24, e3_24, e4_24, e5_24, e9_24, e16, e17, e18] at e2_25 e3_25 e4_25 e5_25 e9_25 e16_25 e17_25 e18_25 e79_25
                    clear e2_24 e3_24 e4_24 e5_24 e9_24 e16 e17 e18
                    by_cases h : k < x.length
                    · refine Wp.condT (by go_simp) ?_
                      have hky : k < y.length := by have := hln.choose_spec; omega
                      obtain ⟨b, o, c6, e1, hb, hc⟩ := hX.get h
                      injection e1 with e1 _ e2
                      subst e1
                      subst e2
                      obtain ⟨b2, o2, c7, e1, hb2, hc2⟩ := hY.get hky
                      injection e1 with e1 _ e2
                      subst e1
                      subst e2
                      have d1 := xw.cell (hc k h)
                      have d2 := xw.cell (hc2 k hky)
                      have hky2 : (k : Int) < (y.length : Int) := by omega
                      refine Wp.skip ?_
                      refine thenK_normal ?_
                      refine Wp.seq ?_
                      refine Wp.block ?_
                      refine Wp.seqDraw (.inl rfl) mixed [([0, 1, 2, 3, 4], none), ([5, 6, 7, 8, 9], some (10, false)), ([], some (11, true)), ([], some (12, true))] (by kernel_rfl) fun K' gd hK hg => ?_
                      clear hg
                      simp only [pick, nth, List.map_cons, List.map_nil, Option.map_none, Option.map_some]
                      refine Mops.absD fun D4 hD4 zD4 => ?_
                      replace f4 := Ext.fz hD4 c4_0 f4
                      replace f5 := Ext.fz hD4 c5_0 f5
                      replace hL := hL.ext hD4
                      replace hH := hH.ext hD4
                      replace xw := Ext.trans xw hD4
                      replace xl3 := Ext.trans xl3 hD4
                      replace c4_0 := Ext.cell hD4 c4_0
                      replace c4_1 := Ext.cell hD4 c4_1
                      replace c5_0 := Ext.cell hD4 c5_0
                      replace c5_1 := Ext.cell hD4 c5_1
                      replace c5_2 := Ext.cell hD4 c5_2
                      replace c5_3 := Ext.cell hD4 c5_3
                      replace d1 := Ext.cell hD4 d1
                      replace d2 := Ext.cell hD4 d2
                      clear hD4
                      apply Mops.none
                      · intro w' hE'
                        have hC' := hE'.cellsS
                        go_simp
                        with_reducible rfl
                      apply Mops.act
                      · intro w' hE'
                        have hC' := hE'.cellsS
                        go_simp
                        with_reducible rfl
                      intro K1 hK1
                      go_simp
                      refine hK1 _ _ (XA) ?_
                      clear hK1 K1
                      refine Mops.absA fun V92_5 n92 hV92_5 => ?_
                      obtain ⟨q92, hV92_5, s92, kV92_5, f92, r92⟩ := hV92_5
                      try simp only [q92] at kV92_5 f92 r92 ⊢
                      replace f4 := Ext.fz hV92_5 c4_0 f4
                      replace f5 := Ext.fz hV92_5 c5_0 f5
                      replace hL := hL.ext hV92_5
                      replace hH := hH.ext hV92_5
                      replace xw := Ext.trans xw hV92_5
                      replace xl3 := Ext.trans xl3 hV92_5
                      replace c4_0 := Ext.cell hV92_5 c4_0
                      replace c4_1 := Ext.cell hV92_5 c4_1
                      replace c5_0 := Ext.cell hV92_5 c5_0
                      replace c5_1 := Ext.cell hV92_5 c5_1
                      replace c5_2 := Ext.cell hV92_5 c5_2
                      replace c5_3 := Ext.cell hV92_5 c5_3
                      replace d1 := Ext.cell hV92_5 d1
                      replace d2 := Ext.cell hV92_5 d2
                      clear hV92_5 f92
                      have c92_0 := kV92_5 0 _ rfl
                      clear kV92_5
                      apply Mops.last
                      · exact fun _ _ => Rops_done
                      intro K1 hK1
                      obtain ⟨v', w7, hrun, hL2, hgr, hat⟩ := app_run2 ints_T hL ⟨n92, 0, none⟩ 1 1 [.int .i64 (if gI y k < gI x k then gI y k else gI x k)] 22 rfl (news_one c92_0) (one_one rfl) (by have := hlo.choose_spec.2; omega) (by omega)
                      refine if_pos_of rfl (Wstep.law (exec_append2 rfl hrun (by go_simp) (by go_simp)) ?_)
                      refine hK1 _ _ ?_
                      clear hK1 K1
                      have z26 := World.grownBy.size hgr
                      replace f4 := Chg.fz (grown_chg hgr) c4_0 f4 (lt_off (World.ownsRow.lt hL) (by omega))
                      replace f5 := Chg.fz (grown_chg hgr) c5_0 f5 (lt_off (World.ownsRow.lt hL) (by omega))
                      replace xw := Chg.to xw (grown_chg hgr) (lt_ge (World.ownsRow.lt hL) (by omega))
                      replace xl3 := Chg.to xl3 (grown_chg hgr) (lt_ge (World.ownsRow.lt hL) (by omega))
                      replace c4_0 := Chg.cell (grown_chg hgr) c4_0 (lt_off (World.ownsRow.lt hL) (by omega))
                      replace c4_1 := Chg.cell (grown_chg hgr) c4_1 (lt_off (World.ownsRow.lt hL) (by omega))
                      replace c5_0 := Chg.cell (grown_chg hgr) c5_0 (lt_off (World.ownsRow.lt hL) (by omega))
                      replace c5_1 := Chg.cell (grown_chg hgr) c5_1 (lt_off (World.ownsRow.lt hL) (by omega))
                      replace c5_2 := Chg.cell (grown_chg hgr) c5_2 (lt_off (World.ownsRow.lt hL) (by omega))
                      replace c5_3 := Chg.cell (grown_chg hgr) c5_3 (lt_off (World.ownsRow.lt hL) (by omega))
                      have hH2 := ownsRow_beside hH hgr (fun q hq hq2 => hne q hq2 hq)
                      have hne2 : ∀ q, v'.ownBlock = some q → b17.ownBlock ≠ some q := fun q hq hq2 => by have q1 := (World.ownsRow.lt hH q hq2).2; rcases hat with h | h; (rw [h] at hq; exact hne q hq hq2); (rw [h] at hq; injection hq with hq; omega)
                      have d1 := xw.cell (hc k h)
                      have d2 := xw.cell (hc2 k hky)
                      apply Mops.last
                      · exact fun _ _ => Rops_done
                      intro K1 hK1
                      go_simp
                      refine hK1 _ _ ?_
                      clear hK1 K1
                      refine Mops.done ?_
                      refine hK _ _ ?_
                      clear hK K' gd
                      refine Wp.keep [2, 3, 4, 5, 9, 16, 17, 18] fun r27 hkeep => ?_
                      obtain ⟨e2_27, e3_27, e4_27, e5_27, e9_27, e16_27, e17_27, e18_27, -⟩ := hkeep
                      simp [go_sem, e2_25, e3_25, e4_25, e5_25, e9_25, e16_25, e17_25, e18_25, e79_25] at e2_27 e3_27 e4_27 e5_27 e9_27 e16_27 e17_27 e18_27
                      clear e2_25 e3_25 e4_25 e5_25 e9_25 e16_25 e17_25 e18_25 e79_25
                      refine Wp.loneDraw (.inl rfl) mixed [([0, 1, 2, 3, 4], none), ([5, 6, 7, 8, 9], some (10, false)), ([], some (11, true)), ([], some (12, true))] (by kernel_rfl) fun K' gd hK hg => ?_
                      clear hg
                      simp only [pick, nth, List.map_cons, List.map_nil, Option.map_none, Option.map_some]
                      refine Mops.absD fun D6 hD6 zD6 => ?_
                      replace f4 := Ext.fz hD6 c4_0 f4
                      replace f5 := Ext.fz hD6 c5_0 f5
                      replace hL2 := hL2.ext hD6
                      replace hH2 := hH2.ext hD6
                      replace xw := Ext.trans xw hD6
                      replace xl3 := Ext.trans xl3 hD6
                      replace c4_0 := Ext.cell hD6 c4_0
                      replace c4_1 := Ext.cell hD6 c4_1
                      replace c5_0 := Ext.cell hD6 c5_0
                      replace c5_1 := Ext.cell hD6 c5_1
                      replace c5_2 := Ext.cell hD6 c5_2
                      replace c5_3 := Ext.cell hD6 c5_3
                      replace d1 := Ext.cell hD6 d1
                      replace d2 := Ext.cell hD6 d2
                      clear hD6
                      apply Mops.none
                      · intro w' hE'
                        have hC' := hE'.cellsS
                        go_simp
                        with_reducible rfl
                      apply Mops.act
                      · intro w' hE'
                        have hC' := hE'.cellsS
                        go_simp
                        with_reducible rfl
                      intro K1 hK1
                      go_simp
                      refine hK1 _ _ (XA) ?_
                      clear hK1 K1
                      refine Mops.absA fun V104_7 n104 hV104_7 => ?_
                      obtain ⟨q104, hV104_7, s104, kV104_7, f104, r104⟩ := hV104_7
                      try simp only [q104] at kV104_7 f104 r104 ⊢
                      replace f4 := Ext.fz hV104_7 c4_0 f4
                      replace f5 := Ext.fz hV104_7 c5_0 f5
                      replace hL2 := hL2.ext hV104_7
                      replace hH2 := hH2.ext hV104_7
                      replace xw := Ext.trans xw hV104_7
                      replace xl3 := Ext.trans xl3 hV104_7
                      replace c4_0 := Ext.cell hV104_7 c4_0
                      replace c4_1 := Ext.cell hV104_7 c4_1
                      replace c5_0 := Ext.cell hV104_7 c5_0
                      replace c5_1 := Ext.cell hV104_7 c5_1
                      replace c5_2 := Ext.cell hV104_7 c5_2
                      replace c5_3 := Ext.cell hV104_7 c5_3
                      replace d1 := Ext.cell hV104_7 d1
                      replace d2 := Ext.cell hV104_7 d2
                      clear hV104_7 f104
                      have c104_0 := kV104_7 0 _ rfl
                      clear kV104_7
                      apply Mops.last
                      · exact fun _ _ => Rops_done
                      intro K1 hK1
                      obtain ⟨v2, w8, hrun, hH3, hgr, hat⟩ := app_run2 ints_T hH2 ⟨n104, 0, none⟩ 1 1 [.int .i64 (if gI x k < gI y k then gI y k else gI x k)] 22 rfl (news_one c104_0) (one_one rfl) (by have := hhi.choose_spec.2; omega) (by omega)
                      refine if_pos_of rfl (Wstep.law (exec_append2 rfl hrun (by go_simp) (by go_simp)) ?_)
                      refine hK1 _ _ ?_
                      clear hK1 K1
                      have z28 := World.grownBy.size hgr
                      replace f4 := Chg.fz (grown_chg hgr) c4_0 f4 (lt_off (World.ownsRow.lt hH2) (by omega))
                      replace f5 := Chg.fz (grown_chg hgr) c5_0 f5 (lt_off (World.ownsRow.lt hH2) (by omega))
                      replace xw := Chg.to xw (grown_chg hgr) (lt_ge (World.ownsRow.lt hH2) (by omega))
                      replace xl3 := Chg.to xl3 (grown_chg hgr) (lt_ge (World.ownsRow.lt hH2) (by omega))
                      replace c4_0 := Chg.cell (grown_chg hgr) c4_0 (lt_off (World.ownsRow.lt hH2) (by omega))
                      replace c4_1 := Chg.cell (grown_chg hgr) c4_1 (lt_off (World.ownsRow.lt hH2) (by omega))
                      replace c5_0 := Chg.cell (grown_chg hgr) c5_0 (lt_off (World.ownsRow.lt hH2) (by omega))
                      replace c5_1 := Chg.cell (grown_chg hgr) c5_1 (lt_off (World.ownsRow.lt hH2) (by omega))
                      replace c5_2 := Chg.cell (grown_chg hgr) c5_2 (lt_off (World.ownsRow.lt hH2) (by omega))
                      replace c5_3 := Chg.cell (grown_chg hgr) c5_3 (lt_off (World.ownsRow.lt hH2) (by omega))
                      have hL3 := ownsRow_beside hL2 hgr hne2
                      have hne3 : ∀ q, v'.ownBlock = some q → v2.ownBlock ≠ some q := fun q hq hq2 => by have q1 := (World.ownsRow.lt hL2 q hq).2; rcases hat with h | h; (rw [h] at hq2; exact hne2 q hq hq2); (rw [h] at hq2; injection hq2 with hq2; omega)
                      apply Mops.last
                      · exact fun _ _ => Rops_done
                      intro K1 hK1
                      go_simp
                      refine hK1 _ _ ?_
                      clear hK1 K1
                      refine Mops.done ?_
                      refine hK _ _ ?_
                      clear hK K' gd
                      refine Ends.keep [2, 3, 4, 5, 9, 16, 17, 18] fun r29 hkeep => ?_
                      obtain ⟨e2_29, e3_29, e4_29, e5_29, e9_29, e16_29, e17_29, e18_29, -⟩ := hkeep
                      simp [go_sem, e2_27, e3_27, e4_27, e5_27, e9_27, e16_27, e17_27, e18_27] at e2_29 e3_29 e4_29 e5_29 e9_29 e16_29 e17_29 e18_29
                      clear e2_27 e3_27 e4_27 e5_27 e9_27 e16_27 e17_27 e18_27
                      refine Ends.mk ?_
                      refine blockK_normal ?_
                      refine thenK_normal ?_
                      refine Wp.loneRegion (.inl rfl) (by kernel_rfl) fun K' gd hK hg => ?_
                      clear hg
                      go_simp
                      refine hK _ _ ?_
                      clear hK K' gd
                      refine Ends.keep [2, 3, 4, 5, 9, 16, 17, 18] fun r30 hkeep => ?_
                      obtain ⟨e2_30, e3_30, e4_30, e5_30, e9_30, e16_30, e17_30, e18_30, -⟩ := hkeep
                      simp [go_sem, e2_29, e3_29, e4_29, e5_29, e9_29, e16_29, e17_29, e18_29] at e2_30 e3_30 e4_30 e5_30 e9_30 e16_30 e17_30 e18_30
                      clear e2_29 e3_29 e4_29 e5_29 e9_29 e16_29 e17_29 e18_29
                      refine Ends.mk ?_
                      refine thenK_normal ⟨by omega, ⟨by rw [e2_30, e2_23], by rw [e3_30, e3_23], by rw [e4_30, e4_23], by rw [e5_30, e5_23], by rw [e9_30, e9_23], trivial⟩, rfl, xl3, ?_⟩
                      exact ⟨_, _, by rw [e18_30, IntWalk.i64_in _ (by omega)]; rfl, e16_30, e17_30, by rw [minL_succ, hlo.choose_spec.1, min_ifL]; unfold OwnI; rw [encI_add, List.length_append]; exact hL3, by rw [maxL_succ, hhi.choose_spec.1, max_ifL]; unfold OwnI; rw [encI_add, List.length_append]; exact hH3, hne3⟩
                    · refine Wp.condF (by go_simp) ?_
                      obtain rfl : k = x.length := by omega
                      obtain ⟨A8, c8, rfl⟩ := OwnI.slice hL
                      obtain ⟨A9, c9, rfl⟩ := OwnI.slice hH
                      have hfit : ∃ _u : Unit, (s.md c).Fit (gI lo) ∧ (s.md c).Fit (gI hi) := ⟨(), by have e := hln.choose_spec.2.2; rw [← hlo.choose_spec.1, ← hhi.choose_spec.1]; exact lattice_fit hfx hfy (fun i hi => minL_get (by omega)) (fun i hi => maxL_get (by omega))⟩
                      have hll : ∃ _u : Unit, lo.length = s.n ∧ hi.length = s.n := ⟨(), by have := hlo.choose_spec.2; have := hhi.choose_spec.2; have := hln.choose_spec.1; omega⟩
                      refine Wp.exit ?_
                      refine thenK_exit ?_
                      refine thenK_exit ?_
                      refine blockK_here ?_
                      refine thenK_normal ?_
                      refine Wp.seqRegion (.inl rfl) (by kernel_rfl) fun K' gd hK hg => ?_
                      clear hg
                      refine Wops.cut 4 fun K1 hK1 => ?_
                      simp only [List.take_succ_cons, List.take_zero]
                      go_simp
                      refine Wcall (.inl rfl) (fits_T h0 hll.choose_spec.1 hfit.choose_spec.1 _ (hV.ext xw) (hU.ext xw) (OwnI.intsV hL) hf hg) ?_
                      rintro v w9 ⟨rfl, hE⟩
                      go_simp
                      refine hK1 _ _ ?_
                      clear hK1 K1
                      simp only [List.drop_succ_cons, List.drop_zero]
                      have z31 := Below.size hE
                      replace f4 := Ext.fz hE c4_0 f4
                      replace f5 := Ext.fz hE c5_0 f5
                      replace hL := hL.ext hE
                      replace hH := hH.ext hE
                      replace xw := Ext.trans xw hE
                      replace xl3 := Ext.trans xl3 hE
                      replace c4_0 := Ext.cell hE c4_0
                      replace c4_1 := Ext.cell hE c4_1
                      replace c5_0 := Ext.cell hE c5_0
                      replace c5_1 := Ext.cell hE c5_1
                      replace c5_2 := Ext.cell hE c5_2
                      replace c5_3 := Ext.cell hE c5_3
                      clear hE
                      go_simp
                      refine hK _ _ ?_
                      clear hK K' gd
                      refine Wp.keep [4, 5, 9, 17, 20, 21] fun r32 hkeep => ?_
                      obtain ⟨e4_32, e5_32, e9_32, e17_32, e20_32, e21_32, -⟩ := hkeep
                      simp [go_sem, e2_25, e3_25, e4_25, e5_25, e9_25, e16_25, e17_25, e18_25, e79_25] at e4_32 e5_32 e9_32 e17_32 e20_32 e21_32
                      clear e2_25 e3_25 e4_25 e5_25 e9_25 e16_25 e17_25 e18_25 e79_25
                      refine Wp.seqRegion (.inl rfl) (by kernel_rfl) fun K' gd hK hg => ?_
                      clear hg
                      refine Wops.cut 4 fun K1 hK1 => ?_
                      simp only [List.take_succ_cons, List.take_zero]
                      go_simp
                      refine Wcall (.inl rfl) (fits_T h0 hll.choose_spec.2 hfit.choose_spec.2 _ (hV.ext xw) (hU.ext xw) (OwnI.intsV hH) hf hg) ?_
                      rintro v w10 ⟨rfl, hE⟩
                      go_simp
                      refine hK1 _ _ ?_
                      clear hK1 K1
                      simp only [List.drop_succ_cons, List.drop_zero]
                      have z33 := Below.size hE
                      replace f4 := Ext.fz hE c4_0 f4
                      replace f5 := Ext.fz hE c5_0 f5
                      replace hL := hL.ext hE
                      replace hH := hH.ext hE
                      replace xw := Ext.trans xw hE
                      replace xl3 := Ext.trans xl3 hE
                      replace c4_0 := Ext.cell hE c4_0
                      replace c4_1 := Ext.cell hE c4_1
                      replace c5_0 := Ext.cell hE c5_0
                      replace c5_1 := Ext.cell hE c5_1
                      replace c5_2 := Ext.cell hE c5_2
                      replace c5_3 := Ext.cell hE c5_3
                      clear hE
                      go_simp
                      refine hK _ _ ?_
                      clear hK K' gd
                      refine Wp.keep [9, 20, 21, 23, 24] fun r34 hkeep => ?_
                      obtain ⟨e9_34, e20_34, e21_34, e23_34, e24_34, -⟩ := hkeep
                      simp [go_sem, e4_32, e5_32, e9_32, e17_32, e20_32, e21_32] at e9_34 e20_34 e21_34 e23_34 e24_34
                      clear e4_32 e5_32 e9_32 e17_32 e20_32 e21_32
                      refine Wp.seqRegion (.inl rfl) (by kernel_rfl) fun K' gd hK hg => ?_
                      have g1 : gd 1 = some 123 := hg 1
                      have g5 : gd 5 = some 127 := hg 5
                      have g9 : gd 9 = some 131 := hg 9
                      have g12 : gd 12 = some 134 := hg 12
                      clear hg
                      go_simp
                      refine hK _ _ ?_
                      clear hK K' gd g1 g5 g9 g12
                      refine Wp.keep [8] fun r35 hkeep => ?_
                      obtain ⟨e8_35, -⟩ := hkeep
                      simp [go_sem, e9_34, e20_34, e21_34, e23_34, e24_34] at e8_35
                      clear e9_34 e20_34 e21_34 e23_34 e24_34
                      refine Wp.ret ?_
                      refine endK_tmp Try.results7 (by decide) ?_
                      rw [e8_35]
                      exact ⟨by first | rfl | go_simp, xw⟩
                · skip
                  refine Wp.seq ?_
                  refine Wp.seqRegion (.inl rfl) (by kernel_rfl) fun K' gd hK hg => ?_
                  have g2 : gd 2 = some 63 := hg 2
                  have g6 : gd 6 = some 67 := hg 6
                  have g10 : gd 10 = some 71 := hg 10
                  clear hg
                  go_simp
                  refine hK _ _ ?_
                  clear hK K' gd g2 g6 g10
                  refine Wp.keep [2, 3, 4, 5, 9, 74] fun r36 hkeep => ?_
                  obtain ⟨e2_36, e3_36, e4_36, e5_36, e9_36, e74_36, -⟩ := hkeep
                  simp [go_sem, e2_19, e3_19, e4_19, e5_19, e9_19, e11_19, e12_19, e14_19, e15_19] at e2_36 e3_36 e4_36 e5_36 e9_36 e74_36
                  clear e2_19 e3_19 e4_19 e5_19 e9_19 e11_19 e12_19 e14_19 e15_19
                  refine Wp.condT (by go_simp) ?_
                  refine Wp.seqRegion (.inl rfl) (by kernel_rfl) fun K' gd hK hg => ?_
                  clear hg
                  go_simp
                  refine hK _ _ ?_
                  clear hK K' gd
                  refine Wp.keep [8] fun r37 hkeep => ?_
                  obtain ⟨e8_37, -⟩ := hkeep
                  simp [go_sem, e2_36, e3_36, e4_36, e5_36, e9_36, e74_36] at e8_37
                  clear e2_36 e3_36 e4_36 e5_36 e9_36 e74_36
                  refine Wp.ret ?_
                  refine thenK_ret ?_
                  refine endK_tmp Try.results7 (by decide) ?_
                  rw [e8_37]
                  exact ⟨rfl, xw⟩
              · skip
                refine Wp.seq ?_
                refine Wp.seqRegion (.inl rfl) (by kernel_rfl) fun K' gd hK hg => ?_
                have g2 : gd 2 = some 63 := hg 2
                have g6 : gd 6 = some 67 := hg 6
                have g10 : gd 10 = some 71 := hg 10
                clear hg
                go_simp
                refine hK _ _ ?_
                clear hK K' gd g2 g6 g10
                refine Wp.keep [2, 3, 4, 5, 9, 74] fun r38 hkeep => ?_
                obtain ⟨e2_38, e3_38, e4_38, e5_38, e9_38, e74_38, -⟩ := hkeep
                simp [go_sem, e2_19, e3_19, e4_19, e5_19, e9_19, e11_19, e12_19, e14_19, e15_19] at e2_38 e3_38 e4_38 e5_38 e9_38 e74_38
                clear e2_19 e3_19 e4_19 e5_19 e9_19 e11_19 e12_19 e14_19 e15_19
                refine Wp.condT (by go_simp) ?_
                refine Wp.seqRegion (.inl rfl) (by kernel_rfl) fun K' gd hK hg => ?_
                clear hg
                go_simp
                refine hK _ _ ?_
                clear hK K' gd
                refine Wp.keep [8] fun r39 hkeep => ?_
                obtain ⟨e8_39, -⟩ := hkeep
                simp [go_sem, e2_38, e3_38, e4_38, e5_38, e9_38, e74_38] at e8_39
                clear e2_38 e3_38 e4_38 e5_38 e9_38 e74_38
                refine Wp.ret ?_
                refine thenK_ret ?_
                refine endK_tmp Try.results7 (by decide) ?_
                rw [e8_39]
                exact ⟨rfl, xw⟩
            · skip
              refine Wp.seq ?_
              refine Wp.seqRegion (.inl rfl) (by kernel_rfl) fun K' gd hK hg => ?_
              have g2 : gd 2 = some 63 := hg 2
              have g6 : gd 6 = some 67 := hg 6
              have g10 : gd 10 = some 71 := hg 10
              clear hg
              go_simp
              refine hK _ _ ?_
              clear hK K' gd g2 g6 g10
              refine Wp.keep [2, 3, 4, 5, 9, 74] fun r40 hkeep => ?_
              obtain ⟨e2_40, e3_40, e4_40, e5_40, e9_40, e74_40, -⟩ := hkeep
              simp [go_sem, e2_19, e3_19, e4_19, e5_19, e9_19, e11_19, e12_19, e14_19, e15_19] at e2_40 e3_40 e4_40 e5_40 e9_40 e74_40
              clear e2_19 e3_19 e4_19 e5_19 e9_19 e11_19 e12_19 e14_19 e15_19
              refine Wp.condT (by go_simp) ?_
              refine Wp.seqRegion (.inl rfl) (by kernel_rfl) fun K' gd hK hg => ?_
              clear hg
              go_simp
              refine hK _ _ ?_
              clear hK K' gd
              refine Wp.keep [8] fun r41 hkeep => ?_
              obtain ⟨e8_41, -⟩ := hkeep
              simp [go_sem, e2_40, e3_40, e4_40, e5_40, e9_40, e74_40] at e8_41
              clear e2_40 e3_40 e4_40 e5_40 e9_40 e74_40
              refine Wp.ret ?_
              refine thenK_ret ?_
              refine endK_tmp Try.results7 (by decide) ?_
              rw [e8_41]
              exact ⟨rfl, xw⟩
          · skip
            refine Wp.seq ?_
            refine Wp.seqRegion (.inl rfl) (by kernel_rfl) fun K' gd hK hg => ?_
            have g2 : gd 2 = some 63 := hg 2
            have g6 : gd 6 = some 67 := hg 6
            have g10 : gd 10 = some 71 := hg 10
            clear hg
            go_simp
            refine hK _ _ ?_
            clear hK K' gd g2 g6 g10
            refine Wp.keep [2, 3, 4, 5, 9, 74] fun r42 hkeep => ?_
            obtain ⟨e2_42, e3_42, e4_42, e5_42, e9_42, e74_42, -⟩ := hkeep
            simp [go_sem, e2_19, e3_19, e4_19, e5_19, e9_19, e11_19, e12_19, e14_19, e15_19] at e2_42 e3_42 e4_42 e5_42 e9_42 e74_42
            clear e2_19 e3_19 e4_19 e5_19 e9_19 e11_19 e12_19 e14_19 e15_19
            refine Wp.condT (by go_simp) ?_
            refine Wp.seqRegion (.inl rfl) (by kernel_rfl) fun K' gd hK hg => ?_
            clear hg
            go_simp
            refine hK _ _ ?_
            clear hK K' gd
            refine Wp.keep [8] fun r43 hkeep => ?_
            obtain ⟨e8_43, -⟩ := hkeep
            simp [go_sem, e2_42, e3_42, e4_42, e5_42, e9_42, e74_42] at e8_43
            clear e2_42 e3_42 e4_42 e5_42 e9_42 e74_42
            refine Wp.ret ?_
            refine thenK_ret ?_
            refine endK_tmp Try.results7 (by decide) ?_
            rw [e8_43]
            exact ⟨rfl, xw⟩
    · skip
      refine Wp.seq ?_
      refine Wp.seqRegion (.inl rfl) (by kernel_rfl) fun K' gd hK hg => ?_
      have g3 : gd 3 = some 29 := hg 3
      have g8 : gd 8 = some 34 := hg 8
      have g13 : gd 13 = some 39 := hg 13
      clear hg
      refine Wops.cut 2 fun K1 hK1 => ?_
      simp only [List.take_succ_cons, List.take_zero]
      go_simp
      refine Wcall (.inl rfl) (few_c _ s _ (hV.ext xw)) ?_
      rintro v w3 ⟨rfl, hE⟩
      go_simp
      refine hK1 _ _ ?_
      clear hK1 K1
      simp only [List.drop_succ_cons, List.drop_zero]
      have z44 := Below.size hE
      replace f4 := Ext.fz hE c4_0 f4
      replace f5 := Ext.fz hE c5_0 f5
      replace xw := Ext.trans xw hE
      replace c4_0 := Ext.cell hE c4_0
      replace c4_1 := Ext.cell hE c4_1
      replace c5_0 := Ext.cell hE c5_0
      replace c5_1 := Ext.cell hE c5_1
      replace c5_2 := Ext.cell hE c5_2
      replace c5_3 := Ext.cell hE c5_3
      clear hE
      refine Wops.cut 4 fun K1 hK1 => ?_
      simp only [List.take_succ_cons, List.take_zero]
      go_simp
      refine Wcall (.inl rfl) (brief_c _ c _ (hU.ext xw)) ?_
      rintro v w4 ⟨rfl, hE⟩
      go_simp
      refine hK1 _ _ ?_
      clear hK1 K1
      simp only [List.drop_succ_cons, List.drop_zero]
      have z45 := Below.size hE
      replace f4 := Ext.fz hE c4_0 f4
      replace f5 := Ext.fz hE c5_0 f5
      replace xw := Ext.trans xw hE
      replace c4_0 := Ext.cell hE c4_0
      replace c4_1 := Ext.cell hE c4_1
      replace c5_0 := Ext.cell hE c5_0
      replace c5_1 := Ext.cell hE c5_1
      replace c5_2 := Ext.cell hE c5_2
      replace c5_3 := Ext.cell hE c5_3
      clear hE
      go_simp
      refine hK _ _ ?_
      clear hK K' gd g3 g8 g13
      refine Wp.keep [2, 3, 4, 5, 9, 43] fun r46 hkeep => ?_
      obtain ⟨e2_46, e3_46, e4_46, e5_46, e9_46, e43_46, -⟩ := hkeep
      simp [go_sem, e2_4, e3_4, e4_4, e5_4, e9_4] at e2_46 e3_46 e4_46 e5_46 e9_46 e43_46
      clear e2_4 e3_4 e4_4 e5_4 e9_4
      refine Wp.condT (by go_simp) ?_
      refine Wp.seqRegion (.inl rfl) (by kernel_rfl) fun K' gd hK hg => ?_
      clear hg
      go_simp
      refine hK _ _ ?_
      clear hK K' gd
      refine Wp.keep [8] fun r47 hkeep => ?_
      obtain ⟨e8_47, -⟩ := hkeep
      simp [go_sem, e2_46, e3_46, e4_46, e5_46, e9_46, e43_46] at e8_47
      clear e2_46 e3_46 e4_46 e5_46 e9_46 e43_46
      refine Wp.ret ?_
      refine thenK_ret ?_
      refine endK_tmp Try.results7 (by decide) ?_
      rw [e8_47]
      exact ⟨rfl, xw⟩
  · skip
    refine Wp.seq ?_
    refine Wp.seqRegion (.inl rfl) (by kernel_rfl) fun K' gd hK hg => ?_
    have g3 : gd 3 = some 29 := hg 3
    have g8 : gd 8 = some 34 := hg 8
    have g13 : gd 13 = some 39 := hg 13
    clear hg
    refine Wops.cut 2 fun K1 hK1 => ?_
    simp only [List.take_succ_cons, List.take_zero]
    go_simp
    refine Wcall (.inl rfl) (few_c _ s _ (hV.ext xw)) ?_
    rintro v w3 ⟨rfl, hE⟩
    go_simp
    refine hK1 _ _ ?_
    clear hK1 K1
    simp only [List.drop_succ_cons, List.drop_zero]
    have z48 := Below.size hE
    replace f4 := Ext.fz hE c4_0 f4
    replace f5 := Ext.fz hE c5_0 f5
    replace xw := Ext.trans xw hE
    replace c4_0 := Ext.cell hE c4_0
    replace c4_1 := Ext.cell hE c4_1
    replace c5_0 := Ext.cell hE c5_0
    replace c5_1 := Ext.cell hE c5_1
    replace c5_2 := Ext.cell hE c5_2
    replace c5_3 := Ext.cell hE c5_3
    clear hE
    refine Wops.cut 4 fun K1 hK1 => ?_
    simp only [List.take_succ_cons, List.take_zero]
    go_simp
    refine hK1 _ _ ?_
    clear hK1 K1
    simp only [List.drop_succ_cons, List.drop_zero]
    go_simp
    refine hK _ _ ?_
    clear hK K' gd g3 g8 g13
    refine Wp.keep [2, 3, 4, 5, 9, 43] fun r49 hkeep => ?_
    obtain ⟨e2_49, e3_49, e4_49, e5_49, e9_49, e43_49, -⟩ := hkeep
    simp [go_sem, e2_4, e3_4, e4_4, e5_4, e9_4] at e2_49 e3_49 e4_49 e5_49 e9_49 e43_49
    clear e2_4 e3_4 e4_4 e5_4 e9_4
    refine Wp.condT (by go_simp) ?_
    refine Wp.seqRegion (.inl rfl) (by kernel_rfl) fun K' gd hK hg => ?_
    clear hg
    go_simp
    refine hK _ _ ?_
    clear hK K' gd
    refine Wp.keep [8] fun r50 hkeep => ?_
    obtain ⟨e8_50, -⟩ := hkeep
    simp [go_sem, e2_49, e3_49, e4_49, e5_49, e9_49, e43_49] at e8_50
    clear e2_49 e3_49 e4_49 e5_49 e9_49 e43_49
    refine Wp.ret ?_
    refine thenK_ret ?_
    refine endK_tmp Try.results7 (by decide) ?_
    rw [e8_50]
    exact ⟨rfl, xw⟩
end Go.Proofs.Ytnjajbkkgfohaaa
