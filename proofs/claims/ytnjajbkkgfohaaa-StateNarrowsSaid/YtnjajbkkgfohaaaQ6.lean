/- Days that fit: of lines, the lesser and the greater ones, narrower ones (plain law). Narrower copies; how long a copy took (plain law). below; what is asked of contracts at right arguments. StateNarrows. -/
import Derived.Test.YtnjajbkkgfohaaaP5
import Derived.Test.YtnjajbkkgfohaaaP6
set_option linter.all false
namespace Go.Proofs.Ytnjajbkkgfohaaa

theorem possF_in {f l : Int} {T : List (Int × Int)} {d : Int} : inside (possF f l T) d ↔ inside T d ∧ f ≤ d ∧ d ≤ l := by
  unfold inside possF
  constructor
  · rintro ⟨y, hy, h1, h2⟩
    rw [List.mem_filterMap] at hy
    obtain ⟨x, hx, h⟩ := hy
    split at h
    · injection h with h; subst h
      dsimp only at h1 h2
      exact ⟨⟨x, hx, by omega, by omega⟩, by omega, by omega⟩
    · cases h
  · rintro ⟨⟨x, hx, h1, h2⟩, h3, h4⟩
    refine ⟨(max x.1 f, min x.2 l), List.mem_filterMap.2 ⟨x, hx, ?_⟩, ?_, ?_⟩
    · rw [if_pos (by omega)]
    · dsimp only; omega
    · dsimp only; omega
theorem fromD_iff {b : Int} {p i : Nat} {l : List Int} {d : Int} : fromD b p l i ≤ d ↔ b ≤ d ∧ (0 < i → gI l (i - 1) ≤ d) ∧ (p ≤ i → gI l (i - p) < d) := by
  constructor
  · intro h
    obtain ⟨h1, h2, h3⟩ := fromD_ge (b := b) (p := p) (i := i) (l := l)
    exact ⟨by omega, fun h0 => by have := h2 h0; omega, fun h0 => by have := h3 h0; omega⟩
  · rintro ⟨h1, h2, h3⟩
    unfold fromD
    split
    · have := h3 ‹_›
      split
      · have := h2 ‹_›; omega
      · omega
    · split
      · have := h2 ‹_›; omega
      · omega
theorem fit_at {m : Md} {dy : List Int} : m.Fit (gI dy) ↔ ∀ j, j < m.n → FitAt m dy j := by
  constructor
  · intro h j hj
    obtain ⟨h1, h2, h3, h4, h5⟩ := h j hj
    exact ⟨⟨h1, h2⟩, h3, fromD_iff.2 ⟨h1, h4, h5⟩⟩
  · intro h j hj
    obtain ⟨⟨h1, h2⟩, h3, h4⟩ := h j hj
    obtain ⟨-, h5, h6⟩ := fromD_iff.1 h4
    exact ⟨h1, h2, h3, h5, h6⟩
theorem fitR_true {s : Sh} {c : Cp} {dy : List Int} : fitE s c dy = 0 ∧ (fitR s c dy).2 = true ↔ copyS s c = 0 ∧ dy.length = s.n ∧ (s.md c).Fit (gI dy) := by
  have he : fitE s c dy = 0 ↔ copyS s c = 0 ∧ dy.length = s.n := by
    unfold fitE
    by_cases h : copyS s c = 0
    · by_cases h2 : dy.length = s.n <;> simp [h, h2]
    · simp [h]
  constructor
  · rintro ⟨h1, h2⟩
    refine ⟨(he.1 h1).1, (he.1 h1).2, fit_at.2 (fitI_none.1 ?_)⟩
    unfold fitR at h2
    rw [if_pos h1] at h2
    cases hf : fitI (s.md c) dy with
    | none => rfl
    | some i => rw [hf] at h2; cases h2
  · rintro ⟨h1, h2, h3⟩
    have h0 := he.2 ⟨h1, h2⟩
    refine ⟨h0, ?_⟩
    unfold fitR
    rw [if_pos h0, fitI_none.2 (fit_at.1 h3)]
theorem fitE_zero {s : Sh} {c : Cp} {dy : List Int} : fitE s c dy = 0 ↔ copyS s c = 0 ∧ dy.length = s.n := by
  unfold fitE
  by_cases h : copyS s c = 0
  · by_cases h2 : dy.length = s.n <;> simp [h, h2]
  · simp [h]
theorem fitR_good {s : Sh} {c : Cp} {dy : List Int} (h0 : copyS s c = 0) (hl : dy.length = s.n) (h : (s.md c).Fit (gI dy)) : fitE s c dy = 0 ∧ fitR s c dy = (0, true) := by
  have h1 := fitE_zero.2 ⟨h0, hl⟩
  exact ⟨h1, by unfold fitR; rw [if_pos h1, fitI_none.2 (fit_at.1 h)]⟩
/-- the earliest days ahead of a line, a day of its own, the latest ones behind it -/
theorem mix_fit {m : Md} (h : MdOk m) (hk : m.ok = true) {i : Nat} (hi : i < m.n) {d : Int} (hc : m.can i d) (h1 : gI m.first i ≤ d) (h2 : d ≤ gI m.last i) :
    m.Fit (gI (m.first.take i ++ d :: m.last.drop (i + 1))) := by
  obtain ⟨f1, -, f2, f3⟩ := h.of_ok hk
  obtain ⟨l1, l2, l3⟩ := h.last_fit hk
  have hle : ∀ j, j < m.n → gI m.first j ≤ gI m.last j := fun j hj => f3 _ l2 j hj
  have g : ∀ j, gI (m.first.take i ++ d :: m.last.drop (i + 1)) j = if j < i then gI m.first j else if j = i then d else gI m.last j := fun j => by
    have ht : (m.first.take i).length = i := by simp; omega
    unfold gI
    by_cases a : j < i
    · rw [if_pos a, List.getElem?_append_left (by omega), List.getElem?_take, if_pos a]
    · rw [if_neg a, List.getElem?_append_right (by omega), ht]
      by_cases b : j = i
      · subst b; simp
      · rw [if_neg b, show j - i = (j - i - 1) + 1 by omega, List.getElem?_cons_succ, List.getElem?_drop, show i + 1 + (j - i - 1) = j by omega]
  have hp := h.pp
  intro j hj
  obtain ⟨a1, a2, a3, a4, a5⟩ := f2 j hj
  obtain ⟨b1, b2, b3, b4, b5⟩ := l2 j hj
  rw [g]
  rcases Nat.lt_trichotomy j i with hji | rfl | hji
  · rw [if_pos hji]
    refine ⟨a1, a2, a3, fun h0 => ?_, fun hpj => ?_⟩
    · rw [g, if_pos (by omega)]; exact a4 h0
    · rw [g, if_pos (by omega)]; exact a5 hpj
  · rw [if_neg (by omega), if_pos rfl]
    have q1 := hle j hj
    refine ⟨by omega, by omega, hc, fun h0 => ?_, fun hpj => ?_⟩
    · rw [g, if_pos (by omega)]; have := a4 h0; omega
    · rw [g, if_pos (by omega)]; have := a5 hpj; omega
  · rw [if_neg (by omega), if_neg (by omega)]
    refine ⟨b1, b2, b3, fun h0 => ?_, fun hpj => ?_⟩
    · rw [g, if_neg (by omega)]
      by_cases e : j - 1 = i
      · rw [if_pos e]; have := b4 h0; rw [e] at this; omega
      · rw [if_neg e]; exact b4 h0
    · rw [g]
      have q := b5 hpj
      have q2 := hle (j - m.c.p.toNat) (by omega)
      by_cases e : j - m.c.p.toNat < i
      · rw [if_pos e]; omega
      · rw [if_neg e]
        by_cases e2 : j - m.c.p.toNat = i
        · rw [if_pos e2]; rw [e2] at q; omega
        · rw [if_neg e2]; exact q
/-- the lesser days, and the greater ones -/
theorem lattice_fit {m : Md} {x y : List Int} (hx : m.Fit (gI x)) (hy : m.Fit (gI y)) {lo hi : List Int} (hlo : ∀ i, i < m.n → gI lo i = min (gI x i) (gI y i)) (hhi : ∀ i, i < m.n → gI hi i = max (gI x i) (gI y i)) : m.Fit (gI lo) ∧ m.Fit (gI hi) := by
  have key : ∀ i, i < m.n → ∀ a b, (a = gI x i ∧ b = gI y i) → m.can i (min a b) ∧ m.can i (max a b) := fun i hi a b ⟨e1, e2⟩ => by
    have h1 := (hx i hi).2.2.1
    have h2 := (hy i hi).2.2.1
    rw [← e1] at h1
    rw [← e2] at h2
    rcases Int.le_total a b with h | h
    · rw [Int.min_eq_left h, Int.max_eq_right h]; exact ⟨h1, h2⟩
    · rw [Int.min_eq_right h, Int.max_eq_left h]; exact ⟨h2, h1⟩
  constructor
  · intro i hi'
    obtain ⟨a1, a2, a3, a4, a5⟩ := hx i hi'
    obtain ⟨b1, b2, b3, b4, b5⟩ := hy i hi'
    rw [hlo i hi']
    refine ⟨by omega, by omega, (key i hi' _ _ ⟨rfl, rfl⟩).1, fun h0 => ?_, fun hp => ?_⟩
    · rw [hlo (i - 1) (by omega)]; have := a4 h0; have := b4 h0; omega
    · rw [hlo (i - m.c.p.toNat) (by omega)]; have := a5 hp; have := b5 hp; omega
  · intro i hi'
    obtain ⟨a1, a2, a3, a4, a5⟩ := hx i hi'
    obtain ⟨b1, b2, b3, b4, b5⟩ := hy i hi'
    rw [hhi i hi']
    refine ⟨by omega, by omega, (key i hi' _ _ ⟨rfl, rfl⟩).2, fun h0 => ?_, fun hp => ?_⟩
    · rw [hhi (i - 1) (by omega)]; have := a4 h0; have := b4 h0; omega
    · rw [hhi (i - m.c.p.toNat) (by omega)]; have := a5 hp; have := b5 hp; omega
end Go.Proofs.Ytnjajbkkgfohaaa
namespace Go.Proofs.Ytnjajbkkgfohaaa

theorem Md.Fit.mono {m : Md} {ds : Nat → Int} (h : m.Fit ds) : ∀ {i j : Nat}, i ≤ j → j < m.n → ds i ≤ ds j := by
  intro i j hij hj
  induction j with
  | zero => obtain rfl : i = 0 := by omega
            exact Int.le_refl _
  | succ j ih =>
    rcases Nat.lt_or_ge i (j + 1) with h1 | h1
    · have h2 := ih (by omega) (by omega)
      have h3 := (h (j + 1) hj).2.2.2.1 (by omega)
      rw [Nat.add_sub_cancel] at h3
      omega
    · obtain rfl : i = j + 1 := by omega
      exact Int.le_refl _
/-- m' asks more than m -/
structure Narrow (m m' : Md) : Prop where
  n : m'.n = m.n
  T : ∀ i, m'.T i = m.T i
  b : m.c.b ≤ m'.c.b
  e : m'.c.e ≤ m.c.e
  p : m'.c.p.toNat ≤ m.c.p.toNat
  p1 : 1 ≤ m'.c.p.toNat
theorem Narrow.fit {m m' : Md} (h : Narrow m m') {ds : Nat → Int} (hd : m'.Fit ds) : m.Fit ds := by
  intro i hi
  rw [← h.n] at hi
  obtain ⟨h1, h2, h3, h4, h5⟩ := hd i hi
  have hb := h.b
  have he := h.e
  have hp := h.p
  have hp1 := h.p1
  refine ⟨by omega, by omega, ?_, h4, fun hpi => ?_⟩
  · unfold Md.can at *; rw [← h.T]; exact h3
  · have q1 := h5 (by omega)
    have q2 := hd.mono (i := i - m.c.p.toNat) (j := i - m'.c.p.toNat) (by omega) (by omega)
    omega
theorem Md.at_narrow {m : Md} {d : Int} (hp : 1 ≤ m.c.p.toNat) (h : m.c.b ≤ d) : Narrow m (m.at d) := ⟨rfl, fun _ => rfl, h, Int.le_refl _, Nat.le_refl _, hp⟩
theorem longF_le {m : Md} : ∀ (l : List Int) (lo : Int), longF m l lo ≤ lo ∧ ∀ d ∈ l, m.can 0 d ∧ (m.at d).ok = true → longF m l lo ≤ gI (m.at d).first (m.n - 1) - gI (m.at d).first 0
  | [], lo => ⟨Int.le_refl _, fun d hd => by cases hd⟩
  | x :: l, lo => by
    have e : longF m (x :: l) lo = longF m l (if m.can 0 x ∧ (m.at x).ok = true then min lo (gI (m.at x).first (m.n - 1) - gI (m.at x).first 0) else lo) := rfl
    rw [e]
    obtain ⟨h1, h2⟩ := longF_le (m := m) l (if m.can 0 x ∧ (m.at x).ok = true then min lo (gI (m.at x).first (m.n - 1) - gI (m.at x).first 0) else lo)
    refine ⟨?_, fun d hd hc => ?_⟩
    · split at h1 <;> split <;> first | omega | contradiction
    · rcases List.mem_cons.1 hd with rfl | hd
      · rw [if_pos hc] at h1 ⊢; omega
      · exact h2 d hd hc
theorem longF_or {m : Md} : ∀ (l : List Int) (lo : Int), longF m l lo = lo ∨ ∃ d ∈ l, (m.can 0 d ∧ (m.at d).ok = true) ∧ longF m l lo = gI (m.at d).first (m.n - 1) - gI (m.at d).first 0
  | [], lo => .inl rfl
  | x :: l, lo => by
    have e : longF m (x :: l) lo = longF m l (if m.can 0 x ∧ (m.at x).ok = true then min lo (gI (m.at x).first (m.n - 1) - gI (m.at x).first 0) else lo) := rfl
    rw [e]
    rcases longF_or (m := m) l (if m.can 0 x ∧ (m.at x).ok = true then min lo (gI (m.at x).first (m.n - 1) - gI (m.at x).first 0) else lo) with h | ⟨d, hd, hc, h⟩
    · by_cases hx : m.can 0 x ∧ (m.at x).ok = true
      · rw [if_pos hx] at h ⊢
        rcases Int.le_total lo (gI (m.at x).first (m.n - 1) - gI (m.at x).first 0) with q | q
        · exact .inl (by rw [h, Int.min_eq_left q])
        · exact .inr ⟨x, List.mem_cons_self, hx, by rw [h, Int.min_eq_right q]⟩
      · rw [if_neg hx] at h ⊢; exact .inl h
    · exact .inr ⟨d, List.mem_cons_of_mem _ hd, hc, h⟩
section
variable {m : Md} (h : MdOk m) (hk : m.ok = true)
include h hk
theorem long_le {ds : Nat → Int} (hd : m.Fit ds) : (longS m).1 ≤ ds (m.n - 1) - ds 0 := by
  unfold longS
  by_cases h1 : m.n = 1
  · rw [if_pos h1, h1]; simp
  · rw [if_neg h1]
    have hn := h.n1
    obtain ⟨f1, -, f2, f3⟩ := h.of_ok hk
    obtain ⟨l1, l2, l3⟩ := h.last_fit hk
    have a1 := f3 ds hd 0 (by omega)
    have a2 := l3 ds hd 0 (by omega)
    obtain ⟨c1, c2, c3, -⟩ := hd 0 (by omega)
    have hma : MdOk (m.at (ds 0)) := h.at (by have := h.b0; omega) c2
    have hfit : (m.at (ds 0)).Fit ds := fun i hi => by
      obtain ⟨q1, q2, q3, q4, q5⟩ := hd i hi
      exact ⟨hd.mono (Nat.zero_le i) hi, q2, q3, q4, q5⟩
    have hok := hma.ok_of hfit
    obtain ⟨g1, -, g2, g3⟩ := hma.of_ok hok
    have e1 := (longF_le (m := m) (daysL (gI m.first 0) (gI m.last 0)) (longHi m)).2 (ds 0) (mem_daysL.2 ⟨a1, a2⟩) ⟨c3, hok⟩
    have e2 := g3 ds hfit (m.n - 1) (by show m.n - 1 < m.n; omega)
    have e3 := (g2 0 (by show 0 < m.n; omega)).1
    dsimp only
    have e4 : (m.at (ds 0)).c.b = ds 0 := rfl
    omega
theorem long_or : (longS m).1 = (longS m).2 ∨ ∃ ds, m.Fit ds ∧ (longS m).1 = ds (m.n - 1) - ds 0 := by
  unfold longS
  by_cases h1 : m.n = 1
  · rw [if_pos h1]; exact .inl rfl
  · rw [if_neg h1]
    have hn := h.n1
    obtain ⟨f1, -, f2, f3⟩ := h.of_ok hk
    obtain ⟨l1, l2, l3⟩ := h.last_fit hk
    rcases longF_or (m := m) (daysL (gI m.first 0) (gI m.last 0)) (longHi m) with e | ⟨d, hd, ⟨hc, hok⟩, e⟩
    · exact .inl e
    · obtain ⟨d1, d2⟩ := mem_daysL.1 hd
      have b1 := (f2 0 (by omega)).1
      have b2 := (l2 0 (by omega)).2.1
      have hma : MdOk (m.at d) := h.at (by have := h.b0; omega) (by omega)
      obtain ⟨g1, -, g2, g3⟩ := hma.of_ok hok
      exact .inr ⟨gI (m.at d).first, (Md.at_narrow h.pp (by omega)).fit g2, e⟩
theorem long_hi : (longS m).2 = gI m.last (m.n - 1) - gI m.first 0 ∨ m.n = 1 ∧ (longS m).2 = 0 := by
  unfold longS
  by_cases h1 : m.n = 1
  · rw [if_pos h1]; exact .inr ⟨h1, rfl⟩
  · rw [if_neg h1]; exact .inl rfl
end
theorem Narrow.long {m m' : Md} (h : Narrow m m') (hm : MdOk m) (hm' : MdOk m') (hk' : m'.ok = true) : (longS m).1 ≤ (longS m').1 ∧ (longS m').2 ≤ (longS m).2 := by
  obtain ⟨f1, -, f2, f3⟩ := hm'.of_ok hk'
  obtain ⟨l1, l2, l3⟩ := hm'.last_fit hk'
  have hk := hm.ok_of (h.fit f2)
  obtain ⟨F1, -, F2, F3⟩ := hm.of_ok hk
  obtain ⟨L1, L2, L3⟩ := hm.last_fit hk
  have hn := hm.n1
  have hnn := h.n
  have a1 := f3 _ l2 0 (by omega)
  have a2 := L3 _ (h.fit l2) (m.n - 1) (by omega)
  have a3 := F3 _ (h.fit f2) 0 (by omega)
  have b1 := long_le hm hk (h.fit l2)
  have e : m'.n - 1 = m.n - 1 := by omega
  refine ⟨?_, ?_⟩
  · rcases long_or hm' hk' with q | ⟨ds, hd, q⟩
    · rcases long_hi hm' hk' with r | ⟨r, r2⟩
      · rw [q, r, e]; omega
      · rw [q, r2]
        have e1 : m.n = 1 := by omega
        unfold longS; rw [if_pos e1]; exact Int.le_refl _
    · rw [q, e]; exact long_le hm hk (h.fit hd)
  · rcases long_hi hm' hk' with r | ⟨r, r2⟩
    · rcases long_hi hm hk with s | ⟨s, s2⟩
      · rw [r, s, e]; omega
      · unfold longS; rw [if_pos (show m'.n = 1 by omega), if_pos s]; exact Int.le_refl _
    · rw [r2]
      unfold longS; rw [if_pos (show m.n = 1 by omega)]; exact Int.le_refl _
end Go.Proofs.Ytnjajbkkgfohaaa
namespace Go.Proofs.Ytnjajbkkgfohaaa
open Go.RowKit Go.Wk Go.Proofs
attribute [local irreducible] Go.Wk.Wops Go.Wk.Wp Go.Wk.Mtree Go.Wk.Mops
set_option maxHeartbeats 4000000
set_option maxRecDepth 20000

theorem below_T {x y : Value} {xs ys : List Int} {n : Nat} (h1 : n ≤ xs.length) (h2 : n ≤ ys.length) (h3 : ∀ i, i < n → gI xs i ≤ gI ys i) (hn : n ≤ 1000000000000000) (w : World) (hx : IntsV w w.heap.size x xs) (hy : IntsV w w.heap.size y ys) :
    CallsV Try.prog 45 #[x, y, .int .i64 (n : Int)] w fun v w' => v = .bool true ∧ Ext w w' := by
  obtain ⟨A, c, rfl, -, -⟩ := id hx
  obtain ⟨A2, c2, rfl, -, -⟩ := id hy
  have k1 : ¬ xs.length < n := by omega
  have k2 : ¬ ys.length < n := by omega
  refine Wp.fn Try.func45 rfl Try.ntmps45 (by simp) ?_
  have xw := Ext.refl w
  refine Wp.keep [0, 1, 2] fun r1 hkeep => ?_
  obtain ⟨e0_1, e1_1, e2_1, -⟩ := hkeep
  simp [go_sem] at e0_1 e1_1 e2_1
  refine Wp.seqRegion (.inl rfl) (by kernel_rfl) fun K' gd hK hg => ?_
  clear hg
  go_simp
  refine hK _ _ ?_
  clear hK K' gd
  refine Wp.keep [0, 1, 2] fun r2 hkeep => ?_
  obtain ⟨e0_2, e1_2, e2_2, -⟩ := hkeep
  simp [go_sem, e0_1, e1_1, e2_1] at e0_2 e1_2 e2_2
  clear e0_1 e1_1 e2_1
  refine Wp.seq ?_
  refine Wp.seqRegion (.inl rfl) (by kernel_rfl) fun K' gd hK hg => ?_
  have g4 : gd 4 = some 12 := hg 4
  clear hg
  go_simp
  refine hK _ _ ?_
  clear hK K' gd g4
  refine Wp.keep [0, 1, 2, 17] fun r3 hkeep => ?_
  obtain ⟨e0_3, e1_3, e2_3, e17_3, -⟩ := hkeep
  simp [go_sem, e0_2, e1_2, e2_2] at e0_3 e1_3 e2_3 e17_3
  clear e0_2 e1_2 e2_2
  refine Wp.condF (by go_simp) ?_
  refine Wp.skip ?_
  refine thenK_normal ?_
  refine Wp.seq ?_
  refine Wp.seqRegion (.inl rfl) (by kernel_rfl) fun K' gd hK hg => ?_
  clear hg
  go_simp
  refine hK _ _ ?_
  clear hK K' gd
  refine Wp.keep [0, 1, 2, 7] fun r4 hkeep => ?_
  obtain ⟨e0_4, e1_4, e2_4, e7_4, -⟩ := hkeep
  simp [go_sem, e0_3, e1_3, e2_3, e17_3] at e0_4 e1_4 e2_4 e7_4
  clear e0_3 e1_3 e2_3 e17_3
  refine Wp.block ?_
  refine Wp.loop (fun k ρ ds wk => AllEq [0, 1, 2] ρ r4 ∧ ds = [] ∧ (Ext w wk) ∧ (ρ 7 = .int .i64 (k : Int))) (n) ?_ ?_
  · refine ⟨AllEq.refl _ _, rfl, Ext.refl _, ?_⟩
    rw [e7_4]; rfl
  · rintro k r5 _ wk hk ⟨hA, rfl, xl1, e7⟩
    obtain ⟨e0_5, e1_5, e2_5, -⟩ := hA
    rw [e0_4] at e0_5
    rw [e1_4] at e1_5
    rw [e2_4] at e2_5
    have zxl1 := Below.size xl1
    replace xw := Ext.trans xw xl1
    refine Wp.seq ?_
    refine Wp.seqRegion (.inl rfl) (by kernel_rfl) fun K' gd hK hg => ?_
    clear hg
    go_simp
    refine hK _ _ ?_
    clear hK K' gd
    refine Wp.keep [0, 1, 2, 7, 20] fun r6 hkeep => ?_
    obtain ⟨e0_6, e1_6, e2_6, e7_6, e20_6, -⟩ := hkeep
    simp [go_sem, e0_5, e1_5, e2_5, e7] at e0_6 e1_6 e2_6 e7_6 e20_6
    clear e0_5 e1_5 e2_5 e7
    by_cases h : k < n
    · refine Wp.condT (by go_simp) ?_
      have hkx : k < xs.length := by omega
      have hky : k < ys.length := by omega
      obtain ⟨b, o, c5, e1, hb, hc⟩ := hx.get hkx
      injection e1 with e1 _ e2
      subst e1
      subst e2
      obtain ⟨b2, o2, c6, e1, hb2, hc2⟩ := hy.get hky
      injection e1 with e1 _ e2
      subst e1
      subst e2
      have d1 := xw.cell (hc k hkx)
      have d2 := xw.cell (hc2 k hky)
      have hle := h3 k h
      have hnl : ¬ gI ys k < gI xs k := by omega
      clear hc hc2
      refine Wp.skip ?_
      refine thenK_normal ?_
      refine Wp.seq ?_
      refine Wp.block ?_
      refine Wp.seqDraw (.inl rfl) mixed [([0, 1, 2, 3, 4], none), ([5, 6, 7, 8], none)] (by kernel_rfl) fun K' gd hK hg => ?_
      clear hg
      simp only [pick, nth, List.map_cons, List.map_nil, Option.map_none, Option.map_some]
      refine Mops.absD fun D2 hD2 zD2 => ?_
      replace xw := Ext.trans xw hD2
      replace xl1 := Ext.trans xl1 hD2
      replace d1 := Ext.cell hD2 d1
      replace d2 := Ext.cell hD2 d2
      clear hD2
      apply Mops.none
      · intro w' hE'
        have hC' := hE'.cellsS
        go_simp
        with_reducible rfl
      apply Mops.none
      · intro w' hE'
        have hC' := hE'.cellsS
        go_simp
        with_reducible rfl
      refine Mops.done ?_
      refine hK _ _ ?_
      clear hK K' gd
      refine Wp.keep [0, 1, 2, 7, 31] fun r7 hkeep => ?_
      obtain ⟨e0_7, e1_7, e2_7, e7_7, e31_7, -⟩ := hkeep
      simp [go_sem, e0_6, e1_6, e2_6, e7_6, e20_6] at e0_7 e1_7 e2_7 e7_7 e31_7
      clear e0_6 e1_6 e2_6 e7_6 e20_6
      refine Wp.condF (by go_simp) ?_
      refine Wp.skip ?_
      refine blockK_normal ?_
      refine thenK_normal ?_
      refine Wp.loneRegion (.inl rfl) (by kernel_rfl) fun K' gd hK hg => ?_
      clear hg
      go_simp
      refine hK _ _ ?_
      clear hK K' gd
      refine Ends.keep [0, 1, 2, 7] fun r8 hkeep => ?_
      obtain ⟨e0_8, e1_8, e2_8, e7_8, -⟩ := hkeep
      simp [go_sem, e0_7, e1_7, e2_7, e7_7, e31_7] at e0_8 e1_8 e2_8 e7_8
      clear e0_7 e1_7 e2_7 e7_7 e31_7
      refine Ends.mk ?_
      refine thenK_normal ⟨by omega, ⟨by rw [e0_8, e0_4], by rw [e1_8, e1_4], by rw [e2_8, e2_4], trivial⟩, rfl, xl1, ?_⟩
      rw [e7_8, IntWalk.i64_in _ (by omega)]; rfl
    · refine Wp.condF (by go_simp) ?_
      refine Wp.exit ?_
      refine thenK_exit ?_
      refine thenK_exit ?_
      refine blockK_here ?_
      refine thenK_normal ?_
      refine Wp.seqRegion (.inl rfl) (by kernel_rfl) fun K' gd hK hg => ?_
      clear hg
      go_simp
      refine hK _ _ ?_
      clear hK K' gd
      refine Wp.keep [6] fun r9 hkeep => ?_
      obtain ⟨e6_9, -⟩ := hkeep
      simp [go_sem, e0_6, e1_6, e2_6, e7_6, e20_6] at e6_9
      clear e0_6 e1_6 e2_6 e7_6 e20_6
      refine Wp.ret ?_
      refine endK_tmp Try.results45 (by decide) ?_
      rw [e6_9]
      exact ⟨rfl, xw⟩
theorem fits_T {v u dv : Value} {s : Sh} {c : Cp} {dy : List Int} (h0 : copyS s c = 0) (hl : dy.length = s.n) (h : (s.md c).Fit (gI dy)) (w : World) (hV : SheetV w w.heap.size v s) (hU : CopyV w w.heap.size u c) (hD : IntsV w w.heap.size dv dy) (hf : FitS s) (hg : FitC c) :
    CallsV Try.prog 37 #[v, u, dv] w fun v w' => v = .tuple #[.int .i64 0, .bool true, .int .i64 0] ∧ Ext w w' := by
  obtain ⟨h1, h2⟩ := fitR_good h0 hl h
  have := Fits_c v u dv s c dy w hV hU hD hf hg (by rw [hl]; exact hf.1)
  rw [h1, h2] at this
  exact this
end Go.Proofs.Ytnjajbkkgfohaaa
namespace Go.Proofs.Ytnjajbkkgfohaaa
open Go.RowKit Go.Wk Go.Proofs
attribute [local irreducible] Go.Wk.Wops Go.Wk.Wp Go.Wk.Mtree Go.Wk.Mops
set_option maxHeartbeats 8000000
set_option maxRecDepth 20000

def narrowC (c : Cp) (x y z : Int) : Cp := ⟨c.words, c.b + x, c.e - y, 1 + z.tmod c.p⟩
theorem narrow_md {s : Sh} {c : Cp} {x y z : Int} (hx : 0 ≤ x) (hy : 0 ≤ y) (hz : 0 ≤ z) (hp : 1 ≤ c.p) : Narrow (s.md c) (s.md (narrowC c x y z)) := by
  have h1 := Int.tmod_nonneg c.p hz
  have h2 := Int.tmod_lt_of_pos z (show 0 < c.p by omega)
  refine ⟨rfl, fun _ => rfl, ?_, ?_, ?_, ?_⟩
  · show c.b ≤ c.b + x; omega
  · show c.e - y ≤ c.e; omega
  · show (1 + z.tmod c.p).toNat ≤ c.p.toNat; omega
  · show 1 ≤ (1 + z.tmod c.p).toNat; omega
theorem narrows_c (v u : Value) (s : Sh) (c : Cp) (x y z : Int) (w : World) (hV : SheetV w w.heap.size v s) (hU : CopyV w w.heap.size u c) (bx : 0 ≤ x ∧ x ≤ 255) (by_ : 0 ≤ y ∧ y ≤ 255) (bz : 0 ≤ z ∧ z ≤ 255) (hf : FitS s) (hg : FitC c) :
    CallsV Try.prog 8 #[v, u, .int .u8 x, .int .u8 y, .int .u8 z] w fun v w' => v = .bool true ∧ Ext w w' := by
  obtain ⟨wv, av, rfl, ⟨A, c1, rfl, -, -⟩, ⟨A3, c3, rfl, -, -⟩⟩ := id hV
  obtain ⟨wu, rfl, hW⟩ := id hU
  obtain ⟨A2, c2, rfl, -, -⟩ := id hW
  have hwx : IntKind.i64.wrap x = x := IntWalk.i64_in _ (by omega)
  have hwy : IntKind.i64.wrap y = y := IntWalk.i64_in _ (by omega)
  have hwz : IntKind.i64.wrap z = z := IntWalk.i64_in _ (by omega)
  refine Wp.fn Try.func8 rfl Try.ntmps8 (by simp) ?_
  have xw := Ext.refl w
  refine Wp.keep [0, 1, 2, 3, 4] fun r1 hkeep => ?_
  obtain ⟨e0_1, e1_1, e2_1, e3_1, e4_1, -⟩ := hkeep
  simp [go_sem] at e0_1 e1_1 e2_1 e3_1 e4_1
  refine Wp.seqRegion (.inl rfl) (by kernel_rfl) fun K' gd hK hg => ?_
  clear hg
  refine Wops.cut 1 fun K1 hK1 => ?_
  simp only [List.take_succ_cons, List.take_zero]
  go_simp
  refine hK1 _ _ ?_
  clear hK1 K1
  simp only [List.drop_succ_cons, List.drop_zero]
  refine Wops.absA fun V5_1 n5 hV5_1 => ?_
  obtain ⟨q5, hV5_1, s5, kV5_1, f5, r5⟩ := hV5_1
  try simp only [q5] at kV5_1 f5 r5 ⊢
  replace xw := Ext.trans xw hV5_1
  have c5_0 := kV5_1 0 _ rfl
  have c5_1 := kV5_1 1 _ rfl
  clear kV5_1 hV5_1
  clear r5
  refine Wops.cut 1 fun K1 hK1 => ?_
  simp only [List.take_succ_cons, List.take_zero]
  go_simp
  refine hK1 _ _ ?_
  clear hK1 K1
  simp only [List.drop_succ_cons, List.drop_zero]
  refine Wops.absA fun V6_2 n6 hV6_2 => ?_
  obtain ⟨q6, hV6_2, s6, kV6_2, f6, r6⟩ := hV6_2
  try simp only [q6] at kV6_2 f6 r6 ⊢
  replace f5 := Ext.fz hV6_2 c5_0 f5
  replace xw := Ext.trans xw hV6_2
  replace c5_0 := Ext.cell hV6_2 c5_0
  replace c5_1 := Ext.cell hV6_2 c5_1
  have c6_0 := kV6_2 0 _ rfl
  have c6_1 := kV6_2 1 _ rfl
  have c6_2 := kV6_2 2 _ rfl
  have c6_3 := kV6_2 3 _ rfl
  clear kV6_2 hV6_2
  clear r6
  go_simp
  refine hK _ _ ?_
  clear hK K' gd
  refine Wp.keep [2, 3, 4, 5, 6] fun r2 hkeep => ?_
  obtain ⟨e2_2, e3_2, e4_2, e5_2, e6_2, -⟩ := hkeep
  simp [go_sem, e0_1, e1_1, e2_1, e3_1, e4_1] at e2_2 e3_2 e4_2 e5_2 e6_2
  clear e0_1 e1_1 e2_1 e3_1 e4_1
  refine Wp.seqRegion (.inl rfl) (by kernel_rfl) fun K' gd hK hg => ?_
  clear hg
  refine Wops.cut 1 fun K1 hK1 => ?_
  simp only [List.take_succ_cons, List.take_zero]
  go_simp
  refine Wcall (.inl rfl) (head_c _) ?_
  rintro v w2 ⟨rfl, hE⟩
  go_simp
  refine hK1 _ _ ?_
  clear hK1 K1
  simp only [List.drop_succ_cons, List.drop_zero]
  have z3 := Below.size hE
  replace f5 := Ext.fz hE c5_0 f5
  replace f6 := Ext.fz hE c6_0 f6
  replace xw := Ext.trans xw hE
  replace c5_0 := Ext.cell hE c5_0
  replace c5_1 := Ext.cell hE c5_1
  replace c6_0 := Ext.cell hE c6_0
  replace c6_1 := Ext.cell hE c6_1
  replace c6_2 := Ext.cell hE c6_2
  replace c6_3 := Ext.cell hE c6_3
  clear hE
  go_simp
  refine hK _ _ ?_
  clear hK K' gd
  refine Wp.keep [2, 3, 4, 5, 6, 11] fun r4 hkeep => ?_
  obtain ⟨e2_4, e3_4, e4_4, e5_4, e6_4, e11_4, -⟩ := hkeep
  simp [go_sem, e2_2, e3_2, e4_2, e5_2, e6_2] at e2_4 e3_4 e4_4 e5_4 e6_4 e11_4
  clear e2_2 e3_2 e4_2 e5_2 e6_2
  by_cases hfw : fewS s
  · skip
    by_cases hbr : c.words.length ≤ 50
    · skip
      by_cases h0 : copyS s c = 0
      · skip
        refine Wp.seq ?_
        refine Wp.seqRegion (.inl rfl) (by kernel_rfl) fun K' gd hK hg => ?_
        have g3 : gd 3 = some 35 := hg 3
        have g8 : gd 8 = some 40 := hg 8
        clear hg
        refine Wops.cut 2 fun K1 hK1 => ?_
        simp only [List.take_succ_cons, List.take_zero]
        go_simp
        refine Wcall (.inl rfl) (few_c _ s _ (hV.ext xw)) ?_
        rintro v w3 ⟨rfl, hE⟩
        go_simp
        refine hK1 _ _ ?_
        clear hK1 K1
        simp only [List.drop_succ_cons, List.drop_zero]
        have z5 := Below.size hE
        replace f5 := Ext.fz hE c5_0 f5
        replace f6 := Ext.fz hE c6_0 f6
        replace xw := Ext.trans xw hE
        replace c5_0 := Ext.cell hE c5_0
        replace c5_1 := Ext.cell hE c5_1
        replace c6_0 := Ext.cell hE c6_0
        replace c6_1 := Ext.cell hE c6_1
        replace c6_2 := Ext.cell hE c6_2
        replace c6_3 := Ext.cell hE c6_3
        clear hE
        refine Wops.cut 4 fun K1 hK1 => ?_
        simp only [List.take_succ_cons, List.take_zero]
        go_simp
        refine Wcall (.inl rfl) (brief_c _ c _ (hU.ext xw)) ?_
        rintro v w4 ⟨rfl, hE⟩
        go_simp
        refine hK1 _ _ ?_
        clear hK1 K1
        simp only [List.drop_succ_cons, List.drop_zero]
        have z6 := Below.size hE
        replace f5 := Ext.fz hE c5_0 f5
        replace f6 := Ext.fz hE c6_0 f6
        replace xw := Ext.trans xw hE
        replace c5_0 := Ext.cell hE c5_0
        replace c5_1 := Ext.cell hE c5_1
        replace c6_0 := Ext.cell hE c6_0
        replace c6_1 := Ext.cell hE c6_1
        replace c6_2 := Ext.cell hE c6_2
        replace c6_3 := Ext.cell hE c6_3
        clear hE
        refine Wops.cut 6 fun K1 hK1 => ?_
        simp only [List.take_succ_cons, List.take_zero]
        go_simp
        refine Wcall (.inl rfl) (copy_c _ _ s c _ (hV.ext xw) (hU.ext xw) hf hg) ?_
        rintro v w5 ⟨rfl, hE⟩
        go_simp
        refine hK1 _ _ ?_
        clear hK1 K1
        simp only [List.drop_succ_cons, List.drop_zero]
        have z7 := Below.size hE
        replace f5 := Ext.fz hE c5_0 f5
        replace f6 := Ext.fz hE c6_0 f6
        replace xw := Ext.trans xw hE
        replace c5_0 := Ext.cell hE c5_0
        replace c5_1 := Ext.cell hE c5_1
        replace c6_0 := Ext.cell hE c6_0
        replace c6_1 := Ext.cell hE c6_1
        replace c6_2 := Ext.cell hE c6_2
        replace c6_3 := Ext.cell hE c6_3
        clear hE
        go_simp
        refine hK _ _ ?_
        clear hK K' gd g3 g8
        refine Wp.keep [2, 3, 4, 5, 6, 11, 45] fun r8 hkeep => ?_
        obtain ⟨e2_8, e3_8, e4_8, e5_8, e6_8, e11_8, e45_8, -⟩ := hkeep
        simp [go_sem, e2_4, e3_4, e4_4, e5_4, e6_4, e11_4] at e2_8 e3_8 e4_8 e5_8 e6_8 e11_8 e45_8
        clear e2_4 e3_4 e4_4 e5_4 e6_4 e11_4
        refine Wp.condF (by go_simp) ?_
        obtain ⟨hg0, hv0⟩ := copyS_zero.1 h0
        have hgd := checkS_zero.1 hg0
        have hmk := hgd.mdOk hv0
        obtain ⟨-, -, v3, v4, v5⟩ := id hv0
        have hwb : IntKind.i64.wrap (c.b + x) = c.b + x := IntWalk.i64_in _ (by omega)
        have hwe : IntKind.i64.wrap (c.e - y) = c.e - y := IntWalk.i64_in _ (by omega)
        have hp0 : ¬ c.p = 0 := by omega
        have ht1 := Int.tmod_nonneg c.p bz.1
        have ht2 := Int.tmod_lt_of_pos z (show 0 < c.p by omega)
        have hwt : IntKind.i64.wrap (1 + z.tmod c.p) = 1 + z.tmod c.p := IntWalk.i64_in _ (by omega)
        have hnar := narrow_md (s := s) (c := c) bx.1 by_.1 bz.1 v5.1
        have hUn : ∀ W, Ext w W → CopyV W W.heap.size (.agg #[.slice A2 c.words.length c2, .int .i64 (c.b + x), .int .i64 (c.e - y), .int .i64 (1 + z.tmod c.p)]) (narrowC c x y z) := fun W hE => ⟨_, rfl, hW.ext hE⟩
        obtain ⟨nC, hnC⟩ : ∃ nC, ∃ _u : Unit, narrowC c x y z = nC := ⟨_, (), rfl⟩
        rw [hnC.choose_spec] at hnar hUn
        have hgn : FitC nC := by rw [← hnC.choose_spec]; exact hg
        refine Wp.skip ?_
        refine thenK_normal ?_
        refine Wp.seqRegion (.inl rfl) (by kernel_rfl) fun K' gd hK hg => ?_
        clear hg
        refine Wops.cut 3 fun K1 hK1 => ?_
        simp only [List.take_succ_cons, List.take_zero]
        go_simp
        refine hK1 _ _ ?_
        clear hK1 K1
        simp only [List.drop_succ_cons, List.drop_zero]
        refine Wops.absA fun V12_3 n12 hV12_3 => ?_
        obtain ⟨q12, hV12_3, s12, kV12_3, f12, r12⟩ := hV12_3
        try simp only [q12] at kV12_3 f12 r12 ⊢
        replace f5 := Ext.fz hV12_3 c5_0 f5
        replace f6 := Ext.fz hV12_3 c6_0 f6
        replace xw := Ext.trans xw hV12_3
        replace c5_0 := Ext.cell hV12_3 c5_0
        replace c5_1 := Ext.cell hV12_3 c5_1
        replace c6_0 := Ext.cell hV12_3 c6_0
        replace c6_1 := Ext.cell hV12_3 c6_1
        replace c6_2 := Ext.cell hV12_3 c6_2
        replace c6_3 := Ext.cell hV12_3 c6_3
        have c12_0 := kV12_3 0 _ rfl
        have c12_1 := kV12_3 1 _ rfl
        have c12_2 := kV12_3 2 _ rfl
        have c12_3 := kV12_3 3 _ rfl
        clear kV12_3 hV12_3
        clear r12
        try simp only [Wops_nil, updO_some, updO_none]
        refine hK _ _ ?_
        clear hK K' gd
        refine Wp.keep [2, 3, 4, 5, 6, 11, 12] fun r9 hkeep => ?_
        obtain ⟨e2_9, e3_9, e4_9, e5_9, e6_9, e11_9, e12_9, -⟩ := hkeep
        simp [go_sem, e2_8, e3_8, e4_8, e5_8, e6_8, e11_8, e45_8] at e2_9 e3_9 e4_9 e5_9 e6_9 e11_9 e12_9
        clear e2_8 e3_8 e4_8 e5_8 e6_8 e11_8 e45_8
        refine Wp.seqRegion (.inl rfl) (by kernel_rfl) fun K' gd hK hg => ?_
        clear hg
        refine Wops.cut 7 fun K1 hK1 => ?_
        simp only [List.take_succ_cons, List.take_zero]
        go_simp
        refine hK1 _ _ ?_
        clear hK1 K1
        simp only [List.drop_succ_cons, List.drop_zero]
        refine Wops.absS (b := n12) (i := 1) [_] (somes [cellVal c12_1] (by simp) (by intro j v hj; match j, hj with | 0, hj => (simp at hj; subst hj; exact c12_1))) fun P4 hP4 => ?_
        have zP4 := hP4.same
        replace f5 := Put.frz hP4 f5
        replace f6 := Put.frz hP4 f6
        replace f12 := Put.frz hP4 f12
        replace xw := Put.to xw hP4 (by omega)
        replace c5_0 := Put.cell hP4 c5_0 (by omega)
        replace c5_1 := Put.cell hP4 c5_1 (by omega)
        replace c6_0 := Put.cell hP4 c6_0 (by omega)
        replace c6_1 := Put.cell hP4 c6_1 (by omega)
        replace c6_2 := Put.cell hP4 c6_2 (by omega)
        replace c6_3 := Put.cell hP4 c6_3 (by omega)
        replace c12_0 := Put.cellOff hP4 c12_0 (by simp)
        clear c12_1
        replace c12_2 := Put.cellOff hP4 c12_2 (by simp)
        replace c12_3 := Put.cellOff hP4 c12_3 (by simp)
        have c12_1 := hP4.new 0 _ rfl
        try simp only [Nat.reduceAdd, Nat.zero_add, Nat.add_zero] at c12_1
        clear hP4
        try simp only [Wops_nil, updO_some, updO_none]
        refine hK _ _ ?_
        clear hK K' gd
        refine Wp.keep [3, 4, 5, 6, 11, 12] fun r10 hkeep => ?_
        obtain ⟨e3_10, e4_10, e5_10, e6_10, e11_10, e12_10, -⟩ := hkeep
        simp [go_sem, e2_9, e3_9, e4_9, e5_9, e6_9, e11_9, e12_9] at e3_10 e4_10 e5_10 e6_10 e11_10 e12_10
        clear e2_9 e3_9 e4_9 e5_9 e6_9 e11_9 e12_9
        refine Wp.seqRegion (.inl rfl) (by kernel_rfl) fun K' gd hK hg => ?_
        clear hg
        refine Wops.cut 7 fun K1 hK1 => ?_
        simp only [List.take_succ_cons, List.take_zero]
        go_simp
        refine hK1 _ _ ?_
        clear hK1 K1
        simp only [List.drop_succ_cons, List.drop_zero]
        refine Wops.absS (b := n12) (i := 2) [_] (somes [cellVal c12_2] (by simp) (by intro j v hj; match j, hj with | 0, hj => (simp at hj; subst hj; exact c12_2))) fun P5 hP5 => ?_
        have zP5 := hP5.same
        replace f5 := Put.frz hP5 f5
        replace f6 := Put.frz hP5 f6
        replace f12 := Put.frz hP5 f12
        replace xw := Put.to xw hP5 (by omega)
        replace c5_0 := Put.cell hP5 c5_0 (by omega)
        replace c5_1 := Put.cell hP5 c5_1 (by omega)
        replace c6_0 := Put.cell hP5 c6_0 (by omega)
        replace c6_1 := Put.cell hP5 c6_1 (by omega)
        replace c6_2 := Put.cell hP5 c6_2 (by omega)
        replace c6_3 := Put.cell hP5 c6_3 (by omega)
        replace c12_0 := Put.cellOff hP5 c12_0 (by simp)
        clear c12_2
        replace c12_3 := Put.cellOff hP5 c12_3 (by simp)
        replace c12_1 := Put.cellOff hP5 c12_1 (by simp)
        have c12_2 := hP5.new 0 _ rfl
        try simp only [Nat.reduceAdd, Nat.zero_add, Nat.add_zero] at c12_2
        clear hP5
        try simp only [Wops_nil, updO_some, updO_none]
        refine hK _ _ ?_
        clear hK K' gd
        refine Wp.keep [4, 5, 6, 11, 12] fun r11 hkeep => ?_
        obtain ⟨e4_11, e5_11, e6_11, e11_11, e12_11, -⟩ := hkeep
        simp [go_sem, e3_10, e4_10, e5_10, e6_10, e11_10, e12_10] at e4_11 e5_11 e6_11 e11_11 e12_11
        clear e3_10 e4_10 e5_10 e6_10 e11_10 e12_10
        refine Wp.seqRegion (.inl rfl) (by kernel_rfl) fun K' gd hK hg => ?_
        clear hg
        refine Wops.cut 8 fun K1 hK1 => ?_
        simp only [List.take_succ_cons, List.take_zero]
        go_simp
        refine hK1 _ _ ?_
        clear hK1 K1
        simp only [List.drop_succ_cons, List.drop_zero]
        refine Wops.absS (b := n12) (i := 3) [_] (somes [cellVal c12_3] (by simp) (by intro j v hj; match j, hj with | 0, hj => (simp at hj; subst hj; exact c12_3))) fun P6 hP6 => ?_
        have zP6 := hP6.same
        replace f5 := Put.frz hP6 f5
        replace f6 := Put.frz hP6 f6
        replace f12 := Put.frz hP6 f12
        replace xw := Put.to xw hP6 (by omega)
        replace c5_0 := Put.cell hP6 c5_0 (by omega)
        replace c5_1 := Put.cell hP6 c5_1 (by omega)
        replace c6_0 := Put.cell hP6 c6_0 (by omega)
        replace c6_1 := Put.cell hP6 c6_1 (by omega)
        replace c6_2 := Put.cell hP6 c6_2 (by omega)
        replace c6_3 := Put.cell hP6 c6_3 (by omega)
        replace c12_0 := Put.cellOff hP6 c12_0 (by simp)
        clear c12_3
        replace c12_1 := Put.cellOff hP6 c12_1 (by simp)
        replace c12_2 := Put.cellOff hP6 c12_2 (by simp)
        have c12_3 := hP6.new 0 _ rfl
        try simp only [Nat.reduceAdd, Nat.zero_add, Nat.add_zero] at c12_3
        clear hP6
        try simp only [Wops_nil, updO_some, updO_none]
        refine hK _ _ ?_
        clear hK K' gd
        refine Wp.keep [5, 6, 11, 12] fun r12 hkeep => ?_
        obtain ⟨e5_12, e6_12, e11_12, e12_12, -⟩ := hkeep
        simp [go_sem, e4_11, e5_11, e6_11, e11_11, e12_11] at e5_12 e6_12 e11_12 e12_12
        clear e4_11 e5_11 e6_11 e11_11 e12_11
        refine Wp.seqRegion (.inl rfl) (by kernel_rfl) fun K' gd hK hg => ?_
        clear hg
        refine Wops.cut 3 fun K1 hK1 => ?_
        simp only [List.take_succ_cons, List.take_zero]
        go_simp
        refine Wcall (.inl rfl) (First_c _ _ s nC _ (hV.ext xw) (hUn _ xw) hf hgn) ?_
        rintro v w6 ⟨t13, hv6, hIa, hE⟩
        subst hv6
        have xa := Ext.refl w6
        obtain ⟨Aa, na, ca, rfl⟩ : ∃ A n c, t13 = .slice A n c := by obtain ⟨A, c, e⟩ := hIa.slice; exact ⟨A, _, c, e⟩
        go_simp
        refine hK1 _ _ ?_
        clear hK1 K1
        simp only [List.drop_succ_cons, List.drop_zero]
        have z13 := Below.size hE
        replace f5 := Ext.fz hE c5_0 f5
        replace f6 := Ext.fz hE c6_0 f6
        replace f12 := Ext.fz hE c12_0 f12
        replace xw := Ext.trans xw hE
        replace c5_0 := Ext.cell hE c5_0
        replace c5_1 := Ext.cell hE c5_1
        replace c6_0 := Ext.cell hE c6_0
        replace c6_1 := Ext.cell hE c6_1
        replace c6_2 := Ext.cell hE c6_2
        replace c6_3 := Ext.cell hE c6_3
        replace c12_0 := Ext.cell hE c12_0
        replace c12_1 := Ext.cell hE c12_1
        replace c12_2 := Ext.cell hE c12_2
        replace c12_3 := Ext.cell hE c12_3
        clear hE
        go_simp
        refine hK _ _ ?_
        clear hK K' gd
        refine Wp.keep [5, 6, 11, 12, 13, 14] fun r14 hkeep => ?_
        obtain ⟨e5_14, e6_14, e11_14, e12_14, e13_14, e14_14, -⟩ := hkeep
        simp [go_sem, e5_12, e6_12, e11_12, e12_12] at e5_14 e6_14 e11_14 e12_14 e13_14 e14_14
        clear e5_12 e6_12 e11_12 e12_12
        refine Wp.seqRegion (.inl rfl) (by kernel_rfl) fun K' gd hK hg => ?_
        clear hg
        refine Wops.cut 3 fun K1 hK1 => ?_
        simp only [List.take_succ_cons, List.take_zero]
        go_simp
        refine Wcall (.inl rfl) (Last_c _ _ s nC _ (hV.ext xw) (hUn _ xw) hf hgn) ?_
        rintro v w7 ⟨t15, hv7, hIb, hE⟩
        subst hv7
        have xb2 := Ext.refl w7
        obtain ⟨Ab, nb, cb, rfl⟩ : ∃ A n c, t15 = .slice A n c := by obtain ⟨A, c, e⟩ := hIb.slice; exact ⟨A, _, c, e⟩
        go_simp
        refine hK1 _ _ ?_
        clear hK1 K1
        simp only [List.drop_succ_cons, List.drop_zero]
        have z15 := Below.size hE
        replace f5 := Ext.fz hE c5_0 f5
        replace f6 := Ext.fz hE c6_0 f6
        replace f12 := Ext.fz hE c12_0 f12
        replace xw := Ext.trans xw hE
        replace xa := Ext.trans xa hE
        replace c5_0 := Ext.cell hE c5_0
        replace c5_1 := Ext.cell hE c5_1
        replace c6_0 := Ext.cell hE c6_0
        replace c6_1 := Ext.cell hE c6_1
        replace c6_2 := Ext.cell hE c6_2
        replace c6_3 := Ext.cell hE c6_3
        replace c12_0 := Ext.cell hE c12_0
        replace c12_1 := Ext.cell hE c12_1
        replace c12_2 := Ext.cell hE c12_2
        replace c12_3 := Ext.cell hE c12_3
        clear hE
        go_simp
        refine hK _ _ ?_
        clear hK K' gd
        refine Wp.keep [5, 6, 11, 12, 13, 14, 15, 16] fun r16 hkeep => ?_
        obtain ⟨e5_16, e6_16, e11_16, e12_16, e13_16, e14_16, e15_16, e16_16, -⟩ := hkeep
        simp [go_sem, e5_14, e6_14, e11_14, e12_14, e13_14, e14_14] at e5_16 e6_16 e11_16 e12_16 e13_16 e14_16 e15_16 e16_16
        clear e5_14 e6_14 e11_14 e12_14 e13_14 e14_14
        by_cases h1 : begE s nC = 0
        · skip
          rw [if_pos h1] at hIa hIb
          obtain ⟨h1c, h1k⟩ := begE_zero.1 h1
          have hmn := hgd.mdOk (copyS_zero.1 h1c).2
          obtain ⟨a1, -, a2, a3⟩ := hmn.of_ok h1k
          obtain ⟨l1, l2, l3⟩ := hmn.last_fit h1k
          have hok := hmk.ok_of (hnar.fit a2)
          have hb0 : begE s c = 0 := begE_zero.2 ⟨h0, hok⟩
          obtain ⟨A1, -, A2', A3⟩ := hmk.of_ok hok
          obtain ⟨L1, L2, L3⟩ := hmk.last_fit hok
          have hlong := hnar.long hmk hmn h1k
          have hnn := hnar.n
          have hsn : (s.md c).n = s.n := hv0.1
          have fa := hnar.fit a2
          have fb := hnar.fit l2
          have le1 : ∀ i, i < (s.md nC).first.length → gI (s.md c).first i ≤ gI (s.md nC).first i := fun i hi => A3 _ fa i (by omega)
          have le2 : ∀ i, i < (s.md nC).last.length → gI (s.md nC).last i ≤ gI (s.md c).last i := fun i hi => L3 _ fb i (by omega)
          have hn40 := hmk.n2
          have hla : ∃ _u : Unit, (s.md nC).first.length = s.n ∧ (s.md nC).last.length = s.n ∧ (s.md c).first.length = s.n ∧ (s.md c).last.length = s.n ∧ s.n ≤ 40 := ⟨(), by omega, by omega, by omega, by omega, by omega⟩
          clear a1 a2 a3 l1 l2 l3 A1 A2' A3 L1 L2 L3 hnn hsn
          refine Wp.seq ?_
          refine Wp.seqRegion (.inl rfl) (by kernel_rfl) fun K' gd hK hg => ?_
          have g2 : gd 2 = some 81 := hg 2
          clear hg
          go_simp
          refine hK _ _ ?_
          clear hK K' gd g2
          refine Wp.keep [5, 6, 11, 12, 13, 14, 15, 16, 84] fun r17 hkeep => ?_
          obtain ⟨e5_17, e6_17, e11_17, e12_17, e13_17, e14_17, e15_17, e16_17, e84_17, -⟩ := hkeep
          simp [go_sem, e5_16, e6_16, e11_16, e12_16, e13_16, e14_16, e15_16, e16_16] at e5_17 e6_17 e11_17 e12_17 e13_17 e14_17 e15_17 e16_17 e84_17
          clear e5_16 e6_16 e11_16 e12_16 e13_16 e14_16 e15_16 e16_16
          refine Wp.condF (by go_simp) ?_
          refine Wp.skip ?_
          refine thenK_normal ?_
          refine Wp.seqRegion (.inl rfl) (by kernel_rfl) fun K' gd hK hg => ?_
          clear hg
          refine Wops.cut 3 fun K1 hK1 => ?_
          simp only [List.take_succ_cons, List.take_zero]
          go_simp
          refine Wcall (.inl rfl) (First_c _ _ s c _ (hV.ext xw) (hU.ext xw) hf hg) ?_
          rintro v w8 ⟨t17, hv8, hIx, hE⟩
          rw [hb0] at hv8
          subst hv8
          rw [if_pos hb0] at hIx
          have xx := Ext.refl w8
          obtain ⟨Ax, cx, rfl⟩ := hIx.slice
          go_simp
          refine hK1 _ _ ?_
          clear hK1 K1
          simp only [List.drop_succ_cons, List.drop_zero]
          have z18 := Below.size hE
          replace f5 := Ext.fz hE c5_0 f5
          replace f6 := Ext.fz hE c6_0 f6
          replace f12 := Ext.fz hE c12_0 f12
          replace xw := Ext.trans xw hE
          replace xa := Ext.trans xa hE
          replace xb2 := Ext.trans xb2 hE
          replace c5_0 := Ext.cell hE c5_0
          replace c5_1 := Ext.cell hE c5_1
          replace c6_0 := Ext.cell hE c6_0
          replace c6_1 := Ext.cell hE c6_1
          replace c6_2 := Ext.cell hE c6_2
          replace c6_3 := Ext.cell hE c6_3
          replace c12_0 := Ext.cell hE c12_0
          replace c12_1 := Ext.cell hE c12_1
          replace c12_2 := Ext.cell hE c12_2
          replace c12_3 := Ext.cell hE c12_3
          clear hE
          go_simp
          refine hK _ _ ?_
          clear hK K' gd
          refine Wp.keep [5, 6, 11, 12, 13, 15, 17, 18] fun r19 hkeep => ?_
          obtain ⟨e5_19, e6_19, e11_19, e12_19, e13_19, e15_19, e17_19, e18_19, -⟩ := hkeep
          simp [go_sem, e5_17, e6_17, e11_17, e12_17, e13_17, e14_17, e15_17, e16_17, e84_17] at e5_19 e6_19 e11_19 e12_19 e13_19 e15_19 e17_19 e18_19
          clear e5_17 e6_17 e11_17 e12_17 e13_17 e14_17 e15_17 e16_17 e84_17
          refine Wp.seqRegion (.inl rfl) (by kernel_rfl) fun K' gd hK hg => ?_
          clear hg
          refine Wops.cut 3 fun K1 hK1 => ?_
          simp only [List.take_succ_cons, List.take_zero]
          go_simp
          refine Wcall (.inl rfl) (Last_c _ _ s c _ (hV.ext xw) (hU.ext xw) hf hg) ?_
          rintro v w9 ⟨t19, hv9, hIy, hE⟩
          rw [hb0] at hv9
          subst hv9
          rw [if_pos hb0] at hIy
          have xy := Ext.refl w9
          obtain ⟨Ay, cy, rfl⟩ := hIy.slice
          go_simp
          refine hK1 _ _ ?_
          clear hK1 K1
          simp only [List.drop_succ_cons, List.drop_zero]
          have z20 := Below.size hE
          replace f5 := Ext.fz hE c5_0 f5
          replace f6 := Ext.fz hE c6_0 f6
          replace f12 := Ext.fz hE c12_0 f12
          replace xw := Ext.trans xw hE
          replace xa := Ext.trans xa hE
          replace xb2 := Ext.trans xb2 hE
          replace xx := Ext.trans xx hE
          replace c5_0 := Ext.cell hE c5_0
          replace c5_1 := Ext.cell hE c5_1
          replace c6_0 := Ext.cell hE c6_0
          replace c6_1 := Ext.cell hE c6_1
          replace c6_2 := Ext.cell hE c6_2
          replace c6_3 := Ext.cell hE c6_3
          replace c12_0 := Ext.cell hE c12_0
          replace c12_1 := Ext.cell hE c12_1
          replace c12_2 := Ext.cell hE c12_2
          replace c12_3 := Ext.cell hE c12_3
          clear hE
          go_simp
          refine hK _ _ ?_
          clear hK K' gd
          refine Wp.keep [5, 6, 11, 12, 13, 15, 17, 18, 19, 20] fun r21 hkeep => ?_
          obtain ⟨e5_21, e6_21, e11_21, e12_21, e13_21, e15_21, e17_21, e18_21, e19_21, e20_21, -⟩ := hkeep
          simp [go_sem, e5_19, e6_19, e11_19, e12_19, e13_19, e15_19, e17_19, e18_19] at e5_21 e6_21 e11_21 e12_21 e13_21 e15_21 e17_21 e18_21 e19_21 e20_21
          clear e5_19 e6_19 e11_19 e12_19 e13_19 e15_19 e17_19 e18_19
          refine Wp.seqRegion (.inl rfl) (by kernel_rfl) fun K' gd hK hg => ?_
          clear hg
          refine Wops.cut 4 fun K1 hK1 => ?_
          simp only [List.take_succ_cons, List.take_zero]
          go_simp
          refine Wcall (.inl rfl) (fits_T h0 hla.choose_spec.1 fa _ (hV.ext xw) (hU.ext xw) (hIa.ext xa).ints hf hg) ?_
          rintro v w10 ⟨rfl, hE⟩
          go_simp
          refine hK1 _ _ ?_
          clear hK1 K1
          simp only [List.drop_succ_cons, List.drop_zero]
          have z22 := Below.size hE
          replace f5 := Ext.fz hE c5_0 f5
          replace f6 := Ext.fz hE c6_0 f6
          replace f12 := Ext.fz hE c12_0 f12
          replace xw := Ext.trans xw hE
          replace xa := Ext.trans xa hE
          replace xb2 := Ext.trans xb2 hE
          replace xx := Ext.trans xx hE
          replace xy := Ext.trans xy hE
          replace c5_0 := Ext.cell hE c5_0
          replace c5_1 := Ext.cell hE c5_1
          replace c6_0 := Ext.cell hE c6_0
          replace c6_1 := Ext.cell hE c6_1
          replace c6_2 := Ext.cell hE c6_2
          replace c6_3 := Ext.cell hE c6_3
          replace c12_0 := Ext.cell hE c12_0
          replace c12_1 := Ext.cell hE c12_1
          replace c12_2 := Ext.cell hE c12_2
          replace c12_3 := Ext.cell hE c12_3
          clear hE
          go_simp
          refine hK _ _ ?_
          clear hK K' gd
          refine Wp.keep [5, 6, 11, 12, 13, 15, 17, 18, 19, 20, 22, 23] fun r23 hkeep => ?_
          obtain ⟨e5_23, e6_23, e11_23, e12_23, e13_23, e15_23, e17_23, e18_23, e19_23, e20_23, e22_23, e23_23, -⟩ := hkeep
          simp [go_sem, e5_21, e6_21, e11_21, e12_21, e13_21, e15_21, e17_21, e18_21, e19_21, e20_21] at e5_23 e6_23 e11_23 e12_23 e13_23 e15_23 e17_23 e18_23 e19_23 e20_23 e22_23 e23_23
          clear e5_21 e6_21 e11_21 e12_21 e13_21 e15_21 e17_21 e18_21 e19_21 e20_21
          refine Wp.seqRegion (.inl rfl) (by kernel_rfl) fun K' gd hK hg => ?_
          clear hg
          refine Wops.cut 4 fun K1 hK1 => ?_
          simp only [List.take_succ_cons, List.take_zero]
          go_simp
          refine Wcall (.inl rfl) (fits_T h0 hla.choose_spec.2.1 fb _ (hV.ext xw) (hU.ext xw) (hIb.ext xb2).ints hf hg) ?_
          rintro v w11 ⟨rfl, hE⟩
          go_simp
          refine hK1 _ _ ?_
          clear hK1 K1
          simp only [List.drop_succ_cons, List.drop_zero]
          have z24 := Below.size hE
          replace f5 := Ext.fz hE c5_0 f5
          replace f6 := Ext.fz hE c6_0 f6
          replace f12 := Ext.fz hE c12_0 f12
          replace xw := Ext.trans xw hE
          replace xa := Ext.trans xa hE
          replace xb2 := Ext.trans xb2 hE
          replace xx := Ext.trans xx hE
          replace xy := Ext.trans xy hE
          replace c5_0 := Ext.cell hE c5_0
          replace c5_1 := Ext.cell hE c5_1
          replace c6_0 := Ext.cell hE c6_0
          replace c6_1 := Ext.cell hE c6_1
          replace c6_2 := Ext.cell hE c6_2
          replace c6_3 := Ext.cell hE c6_3
          replace c12_0 := Ext.cell hE c12_0
          replace c12_1 := Ext.cell hE c12_1
          replace c12_2 := Ext.cell hE c12_2
          replace c12_3 := Ext.cell hE c12_3
          clear hE
          go_simp
          refine hK _ _ ?_
          clear hK K' gd
          refine Wp.keep [5, 6, 11, 12, 13, 15, 17, 18, 19, 20, 22, 23, 25, 26] fun r25 hkeep => ?_
          obtain ⟨e5_25, e6_25, e11_25, e12_25, e13_25, e15_25, e17_25, e18_25, e19_25, e20_25, e22_25, e23_25, e25_25, e26_25, -⟩ := hkeep
          simp [go_sem, e5_23, e6_23, e11_23, e12_23, e13_23, e15_23, e17_23, e18_23, e19_23, e20_23, e22_23, e23_23] at e5_25 e6_25 e11_25 e12_25 e13_25 e15_25 e17_25 e18_25 e19_25 e20_25 e22_25 e23_25 e25_25 e26_25
          clear e5_23 e6_23 e11_23 e12_23 e13_23 e15_23 e17_23 e18_23 e19_23 e20_23 e22_23 e23_23
          refine Wp.seqRegion (.inl rfl) (by kernel_rfl) fun K' gd hK hg => ?_
          clear hg
          refine Wops.cut 3 fun K1 hK1 => ?_
          simp only [List.take_succ_cons, List.take_zero]
          go_simp
          refine Wcall (.inl rfl) (Long_c _ _ s c _ (hV.ext xw) (hU.ext xw) hf hg) ?_
          rintro v w12 ⟨hv12, hE⟩
          rw [hb0, if_pos rfl] at hv12
          subst hv12
          go_simp
          refine hK1 _ _ ?_
          clear hK1 K1
          simp only [List.drop_succ_cons, List.drop_zero]
          have z26 := Below.size hE
          replace f5 := Ext.fz hE c5_0 f5
          replace f6 := Ext.fz hE c6_0 f6
          replace f12 := Ext.fz hE c12_0 f12
          replace xw := Ext.trans xw hE
          replace xa := Ext.trans xa hE
          replace xb2 := Ext.trans xb2 hE
          replace xx := Ext.trans xx hE
          replace xy := Ext.trans xy hE
          replace c5_0 := Ext.cell hE c5_0
          replace c5_1 := Ext.cell hE c5_1
          replace c6_0 := Ext.cell hE c6_0
          replace c6_1 := Ext.cell hE c6_1
          replace c6_2 := Ext.cell hE c6_2
          replace c6_3 := Ext.cell hE c6_3
          replace c12_0 := Ext.cell hE c12_0
          replace c12_1 := Ext.cell hE c12_1
          replace c12_2 := Ext.cell hE c12_2
          replace c12_3 := Ext.cell hE c12_3
          clear hE
          refine Wops.cut 5 fun K1 hK1 => ?_
          simp only [List.take_succ_cons, List.take_zero]
          go_simp
          refine hK1 _ _ ?_
          clear hK1 K1
          simp only [List.drop_succ_cons, List.drop_zero]
          refine Wops.absA fun V27_11 n27 hV27_11 => ?_
          obtain ⟨q27, hV27_11, s27, kV27_11, f27, r27⟩ := hV27_11
          try simp only [q27] at kV27_11 f27 r27 ⊢
          replace f5 := Ext.fz hV27_11 c5_0 f5
          replace f6 := Ext.fz hV27_11 c6_0 f6
          replace f12 := Ext.fz hV27_11 c12_0 f12
          replace xw := Ext.trans xw hV27_11
          replace xa := Ext.trans xa hV27_11
          replace xb2 := Ext.trans xb2 hV27_11
          replace xx := Ext.trans xx hV27_11
          replace xy := Ext.trans xy hV27_11
          replace c5_0 := Ext.cell hV27_11 c5_0
          replace c5_1 := Ext.cell hV27_11 c5_1
          replace c6_0 := Ext.cell hV27_11 c6_0
          replace c6_1 := Ext.cell hV27_11 c6_1
          replace c6_2 := Ext.cell hV27_11 c6_2
          replace c6_3 := Ext.cell hV27_11 c6_3
          replace c12_0 := Ext.cell hV27_11 c12_0
          replace c12_1 := Ext.cell hV27_11 c12_1
          replace c12_2 := Ext.cell hV27_11 c12_2
          replace c12_3 := Ext.cell hV27_11 c12_3
          have c27_0 := kV27_11 0 _ rfl
          have c27_1 := kV27_11 1 _ rfl
          clear kV27_11 hV27_11
          clear r27
          go_simp
          refine hK _ _ ?_
          clear hK K' gd
          refine Wp.keep [5, 11, 12, 13, 15, 17, 18, 19, 20, 22, 23, 25, 26, 27, 28] fun r27 hkeep => ?_
          obtain ⟨e5_27, e11_27, e12_27, e13_27, e15_27, e17_27, e18_27, e19_27, e20_27, e22_27, e23_27, e25_27, e26_27, e27_27, e28_27, -⟩ := hkeep
          simp [go_sem, e5_25, e6_25, e11_25, e12_25, e13_25, e15_25, e17_25, e18_25, e19_25, e20_25, e22_25, e23_25, e25_25, e26_25] at e5_27 e11_27 e12_27 e13_27 e15_27 e17_27 e18_27 e19_27 e20_27 e22_27 e23_27 e25_27 e26_27 e27_27 e28_27
          clear e5_25 e6_25 e11_25 e12_25 e13_25 e15_25 e17_25 e18_25 e19_25 e20_25 e22_25 e23_25 e25_25 e26_25
          refine Wp.seqRegion (.inl rfl) (by kernel_rfl) fun K' gd hK hg => ?_
          clear hg
          refine Wops.cut 3 fun K1 hK1 => ?_
          simp only [List.take_succ_cons, List.take_zero]
          go_simp
          refine Wcall (.inl rfl) (Long_c _ _ s nC _ (hV.ext xw) (hUn _ xw) hf hgn) ?_
          rintro v w13 ⟨hv13, hE⟩
          rw [h1, if_pos rfl] at hv13
          subst hv13
          go_simp
          refine hK1 _ _ ?_
          clear hK1 K1
          simp only [List.drop_succ_cons, List.drop_zero]
          have z28 := Below.size hE
          replace f5 := Ext.fz hE c5_0 f5
          replace f6 := Ext.fz hE c6_0 f6
          replace f12 := Ext.fz hE c12_0 f12
          replace f27 := Ext.fz hE c27_0 f27
          replace xw := Ext.trans xw hE
          replace xa := Ext.trans xa hE
          replace xb2 := Ext.trans xb2 hE
          replace xx := Ext.trans xx hE
          replace xy := Ext.trans xy hE
          replace c5_0 := Ext.cell hE c5_0
          replace c5_1 := Ext.cell hE c5_1
          replace c6_0 := Ext.cell hE c6_0
          replace c6_1 := Ext.cell hE c6_1
          replace c6_2 := Ext.cell hE c6_2
          replace c6_3 := Ext.cell hE c6_3
          replace c12_0 := Ext.cell hE c12_0
          replace c12_1 := Ext.cell hE c12_1
          replace c12_2 := Ext.cell hE c12_2
          replace c12_3 := Ext.cell hE c12_3
          replace c27_0 := Ext.cell hE c27_0
          replace c27_1 := Ext.cell hE c27_1
          clear hE
          refine Wops.cut 5 fun K1 hK1 => ?_
          simp only [List.take_succ_cons, List.take_zero]
          go_simp
          refine hK1 _ _ ?_
          clear hK1 K1
          simp only [List.drop_succ_cons, List.drop_zero]
          refine Wops.absA fun V29_12 n29 hV29_12 => ?_
          obtain ⟨q29, hV29_12, s29, kV29_12, f29, r29⟩ := hV29_12
          try simp only [q29] at kV29_12 f29 r29 ⊢
          replace f5 := Ext.fz hV29_12 c5_0 f5
          replace f6 := Ext.fz hV29_12 c6_0 f6
          replace f12 := Ext.fz hV29_12 c12_0 f12
          replace f27 := Ext.fz hV29_12 c27_0 f27
          replace xw := Ext.trans xw hV29_12
          replace xa := Ext.trans xa hV29_12
          replace xb2 := Ext.trans xb2 hV29_12
          replace xx := Ext.trans xx hV29_12
          replace xy := Ext.trans xy hV29_12
          replace c5_0 := Ext.cell hV29_12 c5_0
          replace c5_1 := Ext.cell hV29_12 c5_1
          replace c6_0 := Ext.cell hV29_12 c6_0
          replace c6_1 := Ext.cell hV29_12 c6_1
          replace c6_2 := Ext.cell hV29_12 c6_2
          replace c6_3 := Ext.cell hV29_12 c6_3
          replace c12_0 := Ext.cell hV29_12 c12_0
          replace c12_1 := Ext.cell hV29_12 c12_1
          replace c12_2 := Ext.cell hV29_12 c12_2
          replace c12_3 := Ext.cell hV29_12 c12_3
          replace c27_0 := Ext.cell hV29_12 c27_0
          replace c27_1 := Ext.cell hV29_12 c27_1
          have c29_0 := kV29_12 0 _ rfl
          have c29_1 := kV29_12 1 _ rfl
          clear kV29_12 hV29_12
          clear r29
          go_simp
          refine hK _ _ ?_
          clear hK K' gd
          refine Wp.keep [11, 13, 15, 17, 18, 19, 20, 22, 23, 25, 26, 27, 28, 29, 30] fun r29 hkeep => ?_
          obtain ⟨e11_29, e13_29, e15_29, e17_29, e18_29, e19_29, e20_29, e22_29, e23_29, e25_29, e26_29, e27_29, e28_29, e29_29, e30_29, -⟩ := hkeep
          simp [go_sem, e5_27, e11_27, e12_27, e13_27, e15_27, e17_27, e18_27, e19_27, e20_27, e22_27, e23_27, e25_27, e26_27, e27_27, e28_27] at e11_29 e13_29 e15_29 e17_29 e18_29 e19_29 e20_29 e22_29 e23_29 e25_29 e26_29 e27_29 e28_29 e29_29 e30_29
          clear e5_27 e11_27 e12_27 e13_27 e15_27 e17_27 e18_27 e19_27 e20_27 e22_27 e23_27 e25_27 e26_27 e27_27 e28_27
          obtain ⟨q, hq1, hq2, hq3, hq4, hq40⟩ : ∃ q, (s.md nC).first.length = q ∧ (s.md nC).last.length = q ∧ (s.md c).first.length = q ∧ (s.md c).last.length = q ∧ q ≤ 40 := ⟨s.n, hla.choose_spec⟩
          have ena : na = q := by obtain ⟨_, _, e⟩ := hIa.slice; injection e with _ e; omega
          have enb : nb = q := by obtain ⟨_, _, e⟩ := hIb.slice; injection e with _ e; omega
          subst ena
          subst enb
          rw [hq3] at hIx
          rw [hq4] at hIy
          rw [hq1] at le1
          rw [hq2] at le2
          obtain ⟨p1, p2⟩ := hlong
          refine Wp.seq ?_
          refine Wp.seqRegion (.inl rfl) (by kernel_rfl) fun K' gd hK hg => ?_
          have g2 : gd 2 = some 133 := hg 2
          have g6 : gd 6 = some 137 := hg 6
          have g10 : gd 10 = some 141 := hg 10
          have g14 : gd 14 = some 145 := hg 14
          have g18 : gd 18 = some 149 := hg 18
          have g22 : gd 22 = some 153 := hg 22
          have g26 : gd 26 = some 157 := hg 26
          clear hg
          go_simp
          refine hK _ _ ?_
          clear hK K' gd g2 g6 g10 g14 g18 g22 g26
          refine Wp.keep [11, 13, 15, 17, 19, 27, 29, 160] fun r30 hkeep => ?_
          obtain ⟨e11_30, e13_30, e15_30, e17_30, e19_30, e27_30, e29_30, e160_30, -⟩ := hkeep
          simp [go_sem, e11_29, e13_29, e15_29, e17_29, e18_29, e19_29, e20_29, e22_29, e23_29, e25_29, e26_29, e27_29, e28_29, e29_29, e30_29] at e11_30 e13_30 e15_30 e17_30 e19_30 e27_30 e29_30 e160_30
          clear e11_29 e13_29 e15_29 e17_29 e18_29 e19_29 e20_29 e22_29 e23_29 e25_29 e26_29 e27_29 e28_29 e29_29 e30_29
          refine Wp.condF (by go_simp) ?_
          refine Wp.skip ?_
          refine thenK_normal ?_
          refine Wp.seqRegion (.inl rfl) (by kernel_rfl) fun K' gd hK hg => ?_
          have g1 : gd 1 = some 162 := hg 1
          have g8 : gd 8 = some 169 := hg 8
          have g15 : gd 15 = some 176 := hg 15
          have g22 : gd 22 = some 183 := hg 22
          have g29 : gd 29 = some 190 := hg 29
          have g36 : gd 36 = some 197 := hg 36
          clear hg
          refine Wops.cut 21 fun K1 hK1 => ?_
          simp only [List.take_succ_cons, List.take_zero]
          go_simp
          refine Wcall (.inl rfl) (below_T (by omega) (by omega) le1 (by omega) _ (hIx.ext xx).ints (hIa.ext xa).ints) ?_
          rintro v w14 ⟨rfl, hE⟩
          go_simp
          refine hK1 _ _ ?_
          clear hK1 K1
          simp only [List.drop_succ_cons, List.drop_zero]
          have z31 := Below.size hE
          replace f5 := Ext.fz hE c5_0 f5
          replace f6 := Ext.fz hE c6_0 f6
          replace f12 := Ext.fz hE c12_0 f12
          replace f27 := Ext.fz hE c27_0 f27
          replace f29 := Ext.fz hE c29_0 f29
          replace xw := Ext.trans xw hE
          replace xa := Ext.trans xa hE
          replace xb2 := Ext.trans xb2 hE
          replace xx := Ext.trans xx hE
          replace xy := Ext.trans xy hE
          replace c5_0 := Ext.cell hE c5_0
          replace c5_1 := Ext.cell hE c5_1
          replace c6_0 := Ext.cell hE c6_0
          replace c6_1 := Ext.cell hE c6_1
          replace c6_2 := Ext.cell hE c6_2
          replace c6_3 := Ext.cell hE c6_3
          replace c12_0 := Ext.cell hE c12_0
          replace c12_1 := Ext.cell hE c12_1
          replace c12_2 := Ext.cell hE c12_2
          replace c12_3 := Ext.cell hE c12_3
          replace c27_0 := Ext.cell hE c27_0
          replace c27_1 := Ext.cell hE c27_1
          replace c29_0 := Ext.cell hE c29_0
          replace c29_1 := Ext.cell hE c29_1
          clear hE
          refine Wops.cut 7 fun K1 hK1 => ?_
          simp only [List.take_succ_cons, List.take_zero]
          go_simp
          refine Wcall (.inl rfl) (below_T (by omega) (by omega) le2 (by omega) _ (hIb.ext xb2).ints (hIy.ext xy).ints) ?_
          rintro v w15 ⟨rfl, hE⟩
          go_simp
          refine hK1 _ _ ?_
          clear hK1 K1
          simp only [List.drop_succ_cons, List.drop_zero]
          have z32 := Below.size hE
          replace f5 := Ext.fz hE c5_0 f5
          replace f6 := Ext.fz hE c6_0 f6
          replace f12 := Ext.fz hE c12_0 f12
          replace f27 := Ext.fz hE c27_0 f27
          replace f29 := Ext.fz hE c29_0 f29
          replace xw := Ext.trans xw hE
          replace xa := Ext.trans xa hE
          replace xb2 := Ext.trans xb2 hE
          replace xx := Ext.trans xx hE
          replace xy := Ext.trans xy hE
          replace c5_0 := Ext.cell hE c5_0
          replace c5_1 := Ext.cell hE c5_1
          replace c6_0 := Ext.cell hE c6_0
          replace c6_1 := Ext.cell hE c6_1
          replace c6_2 := Ext.cell hE c6_2
          replace c6_3 := Ext.cell hE c6_3
          replace c12_0 := Ext.cell hE c12_0
          replace c12_1 := Ext.cell hE c12_1
          replace c12_2 := Ext.cell hE c12_2
          replace c12_3 := Ext.cell hE c12_3
          replace c27_0 := Ext.cell hE c27_0
          replace c27_1 := Ext.cell hE c27_1
          replace c29_0 := Ext.cell hE c29_0
          replace c29_1 := Ext.cell hE c29_1
          clear hE
          go_simp
          refine hK _ _ ?_
          clear hK K' gd g1 g8 g15 g22 g29 g36
          refine Wp.keep [10] fun r33 hkeep => ?_
          obtain ⟨e10_33, -⟩ := hkeep
          simp [go_sem, e11_30, e13_30, e15_30, e17_30, e19_30, e27_30, e29_30, e160_30] at e10_33
          clear e11_30 e13_30 e15_30 e17_30 e19_30 e27_30 e29_30 e160_30
          refine Wp.ret ?_
          refine endK_tmp Try.results8 (by decide) ?_
          rw [e10_33]
          exact ⟨by first | rfl | go_simp, xw⟩
        · skip
          refine Wp.seq ?_
          refine Wp.seqRegion (.inl rfl) (by kernel_rfl) fun K' gd hK hg => ?_
          have g2 : gd 2 = some 81 := hg 2
          clear hg
          go_simp
          refine hK _ _ ?_
          clear hK K' gd g2
          refine Wp.keep [5, 6, 11, 12, 13, 14, 15, 16, 84] fun r34 hkeep => ?_
          obtain ⟨e5_34, e6_34, e11_34, e12_34, e13_34, e14_34, e15_34, e16_34, e84_34, -⟩ := hkeep
          simp [go_sem, e5_16, e6_16, e11_16, e12_16, e13_16, e14_16, e15_16, e16_16] at e5_34 e6_34 e11_34 e12_34 e13_34 e14_34 e15_34 e16_34 e84_34
          clear e5_16 e6_16 e11_16 e12_16 e13_16 e14_16 e15_16 e16_16
          refine Wp.condT (by go_simp) ?_
          refine Wp.seqRegion (.inl rfl) (by kernel_rfl) fun K' gd hK hg => ?_
          have g1 : gd 1 = some 86 := hg 1
          clear hg
          go_simp
          refine hK _ _ ?_
          clear hK K' gd g1
          refine Wp.keep [10] fun r35 hkeep => ?_
          obtain ⟨e10_35, -⟩ := hkeep
          simp [go_sem, e5_34, e6_34, e11_34, e12_34, e13_34, e14_34, e15_34, e16_34, e84_34] at e10_35
          clear e5_34 e6_34 e11_34 e12_34 e13_34 e14_34 e15_34 e16_34 e84_34
          refine Wp.ret ?_
          refine thenK_ret ?_
          refine endK_tmp Try.results8 (by decide) ?_
          rw [e10_35]
          exact ⟨by first | rfl | go_simp, xw⟩
      · skip
        refine Wp.seq ?_
        refine Wp.seqRegion (.inl rfl) (by kernel_rfl) fun K' gd hK hg => ?_
        have g3 : gd 3 = some 35 := hg 3
        have g8 : gd 8 = some 40 := hg 8
        clear hg
        refine Wops.cut 2 fun K1 hK1 => ?_
        simp only [List.take_succ_cons, List.take_zero]
        go_simp
        refine Wcall (.inl rfl) (few_c _ s _ (hV.ext xw)) ?_
        rintro v w3 ⟨rfl, hE⟩
        go_simp
        refine hK1 _ _ ?_
        clear hK1 K1
        simp only [List.drop_succ_cons, List.drop_zero]
        have z36 := Below.size hE
        replace f5 := Ext.fz hE c5_0 f5
        replace f6 := Ext.fz hE c6_0 f6
        replace xw := Ext.trans xw hE
        replace c5_0 := Ext.cell hE c5_0
        replace c5_1 := Ext.cell hE c5_1
        replace c6_0 := Ext.cell hE c6_0
        replace c6_1 := Ext.cell hE c6_1
        replace c6_2 := Ext.cell hE c6_2
        replace c6_3 := Ext.cell hE c6_3
        clear hE
        refine Wops.cut 4 fun K1 hK1 => ?_
        simp only [List.take_succ_cons, List.take_zero]
        go_simp
        refine Wcall (.inl rfl) (brief_c _ c _ (hU.ext xw)) ?_
        rintro v w4 ⟨rfl, hE⟩
        go_simp
        refine hK1 _ _ ?_
        clear hK1 K1
        simp only [List.drop_succ_cons, List.drop_zero]
        have z37 := Below.size hE
        replace f5 := Ext.fz hE c5_0 f5
        replace f6 := Ext.fz hE c6_0 f6
        replace xw := Ext.trans xw hE
        replace c5_0 := Ext.cell hE c5_0
        replace c5_1 := Ext.cell hE c5_1
        replace c6_0 := Ext.cell hE c6_0
        replace c6_1 := Ext.cell hE c6_1
        replace c6_2 := Ext.cell hE c6_2
        replace c6_3 := Ext.cell hE c6_3
        clear hE
        refine Wops.cut 6 fun K1 hK1 => ?_
        simp only [List.take_succ_cons, List.take_zero]
        go_simp
        refine Wcall (.inl rfl) (copy_c _ _ s c _ (hV.ext xw) (hU.ext xw) hf hg) ?_
        rintro v w5 ⟨rfl, hE⟩
        go_simp
        refine hK1 _ _ ?_
        clear hK1 K1
        simp only [List.drop_succ_cons, List.drop_zero]
        have z38 := Below.size hE
        replace f5 := Ext.fz hE c5_0 f5
        replace f6 := Ext.fz hE c6_0 f6
        replace xw := Ext.trans xw hE
        replace c5_0 := Ext.cell hE c5_0
        replace c5_1 := Ext.cell hE c5_1
        replace c6_0 := Ext.cell hE c6_0
        replace c6_1 := Ext.cell hE c6_1
        replace c6_2 := Ext.cell hE c6_2
        replace c6_3 := Ext.cell hE c6_3
        clear hE
        go_simp
        refine hK _ _ ?_
        clear hK K' gd g3 g8
        refine Wp.keep [2, 3, 4, 5, 6, 11, 45] fun r39 hkeep => ?_
        obtain ⟨e2_39, e3_39, e4_39, e5_39, e6_39, e11_39, e45_39, -⟩ := hkeep
        simp [go_sem, e2_4, e3_4, e4_4, e5_4, e6_4, e11_4] at e2_39 e3_39 e4_39 e5_39 e6_39 e11_39 e45_39
        clear e2_4 e3_4 e4_4 e5_4 e6_4 e11_4
        refine Wp.condT (by go_simp) ?_
        refine Wp.seqRegion (.inl rfl) (by kernel_rfl) fun K' gd hK hg => ?_
        clear hg
        go_simp
        refine hK _ _ ?_
        clear hK K' gd
        refine Wp.keep [10] fun r40 hkeep => ?_
        obtain ⟨e10_40, -⟩ := hkeep
        simp [go_sem, e2_39, e3_39, e4_39, e5_39, e6_39, e11_39, e45_39] at e10_40
        clear e2_39 e3_39 e4_39 e5_39 e6_39 e11_39 e45_39
        refine Wp.ret ?_
        refine thenK_ret ?_
        refine endK_tmp Try.results8 (by decide) ?_
        rw [e10_40]
        exact ⟨rfl, xw⟩
    · skip
      refine Wp.seq ?_
      refine Wp.seqRegion (.inl rfl) (by kernel_rfl) fun K' gd hK hg => ?_
      have g3 : gd 3 = some 35 := hg 3
      have g8 : gd 8 = some 40 := hg 8
      clear hg
      refine Wops.cut 2 fun K1 hK1 => ?_
      simp only [List.take_succ_cons, List.take_zero]
      go_simp
      refine Wcall (.inl rfl) (few_c _ s _ (hV.ext xw)) ?_
      rintro v w3 ⟨rfl, hE⟩
      go_simp
      refine hK1 _ _ ?_
      clear hK1 K1
      simp only [List.drop_succ_cons, List.drop_zero]
      have z41 := Below.size hE
      replace f5 := Ext.fz hE c5_0 f5
      replace f6 := Ext.fz hE c6_0 f6
      replace xw := Ext.trans xw hE
      replace c5_0 := Ext.cell hE c5_0
      replace c5_1 := Ext.cell hE c5_1
      replace c6_0 := Ext.cell hE c6_0
      replace c6_1 := Ext.cell hE c6_1
      replace c6_2 := Ext.cell hE c6_2
      replace c6_3 := Ext.cell hE c6_3
      clear hE
      refine Wops.cut 4 fun K1 hK1 => ?_
      simp only [List.take_succ_cons, List.take_zero]
      go_simp
      refine Wcall (.inl rfl) (brief_c _ c _ (hU.ext xw)) ?_
      rintro v w4 ⟨rfl, hE⟩
      go_simp
      refine hK1 _ _ ?_
      clear hK1 K1
      simp only [List.drop_succ_cons, List.drop_zero]
      have z42 := Below.size hE
      replace f5 := Ext.fz hE c5_0 f5
      replace f6 := Ext.fz hE c6_0 f6
      replace xw := Ext.trans xw hE
      replace c5_0 := Ext.cell hE c5_0
      replace c5_1 := Ext.cell hE c5_1
      replace c6_0 := Ext.cell hE c6_0
      replace c6_1 := Ext.cell hE c6_1
      replace c6_2 := Ext.cell hE c6_2
      replace c6_3 := Ext.cell hE c6_3
      clear hE
      refine Wops.cut 6 fun K1 hK1 => ?_
      simp only [List.take_succ_cons, List.take_zero]
      go_simp
      refine hK1 _ _ ?_
      clear hK1 K1
      simp only [List.drop_succ_cons, List.drop_zero]
      go_simp
      refine hK _ _ ?_
      clear hK K' gd g3 g8
      refine Wp.keep [2, 3, 4, 5, 6, 11, 45] fun r43 hkeep => ?_
      obtain ⟨e2_43, e3_43, e4_43, e5_43, e6_43, e11_43, e45_43, -⟩ := hkeep
      simp [go_sem, e2_4, e3_4, e4_4, e5_4, e6_4, e11_4] at e2_43 e3_43 e4_43 e5_43 e6_43 e11_43 e45_43
      clear e2_4 e3_4 e4_4 e5_4 e6_4 e11_4
      refine Wp.condT (by go_simp) ?_
      refine Wp.seqRegion (.inl rfl) (by kernel_rfl) fun K' gd hK hg => ?_
      clear hg
      go_simp
      refine hK _ _ ?_
      clear hK K' gd
      refine Wp.keep [10] fun r44 hkeep => ?_
      obtain ⟨e10_44, -⟩ := hkeep
      simp [go_sem, e2_43, e3_43, e4_43, e5_43, e6_43, e11_43, e45_43] at e10_44
      clear e2_43 e3_43 e4_43 e5_43 e6_43 e11_43 e45_43
      refine Wp.ret ?_
      refine thenK_ret ?_
      refine endK_tmp Try.results8 (by decide) ?_
      rw [e10_44]
      exact ⟨rfl, xw⟩
  · skip
    refine Wp.seq ?_
    refine Wp.seqRegion (.inl rfl) (by kernel_rfl) fun K' gd hK hg => ?_
    have g3 : gd 3 = some 35 := hg 3
    have g8 : gd 8 = some 40 := hg 8
    clear hg
    refine Wops.cut 2 fun K1 hK1 => ?_
    simp only [List.take_succ_cons, List.take_zero]
    go_simp
    refine Wcall (.inl rfl) (few_c _ s _ (hV.ext xw)) ?_
    rintro v w3 ⟨rfl, hE⟩
    go_simp
    refine hK1 _ _ ?_
    clear hK1 K1
    simp only [List.drop_succ_cons, List.drop_zero]
    have z45 := Below.size hE
    replace f5 := Ext.fz hE c5_0 f5
    replace f6 := Ext.fz hE c6_0 f6
    replace xw := Ext.trans xw hE
    replace c5_0 := Ext.cell hE c5_0
    replace c5_1 := Ext.cell hE c5_1
    replace c6_0 := Ext.cell hE c6_0
    replace c6_1 := Ext.cell hE c6_1
    replace c6_2 := Ext.cell hE c6_2
    replace c6_3 := Ext.cell hE c6_3
    clear hE
    refine Wops.cut 4 fun K1 hK1 => ?_
    simp only [List.take_succ_cons, List.take_zero]
    go_simp
    refine hK1 _ _ ?_
    clear hK1 K1
    simp only [List.drop_succ_cons, List.drop_zero]
    refine Wops.cut 6 fun K1 hK1 => ?_
    simp only [List.take_succ_cons, List.take_zero]
    go_simp
    refine hK1 _ _ ?_
    clear hK1 K1
    simp only [List.drop_succ_cons, List.drop_zero]
    go_simp
    refine hK _ _ ?_
    clear hK K' gd g3 g8
    refine Wp.keep [2, 3, 4, 5, 6, 11, 45] fun r46 hkeep => ?_
    obtain ⟨e2_46, e3_46, e4_46, e5_46, e6_46, e11_46, e45_46, -⟩ := hkeep
    simp [go_sem, e2_4, e3_4, e4_4, e5_4, e6_4, e11_4] at e2_46 e3_46 e4_46 e5_46 e6_46 e11_46 e45_46
    clear e2_4 e3_4 e4_4 e5_4 e6_4 e11_4
    refine Wp.condT (by go_simp) ?_
    refine Wp.seqRegion (.inl rfl) (by kernel_rfl) fun K' gd hK hg => ?_
    clear hg
    go_simp
    refine hK _ _ ?_
    clear hK K' gd
    refine Wp.keep [10] fun r47 hkeep => ?_
    obtain ⟨e10_47, -⟩ := hkeep
    simp [go_sem, e2_46, e3_46, e4_46, e5_46, e6_46, e11_46, e45_46] at e10_47
    clear e2_46 e3_46 e4_46 e5_46 e6_46 e11_46 e45_46
    refine Wp.ret ?_
    refine thenK_ret ?_
    refine endK_tmp Try.results8 (by decide) ?_
    rw [e10_47]
    exact ⟨rfl, xw⟩
end Go.Proofs.Ytnjajbkkgfohaaa
