/- Days that fit: of lines, the lesser and the greater ones, narrower ones (plain law). Narrower copies; how long a copy took (plain law). below; what is asked of contracts at right arguments. Floors, ceilings, what shows that a copy cannot have been made (plain law). hold; CheckFloors; CheckClash. CheckCeilings. A list of numbers as an argument, opened, with what a machine's number can be. StateClashes. StateEnds. -/
import Derived.Test.YtnjajbkkgfohaaaP5
import Derived.Test.YtnjajbkkgfohaaaP6
import Derived.OpenShut
set_option linter.all false
namespace Go.Proofs.Ytnjajbkkgfohaaa

theorem possF_in {f l : Int} {T : List (Int × Int)} {d : Int} : inside (possF f l T) d ↔ inside T d ∧ f ≤ d ∧ d ≤ l := by
  unfold inside possF
  constructor
  · rintro ⟨y, hy, h1, h2⟩
    rw [List.mem_filterMap] at hy
    obtain ⟨x, hx, h⟩ := hy
    split at h
    · injection h with h; subst h
      dsimp only at h1 h2
      exact ⟨⟨x, hx, by omega, by omega⟩, by omega, by omega⟩
    · cases h
  · rintro ⟨⟨x, hx, h1, h2⟩, h3, h4⟩
    refine ⟨(max x.1 f, min x.2 l), List.mem_filterMap.2 ⟨x, hx, ?_⟩, ?_, ?_⟩
    · rw [if_pos (by omega)]
    · dsimp only; omega
    · dsimp only; omega
theorem fromD_iff {b : Int} {p i : Nat} {l : List Int} {d : Int} : fromD b p l i ≤ d ↔ b ≤ d ∧ (0 < i → gI l (i - 1) ≤ d) ∧ (p ≤ i → gI l (i - p) < d) := by
  constructor
  · intro h
    obtain ⟨h1, h2, h3⟩ := fromD_ge (b := b) (p := p) (i := i) (l := l)
    exact ⟨by omega, fun h0 => by have := h2 h0; omega, fun h0 => by have := h3 h0; omega⟩
  · rintro ⟨h1, h2, h3⟩
    unfold fromD
    split
    · have := h3 ‹_›
      split
      · have := h2 ‹_›; omega
      · omega
    · split
      · have := h2 ‹_›; omega
      · omega
theorem fit_at {m : Md} {dy : List Int} : m.Fit (gI dy) ↔ ∀ j, j < m.n → FitAt m dy j := by
  constructor
  · intro h j hj
    obtain ⟨h1, h2, h3, h4, h5⟩ := h j hj
    exact ⟨⟨h1, h2⟩, h3, fromD_iff.2 ⟨h1, h4, h5⟩⟩
  · intro h j hj
    obtain ⟨⟨h1, h2⟩, h3, h4⟩ := h j hj
    obtain ⟨-, h5, h6⟩ := fromD_iff.1 h4
    exact ⟨h1, h2, h3, h5, h6⟩
theorem fitR_true {s : Sh} {c : Cp} {dy : List Int} : fitE s c dy = 0 ∧ (fitR s c dy).2 = true ↔ copyS s c = 0 ∧ dy.length = s.n ∧ (s.md c).Fit (gI dy) := by
  have he : fitE s c dy = 0 ↔ copyS s c = 0 ∧ dy.length = s.n := by
    unfold fitE
    by_cases h : copyS s c = 0
    · by_cases h2 : dy.length = s.n <;> simp [h, h2]
    · simp [h]
  constructor
  · rintro ⟨h1, h2⟩
    refine ⟨(he.1 h1).1, (he.1 h1).2, fit_at.2 (fitI_none.1 ?_)⟩
    unfold fitR at h2
    rw [if_pos h1] at h2
    cases hf : fitI (s.md c) dy with
    | none => rfl
    | some i => rw [hf] at h2; cases h2
  · rintro ⟨h1, h2, h3⟩
    have h0 := he.2 ⟨h1, h2⟩
    refine ⟨h0, ?_⟩
    unfold fitR
    rw [if_pos h0, fitI_none.2 (fit_at.1 h3)]
theorem fitE_zero {s : Sh} {c : Cp} {dy : List Int} : fitE s c dy = 0 ↔ copyS s c = 0 ∧ dy.length = s.n := by
  unfold fitE
  by_cases h : copyS s c = 0
  · by_cases h2 : dy.length = s.n <;> simp [h, h2]
  · simp [h]
theorem fitR_good {s : Sh} {c : Cp} {dy : List Int} (h0 : copyS s c = 0) (hl : dy.length = s.n) (h : (s.md c).Fit (gI dy)) : fitE s c dy = 0 ∧ fitR s c dy = (0, true) := by
  have h1 := fitE_zero.2 ⟨h0, hl⟩
  exact ⟨h1, by unfold fitR; rw [if_pos h1, fitI_none.2 (fit_at.1 h)]⟩
/-- the earliest days ahead of a line, a day of its own, the latest ones behind it -/
theorem mix_fit {m : Md} (h : MdOk m) (hk : m.ok = true) {i : Nat} (hi : i < m.n) {d : Int} (hc : m.can i d) (h1 : gI m.first i ≤ d) (h2 : d ≤ gI m.last i) :
    m.Fit (gI (m.first.take i ++ d :: m.last.drop (i + 1))) := by
  obtain ⟨f1, -, f2, f3⟩ := h.of_ok hk
  obtain ⟨l1, l2, l3⟩ := h.last_fit hk
  have hle : ∀ j, j < m.n → gI m.first j ≤ gI m.last j := fun j hj => f3 _ l2 j hj
  have g : ∀ j, gI (m.first.take i ++ d :: m.last.drop (i + 1)) j = if j < i then gI m.first j else if j = i then d else gI m.last j := fun j => by
    have ht : (m.first.take i).length = i := by simp; omega
    unfold gI
    by_cases a : j < i
    · rw [if_pos a, List.getElem?_append_left (by omega), List.getElem?_take, if_pos a]
    · rw [if_neg a, List.getElem?_append_right (by omega), ht]
      by_cases b : j = i
      · subst b; simp
      · rw [if_neg b, show j - i = (j - i - 1) + 1 by omega, List.getElem?_cons_succ, List.getElem?_drop, show i + 1 + (j - i - 1) = j by omega]
  have hp := h.pp
  intro j hj
  obtain ⟨a1, a2, a3, a4, a5⟩ := f2 j hj
  obtain ⟨b1, b2, b3, b4, b5⟩ := l2 j hj
  rw [g]
  rcases Nat.lt_trichotomy j i with hji | rfl | hji
  · rw [if_pos hji]
    refine ⟨a1, a2, a3, fun h0 => ?_, fun hpj => ?_⟩
    · rw [g, if_pos (by omega)]; exact a4 h0
    · rw [g, if_pos (by omega)]; exact a5 hpj
  · rw [if_neg (by omega), if_pos rfl]
    have q1 := hle j hj
    refine ⟨by omega, by omega, hc, fun h0 => ?_, fun hpj => ?_⟩
    · rw [g, if_pos (by omega)]; have := a4 h0; omega
    · rw [g, if_pos (by omega)]; have := a5 hpj; omega
  · rw [if_neg (by omega), if_neg (by omega)]
    refine ⟨b1, b2, b3, fun h0 => ?_, fun hpj => ?_⟩
    · rw [g, if_neg (by omega)]
      by_cases e : j - 1 = i
      · rw [if_pos e]; have := b4 h0; rw [e] at this; omega
      · rw [if_neg e]; exact b4 h0
    · rw [g]
      have q := b5 hpj
      have q2 := hle (j - m.c.p.toNat) (by omega)
      by_cases e : j - m.c.p.toNat < i
      · rw [if_pos e]; omega
      · rw [if_neg e]
        by_cases e2 : j - m.c.p.toNat = i
        · rw [if_pos e2]; rw [e2] at q; omega
        · rw [if_neg e2]; exact q
/-- the lesser days, and the greater ones -/
theorem lattice_fit {m : Md} {x y : List Int} (hx : m.Fit (gI x)) (hy : m.Fit (gI y)) {lo hi : List Int} (hlo : ∀ i, i < m.n → gI lo i = min (gI x i) (gI y i)) (hhi : ∀ i, i < m.n → gI hi i = max (gI x i) (gI y i)) : m.Fit (gI lo) ∧ m.Fit (gI hi) := by
  have key : ∀ i, i < m.n → ∀ a b, (a = gI x i ∧ b = gI y i) → m.can i (min a b) ∧ m.can i (max a b) := fun i hi a b ⟨e1, e2⟩ => by
    have h1 := (hx i hi).2.2.1
    have h2 := (hy i hi).2.2.1
    rw [← e1] at h1
    rw [← e2] at h2
    rcases Int.le_total a b with h | h
    · rw [Int.min_eq_left h, Int.max_eq_right h]; exact ⟨h1, h2⟩
    · rw [Int.min_eq_right h, Int.max_eq_left h]; exact ⟨h2, h1⟩
  constructor
  · intro i hi'
    obtain ⟨a1, a2, a3, a4, a5⟩ := hx i hi'
    obtain ⟨b1, b2, b3, b4, b5⟩ := hy i hi'
    rw [hlo i hi']
    refine ⟨by omega, by omega, (key i hi' _ _ ⟨rfl, rfl⟩).1, fun h0 => ?_, fun hp => ?_⟩
    · rw [hlo (i - 1) (by omega)]; have := a4 h0; have := b4 h0; omega
    · rw [hlo (i - m.c.p.toNat) (by omega)]; have := a5 hp; have := b5 hp; omega
  · intro i hi'
    obtain ⟨a1, a2, a3, a4, a5⟩ := hx i hi'
    obtain ⟨b1, b2, b3, b4, b5⟩ := hy i hi'
    rw [hhi i hi']
    refine ⟨by omega, by omega, (key i hi' _ _ ⟨rfl, rfl⟩).2, fun h0 => ?_, fun hp => ?_⟩
    · rw [hhi (i - 1) (by omega)]; have := a4 h0; have := b4 h0; omega
    · rw [hhi (i - m.c.p.toNat) (by omega)]; have := a5 hp; have := b5 hp; omega
end Go.Proofs.Ytnjajbkkgfohaaa
namespace Go.Proofs.Ytnjajbkkgfohaaa

theorem Md.Fit.mono {m : Md} {ds : Nat → Int} (h : m.Fit ds) : ∀ {i j : Nat}, i ≤ j → j < m.n → ds i ≤ ds j := by
  intro i j hij hj
  induction j with
  | zero => obtain rfl : i = 0 := by omega
            exact Int.le_refl _
  | succ j ih =>
    rcases Nat.lt_or_ge i (j + 1) with h1 | h1
    · have h2 := ih (by omega) (by omega)
      have h3 := (h (j + 1) hj).2.2.2.1 (by omega)
      rw [Nat.add_sub_cancel] at h3
      omega
    · obtain rfl : i = j + 1 := by omega
      exact Int.le_refl _
/-- m' asks more than m -/
structure Narrow (m m' : Md) : Prop where
  n : m'.n = m.n
  T : ∀ i, m'.T i = m.T i
  b : m.c.b ≤ m'.c.b
  e : m'.c.e ≤ m.c.e
  p : m'.c.p.toNat ≤ m.c.p.toNat
  p1 : 1 ≤ m'.c.p.toNat
theorem Narrow.fit {m m' : Md} (h : Narrow m m') {ds : Nat → Int} (hd : m'.Fit ds) : m.Fit ds := by
  intro i hi
  rw [← h.n] at hi
  obtain ⟨h1, h2, h3, h4, h5⟩ := hd i hi
  have hb := h.b
  have he := h.e
  have hp := h.p
  have hp1 := h.p1
  refine ⟨by omega, by omega, ?_, h4, fun hpi => ?_⟩
  · unfold Md.can at *; rw [← h.T]; exact h3
  · have q1 := h5 (by omega)
    have q2 := hd.mono (i := i - m.c.p.toNat) (j := i - m'.c.p.toNat) (by omega) (by omega)
    omega
theorem Md.at_narrow {m : Md} {d : Int} (hp : 1 ≤ m.c.p.toNat) (h : m.c.b ≤ d) : Narrow m (m.at d) := ⟨rfl, fun _ => rfl, h, Int.le_refl _, Nat.le_refl _, hp⟩
theorem longF_le {m : Md} : ∀ (l : List Int) (lo : Int), longF m l lo ≤ lo ∧ ∀ d ∈ l, m.can 0 d ∧ (m.at d).ok = true → longF m l lo ≤ gI (m.at d).first (m.n - 1) - gI (m.at d).first 0
  | [], lo => ⟨Int.le_refl _, fun d hd => by cases hd⟩
  | x :: l, lo => by
    have e : longF m (x :: l) lo = longF m l (if m.can 0 x ∧ (m.at x).ok = true then min lo (gI (m.at x).first (m.n - 1) - gI (m.at x).first 0) else lo) := rfl
    rw [e]
    obtain ⟨h1, h2⟩ := longF_le (m := m) l (if m.can 0 x ∧ (m.at x).ok = true then min lo (gI (m.at x).first (m.n - 1) - gI (m.at x).first 0) else lo)
    refine ⟨?_, fun d hd hc => ?_⟩
    · split at h1 <;> split <;> first | omega | contradiction
    · rcases List.mem_cons.1 hd with rfl | hd
      · rw [if_pos hc] at h1 ⊢; omega
      · exact h2 d hd hc
theorem longF_or {m : Md} : ∀ (l : List Int) (lo : Int), longF m l lo = lo ∨ ∃ d ∈ l, (m.can 0 d ∧ (m.at d).ok = true) ∧ longF m l lo = gI (m.at d).first (m.n - 1) - gI (m.at d).first 0
  | [], lo => .inl rfl
  | x :: l, lo => by
    have e : longF m (x :: l) lo = longF m l (if m.can 0 x ∧ (m.at x).ok = true then min lo (gI (m.at x).first (m.n - 1) - gI (m.at x).first 0) else lo) := rfl
    rw [e]
    rcases longF_or (m := m) l (if m.can 0 x ∧ (m.at x).ok = true then min lo (gI (m.at x).first (m.n - 1) - gI (m.at x).first 0) else lo) with h | ⟨d, hd, hc, h⟩
    · by_cases hx : m.can 0 x ∧ (m.at x).ok = true
      · rw [if_pos hx] at h ⊢
        rcases Int.le_total lo (gI (m.at x).first (m.n - 1) - gI (m.at x).first 0) with q | q
        · exact .inl (by rw [h, Int.min_eq_left q])
        · exact .inr ⟨x, List.mem_cons_self, hx, by rw [h, Int.min_eq_right q]⟩
      · rw [if_neg hx] at h ⊢; exact .inl h
    · exact .inr ⟨d, List.mem_cons_of_mem _ hd, hc, h⟩
section
variable {m : Md} (h : MdOk m) (hk : m.ok = true)
include h hk
theorem long_le {ds : Nat → Int} (hd : m.Fit ds) : (longS m).1 ≤ ds (m.n - 1) - ds 0 := by
  unfold longS
  by_cases h1 : m.n = 1
  · rw [if_pos h1, h1]; simp
  · rw [if_neg h1]
    have hn := h.n1
    obtain ⟨f1, -, f2, f3⟩ := h.of_ok hk
    obtain ⟨l1, l2, l3⟩ := h.last_fit hk
    have a1 := f3 ds hd 0 (by omega)
    have a2 := l3 ds hd 0 (by omega)
    obtain ⟨c1, c2, c3, -⟩ := hd 0 (by omega)
    have hma : MdOk (m.at (ds 0)) := h.at (by have := h.b0; omega) c2
    have hfit : (m.at (ds 0)).Fit ds := fun i hi => by
      obtain ⟨q1, q2, q3, q4, q5⟩ := hd i hi
      exact ⟨hd.mono (Nat.zero_le i) hi, q2, q3, q4, q5⟩
    have hok := hma.ok_of hfit
    obtain ⟨g1, -, g2, g3⟩ := hma.of_ok hok
    have e1 := (longF_le (m := m) (daysL (gI m.first 0) (gI m.last 0)) (longHi m)).2 (ds 0) (mem_daysL.2 ⟨a1, a2⟩) ⟨c3, hok⟩
    have e2 := g3 ds hfit (m.n - 1) (by show m.n - 1 < m.n; omega)
    have e3 := (g2 0 (by show 0 < m.n; omega)).1
    dsimp only
    have e4 : (m.at (ds 0)).c.b = ds 0 := rfl
    omega
theorem long_or : (longS m).1 = (longS m).2 ∨ ∃ ds, m.Fit ds ∧ (longS m).1 = ds (m.n - 1) - ds 0 := by
  unfold longS
  by_cases h1 : m.n = 1
  · rw [if_pos h1]; exact .inl rfl
  · rw [if_neg h1]
    have hn := h.n1
    obtain ⟨f1, -, f2, f3⟩ := h.of_ok hk
    obtain ⟨l1, l2, l3⟩ := h.last_fit hk
    rcases longF_or (m := m) (daysL (gI m.first 0) (gI m.last 0)) (longHi m) with e | ⟨d, hd, ⟨hc, hok⟩, e⟩
    · exact .inl e
    · obtain ⟨d1, d2⟩ := mem_daysL.1 hd
      have b1 := (f2 0 (by omega)).1
      have b2 := (l2 0 (by omega)).2.1
      have hma : MdOk (m.at d) := h.at (by have := h.b0; omega) (by omega)
      obtain ⟨g1, -, g2, g3⟩ := hma.of_ok hok
      exact .inr ⟨gI (m.at d).first, (Md.at_narrow h.pp (by omega)).fit g2, e⟩
theorem long_hi : (longS m).2 = gI m.last (m.n - 1) - gI m.first 0 ∨ m.n = 1 ∧ (longS m).2 = 0 := by
  unfold longS
  by_cases h1 : m.n = 1
  · rw [if_pos h1]; exact .inr ⟨h1, rfl⟩
  · rw [if_neg h1]; exact .inl rfl
end
theorem Narrow.long {m m' : Md} (h : Narrow m m') (hm : MdOk m) (hm' : MdOk m') (hk' : m'.ok = true) : (longS m).1 ≤ (longS m').1 ∧ (longS m').2 ≤ (longS m).2 := by
  obtain ⟨f1, -, f2, f3⟩ := hm'.of_ok hk'
  obtain ⟨l1, l2, l3⟩ := hm'.last_fit hk'
  have hk := hm.ok_of (h.fit f2)
  obtain ⟨F1, -, F2, F3⟩ := hm.of_ok hk
  obtain ⟨L1, L2, L3⟩ := hm.last_fit hk
  have hn := hm.n1
  have hnn := h.n
  have a1 := f3 _ l2 0 (by omega)
  have a2 := L3 _ (h.fit l2) (m.n - 1) (by omega)
  have a3 := F3 _ (h.fit f2) 0 (by omega)
  have b1 := long_le hm hk (h.fit l2)
  have e : m'.n - 1 = m.n - 1 := by omega
  refine ⟨?_, ?_⟩
  · rcases long_or hm' hk' with q | ⟨ds, hd, q⟩
    · rcases long_hi hm' hk' with r | ⟨r, r2⟩
      · rw [q, r, e]; omega
      · rw [q, r2]
        have e1 : m.n = 1 := by omega
        unfold longS; rw [if_pos e1]; exact Int.le_refl _
    · rw [q, e]; exact long_le hm hk (h.fit hd)
  · rcases long_hi hm' hk' with r | ⟨r, r2⟩
    · rcases long_hi hm hk with s | ⟨s, s2⟩
      · rw [r, s, e]; omega
      · unfold longS; rw [if_pos (show m'.n = 1 by omega), if_pos s]; exact Int.le_refl _
    · rw [r2]
      unfold longS; rw [if_pos (show m.n = 1 by omega)]; exact Int.le_refl _
end Go.Proofs.Ytnjajbkkgfohaaa
namespace Go.Proofs.Ytnjajbkkgfohaaa
open Go.RowKit Go.Wk Go.Proofs
attribute [local irreducible] Go.Wk.Wops Go.Wk.Wp Go.Wk.Mtree Go.Wk.Mops
set_option maxHeartbeats 4000000
set_option maxRecDepth 20000

theorem below_T {x y : Value} {xs ys : List Int} {n : Nat} (h1 : n ≤ xs.length) (h2 : n ≤ ys.length) (h3 : ∀ i, i < n → gI xs i ≤ gI ys i) (hn : n ≤ 1000000000000000) (w : World) (hx : IntsV w w.heap.size x xs) (hy : IntsV w w.heap.size y ys) :
    CallsV Try.prog 45 #[x, y, .int .i64 (n : Int)] w fun v w' => v = .bool true ∧ Ext w w' := by
  obtain ⟨A, c, rfl, -, -⟩ := id hx
  obtain ⟨A2, c2, rfl, -, -⟩ := id hy
  have k1 : ¬ xs.length < n := by omega
  have k2 : ¬ ys.length < n := by omega
  refine Wp.fn Try.func45 rfl Try.ntmps45 (by simp) ?_
  have xw := Ext.refl w
  refine Wp.keep [0, 1, 2] fun r1 hkeep => ?_
  obtain ⟨e0_1, e1_1, e2_1, -⟩ := hkeep
  simp [go_sem] at e0_1 e1_1 e2_1
  refine Wp.seqRegion (.inl rfl) (by kernel_rfl) fun K' gd hK hg => ?_
  clear hg
  go_simp
  refine hK _ _ ?_
  clear hK K' gd
  refine Wp.keep [0, 1, 2] fun r2 hkeep => ?_
  obtain ⟨e0_2, e1_2, e2_2, -⟩ := hkeep
  simp [go_sem, e0_1, e1_1, e2_1] at e0_2 e1_2 e2_2
  clear e0_1 e1_1 e2_1
  refine Wp.seq ?_
  refine Wp.seqRegion (.inl rfl) (by kernel_rfl) fun K' gd hK hg => ?_
  have g4 : gd 4 = some 12 := hg 4
  clear hg
  go_simp
  refine hK _ _ ?_
  clear hK K' gd g4
  refine Wp.keep [0, 1, 2, 17] fun r3 hkeep => ?_
  obtain ⟨e0_3, e1_3, e2_3, e17_3, -⟩ := hkeep
  simp [go_sem, e0_2, e1_2, e2_2] at e0_3 e1_3 e2_3 e17_3
  clear e0_2 e1_2 e2_2
  refine Wp.condF (by go_simp) ?_
  refine Wp.skip ?_
  refine thenK_normal ?_
  refine Wp.seq ?_
  refine Wp.seqRegion (.inl rfl) (by kernel_rfl) fun K' gd hK hg => ?_
  clear hg
  go_simp
  refine hK _ _ ?_
  clear hK K' gd
  refine Wp.keep [0, 1, 2, 7] fun r4 hkeep => ?_
  obtain ⟨e0_4, e1_4, e2_4, e7_4, -⟩ := hkeep
  simp [go_sem, e0_3, e1_3, e2_3, e17_3] at e0_4 e1_4 e2_4 e7_4
  clear e0_3 e1_3 e2_3 e17_3
  refine Wp.block ?_
  refine Wp.loop (fun k ρ ds wk => AllEq [0, 1, 2] ρ r4 ∧ ds = [] ∧ (Ext w wk) ∧ (ρ 7 = .int .i64 (k : Int))) (n) ?_ ?_
  · refine ⟨AllEq.refl _ _, rfl, Ext.refl _, ?_⟩
    rw [e7_4]; rfl
  · rintro k r5 _ wk hk ⟨hA, rfl, xl1, e7⟩
    obtain ⟨e0_5, e1_5, e2_5, -⟩ := hA
    rw [e0_4] at e0_5
    rw [e1_4] at e1_5
    rw [e2_4] at e2_5
    have zxl1 := Below.size xl1
    replace xw := Ext.trans xw xl1
    refine Wp.seq ?_
    refine Wp.seqRegion (.inl rfl) (by kernel_rfl) fun K' gd hK hg => ?_
    clear hg
    go_simp
    refine hK _ _ ?_
    clear hK K' gd
    refine Wp.keep [0, 1, 2, 7, 20] fun r6 hkeep => ?_
    obtain ⟨e0_6, e1_6, e2_6, e7_6, e20_6, -⟩ := hkeep
    simp [go_sem, e0_5, e1_5, e2_5, e7] at e0_6 e1_6 e2_6 e7_6 e20_6
    clear e0_5 e1_5 e2_5 e7
    by_cases h : k < n
    · refine Wp.condT (by go_simp) ?_
      have hkx : k < xs.length := by omega
      have hky : k < ys.length := by omega
      obtain ⟨b, o, c5, e1, hb, hc⟩ := hx.get hkx
      injection e1 with e1 _ e2
      subst e1
      subst e2
      obtain ⟨b2, o2, c6, e1, hb2, hc2⟩ := hy.get hky
      injection e1 with e1 _ e2
      subst e1
      subst e2
      have d1 := xw.cell (hc k hkx)
      have d2 := xw.cell (hc2 k hky)
      have hle := h3 k h
      have hnl : ¬ gI ys k < gI xs k := by omega
      clear hc hc2
      refine Wp.skip ?_
      refine thenK_normal ?_
      refine Wp.seq ?_
      refine Wp.block ?_
      refine Wp.seqDraw (.inl rfl) mixed [([0, 1, 2, 3, 4], none), ([5, 6, 7, 8], none)] (by kernel_rfl) fun K' gd hK hg => ?_
      clear hg
      simp only [pick, nth, List.map_cons, List.map_nil, Option.map_none, Option.map_some]
      refine Mops.absD fun D2 hD2 zD2 => ?_
      replace xw := Ext.trans xw hD2
      replace xl1 := Ext.trans xl1 hD2
      replace d1 := Ext.cell hD2 d1
      replace d2 := Ext.cell hD2 d2
      clear hD2
      apply Mops.none
      · intro w' hE'
        have hC' := hE'.cellsS
        go_simp
        with_reducible rfl
      apply Mops.none
      · intro w' hE'
        have hC' := hE'.cellsS
        go_simp
        with_reducible rfl
      refine Mops.done ?_
      refine hK _ _ ?_
      clear hK K' gd
      refine Wp.keep [0, 1, 2, 7, 31] fun r7 hkeep => ?_
      obtain ⟨e0_7, e1_7, e2_7, e7_7, e31_7, -⟩ := hkeep
      simp [go_sem, e0_6, e1_6, e2_6, e7_6, e20_6] at e0_7 e1_7 e2_7 e7_7 e31_7
      clear e0_6 e1_6 e2_6 e7_6 e20_6
      refine Wp.condF (by go_simp) ?_
      refine Wp.skip ?_
      refine blockK_normal ?_
      refine thenK_normal ?_
      refine Wp.loneRegion (.inl rfl) (by kernel_rfl) fun K' gd hK hg => ?_
      clear hg
      go_simp
      refine hK _ _ ?_
      clear hK K' gd
      refine Ends.keep [0, 1, 2, 7] fun r8 hkeep => ?_
      obtain ⟨e0_8, e1_8, e2_8, e7_8, -⟩ := hkeep
      simp [go_sem, e0_7, e1_7, e2_7, e7_7, e31_7] at e0_8 e1_8 e2_8 e7_8
      clear e0_7 e1_7 e2_7 e7_7 e31_7
      refine Ends.mk ?_
      refine thenK_normal ⟨by omega, ⟨by rw [e0_8, e0_4], by rw [e1_8, e1_4], by rw [e2_8, e2_4], trivial⟩, rfl, xl1, ?_⟩
      rw [e7_8, IntWalk.i64_in _ (by omega)]; rfl
    · refine Wp.condF (by go_simp) ?_
      refine Wp.exit ?_
      refine thenK_exit ?_
      refine thenK_exit ?_
      refine blockK_here ?_
      refine thenK_normal ?_
      refine Wp.seqRegion (.inl rfl) (by kernel_rfl) fun K' gd hK hg => ?_
      clear hg
      go_simp
      refine hK _ _ ?_
      clear hK K' gd
      refine Wp.keep [6] fun r9 hkeep => ?_
      obtain ⟨e6_9, -⟩ := hkeep
      simp [go_sem, e0_6, e1_6, e2_6, e7_6, e20_6] at e6_9
      clear e0_6 e1_6 e2_6 e7_6 e20_6
      refine Wp.ret ?_
      refine endK_tmp Try.results45 (by decide) ?_
      rw [e6_9]
      exact ⟨rfl, xw⟩
theorem fits_T {v u dv : Value} {s : Sh} {c : Cp} {dy : List Int} (h0 : copyS s c = 0) (hl : dy.length = s.n) (h : (s.md c).Fit (gI dy)) (w : World) (hV : SheetV w w.heap.size v s) (hU : CopyV w w.heap.size u c) (hD : IntsV w w.heap.size dv dy) (hf : FitS s) (hg : FitC c) :
    CallsV Try.prog 37 #[v, u, dv] w fun v w' => v = .tuple #[.int .i64 0, .bool true, .int .i64 0] ∧ Ext w w' := by
  obtain ⟨h1, h2⟩ := fitR_good h0 hl h
  have := Fits_c v u dv s c dy w hV hU hD hf hg (by rw [hl]; exact hf.1)
  rw [h1, h2] at this
  exact this
end Go.Proofs.Ytnjajbkkgfohaaa
namespace Go.Proofs.Ytnjajbkkgfohaaa

/-- no day that a line can have by the floors ahead of it is less than its floor -/
def FloorAt (m : Md) (fl : List Int) (i : Nat) : Prop := ∀ d, fromD m.c.b m.c.p.toNat fl i ≤ d → d ≤ m.c.e → m.can i d → gI fl i ≤ d
def HoldAt (m : Md) (fl : List Int) (i : Nat) : Prop := (m.c.p.toNat ≤ i ∧ m.c.e ≤ gI fl (i - m.c.p.toNat)) ∨ m.nx i (fromD m.c.b m.c.p.toNat fl i) = 731 ∨ gI fl i ≤ m.nx i (fromD m.c.b m.c.p.toNat fl i)
instance (m : Md) (fl : List Int) (i : Nat) : Decidable (HoldAt m fl i) := by unfold HoldAt; infer_instance
theorem hold_iff {m : Md} (h : MdOk m) {fl : List Int} {i : Nat} : HoldAt m fl i ↔ FloorAt m fl i := by
  have h3 := (fromD_ge (b := m.c.b) (p := m.c.p.toNat) (i := i) (l := fl)).2.2
  rcases h.nxIs i (fromD m.c.b m.c.p.toNat fl i) with ⟨k0, k1, k2, k3, k4⟩ | ⟨k0, k1⟩
  · constructor
    · rintro (⟨a, b⟩ | a | a)
      · intro d h1 h2 _; have := h3 a; omega
      · exact absurd a k0
      · intro d h1 h2 hc
        rcases Int.lt_or_le d (m.nx i (fromD m.c.b m.c.p.toNat fl i)) with q | q
        · exact absurd hc (k4 d h1 q)
        · omega
    · intro hF; exact .inr (.inr (hF _ k1 k2 k3))
  · exact ⟨fun _ d h1 h2 hc => absurd hc (k1 d h1 h2), fun _ => .inr (.inl k0)⟩
def holdS (m : Md) (fl : List Int) : Bool := decide (∀ i, i < fl.length → HoldAt m fl i)
theorem holdS_true {m : Md} (h : MdOk m) {fl : List Int} : holdS m fl = true ↔ ∀ i, i < fl.length → FloorAt m fl i := by
  unfold holdS
  rw [decide_eq_true_eq]
  exact ⟨fun a i hi => (hold_iff h).1 (a i hi), fun a i hi => (hold_iff h).2 (a i hi)⟩
/-- days that fit are not less than floors that hold -/
theorem floors_le {m : Md} (h : MdOk m) {fl : List Int} (hf : ∀ i, i < fl.length → FloorAt m fl i) {n : Nat} {ds : Nat → Int} (hd : FitP m.can m.c.b m.c.e m.c.p.toNat n ds) (hl : fl.length ≤ n) :
    ∀ i, i < fl.length → gI fl i ≤ ds i := by
  intro i
  induction i using Nat.strongRecOn with
  | _ i ih =>
    intro hi
    obtain ⟨h1, h2, h3, -, -⟩ := hd i (by omega)
    exact hf i hi _ (fromD_le h.pp hd (by omega) fun j hj => ih j hj (by omega)) h2 h3
theorem fromD_congr' {b : Int} {p i : Nat} {l k : List Int} (hp : 1 ≤ p) (h : ∀ j, j < i → gI l j = gI k j) : fromD b p l i = fromD b p k i := fromD_congr hp h
theorem firstGo_get {nx : Nat → Int → Int} {b : Int} {p : Nat} (hp : 1 ≤ p) : ∀ k, (firstGo nx b p k).length ≤ k ∧ ∀ i, i < (firstGo nx b p k).length → gI (firstGo nx b p k) i = nx i (fromD b p (firstGo nx b p k) i) ∨ ((firstGo nx b p k).length < k ∧ (firstGo nx b p k).getLast? = some 731 ∧ gI (firstGo nx b p k) i = nx i (fromD b p (firstGo nx b p k) i))
  | 0 => ⟨Nat.le_refl _, fun i hi => absurd hi (Nat.not_lt_zero _)⟩
  | k + 1 => by
    obtain ⟨h1, h2⟩ := firstGo_get (nx := nx) (b := b) hp k
    have h3 : ∀ i, i < (firstGo nx b p k).length → gI (firstGo nx b p k) i = nx i (fromD b p (firstGo nx b p k) i) := fun i hi => by rcases h2 i hi with h | ⟨-, -, h⟩ <;> exact h
    rw [firstGo]
    split
    · exact ⟨by omega, fun i hi => .inl (h3 i hi)⟩
    · rename_i hne
      have hlk : (firstGo nx b p k).length = k := by
        rcases Nat.lt_or_ge (firstGo nx b p k).length k with q | q
        · exfalso; exact hne (firstGo_short hp k q)
        · omega
      refine ⟨by simp [hlk], fun i hi => .inl ?_⟩
      rcases Nat.lt_or_ge i (firstGo nx b p k).length with q | q
      · rw [gI_app q, h3 i q]; congr 1
        exact fromD_congr hp fun j hj => (gI_app (by omega)).symm
      · have e : i = (firstGo nx b p k).length := by simp at hi; omega
        rw [e, gI_last, hlk]; congr 1
        exact fromD_congr hp fun j hj => (gI_app (by omega)).symm
where firstGo_short {nx : Nat → Int → Int} {b : Int} {p : Nat} (hp : 1 ≤ p) : ∀ k, (firstGo nx b p k).length < k → (firstGo nx b p k).getLast? = some 731
  | 0, h => absurd h (Nat.not_lt_zero _)
  | k + 1, h => by
    rw [firstGo] at h ⊢
    split
    · assumption
    · rename_i hne
      rw [if_neg hne] at h
      have : (firstGo nx b p k).length < k := by simpa using h
      exact absurd (firstGo_short hp k this) hne
theorem first_floor {m : Md} (h : MdOk m) : ∀ i, i < m.first.length → FloorAt m m.first i := by
  intro i hi
  have hg : gI m.first i = m.nx i (fromD m.c.b m.c.p.toNat m.first i) := by
    rcases (firstGo_get (nx := m.nx) (b := m.c.b) h.pp m.n).2 i hi with q | ⟨-, -, q⟩ <;> exact q
  exact (hold_iff h).1 (.inr (.inr (by rw [hg]; exact Int.le_refl _)))
def fproofE (s : Sh) (c : Cp) (fl : List Int) : Int := if copyS s c = 0 then (if 1 ≤ fl.length ∧ fl.length ≤ s.n then (if holdS (s.md c) fl = true then 0 else 8) else 1) else copyS s c
def fclashE (s : Sh) (c : Cp) (fl : List Int) : Int := if fproofE s c fl = 0 then (if gI fl (fl.length - 1) ≤ c.e then 8 else 0) else fproofE s c fl
theorem fproofE_zero {s : Sh} {c : Cp} {fl : List Int} : fproofE s c fl = 0 ↔ copyS s c = 0 ∧ (1 ≤ fl.length ∧ fl.length ≤ s.n) ∧ holdS (s.md c) fl = true := by
  unfold fproofE
  by_cases h : copyS s c = 0
  · by_cases h2 : 1 ≤ fl.length ∧ fl.length ≤ s.n
    · by_cases h3 : holdS (s.md c) fl = true <;> simp [h, h2, h3]
    · rw [if_pos h, if_neg h2]; simp [h2]
  · simp [h]
theorem fclashE_zero {s : Sh} {c : Cp} {fl : List Int} : fclashE s c fl = 0 ↔ fproofE s c fl = 0 ∧ c.e < gI fl (fl.length - 1) := by
  unfold fclashE
  by_cases h : fproofE s c fl = 0
  · by_cases h2 : gI fl (fl.length - 1) ≤ c.e
    · rw [if_pos h, if_pos h2]; simp [h]; omega
    · rw [if_pos h, if_neg h2]; simp [h]; omega
  · simp [h]
/-- what the proof of a clash shows -/
theorem clash_no {s : Sh} {c : Cp} {fl : List Int} (h : fclashE s c fl = 0) : begE s c = 9 := by
  obtain ⟨h1, h2⟩ := fclashE_zero.1 h
  obtain ⟨h3, ⟨h4, h5⟩, h6⟩ := fproofE_zero.1 h1
  obtain ⟨hg0, hv0⟩ := copyS_zero.1 h3
  have hmk := (checkS_zero.1 hg0).mdOk hv0
  have hn : (s.md c).n = s.n := hv0.1
  unfold begE
  rw [if_pos h3, if_neg]
  intro hk
  have hfit := (hmk.of_ok hk).2.2.1
  have a := floors_le hmk ((holdS_true hmk).1 h6) hfit (by rw [hn]; exact h5) (fl.length - 1) (by omega)
  have b : gI (s.md c).first (fl.length - 1) ≤ c.e := (hfit (fl.length - 1) (by rw [hn]; omega)).2.1
  omega
theorem clash_yes {s : Sh} {c : Cp} (h : begE s c = 9) : fclashE s c (s.md c).first = 0 ∧ copyS s c = 0 := by
  have h3 : copyS s c = 0 := by
    unfold begE at h
    split at h
    · assumption
    · exact absurd h copyS_ne9
  have hk : (s.md c).ok = false := by
    unfold begE okS at h
    rw [if_pos h3] at h
    by_cases q : (s.md c).ok = true
    · rw [if_pos q] at h; exact absurd h (by decide)
    · simpa using q
  obtain ⟨hg0, hv0⟩ := copyS_zero.1 h3
  have hmk := (checkS_zero.1 hg0).mdOk hv0
  have hn : (s.md c).n = s.n := hv0.1
  obtain ⟨j, hj, hj2, hj3, -, -⟩ := hmk.not_ok hk
  have hl : (s.md c).first.length = j + 1 := by rw [hj2]; simp [hj3]
  have hlast : gI (s.md c).first ((s.md c).first.length - 1) = 731 := by
    rw [hl, show j + 1 - 1 = j by omega, hj2]
    have := gI_last (l := firstGo (s.md c).nx (s.md c).c.b (s.md c).c.p.toNat j) (x := 731)
    rwa [hj3] at this
  refine ⟨fclashE_zero.2 ⟨fproofE_zero.2 ⟨h3, ⟨by omega, by rw [← hn]; omega⟩, (holdS_true hmk).2 (first_floor hmk)⟩, ?_⟩, h3⟩
  rw [hlast]; have := hmk.e7; show (s.md c).c.e < 731; omega
/-- no day that a line can have by the ceilings behind it is greater than its ceiling -/
def CeilAt (m : Md) (cl : List Int) (i : Nat) : Prop := ∀ d, m.c.b ≤ d → d ≤ toD m.c.e m.c.p.toNat (cl.drop (i + 1)) → m.can i d → d ≤ gI cl i
def RoofAt (m : Md) (cl : List Int) (i : Nat) : Prop := (i + m.c.p.toNat < cl.length ∧ gI cl (i + m.c.p.toNat) ≤ m.c.b) ∨ m.bf i (toD m.c.e m.c.p.toNat (cl.drop (i + 1))) = -1 ∨ m.bf i (toD m.c.e m.c.p.toNat (cl.drop (i + 1))) ≤ gI cl i
instance (m : Md) (cl : List Int) (i : Nat) : Decidable (RoofAt m cl i) := by unfold RoofAt; infer_instance
theorem toD_lt {m : Md} (h : MdOk m) {cl : List Int} {i : Nat} (hi : i + m.c.p.toNat < cl.length) : toD m.c.e m.c.p.toNat (cl.drop (i + 1)) < gI cl (i + m.c.p.toNat) := by
  have hp := h.pp
  have := (toD_le (e := m.c.e) (p := m.c.p.toNat) (l := cl.drop (i + 1))).2.2 (by rw [List.length_drop]; omega)
  rwa [gI_drop, show i + 1 + (m.c.p.toNat - 1) = i + m.c.p.toNat by omega] at this
theorem roof_iff {m : Md} (h : MdOk m) {cl : List Int} {i : Nat} : RoofAt m cl i ↔ CeilAt m cl i := by
  rcases h.bfIs i (toD m.c.e m.c.p.toNat (cl.drop (i + 1))) with ⟨k0, k1, k2, k3, k4⟩ | ⟨k0, k1⟩
  · constructor
    · rintro (⟨a, b⟩ | a | a)
      · intro d h1 h2 _; have := toD_lt h a; omega
      · exact absurd a k0
      · intro d h1 h2 hc
        rcases Int.lt_or_le (m.bf i (toD m.c.e m.c.p.toNat (cl.drop (i + 1)))) d with q | q
        · exact absurd hc (k4 d q h2)
        · omega
    · intro hF; exact .inr (.inr (hF _ k1 k2 k3))
  · exact ⟨fun _ d h1 h2 hc => absurd hc (k1 d h1 h2), fun _ => .inr (.inl k0)⟩
def roofS (m : Md) (cl : List Int) : Bool := decide (∀ i, i < cl.length → RoofAt m cl i)
theorem roofS_true {m : Md} (h : MdOk m) {cl : List Int} : roofS m cl = true ↔ ∀ i, i < cl.length → CeilAt m cl i := by
  unfold roofS
  rw [decide_eq_true_eq]
  exact ⟨fun a i hi => (roof_iff h).1 (a i hi), fun a i hi => (roof_iff h).2 (a i hi)⟩
/-- days that fit are not greater than ceilings that hold -/
theorem ceils_ge {m : Md} (h : MdOk m) {cl : List Int} (hf : ∀ i, i < cl.length → CeilAt m cl i) (hl : cl.length = m.n) {ds : Nat → Int} (hd : m.Fit ds) : ∀ i, i < m.n → ds i ≤ gI cl i := by
  have key : ∀ k i, i < m.n → m.n - i ≤ k → ds i ≤ gI cl i := by
    intro k
    induction k with
    | zero => intro i hi hk; omega
    | succ k ih =>
      intro i hi hk
      obtain ⟨h1, h2, h3, -, -⟩ := hd i hi
      refine hf i (by omega) _ h1 ?_ h3
      refine toD_ge (m := 0) h.pp hd hi (by rw [List.length_drop]; omega) fun j hj => ?_
      rw [List.length_drop] at hj
      rw [gI_drop]
      exact ih (i + 1 + j) (by omega) (by omega)
  intro i hi
  exact key (m.n - i) i hi (Nat.le_refl _)
theorem lastGo_drop2 {bf : Nat → Int → Int} {e : Int} {p n : Nat} : ∀ k j, j ≤ k → (lastGo bf e p n k).drop j = lastGo bf e p n (k - j)
  | k, 0, _ => rfl
  | 0, j + 1, h => absurd h (by omega)
  | k + 1, j + 1, h => by rw [lastGo, List.drop_succ_cons, lastGo_drop2 k j (by omega), show k + 1 - (j + 1) = k - j by omega]
theorem last_ceil {m : Md} (h : MdOk m) : ∀ i, i < m.last.length → CeilAt m m.last i := by
  intro i hi
  have hll : m.last.length = m.n := lastGo_len _
  rw [hll] at hi
  have e1 : m.last.drop (i + 1) = lastGo m.bf m.c.e m.c.p.toNat m.n (m.n - (i + 1)) := lastGo_drop2 _ _ (by omega)
  have e0 : m.last.drop i = lastGo m.bf m.c.e m.c.p.toNat m.n (m.n - i) := lastGo_drop2 _ _ (by omega)
  have hg : gI m.last i = m.bf i (toD m.c.e m.c.p.toNat (m.last.drop (i + 1))) := by
    have := gI_drop m.last i 0
    rw [Nat.add_zero] at this
    rw [← this, e0, e1, show m.n - i = (m.n - (i + 1)) + 1 by omega, lastGo, show m.n - 1 - (m.n - (i + 1)) = i by omega]
    rfl
  exact (roof_iff h).1 (.inr (.inr (by rw [hg]; exact Int.le_refl _)))
def cproofE (s : Sh) (c : Cp) (cl : List Int) : Int := if copyS s c = 0 then (if cl.length = s.n then (if roofS (s.md c) cl = true then 0 else 8) else 1) else copyS s c
theorem cproofE_zero {s : Sh} {c : Cp} {cl : List Int} : cproofE s c cl = 0 ↔ copyS s c = 0 ∧ cl.length = s.n ∧ roofS (s.md c) cl = true := by
  unfold cproofE
  by_cases h : copyS s c = 0
  · by_cases h2 : cl.length = s.n
    · by_cases h3 : roofS (s.md c) cl = true <;> simp [h, h2, h3]
    · rw [if_pos h, if_neg h2]; simp [h2]
  · simp [h]
end Go.Proofs.Ytnjajbkkgfohaaa
namespace Go.Proofs.Ytnjajbkkgfohaaa
open Go.RowKit Go.Wk Go.Proofs
attribute [local irreducible] Go.Wk.Wops Go.Wk.Wp Go.Wk.Mtree Go.Wk.Mops
set_option maxHeartbeats 8000000
set_option maxRecDepth 20000

def InI (x : Int) : Prop := -9223372036854775808 ≤ x ∧ x ≤ 9223372036854775807
def AllI (l : List Int) : Prop := ∀ x ∈ l, InI x
theorem wrap_up {x : Int} (h : InI x) (h2 : x < 731) : IntKind.i64.wrap (x + 1) = x + 1 := by unfold InI at h; exact IntWalk.i64_in _ (by omega)
theorem wrap_down {x : Int} (h : InI x) (h2 : 0 ≤ x) : IntKind.i64.wrap (x - 1) = x - 1 := by unfold InI at h; exact IntWalk.i64_in _ (by omega)
theorem InI.of_bd {x : Int} (h : -1000 ≤ x) (h2 : x ≤ 1000) : InI x := by unfold InI; omega
theorem AllI.get {l : List Int} (h : AllI l) {i : Nat} (hi : i < l.length) : InI (gI l i) := h _ (gI_mem hi)
theorem afterN_c (n : Int) (h : IntKind.i64.wrap (n + 1) = n + 1) (w : World) : CallsV Try.prog 139 #[.int .i64 n] w fun v w' => v = .int .i64 (n + 1) ∧ Ext w w' := by
  refine Wp.fn Try.func139 rfl Try.ntmps139 (by simp) ?_
  have xw := Ext.refl w
  refine Wp.keep [0] fun r1 hkeep => ?_
  obtain ⟨e0_1, -⟩ := hkeep
  simp [go_sem] at e0_1
  refine Wp.seqRegion (.inl rfl) (by kernel_rfl) fun K' gd hK hg => ?_
  clear hg
  go_simp
  refine hK _ _ ?_
  clear hK K' gd
  refine Wp.keep [0] fun r2 hkeep => ?_
  obtain ⟨e0_2, -⟩ := hkeep
  simp [go_sem, e0_1] at e0_2
  clear e0_1
  refine Wp.seqRegion (.inl rfl) (by kernel_rfl) fun K' gd hK hg => ?_
  clear hg
  go_simp
  refine hK _ _ ?_
  clear hK K' gd
  refine Wp.keep [2] fun r3 hkeep => ?_
  obtain ⟨e2_3, -⟩ := hkeep
  simp [go_sem, e0_2] at e2_3
  clear e0_2
  refine Wp.ret ?_
  refine endK_tmp Try.results139 (by decide) ?_
  rw [e2_3]
  exact ⟨congrArg (Value.int .i64) (by rw [if_pos (by omega)]), xw⟩
theorem aheadN_c (n : Int) (h : IntKind.i64.wrap (n - 1) = n - 1) (w : World) : CallsV Try.prog 115 #[.int .i64 n] w fun v w' => v = .int .i64 (n - 1) ∧ Ext w w' := by
  refine Wp.fn Try.func115 rfl Try.ntmps115 (by simp) ?_
  have xw := Ext.refl w
  refine Wp.keep [0] fun r1 hkeep => ?_
  obtain ⟨e0_1, -⟩ := hkeep
  simp [go_sem] at e0_1
  refine Wp.seqRegion (.inl rfl) (by kernel_rfl) fun K' gd hK hg => ?_
  clear hg
  go_simp
  refine hK _ _ ?_
  clear hK K' gd
  refine Wp.keep [0] fun r2 hkeep => ?_
  obtain ⟨e0_2, -⟩ := hkeep
  simp [go_sem, e0_1] at e0_2
  clear e0_1
  refine Wp.seqRegion (.inl rfl) (by kernel_rfl) fun K' gd hK hg => ?_
  clear hg
  go_simp
  refine hK _ _ ?_
  clear hK K' gd
  refine Wp.keep [2] fun r3 hkeep => ?_
  obtain ⟨e2_3, -⟩ := hkeep
  simp [go_sem, e0_2] at e2_3
  clear e0_2
  refine Wp.ret ?_
  refine endK_tmp Try.results115 (by decide) ?_
  rw [e2_3]
  exact ⟨congrArg (Value.int .i64) (by rw [if_pos (by omega)]), xw⟩
theorem holdS_no {m : Md} {fl : List Int} {k : Nat} (hk : k < fl.length) (h : ¬ HoldAt m fl k) : holdS m fl = false := decide_eq_false fun a => h (a k hk)
theorem hold_c (v fv : Value) (m : Md) (fl : List Int) (w : World) (hV : MadeV w w.heap.size v m) (hF : IntsV w w.heap.size fv fl) (hm : MdOk m) (hl : fl.length ≤ m.n) (hin : AllI fl) :
    CallsV Try.prog 114 #[v, fv] w fun v w' => v = .bool (holdS m fl) ∧ Ext w w' := by
  obtain ⟨A, c, A2, c2, rfl⟩ := hV.five
  obtain ⟨A4, c4, rfl, -, -⟩ := id hF
  obtain ⟨pn, hpn⟩ : ∃ pn : Nat, m.c.p = (pn : Int) := ⟨m.c.p.toNat, by have := hm.p1; omega⟩
  rw [hpn] at hV
  have hpt : ∃ _u : Unit, m.c.p.toNat = pn := ⟨(), by omega⟩
  have hp12 : 1 ≤ pn ∧ pn ≤ 40 := by have := hm.p1; have := hm.p2; omega
  have hn2 := hm.n2
  have he7 := hm.e7
  refine Wp.fn Try.func114 rfl Try.ntmps114 (by simp) ?_
  have xw := Ext.refl w
  refine Wp.keep [0, 1] fun r1 hkeep => ?_
  obtain ⟨e0_1, e1_1, -⟩ := hkeep
  simp [go_sem] at e0_1 e1_1
  refine Wp.seqRegion (.inl rfl) (by kernel_rfl) fun K' gd hK hg => ?_
  clear hg
  refine Wops.cut 1 fun K1 hK1 => ?_
  simp only [List.take_succ_cons, List.take_zero]
  go_simp
  refine hK1 _ _ ?_
  clear hK1 K1
  simp only [List.drop_succ_cons, List.drop_zero]
  refine Wops.absA fun V2_1 n2 hV2_1 => ?_
  obtain ⟨q2, hV2_1, s2, kV2_1, f2, r2⟩ := hV2_1
  try simp only [q2] at kV2_1 f2 r2 ⊢
  replace xw := Ext.trans xw hV2_1
  have c2_0 := kV2_1 0 _ rfl
  have c2_1 := kV2_1 1 _ rfl
  have c2_2 := kV2_1 2 _ rfl
  have c2_3 := kV2_1 3 _ rfl
  have c2_4 := kV2_1 4 _ rfl
  clear kV2_1 hV2_1
  clear r2
  go_simp
  refine hK _ _ ?_
  clear hK K' gd
  refine Wp.keep [1, 2] fun r2 hkeep => ?_
  obtain ⟨e1_2, e2_2, -⟩ := hkeep
  simp [go_sem, e0_1, e1_1] at e1_2 e2_2
  clear e0_1 e1_1
  refine Wp.seq ?_
  refine Wp.seqRegion (.inl rfl) (by kernel_rfl) fun K' gd hK hg => ?_
  clear hg
  go_simp
  refine hK _ _ ?_
  clear hK K' gd
  refine Wp.keep [1, 2, 9, 10, 11] fun r3 hkeep => ?_
  obtain ⟨e1_3, e2_3, e9_3, e10_3, e11_3, -⟩ := hkeep
  simp [go_sem, e1_2, e2_2] at e1_3 e2_3 e9_3 e10_3 e11_3
  clear e1_2 e2_2
  refine Wp.block ?_
  refine Wp.loop (fun k ρ ds wk => AllEq [1, 2, 9, 10] ρ r3 ∧ ds = [] ∧ (Ext V2_1 wk) ∧ (ρ 11 = .int .i64 (k : Int) ∧ (∃ _u : Unit, ∀ j, j < k → HoldAt m fl j))) (fl.length) ?_ ?_
  · refine ⟨AllEq.refl _ _, rfl, Ext.refl _, ?_⟩
    exact ⟨by rw [e11_3]; rfl, (), fun j hj => absurd hj (Nat.not_lt_zero _)⟩
  · rintro k r4 _ wk hk ⟨hA, rfl, xl2, ⟨e11, hH⟩⟩
    obtain ⟨e1_4, e2_4, e9_4, e10_4, -⟩ := hA
    rw [e1_3] at e1_4
    rw [e2_3] at e2_4
    rw [e9_3] at e9_4
    rw [e10_3] at e10_4
    have zxl2 := Below.size xl2
    replace f2 := Ext.fz xl2 c2_0 f2
    replace xw := Ext.trans xw xl2
    replace c2_0 := Ext.cell xl2 c2_0
    replace c2_1 := Ext.cell xl2 c2_1
    replace c2_2 := Ext.cell xl2 c2_2
    replace c2_3 := Ext.cell xl2 c2_3
    replace c2_4 := Ext.cell xl2 c2_4
    refine Wp.seqRegion (.inl rfl) (by kernel_rfl) fun K' gd hK hg => ?_
    clear hg
    go_simp
    refine hK _ _ ?_
    clear hK K' gd
    refine Wp.keep [1, 2, 9, 10, 11, 12] fun r5 hkeep => ?_
    obtain ⟨e1_5, e2_5, e9_5, e10_5, e11_5, e12_5, -⟩ := hkeep
    simp [go_sem, e1_4, e2_4, e9_4, e10_4, e11] at e1_5 e2_5 e9_5 e10_5 e11_5 e12_5
    clear e1_4 e2_4 e9_4 e10_4 e11
    refine Wp.seq ?_
    by_cases h : k < fl.length
    · refine Wp.condT (by go_simp) ?_
      obtain ⟨b, o, c6, e1, hb, hc⟩ := hF.get h
      injection e1 with e1 _ e2
      subst e1
      subst e2
      have dk := xw.cell (hc k h)
      obtain ⟨d1, hd1⟩ : ∃ d1, ∃ _u : Unit, (if 0 < k then max m.c.b (gI fl (k - 1)) else m.c.b) = d1 := ⟨_, (), rfl⟩
      obtain ⟨d0, hd0⟩ : ∃ d0, ∃ _u : Unit, fromD m.c.b pn fl k = d0 := ⟨_, (), rfl⟩
      have hd01 : ∃ _u : Unit, d0 = if pn ≤ k then max d1 (gI fl (k - pn) + 1) else d1 := ⟨(), by rw [← hd0.choose_spec, ← hd1.choose_spec]; rfl⟩
      have hres : HoldAt m fl k ↔ (pn ≤ k ∧ m.c.e ≤ gI fl (k - pn)) ∨ m.nx k d0 = 731 ∨ gI fl k ≤ m.nx k d0 := by unfold HoldAt; rw [hpt.choose_spec, hd0.choose_spec]
      have hkn : k < m.n := by omega
      have hnx : HoldAt m fl k → ∃ _u : Unit, ∀ j, j < k + 1 → HoldAt m fl j := fun q => ⟨(), fun j hj => by rcases Nat.lt_succ_iff_lt_or_eq.1 hj with hj | rfl; exact hH.choose_spec j hj; exact q⟩
      refine Wp.skip ?_
      refine thenK_normal ?_
      refine Wp.seq ?_
      refine Wp.block ?_
      refine Wp.seqRegion (.inl rfl) (by kernel_rfl) fun K' gd hK hg => ?_
      clear hg
      go_simp
      refine hK _ _ ?_
      clear hK K' gd
      refine Wp.keep [1, 2, 5, 6, 9, 10, 11] fun r6 hkeep => ?_
      obtain ⟨e1_6, e2_6, e5_6, e6_6, e9_6, e10_6, e11_6, -⟩ := hkeep
      simp [go_sem, e1_5, e2_5, e9_5, e10_5, e11_5, e12_5] at e1_6 e2_6 e5_6 e6_6 e9_6 e10_6 e11_6
      clear e1_5 e2_5 e9_5 e10_5 e11_5 e12_5
      refine Wp.seqRegion (.inl rfl) (by kernel_rfl) fun K' gd hK hg => ?_
      clear hg
      go_simp
      refine hK _ _ ?_
      clear hK K' gd
      refine Wp.keep [1, 2, 5, 6, 7, 9, 10, 11] fun r7 hkeep => ?_
      obtain ⟨e1_7, e2_7, e5_7, e6_7, e7_7, e9_7, e10_7, e11_7, -⟩ := hkeep
      simp [go_sem, e1_6, e2_6, e5_6, e6_6, e9_6, e10_6, e11_6] at e1_7 e2_7 e5_7 e6_7 e7_7 e9_7 e10_7 e11_7
      clear e1_6 e2_6 e5_6 e6_6 e9_6 e10_6 e11_6
      refine Wp.seq ?_
      refine Wp.cut (fun ρ ds W => AllEq [1, 2, 5, 6, 9, 10, 11] ρ r7 ∧ ds = [] ∧ (Ext wk W) ∧ (ρ 7 = .int .i64 d1)) ?_ ?_
      · have xq3 := Ext.refl wk
        by_cases h0 : 0 < k
        · skip
          obtain ⟨q, hq⟩ : ∃ q : Nat, ∃ _u : Unit, q + 1 = k := ⟨k - 1, (), by omega⟩
          have hqq := hq.choose_spec
          have dq := xw.cell (hc q (by omega))
          have hwq : IntKind.i64.wrap ((k : Int) - 1) = (q : Int) := by rw [IntWalk.i64_in _ (by omega)]; omega
          have hql : (q : Int) < (fl.length : Int) := by omega
          have hmx : ∃ _u : Unit, d1 = if m.c.b < gI fl q then gI fl q else m.c.b := ⟨(), by rw [← hd1.choose_spec, if_pos h0, show k - 1 = q by omega, Int.max_def]; split <;> split <;> omega⟩
          clear hqq
          refine Wp.seqRegion (.inl rfl) (by kernel_rfl) fun K' gd hK hg => ?_
          clear hg
          go_simp
          refine hK _ _ ?_
          clear hK K' gd
          refine Wp.keep [1, 2, 5, 6, 7, 9, 10, 11, 20] fun r8 hkeep => ?_
          obtain ⟨e1_8, e2_8, e5_8, e6_8, e7_8, e9_8, e10_8, e11_8, e20_8, -⟩ := hkeep
          simp [go_sem, e1_7, e2_7, e5_7, e6_7, e7_7, e9_7, e10_7, e11_7] at e1_8 e2_8 e5_8 e6_8 e7_8 e9_8 e10_8 e11_8 e20_8
          clear e7_7
          refine Wp.condT (by go_simp) ?_
          refine Wp.loneRegion (.inl rfl) (by kernel_rfl) fun K' gd hK hg => ?_
          clear hg
          go_simp
          refine hK _ _ ?_
          clear hK K' gd
          refine Ends.keep [1, 2, 5, 6, 7, 9, 10, 11] fun r9 hkeep => ?_
          obtain ⟨e1_9, e2_9, e5_9, e6_9, e7_9, e9_9, e10_9, e11_9, -⟩ := hkeep
          simp [go_sem, e1_8, e2_8, e5_8, e6_8, e7_8, e9_8, e10_8, e11_8, e20_8] at e1_9 e2_9 e5_9 e6_9 e7_9 e9_9 e10_9 e11_9
          clear e1_8 e2_8 e5_8 e6_8 e7_8 e9_8 e10_8 e11_8 e20_8
          refine Ends.mk ?_
          refine cutK_normal ⟨⟨by rw [e1_9, e1_7], by rw [e2_9, e2_7], by rw [e5_9, e5_7], by rw [e6_9, e6_7], by rw [e9_9, e9_7], by rw [e10_9, e10_7], by rw [e11_9, e11_7], trivial⟩, rfl, xq3, ?_⟩
          rw [hmx.choose_spec]; exact e7_9
        · skip
          refine Wp.seqRegion (.inl rfl) (by kernel_rfl) fun K' gd hK hg => ?_
          clear hg
          go_simp
          refine hK _ _ ?_
          clear hK K' gd
          refine Wp.keep [1, 2, 5, 6, 7, 9, 10, 11, 20] fun r10 hkeep => ?_
          obtain ⟨e1_10, e2_10, e5_10, e6_10, e7_10, e9_10, e10_10, e11_10, e20_10, -⟩ := hkeep
          simp [go_sem, e1_7, e2_7, e5_7, e6_7, e7_7, e9_7, e10_7, e11_7] at e1_10 e2_10 e5_10 e6_10 e7_10 e9_10 e10_10 e11_10 e20_10
          clear e7_7
          refine Wp.condF (by go_simp) ?_
          refine Wp.skip ?_
          refine cutK_normal ⟨⟨by rw [e1_10, e1_7], by rw [e2_10, e2_7], by rw [e5_10, e5_7], by rw [e6_10, e6_7], by rw [e9_10, e9_7], by rw [e10_10, e10_7], by rw [e11_10, e11_7], trivial⟩, rfl, xq3, ?_⟩
          rw [← hd1.choose_spec, if_neg h0]; exact e7_10
      · rintro r11 _ W3 ⟨hA, rfl, xq3, e7⟩
        obtain ⟨e1_11, e2_11, e5_11, e6_11, e9_11, e10_11, e11_11, -⟩ := hA
        rw [e1_7] at e1_11
        rw [e2_7] at e2_11
        rw [e5_7] at e5_11
        rw [e6_7] at e6_11
        rw [e9_7] at e9_11
        rw [e10_7] at e10_11
        rw [e11_7] at e11_11
        clear e1_7 e2_7 e5_7 e6_7 e7_7 e9_7 e10_7 e11_7
        have zxq3 := Below.size xq3
        replace f2 := Ext.fz xq3 c2_0 f2
        replace xw := Ext.trans xw xq3
        replace xl2 := Ext.trans xl2 xq3
        replace c2_0 := Ext.cell xq3 c2_0
        replace c2_1 := Ext.cell xq3 c2_1
        replace c2_2 := Ext.cell xq3 c2_2
        replace c2_3 := Ext.cell xq3 c2_3
        replace c2_4 := Ext.cell xq3 c2_4
        replace dk := Ext.cell xq3 dk
        refine thenK_normal ?_
        by_cases h2 : pn ≤ k
        · skip
          obtain ⟨q, hq⟩ : ∃ q : Nat, ∃ _u : Unit, q + pn = k := ⟨k - pn, (), by omega⟩
          have hqq := hq.choose_spec
          have dq := xw.cell (hc q (by omega))
          have hwq : IntKind.i64.wrap ((k : Int) - (pn : Int)) = (q : Int) := by rw [IntWalk.i64_in _ (by omega)]; omega
          have hql : (q : Int) < (fl.length : Int) := by omega
          have hqk : ∃ _u : Unit, k - pn = q := ⟨(), by omega⟩
          have hqi : InI (gI fl q) := hin.get (by omega)
          clear hqq
          refine Wp.seq ?_
          refine Wp.seqRegion (.inl rfl) (by kernel_rfl) fun K' gd hK hg => ?_
          clear hg
          go_simp
          refine hK _ _ ?_
          clear hK K' gd
          refine Wp.keep [1, 2, 5, 6, 7, 9, 10, 11, 32] fun r12 hkeep => ?_
          obtain ⟨e1_12, e2_12, e5_12, e6_12, e7_12, e9_12, e10_12, e11_12, e32_12, -⟩ := hkeep
          simp [go_sem, e1_11, e2_11, e5_11, e6_11, e7, e9_11, e10_11, e11_11] at e1_12 e2_12 e5_12 e6_12 e7_12 e9_12 e10_12 e11_12 e32_12
          clear e1_11 e2_11 e5_11 e6_11 e7 e9_11 e10_11 e11_11
          refine Wp.condT (by go_simp) ?_
          by_cases he : m.c.e ≤ gI fl q
          · skip
            refine Wp.seq ?_
            refine Wp.seqDraw (.inl rfl) mixed [([0, 1, 2, 3, 4], none), ([5, 6, 7, 8, 9], none), ([10, 11], none)] (by kernel_rfl) fun K' gd hK hg => ?_
            clear hg
            simp only [pick, nth, List.map_cons, List.map_nil, Option.map_none, Option.map_some]
            refine Mops.absD fun D4 hD4 zD4 => ?_
            replace f2 := Ext.fz hD4 c2_0 f2
            replace xw := Ext.trans xw hD4
            replace xl2 := Ext.trans xl2 hD4
            replace c2_0 := Ext.cell hD4 c2_0
            replace c2_1 := Ext.cell hD4 c2_1
            replace c2_2 := Ext.cell hD4 c2_2
            replace c2_3 := Ext.cell hD4 c2_3
            replace c2_4 := Ext.cell hD4 c2_4
            replace dk := Ext.cell hD4 dk
            replace dq := Ext.cell hD4 dq
            clear hD4
            apply Mops.none
            · intro w' hE'
              have hC' := hE'.cellsS
              go_simp
              with_reducible rfl
            apply Mops.none
            · intro w' hE'
              have hC' := hE'.cellsS
              go_simp
              with_reducible rfl
            apply Mops.none
            · intro w' hE'
              have hC' := hE'.cellsS
              go_simp
              with_reducible rfl
            refine Mops.done ?_
            refine hK _ _ ?_
            clear hK K' gd
            refine Wp.keep [1, 2, 5, 6, 7, 9, 10, 11, 44] fun r13 hkeep => ?_
            obtain ⟨e1_13, e2_13, e5_13, e6_13, e7_13, e9_13, e10_13, e11_13, e44_13, -⟩ := hkeep
            simp [go_sem, e1_12, e2_12, e5_12, e6_12, e7_12, e9_12, e10_12, e11_12, e32_12] at e1_13 e2_13 e5_13 e6_13 e7_13 e9_13 e10_13 e11_13 e44_13
            clear e1_12 e2_12 e5_12 e6_12 e7_12 e9_12 e10_12 e11_12 e32_12
            refine Wp.condT (by go_simp) ?_
            refine Wp.exit ?_
            refine thenK_exit ?_
            refine thenK_exit ?_
            refine blockK_here ?_
            refine thenK_normal ?_
            refine Wp.loneRegion (.inl rfl) (by kernel_rfl) fun K' gd hK hg => ?_
            clear hg
            go_simp
            refine hK _ _ ?_
            clear hK K' gd
            refine Ends.keep [1, 2, 9, 10, 11] fun r14 hkeep => ?_
            obtain ⟨e1_14, e2_14, e9_14, e10_14, e11_14, -⟩ := hkeep
            simp [go_sem, e1_13, e2_13, e5_13, e6_13, e7_13, e9_13, e10_13, e11_13, e44_13] at e1_14 e2_14 e9_14 e10_14 e11_14
            clear e1_13 e2_13 e5_13 e6_13 e7_13 e9_13 e10_13 e11_13 e44_13
            refine Ends.mk ?_
            refine thenK_normal ⟨by omega, ⟨by rw [e1_14, e1_3], by rw [e2_14, e2_3], by rw [e9_14, e9_3], by rw [e10_14, e10_3], trivial⟩, rfl, xl2, ?_⟩
            exact ⟨by rw [e11_14, IntWalk.i64_in _ (by omega)]; rfl, hnx (hres.2 (.inl ⟨h2, by rw [hqk.choose_spec]; exact he⟩))⟩
          · skip
            refine Wp.seq ?_
            refine Wp.seqDraw (.inl rfl) mixed [([0, 1, 2, 3, 4], none), ([5, 6, 7, 8, 9], none), ([10, 11], none)] (by kernel_rfl) fun K' gd hK hg => ?_
            clear hg
            simp only [pick, nth, List.map_cons, List.map_nil, Option.map_none, Option.map_some]
            refine Mops.absD fun D5 hD5 zD5 => ?_
            replace f2 := Ext.fz hD5 c2_0 f2
            replace xw := Ext.trans xw hD5
            replace xl2 := Ext.trans xl2 hD5
            replace c2_0 := Ext.cell hD5 c2_0
            replace c2_1 := Ext.cell hD5 c2_1
            replace c2_2 := Ext.cell hD5 c2_2
            replace c2_3 := Ext.cell hD5 c2_3
            replace c2_4 := Ext.cell hD5 c2_4
            replace dk := Ext.cell hD5 dk
            replace dq := Ext.cell hD5 dq
            clear hD5
            apply Mops.none
            · intro w' hE'
              have hC' := hE'.cellsS
              go_simp
              with_reducible rfl
            apply Mops.none
            · intro w' hE'
              have hC' := hE'.cellsS
              go_simp
              with_reducible rfl
            apply Mops.none
            · intro w' hE'
              have hC' := hE'.cellsS
              go_simp
              with_reducible rfl
            refine Mops.done ?_
            refine hK _ _ ?_
            clear hK K' gd
            refine Wp.keep [1, 2, 5, 6, 7, 9, 10, 11, 44] fun r15 hkeep => ?_
            obtain ⟨e1_15, e2_15, e5_15, e6_15, e7_15, e9_15, e10_15, e11_15, e44_15, -⟩ := hkeep
            simp [go_sem, e1_12, e2_12, e5_12, e6_12, e7_12, e9_12, e10_12, e11_12, e32_12] at e1_15 e2_15 e5_15 e6_15 e7_15 e9_15 e10_15 e11_15 e44_15
            clear e1_12 e2_12 e5_12 e6_12 e7_12 e9_12 e10_12 e11_12 e32_12
            refine Wp.condF (by go_simp) ?_
            have hmx : ∃ _u : Unit, (if d1 < gI fl q + 1 then gI fl q + 1 else d1) = d0 := ⟨(), by rw [hd01.choose_spec, if_pos h2, hqk.choose_spec, Int.max_def]; split <;> split <;> omega⟩
            refine Wp.skip ?_
            refine thenK_normal ?_
            refine Wp.loneRegion (.inl rfl) (by kernel_rfl) fun K' gd hK hg => ?_
            clear hg
            refine Wops.cut 10 fun K1 hK1 => ?_
            simp only [List.take_succ_cons, List.take_zero]
            go_simp
            refine Wcall (.inl rfl) (afterN_c _ (wrap_up hqi (by omega)) _) ?_
            rintro v w2 ⟨rfl, hE⟩
            go_simp
            refine hK1 _ _ ?_
            clear hK1 K1
            simp only [List.drop_succ_cons, List.drop_zero]
            have z16 := Below.size hE
            replace f2 := Ext.fz hE c2_0 f2
            replace xw := Ext.trans xw hE
            replace xl2 := Ext.trans xl2 hE
            replace c2_0 := Ext.cell hE c2_0
            replace c2_1 := Ext.cell hE c2_1
            replace c2_2 := Ext.cell hE c2_2
            replace c2_3 := Ext.cell hE c2_3
            replace c2_4 := Ext.cell hE c2_4
            replace dk := Ext.cell hE dk
            replace dq := Ext.cell hE dq
            clear hE
            go_simp
            refine hK _ _ ?_
            clear hK K' gd
            refine Ends.keep [1, 2, 5, 6, 7, 9, 10, 11] fun r17 hkeep => ?_
            obtain ⟨e1_17, e2_17, e5_17, e6_17, e7_17, e9_17, e10_17, e11_17, -⟩ := hkeep
            simp [go_sem, e1_15, e2_15, e5_15, e6_15, e7_15, e9_15, e10_15, e11_15, e44_15] at e1_17 e2_17 e5_17 e6_17 e7_17 e9_17 e10_17 e11_17
            clear e1_15 e2_15 e5_15 e6_15 e7_15 e9_15 e10_15 e11_15 e44_15
            refine Ends.mk ?_
            refine thenK_normal ?_
            refine Wp.seqRegion (.inl rfl) (by kernel_rfl) fun K' gd hK hg => ?_
            clear hg
            refine Wops.cut 4 fun K1 hK1 => ?_
            simp only [List.take_succ_cons, List.take_zero]
            go_simp
            refine Wcall (.inl rfl) (next_c _ m k _ _ (hV.ext xw) hm hkn) ?_
            rintro v w3 ⟨hv, hE⟩
            rw [hmx.choose_spec] at hv
            subst hv
            go_simp
            refine hK1 _ _ ?_
            clear hK1 K1
            simp only [List.drop_succ_cons, List.drop_zero]
            have z18 := Below.size hE
            replace f2 := Ext.fz hE c2_0 f2
            replace xw := Ext.trans xw hE
            replace xl2 := Ext.trans xl2 hE
            replace c2_0 := Ext.cell hE c2_0
            replace c2_1 := Ext.cell hE c2_1
            replace c2_2 := Ext.cell hE c2_2
            replace c2_3 := Ext.cell hE c2_3
            replace c2_4 := Ext.cell hE c2_4
            replace dk := Ext.cell hE dk
            replace dq := Ext.cell hE dq
            clear hE
            go_simp
            refine hK _ _ ?_
            clear hK K' gd
            refine Wp.keep [1, 2, 6, 8, 9, 10, 11] fun r19 hkeep => ?_
            obtain ⟨e1_19, e2_19, e6_19, e8_19, e9_19, e10_19, e11_19, -⟩ := hkeep
            simp [go_sem, e1_17, e2_17, e5_17, e6_17, e7_17, e9_17, e10_17, e11_17] at e1_19 e2_19 e6_19 e8_19 e9_19 e10_19 e11_19
            clear e1_17 e2_17 e5_17 e6_17 e7_17 e9_17 e10_17 e11_17
            by_cases hx : m.nx k d0 = 731
            · skip
              refine Wp.seqRegion (.inl rfl) (by kernel_rfl) fun K' gd hK hg => ?_
              have g2 : gd 2 = some 62 := hg 2
              clear hg
              go_simp
              refine hK _ _ ?_
              clear hK K' gd g2
              refine Wp.keep [1, 2, 9, 10, 11, 66] fun r20 hkeep => ?_
              obtain ⟨e1_20, e2_20, e9_20, e10_20, e11_20, e66_20, -⟩ := hkeep
              simp [go_sem, e1_19, e2_19, e6_19, e8_19, e9_19, e10_19, e11_19] at e1_20 e2_20 e9_20 e10_20 e11_20 e66_20
              clear e1_19 e2_19 e6_19 e8_19 e9_19 e10_19 e11_19
              refine Wp.condF (by go_simp) ?_
              refine Wp.skip ?_
              refine blockK_normal ?_
              refine thenK_normal ?_
              refine Wp.loneRegion (.inl rfl) (by kernel_rfl) fun K' gd hK hg => ?_
              clear hg
              go_simp
              refine hK _ _ ?_
              clear hK K' gd
              refine Ends.keep [1, 2, 9, 10, 11] fun r21 hkeep => ?_
              obtain ⟨e1_21, e2_21, e9_21, e10_21, e11_21, -⟩ := hkeep
              simp [go_sem, e1_20, e2_20, e9_20, e10_20, e11_20, e66_20] at e1_21 e2_21 e9_21 e10_21 e11_21
              clear e1_20 e2_20 e9_20 e10_20 e11_20 e66_20
              refine Ends.mk ?_
              refine thenK_normal ⟨by omega, ⟨by rw [e1_21, e1_3], by rw [e2_21, e2_3], by rw [e9_21, e9_3], by rw [e10_21, e10_3], trivial⟩, rfl, xl2, ?_⟩
              exact ⟨by rw [e11_21, IntWalk.i64_in _ (by omega)]; rfl, hnx (hres.2 (.inr (.inl hx)))⟩
            · skip
              by_cases hy : m.nx k d0 < gI fl k
              · skip
                refine Wp.seqRegion (.inl rfl) (by kernel_rfl) fun K' gd hK hg => ?_
                have g2 : gd 2 = some 62 := hg 2
                clear hg
                go_simp
                refine hK _ _ ?_
                clear hK K' gd g2
                refine Wp.keep [1, 2, 9, 10, 11, 66] fun r22 hkeep => ?_
                obtain ⟨e1_22, e2_22, e9_22, e10_22, e11_22, e66_22, -⟩ := hkeep
                simp [go_sem, e1_19, e2_19, e6_19, e8_19, e9_19, e10_19, e11_19] at e1_22 e2_22 e9_22 e10_22 e11_22 e66_22
                clear e1_19 e2_19 e6_19 e8_19 e9_19 e10_19 e11_19
                refine Wp.condT (by go_simp) ?_
                refine Wp.seqRegion (.inl rfl) (by kernel_rfl) fun K' gd hK hg => ?_
                clear hg
                go_simp
                refine hK _ _ ?_
                clear hK K' gd
                refine Wp.keep [4] fun r23 hkeep => ?_
                obtain ⟨e4_23, -⟩ := hkeep
                simp [go_sem, e1_22, e2_22, e9_22, e10_22, e11_22, e66_22] at e4_23
                clear e1_22 e2_22 e9_22 e10_22 e11_22 e66_22
                refine Wp.ret ?_
                refine blockK_ret ?_
                refine thenK_ret ?_
                refine thenK_ret ?_
                refine blockK_ret ?_
                refine thenK_ret ?_
                refine endK_tmp Try.results114 (by decide) ?_
                rw [e4_23]
                exact ⟨by rw [holdS_no h (fun q => by rcases hres.1 q with ⟨-, q⟩ | q | q; (rw [hqk.choose_spec] at q; exact he q); exact hx q; omega)], xw⟩
              · skip
                refine Wp.seqRegion (.inl rfl) (by kernel_rfl) fun K' gd hK hg => ?_
                have g2 : gd 2 = some 62 := hg 2
                clear hg
                go_simp
                refine hK _ _ ?_
                clear hK K' gd g2
                refine Wp.keep [1, 2, 9, 10, 11, 66] fun r24 hkeep => ?_
                obtain ⟨e1_24, e2_24, e9_24, e10_24, e11_24, e66_24, -⟩ := hkeep
                simp [go_sem, e1_19, e2_19, e6_19, e8_19, e9_19, e10_19, e11_19] at e1_24 e2_24 e9_24 e10_24 e11_24 e66_24
                clear e1_19 e2_19 e6_19 e8_19 e9_19 e10_19 e11_19
                refine Wp.condF (by go_simp) ?_
                refine Wp.skip ?_
                refine blockK_normal ?_
                refine thenK_normal ?_
                refine Wp.loneRegion (.inl rfl) (by kernel_rfl) fun K' gd hK hg => ?_
                clear hg
                go_simp
                refine hK _ _ ?_
                clear hK K' gd
                refine Ends.keep [1, 2, 9, 10, 11] fun r25 hkeep => ?_
                obtain ⟨e1_25, e2_25, e9_25, e10_25, e11_25, -⟩ := hkeep
                simp [go_sem, e1_24, e2_24, e9_24, e10_24, e11_24, e66_24] at e1_25 e2_25 e9_25 e10_25 e11_25
                clear e1_24 e2_24 e9_24 e10_24 e11_24 e66_24
                refine Ends.mk ?_
                refine thenK_normal ⟨by omega, ⟨by rw [e1_25, e1_3], by rw [e2_25, e2_3], by rw [e9_25, e9_3], by rw [e10_25, e10_3], trivial⟩, rfl, xl2, ?_⟩
                exact ⟨by rw [e11_25, IntWalk.i64_in _ (by omega)]; rfl, hnx (hres.2 (.inr (.inr (by omega))))⟩
        · skip
          have hd00 : ∃ _u : Unit, d1 = d0 := ⟨(), by rw [hd01.choose_spec, if_neg h2]⟩
          refine Wp.seq ?_
          refine Wp.seqRegion (.inl rfl) (by kernel_rfl) fun K' gd hK hg => ?_
          clear hg
          go_simp
          refine hK _ _ ?_
          clear hK K' gd
          refine Wp.keep [1, 2, 5, 6, 7, 9, 10, 11, 32] fun r26 hkeep => ?_
          obtain ⟨e1_26, e2_26, e5_26, e6_26, e7_26, e9_26, e10_26, e11_26, e32_26, -⟩ := hkeep
          simp [go_sem, e1_11, e2_11, e5_11, e6_11, e7, e9_11, e10_11, e11_11] at e1_26 e2_26 e5_26 e6_26 e7_26 e9_26 e10_26 e11_26 e32_26
          clear e1_11 e2_11 e5_11 e6_11 e7 e9_11 e10_11 e11_11
          refine Wp.condF (by go_simp) ?_
          refine Wp.skip ?_
          refine thenK_normal ?_
          refine Wp.seqRegion (.inl rfl) (by kernel_rfl) fun K' gd hK hg => ?_
          clear hg
          refine Wops.cut 4 fun K1 hK1 => ?_
          simp only [List.take_succ_cons, List.take_zero]
          go_simp
          refine Wcall (.inl rfl) (next_c _ m k _ _ (hV.ext xw) hm hkn) ?_
          rintro v w3 ⟨hv, hE⟩
          rw [hd00.choose_spec] at hv
          subst hv
          go_simp
          refine hK1 _ _ ?_
          clear hK1 K1
          simp only [List.drop_succ_cons, List.drop_zero]
          have z27 := Below.size hE
          replace f2 := Ext.fz hE c2_0 f2
          replace xw := Ext.trans xw hE
          replace xl2 := Ext.trans xl2 hE
          replace c2_0 := Ext.cell hE c2_0
          replace c2_1 := Ext.cell hE c2_1
          replace c2_2 := Ext.cell hE c2_2
          replace c2_3 := Ext.cell hE c2_3
          replace c2_4 := Ext.cell hE c2_4
          replace dk := Ext.cell hE dk
          clear hE
          go_simp
          refine hK _ _ ?_
          clear hK K' gd
          refine Wp.keep [1, 2, 6, 8, 9, 10, 11] fun r28 hkeep => ?_
          obtain ⟨e1_28, e2_28, e6_28, e8_28, e9_28, e10_28, e11_28, -⟩ := hkeep
          simp [go_sem, e1_26, e2_26, e5_26, e6_26, e7_26, e9_26, e10_26, e11_26, e32_26] at e1_28 e2_28 e6_28 e8_28 e9_28 e10_28 e11_28
          clear e1_26 e2_26 e5_26 e6_26 e7_26 e9_26 e10_26 e11_26 e32_26
          by_cases hx : m.nx k d0 = 731
          · skip
            refine Wp.seqRegion (.inl rfl) (by kernel_rfl) fun K' gd hK hg => ?_
            have g2 : gd 2 = some 62 := hg 2
            clear hg
            go_simp
            refine hK _ _ ?_
            clear hK K' gd g2
            refine Wp.keep [1, 2, 9, 10, 11, 66] fun r29 hkeep => ?_
            obtain ⟨e1_29, e2_29, e9_29, e10_29, e11_29, e66_29, -⟩ := hkeep
            simp [go_sem, e1_28, e2_28, e6_28, e8_28, e9_28, e10_28, e11_28] at e1_29 e2_29 e9_29 e10_29 e11_29 e66_29
            clear e1_28 e2_28 e6_28 e8_28 e9_28 e10_28 e11_28
            refine Wp.condF (by go_simp) ?_
            refine Wp.skip ?_
            refine blockK_normal ?_
            refine thenK_normal ?_
            refine Wp.loneRegion (.inl rfl) (by kernel_rfl) fun K' gd hK hg => ?_
            clear hg
            go_simp
            refine hK _ _ ?_
            clear hK K' gd
            refine Ends.keep [1, 2, 9, 10, 11] fun r30 hkeep => ?_
            obtain ⟨e1_30, e2_30, e9_30, e10_30, e11_30, -⟩ := hkeep
            simp [go_sem, e1_29, e2_29, e9_29, e10_29, e11_29, e66_29] at e1_30 e2_30 e9_30 e10_30 e11_30
            clear e1_29 e2_29 e9_29 e10_29 e11_29 e66_29
            refine Ends.mk ?_
            refine thenK_normal ⟨by omega, ⟨by rw [e1_30, e1_3], by rw [e2_30, e2_3], by rw [e9_30, e9_3], by rw [e10_30, e10_3], trivial⟩, rfl, xl2, ?_⟩
            exact ⟨by rw [e11_30, IntWalk.i64_in _ (by omega)]; rfl, hnx (hres.2 (.inr (.inl hx)))⟩
          · skip
            by_cases hy : m.nx k d0 < gI fl k
            · skip
              refine Wp.seqRegion (.inl rfl) (by kernel_rfl) fun K' gd hK hg => ?_
              have g2 : gd 2 = some 62 := hg 2
              clear hg
              go_simp
              refine hK _ _ ?_
              clear hK K' gd g2
              refine Wp.keep [1, 2, 9, 10, 11, 66] fun r31 hkeep => ?_
              obtain ⟨e1_31, e2_31, e9_31, e10_31, e11_31, e66_31, -⟩ := hkeep
              simp [go_sem, e1_28, e2_28, e6_28, e8_28, e9_28, e10_28, e11_28] at e1_31 e2_31 e9_31 e10_31 e11_31 e66_31
              clear e1_28 e2_28 e6_28 e8_28 e9_28 e10_28 e11_28
              refine Wp.condT (by go_simp) ?_
              refine Wp.seqRegion (.inl rfl) (by kernel_rfl) fun K' gd hK hg => ?_
              clear hg
              go_simp
              refine hK _ _ ?_
              clear hK K' gd
              refine Wp.keep [4] fun r32 hkeep => ?_
              obtain ⟨e4_32, -⟩ := hkeep
              simp [go_sem, e1_31, e2_31, e9_31, e10_31, e11_31, e66_31] at e4_32
              clear e1_31 e2_31 e9_31 e10_31 e11_31 e66_31
              refine Wp.ret ?_
              refine blockK_ret ?_
              refine thenK_ret ?_
              refine thenK_ret ?_
              refine blockK_ret ?_
              refine thenK_ret ?_
              refine endK_tmp Try.results114 (by decide) ?_
              rw [e4_32]
              exact ⟨by rw [holdS_no h (fun q => by rcases hres.1 q with ⟨q, -⟩ | q | q; exact h2 q; exact hx q; omega)], xw⟩
            · skip
              refine Wp.seqRegion (.inl rfl) (by kernel_rfl) fun K' gd hK hg => ?_
              have g2 : gd 2 = some 62 := hg 2
              clear hg
              go_simp
              refine hK _ _ ?_
              clear hK K' gd g2
              refine Wp.keep [1, 2, 9, 10, 11, 66] fun r33 hkeep => ?_
              obtain ⟨e1_33, e2_33, e9_33, e10_33, e11_33, e66_33, -⟩ := hkeep
              simp [go_sem, e1_28, e2_28, e6_28, e8_28, e9_28, e10_28, e11_28] at e1_33 e2_33 e9_33 e10_33 e11_33 e66_33
              clear e1_28 e2_28 e6_28 e8_28 e9_28 e10_28 e11_28
              refine Wp.condF (by go_simp) ?_
              refine Wp.skip ?_
              refine blockK_normal ?_
              refine thenK_normal ?_
              refine Wp.loneRegion (.inl rfl) (by kernel_rfl) fun K' gd hK hg => ?_
              clear hg
              go_simp
              refine hK _ _ ?_
              clear hK K' gd
              refine Ends.keep [1, 2, 9, 10, 11] fun r34 hkeep => ?_
              obtain ⟨e1_34, e2_34, e9_34, e10_34, e11_34, -⟩ := hkeep
              simp [go_sem, e1_33, e2_33, e9_33, e10_33, e11_33, e66_33] at e1_34 e2_34 e9_34 e10_34 e11_34
              clear e1_33 e2_33 e9_33 e10_33 e11_33 e66_33
              refine Ends.mk ?_
              refine thenK_normal ⟨by omega, ⟨by rw [e1_34, e1_3], by rw [e2_34, e2_3], by rw [e9_34, e9_3], by rw [e10_34, e10_3], trivial⟩, rfl, xl2, ?_⟩
              exact ⟨by rw [e11_34, IntWalk.i64_in _ (by omega)]; rfl, hnx (hres.2 (.inr (.inr (by omega))))⟩
    · refine Wp.condF (by go_simp) ?_
      obtain rfl : k = fl.length := by omega
      refine Wp.exit ?_
      refine thenK_exit ?_
      refine thenK_exit ?_
      refine blockK_here ?_
      refine thenK_normal ?_
      refine Wp.seqRegion (.inl rfl) (by kernel_rfl) fun K' gd hK hg => ?_
      clear hg
      go_simp
      refine hK _ _ ?_
      clear hK K' gd
      refine Wp.keep [4] fun r35 hkeep => ?_
      obtain ⟨e4_35, -⟩ := hkeep
      simp [go_sem, e1_5, e2_5, e9_5, e10_5, e11_5, e12_5] at e4_35
      clear e1_5 e2_5 e9_5 e10_5 e11_5 e12_5
      refine Wp.ret ?_
      refine endK_tmp Try.results114 (by decide) ?_
      rw [e4_35]
      exact ⟨by rw [show holdS m fl = true from decide_eq_true hH.choose_spec], xw⟩
theorem CheckFloors_c (v u fv : Value) (s : Sh) (c : Cp) (fl : List Int) (w : World) (hV : SheetV w w.heap.size v s) (hU : CopyV w w.heap.size u c) (hD : IntsV w w.heap.size fv fl) (hf : FitS s) (hg : FitC c) (hin : AllI fl) :
    CallsV Try.prog 65 #[v, u, fv] w fun v w' => v = .int .i64 (fproofE s c fl) ∧ Ext w w' := by
  obtain ⟨wv, av, rfl, ⟨A, c1, rfl, -, -⟩, ⟨A3, c3, rfl, -, -⟩⟩ := id hV
  obtain ⟨wu, rfl, ⟨A2, c2, rfl, -, -⟩⟩ := id hU
  obtain ⟨A4, c4, rfl, -, -⟩ := id hD
  refine Wp.fn Try.func65 rfl Try.ntmps65 (by simp) ?_
  have xw := Ext.refl w
  refine Wp.keep [0, 1, 2] fun r1 hkeep => ?_
  obtain ⟨e0_1, e1_1, e2_1, -⟩ := hkeep
  simp [go_sem] at e0_1 e1_1 e2_1
  refine Wp.seqRegion (.inl rfl) (by kernel_rfl) fun K' gd hK hg => ?_
  clear hg
  refine Wops.cut 1 fun K1 hK1 => ?_
  simp only [List.take_succ_cons, List.take_zero]
  go_simp
  refine hK1 _ _ ?_
  clear hK1 K1
  simp only [List.drop_succ_cons, List.drop_zero]
  refine Wops.absA fun V3_1 n3 hV3_1 => ?_
  obtain ⟨q3, hV3_1, s3, kV3_1, f3, r3⟩ := hV3_1
  try simp only [q3] at kV3_1 f3 r3 ⊢
  replace xw := Ext.trans xw hV3_1
  have c3_0 := kV3_1 0 _ rfl
  have c3_1 := kV3_1 1 _ rfl
  clear kV3_1 hV3_1
  clear r3
  refine Wops.cut 1 fun K1 hK1 => ?_
  simp only [List.take_succ_cons, List.take_zero]
  go_simp
  refine hK1 _ _ ?_
  clear hK1 K1
  simp only [List.drop_succ_cons, List.drop_zero]
  refine Wops.absA fun V4_2 n4 hV4_2 => ?_
  obtain ⟨q4, hV4_2, s4, kV4_2, f4, r4⟩ := hV4_2
  try simp only [q4] at kV4_2 f4 r4 ⊢
  replace f3 := Ext.fz hV4_2 c3_0 f3
  replace xw := Ext.trans xw hV4_2
  replace c3_0 := Ext.cell hV4_2 c3_0
  replace c3_1 := Ext.cell hV4_2 c3_1
  have c4_0 := kV4_2 0 _ rfl
  have c4_1 := kV4_2 1 _ rfl
  have c4_2 := kV4_2 2 _ rfl
  have c4_3 := kV4_2 3 _ rfl
  clear kV4_2 hV4_2
  clear r4
  go_simp
  refine hK _ _ ?_
  clear hK K' gd
  refine Wp.keep [2, 3, 4] fun r2 hkeep => ?_
  obtain ⟨e2_2, e3_2, e4_2, -⟩ := hkeep
  simp [go_sem, e0_1, e1_1, e2_1] at e2_2 e3_2 e4_2
  clear e0_1 e1_1 e2_1
  refine Wp.seq ?_
  refine Wp.seqRegion (.inl rfl) (by kernel_rfl) fun K' gd hK hg => ?_
  clear hg
  refine Wops.cut 3 fun K1 hK1 => ?_
  simp only [List.take_succ_cons, List.take_zero]
  go_simp
  refine Wcall (.inl rfl) (copy_c _ _ s c _ (hV.ext xw) (hU.ext xw) hf hg) ?_
  rintro v w2 ⟨rfl, hE⟩
  go_simp
  refine hK1 _ _ ?_
  clear hK1 K1
  simp only [List.drop_succ_cons, List.drop_zero]
  have z3 := Below.size hE
  replace f3 := Ext.fz hE c3_0 f3
  replace f4 := Ext.fz hE c4_0 f4
  replace xw := Ext.trans xw hE
  replace c3_0 := Ext.cell hE c3_0
  replace c3_1 := Ext.cell hE c3_1
  replace c4_0 := Ext.cell hE c4_0
  replace c4_1 := Ext.cell hE c4_1
  replace c4_2 := Ext.cell hE c4_2
  replace c4_3 := Ext.cell hE c4_3
  clear hE
  go_simp
  refine hK _ _ ?_
  clear hK K' gd
  refine Wp.keep [2, 3, 4, 7] fun r4 hkeep => ?_
  obtain ⟨e2_4, e3_4, e4_4, e7_4, -⟩ := hkeep
  simp [go_sem, e2_2, e3_2, e4_2] at e2_4 e3_4 e4_4 e7_4
  clear e2_2 e3_2 e4_2
  by_cases h0 : copyS s c = 0
  · skip
    refine Wp.seqRegion (.inl rfl) (by kernel_rfl) fun K' gd hK hg => ?_
    clear hg
    go_simp
    refine hK _ _ ?_
    clear hK K' gd
    refine Wp.keep [2, 3, 4, 7, 12] fun r5 hkeep => ?_
    obtain ⟨e2_5, e3_5, e4_5, e7_5, e12_5, -⟩ := hkeep
    simp [go_sem, e2_4, e3_4, e4_4, e7_4] at e2_5 e3_5 e4_5 e7_5 e12_5
    clear e2_4 e3_4 e4_4 e7_4
    refine Wp.condF (by go_simp) ?_
    obtain ⟨hg0, hv0⟩ := copyS_zero.1 h0
    have hgd := checkS_zero.1 hg0
    have hmk := hgd.mdOk hv0
    have hcn : ∃ _u : Unit, (s.md c).n = s.words.length := ⟨(), hv0.1⟩
    by_cases hl : 1 ≤ (fl.length : Int) ∧ (fl.length : Int) ≤ (s.words.length : Int)
    · skip
      refine Wp.skip ?_
      refine thenK_normal ?_
      refine Wp.seq ?_
      refine Wp.seqRegion (.inl rfl) (by kernel_rfl) fun K' gd hK hg => ?_
      clear hg
      refine Wops.cut 6 fun K1 hK1 => ?_
      simp only [List.take_succ_cons, List.take_zero]
      go_simp
      refine Wcall (.inl rfl) (within_T hl _) ?_
      rintro v w3 ⟨rfl, hE⟩
      go_simp
      refine hK1 _ _ ?_
      clear hK1 K1
      simp only [List.drop_succ_cons, List.drop_zero]
      have z6 := Below.size hE
      replace f3 := Ext.fz hE c3_0 f3
      replace f4 := Ext.fz hE c4_0 f4
      replace xw := Ext.trans xw hE
      replace c3_0 := Ext.cell hE c3_0
      replace c3_1 := Ext.cell hE c3_1
      replace c4_0 := Ext.cell hE c4_0
      replace c4_1 := Ext.cell hE c4_1
      replace c4_2 := Ext.cell hE c4_2
      replace c4_3 := Ext.cell hE c4_3
      clear hE
      go_simp
      refine hK _ _ ?_
      clear hK K' gd
      refine Wp.keep [2, 3, 4, 20] fun r7 hkeep => ?_
      obtain ⟨e2_7, e3_7, e4_7, e20_7, -⟩ := hkeep
      simp [go_sem, e2_5, e3_5, e4_5, e7_5, e12_5] at e2_7 e3_7 e4_7 e20_7
      clear e2_5 e3_5 e4_5 e7_5 e12_5
      refine Wp.condF (by go_simp) ?_
      refine Wp.skip ?_
      refine thenK_normal ?_
      refine Wp.seq ?_
      refine Wp.seqRegion (.inl rfl) (by kernel_rfl) fun K' gd hK hg => ?_
      clear hg
      refine Wops.cut 3 fun K1 hK1 => ?_
      simp only [List.take_succ_cons, List.take_zero]
      go_simp
      refine Wcall (.inl rfl) (madeOf_c _ _ s c _ (hV.ext xw) (hU.ext xw) hgd hv0) ?_
      rintro v w4 ⟨hM, hE⟩
      obtain ⟨A5, c5, A6, c6, rfl⟩ := hM.five
      go_simp
      refine hK1 _ _ ?_
      clear hK1 K1
      simp only [List.drop_succ_cons, List.drop_zero]
      have z8 := Below.size hE
      replace f3 := Ext.fz hE c3_0 f3
      replace f4 := Ext.fz hE c4_0 f4
      replace xw := Ext.trans xw hE
      replace c3_0 := Ext.cell hE c3_0
      replace c3_1 := Ext.cell hE c3_1
      replace c4_0 := Ext.cell hE c4_0
      replace c4_1 := Ext.cell hE c4_1
      replace c4_2 := Ext.cell hE c4_2
      replace c4_3 := Ext.cell hE c4_3
      clear hE
      refine Wops.cut 2 fun K1 hK1 => ?_
      simp only [List.take_succ_cons, List.take_zero]
      go_simp
      refine Wcall (.inl rfl) (hold_c _ _ (s.md c) fl _ hM (hD.ext xw) hmk (by have := hcn.choose_spec; omega) hin) ?_
      rintro v w5 ⟨rfl, hE⟩
      go_simp
      refine hK1 _ _ ?_
      clear hK1 K1
      simp only [List.drop_succ_cons, List.drop_zero]
      have z9 := Below.size hE
      replace f3 := Ext.fz hE c3_0 f3
      replace f4 := Ext.fz hE c4_0 f4
      replace hM := hM.ext hE
      replace xw := Ext.trans xw hE
      replace c3_0 := Ext.cell hE c3_0
      replace c3_1 := Ext.cell hE c3_1
      replace c4_0 := Ext.cell hE c4_0
      replace c4_1 := Ext.cell hE c4_1
      replace c4_2 := Ext.cell hE c4_2
      replace c4_3 := Ext.cell hE c4_3
      clear hE
      go_simp
      refine hK _ _ ?_
      clear hK K' gd
      refine Wp.keep [26] fun r10 hkeep => ?_
      obtain ⟨e26_10, -⟩ := hkeep
      simp [go_sem, e2_7, e3_7, e4_7, e20_7] at e26_10
      clear e2_7 e3_7 e4_7 e20_7
      have hl2 : 1 ≤ fl.length ∧ fl.length ≤ s.n := by unfold Sh.n; omega
      by_cases hh : holdS (s.md c) fl = true
      · skip
        refine Wp.condF (by go_simp) ?_
        refine Wp.skip ?_
        refine thenK_normal ?_
        refine Wp.seqRegion (.inl rfl) (by kernel_rfl) fun K' gd hK hg => ?_
        clear hg
        go_simp
        refine hK _ _ ?_
        clear hK K' gd
        refine Wp.keep [6] fun r11 hkeep => ?_
        obtain ⟨e6_11, -⟩ := hkeep
        simp [go_sem, e26_10] at e6_11
        clear e26_10
        refine Wp.ret ?_
        refine endK_tmp Try.results65 (by decide) ?_
        rw [e6_11]
        exact ⟨by unfold fproofE; rw [if_pos h0, if_pos hl2, if_pos hh], xw⟩
      · skip
        refine Wp.condT (by go_simp) ?_
        refine Wp.seqRegion (.inl rfl) (by kernel_rfl) fun K' gd hK hg => ?_
        clear hg
        go_simp
        refine hK _ _ ?_
        clear hK K' gd
        refine Wp.keep [6] fun r12 hkeep => ?_
        obtain ⟨e6_12, -⟩ := hkeep
        simp [go_sem, e26_10] at e6_12
        clear e26_10
        refine Wp.ret ?_
        refine thenK_ret ?_
        refine endK_tmp Try.results65 (by decide) ?_
        rw [e6_12]
        exact ⟨by unfold fproofE; rw [if_pos h0, if_pos hl2, if_neg hh], xw⟩
    · skip
      refine Wp.skip ?_
      refine thenK_normal ?_
      refine Wp.seq ?_
      refine Wp.seqRegion (.inl rfl) (by kernel_rfl) fun K' gd hK hg => ?_
      clear hg
      refine Wops.cut 6 fun K1 hK1 => ?_
      simp only [List.take_succ_cons, List.take_zero]
      go_simp
      refine Wcall (.inl rfl) (within_F hl _) ?_
      rintro v w3 ⟨rfl, hE⟩
      go_simp
      refine hK1 _ _ ?_
      clear hK1 K1
      simp only [List.drop_succ_cons, List.drop_zero]
      have z13 := Below.size hE
      replace f3 := Ext.fz hE c3_0 f3
      replace f4 := Ext.fz hE c4_0 f4
      replace xw := Ext.trans xw hE
      replace c3_0 := Ext.cell hE c3_0
      replace c3_1 := Ext.cell hE c3_1
      replace c4_0 := Ext.cell hE c4_0
      replace c4_1 := Ext.cell hE c4_1
      replace c4_2 := Ext.cell hE c4_2
      replace c4_3 := Ext.cell hE c4_3
      clear hE
      go_simp
      refine hK _ _ ?_
      clear hK K' gd
      refine Wp.keep [2, 3, 4, 20] fun r14 hkeep => ?_
      obtain ⟨e2_14, e3_14, e4_14, e20_14, -⟩ := hkeep
      simp [go_sem, e2_5, e3_5, e4_5, e7_5, e12_5] at e2_14 e3_14 e4_14 e20_14
      clear e2_5 e3_5 e4_5 e7_5 e12_5
      refine Wp.condT (by go_simp) ?_
      refine Wp.seqRegion (.inl rfl) (by kernel_rfl) fun K' gd hK hg => ?_
      clear hg
      go_simp
      refine hK _ _ ?_
      clear hK K' gd
      refine Wp.keep [6] fun r15 hkeep => ?_
      obtain ⟨e6_15, -⟩ := hkeep
      simp [go_sem, e2_14, e3_14, e4_14, e20_14] at e6_15
      clear e2_14 e3_14 e4_14 e20_14
      refine Wp.ret ?_
      refine thenK_ret ?_
      refine endK_tmp Try.results65 (by decide) ?_
      rw [e6_15]
      exact ⟨by unfold fproofE; rw [if_pos h0, if_neg (by unfold Sh.n; omega)], xw⟩
  · skip
    refine Wp.seqRegion (.inl rfl) (by kernel_rfl) fun K' gd hK hg => ?_
    clear hg
    go_simp
    refine hK _ _ ?_
    clear hK K' gd
    refine Wp.keep [2, 3, 4, 7, 12] fun r16 hkeep => ?_
    obtain ⟨e2_16, e3_16, e4_16, e7_16, e12_16, -⟩ := hkeep
    simp [go_sem, e2_4, e3_4, e4_4, e7_4] at e2_16 e3_16 e4_16 e7_16 e12_16
    clear e2_4 e3_4 e4_4 e7_4
    refine Wp.condT (by go_simp) ?_
    refine Wp.seqRegion (.inl rfl) (by kernel_rfl) fun K' gd hK hg => ?_
    clear hg
    go_simp
    refine hK _ _ ?_
    clear hK K' gd
    refine Wp.keep [6] fun r17 hkeep => ?_
    obtain ⟨e6_17, -⟩ := hkeep
    simp [go_sem, e2_16, e3_16, e4_16, e7_16, e12_16] at e6_17
    clear e2_16 e3_16 e4_16 e7_16 e12_16
    refine Wp.ret ?_
    refine thenK_ret ?_
    refine endK_tmp Try.results65 (by decide) ?_
    rw [e6_17]
    exact ⟨by unfold fproofE; rw [if_neg h0], xw⟩
theorem CheckClash_c (v u fv : Value) (s : Sh) (c : Cp) (fl : List Int) (w : World) (hV : SheetV w w.heap.size v s) (hU : CopyV w w.heap.size u c) (hD : IntsV w w.heap.size fv fl) (hf : FitS s) (hg : FitC c) (hin : AllI fl) :
    CallsV Try.prog 60 #[v, u, fv] w fun v w' => v = .int .i64 (fclashE s c fl) ∧ Ext w w' := by
  obtain ⟨wv, av, rfl, ⟨A, c1, rfl, -, -⟩, ⟨A3, c3, rfl, -, -⟩⟩ := id hV
  obtain ⟨wu, rfl, ⟨A2, c2, rfl, -, -⟩⟩ := id hU
  obtain ⟨A4, c4, rfl, -, -⟩ := id hD
  refine Wp.fn Try.func60 rfl Try.ntmps60 (by simp) ?_
  have xw := Ext.refl w
  refine Wp.keep [0, 1, 2] fun r1 hkeep => ?_
  obtain ⟨e0_1, e1_1, e2_1, -⟩ := hkeep
  simp [go_sem] at e0_1 e1_1 e2_1
  refine Wp.seqRegion (.inl rfl) (by kernel_rfl) fun K' gd hK hg => ?_
  clear hg
  refine Wops.cut 1 fun K1 hK1 => ?_
  simp only [List.take_succ_cons, List.take_zero]
  go_simp
  refine hK1 _ _ ?_
  clear hK1 K1
  simp only [List.drop_succ_cons, List.drop_zero]
  refine Wops.absA fun V3_1 n3 hV3_1 => ?_
  obtain ⟨q3, hV3_1, s3, kV3_1, f3, r3⟩ := hV3_1
  try simp only [q3] at kV3_1 f3 r3 ⊢
  replace xw := Ext.trans xw hV3_1
  have c3_0 := kV3_1 0 _ rfl
  have c3_1 := kV3_1 1 _ rfl
  clear kV3_1 hV3_1
  clear r3
  refine Wops.cut 1 fun K1 hK1 => ?_
  simp only [List.take_succ_cons, List.take_zero]
  go_simp
  refine hK1 _ _ ?_
  clear hK1 K1
  simp only [List.drop_succ_cons, List.drop_zero]
  refine Wops.absA fun V4_2 n4 hV4_2 => ?_
  obtain ⟨q4, hV4_2, s4, kV4_2, f4, r4⟩ := hV4_2
  try simp only [q4] at kV4_2 f4 r4 ⊢
  replace f3 := Ext.fz hV4_2 c3_0 f3
  replace xw := Ext.trans xw hV4_2
  replace c3_0 := Ext.cell hV4_2 c3_0
  replace c3_1 := Ext.cell hV4_2 c3_1
  have c4_0 := kV4_2 0 _ rfl
  have c4_1 := kV4_2 1 _ rfl
  have c4_2 := kV4_2 2 _ rfl
  have c4_3 := kV4_2 3 _ rfl
  clear kV4_2 hV4_2
  clear r4
  go_simp
  refine hK _ _ ?_
  clear hK K' gd
  refine Wp.keep [2, 3, 4] fun r2 hkeep => ?_
  obtain ⟨e2_2, e3_2, e4_2, -⟩ := hkeep
  simp [go_sem, e0_1, e1_1, e2_1] at e2_2 e3_2 e4_2
  clear e0_1 e1_1 e2_1
  refine Wp.seq ?_
  refine Wp.seqRegion (.inl rfl) (by kernel_rfl) fun K' gd hK hg => ?_
  clear hg
  refine Wops.cut 4 fun K1 hK1 => ?_
  simp only [List.take_succ_cons, List.take_zero]
  go_simp
  refine Wcall (.inl rfl) (CheckFloors_c _ _ _ s c fl _ (hV.ext xw) (hU.ext xw) (hD.ext xw) hf hg hin) ?_
  rintro v w2 ⟨rfl, hE⟩
  go_simp
  refine hK1 _ _ ?_
  clear hK1 K1
  simp only [List.drop_succ_cons, List.drop_zero]
  have z3 := Below.size hE
  replace f3 := Ext.fz hE c3_0 f3
  replace f4 := Ext.fz hE c4_0 f4
  replace xw := Ext.trans xw hE
  replace c3_0 := Ext.cell hE c3_0
  replace c3_1 := Ext.cell hE c3_1
  replace c4_0 := Ext.cell hE c4_0
  replace c4_1 := Ext.cell hE c4_1
  replace c4_2 := Ext.cell hE c4_2
  replace c4_3 := Ext.cell hE c4_3
  clear hE
  go_simp
  refine hK _ _ ?_
  clear hK K' gd
  refine Wp.keep [2, 4, 7] fun r4 hkeep => ?_
  obtain ⟨e2_4, e4_4, e7_4, -⟩ := hkeep
  simp [go_sem, e2_2, e3_2, e4_2] at e2_4 e4_4 e7_4
  clear e2_2 e3_2 e4_2
  by_cases h0 : fproofE s c fl = 0
  · skip
    refine Wp.seqRegion (.inl rfl) (by kernel_rfl) fun K' gd hK hg => ?_
    clear hg
    go_simp
    refine hK _ _ ?_
    clear hK K' gd
    refine Wp.keep [2, 4, 7, 13] fun r5 hkeep => ?_
    obtain ⟨e2_5, e4_5, e7_5, e13_5, -⟩ := hkeep
    simp [go_sem, e2_4, e4_4, e7_4] at e2_5 e4_5 e7_5 e13_5
    clear e2_4 e4_4 e7_4
    refine Wp.condF (by go_simp) ?_
    obtain ⟨q1, ⟨hl1, hl2⟩, -⟩ := fproofE_zero.1 h0
    obtain ⟨hg0, -⟩ := copyS_zero.1 q1
    have hgd := checkS_zero.1 hg0
    have hn40 := hgd.n2
    obtain ⟨k, hk⟩ : ∃ k : Nat, ∃ _u : Unit, k + 1 = fl.length := ⟨fl.length - 1, (), by omega⟩
    have hkk := hk.choose_spec
    obtain ⟨b, o, c6, e1, hb, hc⟩ := hD.get (k := k) (by omega)
    injection e1 with e1 _ e2
    subst e1
    subst e2
    have dk := xw.cell (hc k (by omega))
    have hwk : IntKind.i64.wrap ((fl.length : Int) - 1) = (k : Int) := by rw [IntWalk.i64_in _ (by omega)]; omega
    have hkl : (k : Int) < (fl.length : Int) := by omega
    have hkz : ∃ _u : Unit, fl.length - 1 = k := ⟨(), by omega⟩
    clear hkk q1 hl1 hl2
    by_cases he : gI fl k ≤ c.e
    · skip
      refine Wp.skip ?_
      refine thenK_normal ?_
      refine Wp.seq ?_
      refine Wp.seqDraw (.inl rfl) mixed [([0, 1, 2, 3, 4], none), ([5, 6, 7, 8], none)] (by kernel_rfl) fun K' gd hK hg => ?_
      clear hg
      simp only [pick, nth, List.map_cons, List.map_nil, Option.map_none, Option.map_some]
      refine Mops.absD fun D3 hD3 zD3 => ?_
      replace f3 := Ext.fz hD3 c3_0 f3
      replace f4 := Ext.fz hD3 c4_0 f4
      replace xw := Ext.trans xw hD3
      replace c3_0 := Ext.cell hD3 c3_0
      replace c3_1 := Ext.cell hD3 c3_1
      replace c4_0 := Ext.cell hD3 c4_0
      replace c4_1 := Ext.cell hD3 c4_1
      replace c4_2 := Ext.cell hD3 c4_2
      replace c4_3 := Ext.cell hD3 c4_3
      replace dk := Ext.cell hD3 dk
      clear hD3
      apply Mops.none
      · intro w' hE'
        have hC' := hE'.cellsS
        go_simp
        with_reducible rfl
      apply Mops.none
      · intro w' hE'
        have hC' := hE'.cellsS
        go_simp
        with_reducible rfl
      refine Mops.done ?_
      refine hK _ _ ?_
      clear hK K' gd
      refine Wp.keep [23] fun r6 hkeep => ?_
      obtain ⟨e23_6, -⟩ := hkeep
      simp [go_sem, e2_5, e4_5, e7_5, e13_5] at e23_6
      clear e2_5 e4_5 e7_5 e13_5
      refine Wp.condT (by go_simp) ?_
      refine Wp.seqRegion (.inl rfl) (by kernel_rfl) fun K' gd hK hg => ?_
      clear hg
      go_simp
      refine hK _ _ ?_
      clear hK K' gd
      refine Wp.keep [6] fun r7 hkeep => ?_
      obtain ⟨e6_7, -⟩ := hkeep
      simp [go_sem, e23_6] at e6_7
      clear e23_6
      refine Wp.ret ?_
      refine thenK_ret ?_
      refine endK_tmp Try.results60 (by decide) ?_
      rw [e6_7]
      exact ⟨by unfold fclashE; rw [if_pos h0, hkz.choose_spec, if_pos he], xw⟩
    · skip
      refine Wp.skip ?_
      refine thenK_normal ?_
      refine Wp.seq ?_
      refine Wp.seqDraw (.inl rfl) mixed [([0, 1, 2, 3, 4], none), ([5, 6, 7, 8], none)] (by kernel_rfl) fun K' gd hK hg => ?_
      clear hg
      simp only [pick, nth, List.map_cons, List.map_nil, Option.map_none, Option.map_some]
      refine Mops.absD fun D4 hD4 zD4 => ?_
      replace f3 := Ext.fz hD4 c3_0 f3
      replace f4 := Ext.fz hD4 c4_0 f4
      replace xw := Ext.trans xw hD4
      replace c3_0 := Ext.cell hD4 c3_0
      replace c3_1 := Ext.cell hD4 c3_1
      replace c4_0 := Ext.cell hD4 c4_0
      replace c4_1 := Ext.cell hD4 c4_1
      replace c4_2 := Ext.cell hD4 c4_2
      replace c4_3 := Ext.cell hD4 c4_3
      replace dk := Ext.cell hD4 dk
      clear hD4
      apply Mops.none
      · intro w' hE'
        have hC' := hE'.cellsS
        go_simp
        with_reducible rfl
      apply Mops.none
      · intro w' hE'
        have hC' := hE'.cellsS
        go_simp
        with_reducible rfl
      refine Mops.done ?_
      refine hK _ _ ?_
      clear hK K' gd
      refine Wp.keep [23] fun r8 hkeep => ?_
      obtain ⟨e23_8, -⟩ := hkeep
      simp [go_sem, e2_5, e4_5, e7_5, e13_5] at e23_8
      clear e2_5 e4_5 e7_5 e13_5
      refine Wp.condF (by go_simp) ?_
      refine Wp.skip ?_
      refine thenK_normal ?_
      refine Wp.seqRegion (.inl rfl) (by kernel_rfl) fun K' gd hK hg => ?_
      clear hg
      go_simp
      refine hK _ _ ?_
      clear hK K' gd
      refine Wp.keep [6] fun r9 hkeep => ?_
      obtain ⟨e6_9, -⟩ := hkeep
      simp [go_sem, e23_8] at e6_9
      clear e23_8
      refine Wp.ret ?_
      refine endK_tmp Try.results60 (by decide) ?_
      rw [e6_9]
      exact ⟨by unfold fclashE; rw [if_pos h0, hkz.choose_spec, if_neg he], xw⟩
  · skip
    refine Wp.seqRegion (.inl rfl) (by kernel_rfl) fun K' gd hK hg => ?_
    clear hg
    go_simp
    refine hK _ _ ?_
    clear hK K' gd
    refine Wp.keep [2, 4, 7, 13] fun r10 hkeep => ?_
    obtain ⟨e2_10, e4_10, e7_10, e13_10, -⟩ := hkeep
    simp [go_sem, e2_4, e4_4, e7_4] at e2_10 e4_10 e7_10 e13_10
    clear e2_4 e4_4 e7_4
    refine Wp.condT (by go_simp) ?_
    refine Wp.seqRegion (.inl rfl) (by kernel_rfl) fun K' gd hK hg => ?_
    clear hg
    go_simp
    refine hK _ _ ?_
    clear hK K' gd
    refine Wp.keep [6] fun r11 hkeep => ?_
    obtain ⟨e6_11, -⟩ := hkeep
    simp [go_sem, e2_10, e4_10, e7_10, e13_10] at e6_11
    clear e2_10 e4_10 e7_10 e13_10
    refine Wp.ret ?_
    refine thenK_ret ?_
    refine endK_tmp Try.results60 (by decide) ?_
    rw [e6_11]
    exact ⟨by unfold fclashE; rw [if_neg h0], xw⟩
end Go.Proofs.Ytnjajbkkgfohaaa
namespace Go.Proofs.Ytnjajbkkgfohaaa
open Go.RowKit Go.Wk Go.Proofs
attribute [local irreducible] Go.Wk.Wops Go.Wk.Wp Go.Wk.Mtree Go.Wk.Mops
set_option maxHeartbeats 8000000
set_option maxRecDepth 20000

theorem toD_eq {e : Int} {pn : Nat} (hp : 1 ≤ pn) (l : List Int) (i : Nat) : toD e pn (l.drop (i + 1)) = if i + pn < l.length then min (if i + 1 < l.length then min e (gI l (i + 1)) else e) (gI l (i + pn) - 1) else (if i + 1 < l.length then min e (gI l (i + 1)) else e) := by
  have hdl : (l.drop (i + 1)).length = l.length - (i + 1) := List.length_drop
  unfold toD
  rw [gI_drop, gI_drop, show i + 1 + (pn - 1) = i + pn by omega, Nat.add_zero]
  by_cases a : i + pn < l.length <;> by_cases c : i + 1 < l.length
  · rw [if_pos (by omega), if_pos (by omega), if_pos a, if_pos c]
  · omega
  · rw [if_neg (by omega), if_pos (by omega), if_neg a, if_pos c]
  · rw [if_neg (by omega), if_neg (by omega), if_neg a, if_neg c]
theorem CheckCeilings_c (v u fv : Value) (s : Sh) (c : Cp) (cl : List Int) (w : World) (hV : SheetV w w.heap.size v s) (hU : CopyV w w.heap.size u c) (hD : IntsV w w.heap.size fv cl) (hf : FitS s) (hg : FitC c) (hin : AllI cl) :
    CallsV Try.prog 66 #[v, u, fv] w fun v w' => v = .int .i64 (cproofE s c cl) ∧ Ext w w' := by
  obtain ⟨wv, av, rfl, ⟨A, c1, rfl, -, -⟩, ⟨A3, c3, rfl, -, -⟩⟩ := id hV
  obtain ⟨wu, rfl, hW⟩ := id hU
  obtain ⟨A2, c2, rfl, -, -⟩ := id hW
  obtain ⟨A4, c4, rfl, -, -⟩ := id hD
  refine Wp.fn Try.func66 rfl Try.ntmps66 (by simp) ?_
  have xw := Ext.refl w
  refine Wp.keep [0, 1, 2] fun r1 hkeep => ?_
  obtain ⟨e0_1, e1_1, e2_1, -⟩ := hkeep
  simp [go_sem] at e0_1 e1_1 e2_1
  refine Wp.seqRegion (.inl rfl) (by kernel_rfl) fun K' gd hK hg => ?_
  clear hg
  refine Wops.cut 1 fun K1 hK1 => ?_
  simp only [List.take_succ_cons, List.take_zero]
  go_simp
  refine hK1 _ _ ?_
  clear hK1 K1
  simp only [List.drop_succ_cons, List.drop_zero]
  refine Wops.absA fun V3_1 n3 hV3_1 => ?_
  obtain ⟨q3, hV3_1, s3, kV3_1, f3, r3⟩ := hV3_1
  try simp only [q3] at kV3_1 f3 r3 ⊢
  replace xw := Ext.trans xw hV3_1
  have c3_0 := kV3_1 0 _ rfl
  have c3_1 := kV3_1 1 _ rfl
  clear kV3_1 hV3_1
  clear r3
  refine Wops.cut 1 fun K1 hK1 => ?_
  simp only [List.take_succ_cons, List.take_zero]
  go_simp
  refine hK1 _ _ ?_
  clear hK1 K1
  simp only [List.drop_succ_cons, List.drop_zero]
  refine Wops.absA fun V4_2 n4 hV4_2 => ?_
  obtain ⟨q4, hV4_2, s4, kV4_2, f4, r4⟩ := hV4_2
  try simp only [q4] at kV4_2 f4 r4 ⊢
  replace f3 := Ext.fz hV4_2 c3_0 f3
  replace xw := Ext.trans xw hV4_2
  replace c3_0 := Ext.cell hV4_2 c3_0
  replace c3_1 := Ext.cell hV4_2 c3_1
  have c4_0 := kV4_2 0 _ rfl
  have c4_1 := kV4_2 1 _ rfl
  have c4_2 := kV4_2 2 _ rfl
  have c4_3 := kV4_2 3 _ rfl
  clear kV4_2 hV4_2
  clear r4
  go_simp
  refine hK _ _ ?_
  clear hK K' gd
  refine Wp.keep [2, 3, 4] fun r2 hkeep => ?_
  obtain ⟨e2_2, e3_2, e4_2, -⟩ := hkeep
  simp [go_sem, e0_1, e1_1, e2_1] at e2_2 e3_2 e4_2
  clear e0_1 e1_1 e2_1
  refine Wp.seq ?_
  refine Wp.seqRegion (.inl rfl) (by kernel_rfl) fun K' gd hK hg => ?_
  clear hg
  refine Wops.cut 3 fun K1 hK1 => ?_
  simp only [List.take_succ_cons, List.take_zero]
  go_simp
  refine Wcall (.inl rfl) (copy_c _ _ s c _ (hV.ext xw) (hU.ext xw) hf hg) ?_
  rintro v w2 ⟨rfl, hE⟩
  go_simp
  refine hK1 _ _ ?_
  clear hK1 K1
  simp only [List.drop_succ_cons, List.drop_zero]
  have z3 := Below.size hE
  replace f3 := Ext.fz hE c3_0 f3
  replace f4 := Ext.fz hE c4_0 f4
  replace xw := Ext.trans xw hE
  replace c3_0 := Ext.cell hE c3_0
  replace c3_1 := Ext.cell hE c3_1
  replace c4_0 := Ext.cell hE c4_0
  replace c4_1 := Ext.cell hE c4_1
  replace c4_2 := Ext.cell hE c4_2
  replace c4_3 := Ext.cell hE c4_3
  clear hE
  go_simp
  refine hK _ _ ?_
  clear hK K' gd
  refine Wp.keep [2, 3, 4, 7] fun r4 hkeep => ?_
  obtain ⟨e2_4, e3_4, e4_4, e7_4, -⟩ := hkeep
  simp [go_sem, e2_2, e3_2, e4_2] at e2_4 e3_4 e4_4 e7_4
  clear e2_2 e3_2 e4_2
  by_cases h0 : copyS s c = 0
  · skip
    refine Wp.seqRegion (.inl rfl) (by kernel_rfl) fun K' gd hK hg => ?_
    clear hg
    go_simp
    refine hK _ _ ?_
    clear hK K' gd
    refine Wp.keep [2, 3, 4, 7, 17] fun r5 hkeep => ?_
    obtain ⟨e2_5, e3_5, e4_5, e7_5, e17_5, -⟩ := hkeep
    simp [go_sem, e2_4, e3_4, e4_4, e7_4] at e2_5 e3_5 e4_5 e7_5 e17_5
    clear e2_4 e3_4 e4_4 e7_4
    refine Wp.condF (by go_simp) ?_
    obtain ⟨hg0, hv0⟩ := copyS_zero.1 h0
    have hgd := checkS_zero.1 hg0
    have hmk := hgd.mdOk hv0
    by_cases hl : (cl.length : Int) = (s.words.length : Int)
    · skip
      refine Wp.skip ?_
      refine thenK_normal ?_
      refine Wp.seq ?_
      refine Wp.seqRegion (.inl rfl) (by kernel_rfl) fun K' gd hK hg => ?_
      clear hg
      go_simp
      refine hK _ _ ?_
      clear hK K' gd
      refine Wp.keep [2, 3, 4, 24] fun r6 hkeep => ?_
      obtain ⟨e2_6, e3_6, e4_6, e24_6, -⟩ := hkeep
      simp [go_sem, e2_5, e3_5, e4_5, e7_5, e17_5] at e2_6 e3_6 e4_6 e24_6
      clear e2_5 e3_5 e4_5 e7_5 e17_5
      refine Wp.condF (by go_simp) ?_
      refine Wp.skip ?_
      refine thenK_normal ?_
      refine Wp.seqRegion (.inl rfl) (by kernel_rfl) fun K' gd hK hg => ?_
      clear hg
      refine Wops.cut 3 fun K1 hK1 => ?_
      simp only [List.take_succ_cons, List.take_zero]
      go_simp
      refine Wcall (.inl rfl) (madeB_c _ _ s c _ (hV.ext xw) (hU.ext xw) hgd hv0) ?_
      rintro v w3 ⟨⟨wu, hwu, hM⟩, hE⟩
      injection hwu with hwu
      simp at hwu
      subst hwu
      obtain ⟨A6, n6, c6, rfl⟩ := hM.two
      go_simp
      refine hK1 _ _ ?_
      clear hK1 K1
      simp only [List.drop_succ_cons, List.drop_zero]
      have z7 := Below.size hE
      replace f3 := Ext.fz hE c3_0 f3
      replace f4 := Ext.fz hE c4_0 f4
      replace xw := Ext.trans xw hE
      replace c3_0 := Ext.cell hE c3_0
      replace c3_1 := Ext.cell hE c3_1
      replace c4_0 := Ext.cell hE c4_0
      replace c4_1 := Ext.cell hE c4_1
      replace c4_2 := Ext.cell hE c4_2
      replace c4_3 := Ext.cell hE c4_3
      clear hE
      refine Wops.cut 2 fun K1 hK1 => ?_
      simp only [List.take_succ_cons, List.take_zero]
      go_simp
      refine hK1 _ _ ?_
      clear hK1 K1
      simp only [List.drop_succ_cons, List.drop_zero]
      refine Wops.absA fun V8_3 n8 hV8_3 => ?_
      obtain ⟨q8, hV8_3, s8, kV8_3, f8, r8⟩ := hV8_3
      try simp only [q8] at kV8_3 f8 r8 ⊢
      replace f3 := Ext.fz hV8_3 c3_0 f3
      replace f4 := Ext.fz hV8_3 c4_0 f4
      replace hM := hM.ext hV8_3
      replace xw := Ext.trans xw hV8_3
      replace c3_0 := Ext.cell hV8_3 c3_0
      replace c3_1 := Ext.cell hV8_3 c3_1
      replace c4_0 := Ext.cell hV8_3 c4_0
      replace c4_1 := Ext.cell hV8_3 c4_1
      replace c4_2 := Ext.cell hV8_3 c4_2
      replace c4_3 := Ext.cell hV8_3 c4_3
      have c8_0 := kV8_3 0 _ rfl
      have c8_1 := kV8_3 1 _ rfl
      have c8_2 := kV8_3 2 _ rfl
      have c8_3 := kV8_3 3 _ rfl
      have c8_4 := kV8_3 4 _ rfl
      clear kV8_3 hV8_3
      clear r8
      try simp only [Wops_nil, updO_some, updO_none]
      refine hK _ _ ?_
      clear hK K' gd
      refine Wp.keep [2, 8] fun r8 hkeep => ?_
      obtain ⟨e2_8, e8_8, -⟩ := hkeep
      simp [go_sem, e2_6, e3_6, e4_6, e24_6] at e2_8 e8_8
      clear e2_6 e3_6 e4_6 e24_6
      replace hl : ∃ _u : Unit, cl.length = s.n := ⟨(), by unfold Sh.n; omega⟩
      obtain ⟨pn, hpn⟩ : ∃ pn : Nat, ∃ _u : Unit, c.p = (pn : Int) := ⟨c.p.toNat, (), by have := hmk.p1; exact (Int.toNat_of_nonneg (by have : 1 ≤ c.p := hmk.p1; omega)).symm⟩
      have hp12 : 1 ≤ pn ∧ pn ≤ 40 := by have h1 : 1 ≤ c.p := hmk.p1; have h2 : c.p ≤ 40 := hmk.p2; have := hpn.choose_spec; omega
      have hcn : ∃ _u : Unit, (s.md c).n = s.n := ⟨(), hv0.1⟩
      have hn40 : s.n ≤ 40 := hgd.n2
      have he730 : (s.md c).c.e ≤ 730 ∧ 0 ≤ (s.md c).c.b := ⟨hmk.e7, hmk.b0⟩
      have hpt : ∃ _u : Unit, (s.md c).c.p.toNat = pn := ⟨(), by show c.p.toNat = pn; rw [hpn.choose_spec]; exact Int.toNat_natCast pn⟩
      have hn41 : cl.length ≤ 40 := by have := hl.choose_spec; omega
      refine Wp.seq ?_
      refine Wp.seqRegion (.inl rfl) (by kernel_rfl) fun K' gd hK hg => ?_
      clear hg
      go_simp
      refine hK _ _ ?_
      clear hK K' gd
      refine Wp.keep [2, 8, 28, 29, 30] fun r9 hkeep => ?_
      obtain ⟨e2_9, e8_9, e28_9, e29_9, e30_9, -⟩ := hkeep
      simp [go_sem, e2_8, e8_8] at e2_9 e8_9 e28_9 e29_9 e30_9
      clear e2_8 e8_8
      refine Wp.block ?_
      refine Wp.loop (fun k ρ ds wk => AllEq [2, 8, 28, 29] ρ r9 ∧ ds = [] ∧ (Ext V8_3 wk) ∧ (ρ 30 = .int .i64 (k : Int) ∧ (∃ _u : Unit, ∀ j, j < k → RoofAt (s.md c) cl j))) (cl.length) ?_ ?_
      · refine ⟨AllEq.refl _ _, rfl, Ext.refl _, ?_⟩
        exact ⟨by rw [e30_9]; rfl, (), fun j hj => absurd hj (Nat.not_lt_zero _)⟩
      · rintro k r10 _ wk hk ⟨hA, rfl, xl4, ⟨e30, hH⟩⟩
        obtain ⟨e2_10, e8_10, e28_10, e29_10, -⟩ := hA
        rw [e2_9] at e2_10
        rw [e8_9] at e8_10
        rw [e28_9] at e28_10
        rw [e29_9] at e29_10
        have zxl4 := Below.size xl4
        replace f3 := Ext.fz xl4 c3_0 f3
        replace f4 := Ext.fz xl4 c4_0 f4
        replace f8 := Ext.fz xl4 c8_0 f8
        replace hM := hM.ext xl4
        replace xw := Ext.trans xw xl4
        replace c3_0 := Ext.cell xl4 c3_0
        replace c3_1 := Ext.cell xl4 c3_1
        replace c4_0 := Ext.cell xl4 c4_0
        replace c4_1 := Ext.cell xl4 c4_1
        replace c4_2 := Ext.cell xl4 c4_2
        replace c4_3 := Ext.cell xl4 c4_3
        replace c8_0 := Ext.cell xl4 c8_0
        replace c8_1 := Ext.cell xl4 c8_1
        replace c8_2 := Ext.cell xl4 c8_2
        replace c8_3 := Ext.cell xl4 c8_3
        replace c8_4 := Ext.cell xl4 c8_4
        refine Wp.seqRegion (.inl rfl) (by kernel_rfl) fun K' gd hK hg => ?_
        clear hg
        go_simp
        refine hK _ _ ?_
        clear hK K' gd
        refine Wp.keep [2, 8, 28, 29, 30, 31] fun r11 hkeep => ?_
        obtain ⟨e2_11, e8_11, e28_11, e29_11, e30_11, e31_11, -⟩ := hkeep
        simp [go_sem, e2_10, e8_10, e28_10, e29_10, e30] at e2_11 e8_11 e28_11 e29_11 e30_11 e31_11
        clear e2_10 e8_10 e28_10 e29_10 e30
        refine Wp.seq ?_
        by_cases h : k < cl.length
        · refine Wp.condT (by go_simp) ?_
          obtain ⟨b, o, c6, e1, hb, hc⟩ := hD.get h
          injection e1 with e1 _ e2
          subst e1
          subst e2
          have dk := xw.cell (hc k h)
          obtain ⟨k9, hk9⟩ : ∃ k9 : Nat, ∃ _u : Unit, k9 = k + 1 := ⟨_, (), rfl⟩
          obtain ⟨j9, hj9⟩ : ∃ j9 : Nat, ∃ _u : Unit, j9 = k + pn := ⟨_, (), rfl⟩
          obtain ⟨d1, hd1⟩ : ∃ d1, ∃ _u : Unit, (if k + 1 < cl.length then min (s.md c).c.e (gI cl (k + 1)) else (s.md c).c.e) = d1 := ⟨_, (), rfl⟩
          obtain ⟨d0, hd0⟩ : ∃ d0, ∃ _u : Unit, toD (s.md c).c.e pn (cl.drop (k + 1)) = d0 := ⟨_, (), rfl⟩
          have hd01 : ∃ _u : Unit, d0 = if j9 < cl.length then min d1 (gI cl j9 - 1) else d1 := ⟨(), by rw [← hd0.choose_spec, ← hd1.choose_spec, toD_eq hp12.1, hj9.choose_spec]⟩
          have hres : RoofAt (s.md c) cl k ↔ (j9 < cl.length ∧ gI cl j9 ≤ (s.md c).c.b) ∨ (s.md c).bf k d0 = -1 ∨ (s.md c).bf k d0 ≤ gI cl k := by unfold RoofAt; rw [hpt.choose_spec, hd0.choose_spec, hj9.choose_spec]
          have hkn : k < (s.md c).n := by have := hcn.choose_spec; have := hl.choose_spec; omega
          have hnx : RoofAt (s.md c) cl k → ∃ _u : Unit, ∀ j, j < k + 1 → RoofAt (s.md c) cl j := fun q => ⟨(), fun j hj => by rcases Nat.lt_succ_iff_lt_or_eq.1 hj with hj | rfl; exact hH.choose_spec j hj; exact q⟩
          have hwk : IntKind.i64.wrap ((k : Int) + 1) = (k9 : Int) := by have := hk9.choose_spec; rw [IntWalk.i64_in _ (by omega)]; omega
          have hwj : IntKind.i64.wrap ((k : Int) + (s.md c).c.p) = (j9 : Int) := by have e : (s.md c).c.p = (pn : Int) := hpn.choose_spec; rw [e]; have := hj9.choose_spec; rw [IntWalk.i64_in _ (by omega)]; omega
          have hno : ¬ RoofAt (s.md c) cl k → ∃ _u : Unit, cproofE s c cl = 8 := fun q => ⟨(), by unfold cproofE; rw [if_pos h0, if_pos hl.choose_spec, if_neg (by rw [show roofS (s.md c) cl = false from decide_eq_false fun a => q (a k h)]; decide)]⟩
          refine Wp.skip ?_
          refine thenK_normal ?_
          refine Wp.seq ?_
          refine Wp.block ?_
          refine Wp.seqRegion (.inl rfl) (by kernel_rfl) fun K' gd hK hg => ?_
          clear hg
          go_simp
          refine hK _ _ ?_
          clear hK K' gd
          refine Wp.keep [2, 8, 9, 10, 28, 29, 30] fun r12 hkeep => ?_
          obtain ⟨e2_12, e8_12, e9_12, e10_12, e28_12, e29_12, e30_12, -⟩ := hkeep
          simp [go_sem, e2_11, e8_11, e28_11, e29_11, e30_11, e31_11] at e2_12 e8_12 e9_12 e10_12 e28_12 e29_12 e30_12
          clear e2_11 e8_11 e28_11 e29_11 e30_11 e31_11
          refine Wp.seqRegion (.inl rfl) (by kernel_rfl) fun K' gd hK hg => ?_
          clear hg
          go_simp
          refine hK _ _ ?_
          clear hK K' gd
          refine Wp.keep [2, 8, 9, 10, 11, 28, 29, 30] fun r13 hkeep => ?_
          obtain ⟨e2_13, e8_13, e9_13, e10_13, e11_13, e28_13, e29_13, e30_13, -⟩ := hkeep
          simp [go_sem, e2_12, e8_12, e9_12, e10_12, e28_12, e29_12, e30_12] at e2_13 e8_13 e9_13 e10_13 e11_13 e28_13 e29_13 e30_13
          clear e2_12 e8_12 e9_12 e10_12 e28_12 e29_12 e30_12
          refine Wp.seq ?_
          refine Wp.cut (fun ρ ds W => AllEq [2, 8, 9, 10, 28, 29, 30] ρ r13 ∧ ds = [] ∧ (Ext wk W) ∧ (ρ 11 = .int .i64 d1)) ?_ ?_
          · have xq5 := Ext.refl wk
            by_cases h1 : k9 < cl.length
            · skip
              have dq := xw.cell (hc k9 h1)
              have hmx : ∃ _u : Unit, d1 = if gI cl k9 < (s.md c).c.e then gI cl k9 else (s.md c).c.e := ⟨(), by rw [← hd1.choose_spec, ← hk9.choose_spec, if_pos h1, Int.min_def]; split <;> split <;> omega⟩
              have hkl : (k9 : Int) < (cl.length : Int) := by omega
              refine Wp.seqRegion (.inl rfl) (by kernel_rfl) fun K' gd hK hg => ?_
              clear hg
              go_simp
              refine hK _ _ ?_
              clear hK K' gd
              refine Wp.keep [2, 8, 9, 10, 11, 28, 29, 30, 42] fun r14 hkeep => ?_
              obtain ⟨e2_14, e8_14, e9_14, e10_14, e11_14, e28_14, e29_14, e30_14, e42_14, -⟩ := hkeep
              simp [go_sem, e2_13, e8_13, e9_13, e10_13, e11_13, e28_13, e29_13, e30_13] at e2_14 e8_14 e9_14 e10_14 e11_14 e28_14 e29_14 e30_14 e42_14
              clear e11_13
              refine Wp.condT (by go_simp) ?_
              refine Wp.loneRegion (.inl rfl) (by kernel_rfl) fun K' gd hK hg => ?_
              clear hg
              go_simp
              refine hK _ _ ?_
              clear hK K' gd
              refine Ends.keep [2, 8, 9, 10, 11, 28, 29, 30] fun r15 hkeep => ?_
              obtain ⟨e2_15, e8_15, e9_15, e10_15, e11_15, e28_15, e29_15, e30_15, -⟩ := hkeep
              simp [go_sem, e2_14, e8_14, e9_14, e10_14, e11_14, e28_14, e29_14, e30_14, e42_14] at e2_15 e8_15 e9_15 e10_15 e11_15 e28_15 e29_15 e30_15
              clear e2_14 e8_14 e9_14 e10_14 e11_14 e28_14 e29_14 e30_14 e42_14
              refine Ends.mk ?_
              refine cutK_normal ⟨⟨by rw [e2_15, e2_13], by rw [e8_15, e8_13], by rw [e9_15, e9_13], by rw [e10_15, e10_13], by rw [e28_15, e28_13], by rw [e29_15, e29_13], by rw [e30_15, e30_13], trivial⟩, rfl, xq5, ?_⟩
              rw [hmx.choose_spec]; exact e11_15
            · skip
              refine Wp.seqRegion (.inl rfl) (by kernel_rfl) fun K' gd hK hg => ?_
              clear hg
              go_simp
              refine hK _ _ ?_
              clear hK K' gd
              refine Wp.keep [2, 8, 9, 10, 11, 28, 29, 30, 42] fun r16 hkeep => ?_
              obtain ⟨e2_16, e8_16, e9_16, e10_16, e11_16, e28_16, e29_16, e30_16, e42_16, -⟩ := hkeep
              simp [go_sem, e2_13, e8_13, e9_13, e10_13, e11_13, e28_13, e29_13, e30_13] at e2_16 e8_16 e9_16 e10_16 e11_16 e28_16 e29_16 e30_16 e42_16
              clear e11_13
              refine Wp.condF (by go_simp) ?_
              refine Wp.skip ?_
              refine cutK_normal ⟨⟨by rw [e2_16, e2_13], by rw [e8_16, e8_13], by rw [e9_16, e9_13], by rw [e10_16, e10_13], by rw [e28_16, e28_13], by rw [e29_16, e29_13], by rw [e30_16, e30_13], trivial⟩, rfl, xq5, ?_⟩
              rw [← hd1.choose_spec, if_neg (by rw [← hk9.choose_spec]; exact h1)]; exact e11_16
          · rintro r17 _ W5 ⟨hA, rfl, xq5, e11⟩
            obtain ⟨e2_17, e8_17, e9_17, e10_17, e28_17, e29_17, e30_17, -⟩ := hA
            rw [e2_13] at e2_17
            rw [e8_13] at e8_17
            rw [e9_13] at e9_17
            rw [e10_13] at e10_17
            rw [e28_13] at e28_17
            rw [e29_13] at e29_17
            rw [e30_13] at e30_17
            clear e2_13 e8_13 e9_13 e10_13 e11_13 e28_13 e29_13 e30_13
            have zxq5 := Below.size xq5
            replace f3 := Ext.fz xq5 c3_0 f3
            replace f4 := Ext.fz xq5 c4_0 f4
            replace f8 := Ext.fz xq5 c8_0 f8
            replace hM := hM.ext xq5
            replace xw := Ext.trans xw xq5
            replace xl4 := Ext.trans xl4 xq5
            replace c3_0 := Ext.cell xq5 c3_0
            replace c3_1 := Ext.cell xq5 c3_1
            replace c4_0 := Ext.cell xq5 c4_0
            replace c4_1 := Ext.cell xq5 c4_1
            replace c4_2 := Ext.cell xq5 c4_2
            replace c4_3 := Ext.cell xq5 c4_3
            replace c8_0 := Ext.cell xq5 c8_0
            replace c8_1 := Ext.cell xq5 c8_1
            replace c8_2 := Ext.cell xq5 c8_2
            replace c8_3 := Ext.cell xq5 c8_3
            replace c8_4 := Ext.cell xq5 c8_4
            replace dk := Ext.cell xq5 dk
            refine thenK_normal ?_
            by_cases h2 : j9 < cl.length
            · skip
              have dq := xw.cell (hc j9 h2)
              have hql : (j9 : Int) < (cl.length : Int) := by omega
              have hqi : InI (gI cl j9) := hin.get h2
              refine Wp.seq ?_
              refine Wp.seqRegion (.inl rfl) (by kernel_rfl) fun K' gd hK hg => ?_
              clear hg
              go_simp
              refine hK _ _ ?_
              clear hK K' gd
              refine Wp.keep [2, 8, 9, 10, 11, 28, 29, 30, 57] fun r18 hkeep => ?_
              obtain ⟨e2_18, e8_18, e9_18, e10_18, e11_18, e28_18, e29_18, e30_18, e57_18, -⟩ := hkeep
              simp [go_sem, e2_17, e8_17, e9_17, e10_17, e11, e28_17, e29_17, e30_17] at e2_18 e8_18 e9_18 e10_18 e11_18 e28_18 e29_18 e30_18 e57_18
              clear e2_17 e8_17 e9_17 e10_17 e11 e28_17 e29_17 e30_17
              refine Wp.condT (by go_simp) ?_
              by_cases he : gI cl j9 ≤ (s.md c).c.b
              · skip
                refine Wp.seq ?_
                refine Wp.seqDraw (.inl rfl) mixed [([0, 1, 2, 3, 4], none), ([5, 6, 7, 8, 9], none), ([10, 11], none)] (by kernel_rfl) fun K' gd hK hg => ?_
                clear hg
                simp only [pick, nth, List.map_cons, List.map_nil, Option.map_none, Option.map_some]
                refine Mops.absD fun D6 hD6 zD6 => ?_
                replace f3 := Ext.fz hD6 c3_0 f3
                replace f4 := Ext.fz hD6 c4_0 f4
                replace f8 := Ext.fz hD6 c8_0 f8
                replace hM := hM.ext hD6
                replace xw := Ext.trans xw hD6
                replace xl4 := Ext.trans xl4 hD6
                replace c3_0 := Ext.cell hD6 c3_0
                replace c3_1 := Ext.cell hD6 c3_1
                replace c4_0 := Ext.cell hD6 c4_0
                replace c4_1 := Ext.cell hD6 c4_1
                replace c4_2 := Ext.cell hD6 c4_2
                replace c4_3 := Ext.cell hD6 c4_3
                replace c8_0 := Ext.cell hD6 c8_0
                replace c8_1 := Ext.cell hD6 c8_1
                replace c8_2 := Ext.cell hD6 c8_2
                replace c8_3 := Ext.cell hD6 c8_3
                replace c8_4 := Ext.cell hD6 c8_4
                replace dk := Ext.cell hD6 dk
                replace dq := Ext.cell hD6 dq
                clear hD6
                apply Mops.none
                · intro w' hE'
                  have hC' := hE'.cellsS
                  go_simp
                  with_reducible rfl
                apply Mops.none
                · intro w' hE'
                  have hC' := hE'.cellsS
                  go_simp
                  with_reducible rfl
                apply Mops.none
                · intro w' hE'
                  have hC' := hE'.cellsS
                  go_simp
                  with_reducible rfl
                refine Mops.done ?_
                refine hK _ _ ?_
                clear hK K' gd
                refine Wp.keep [2, 8, 9, 10, 11, 28, 29, 30, 69] fun r19 hkeep => ?_
                obtain ⟨e2_19, e8_19, e9_19, e10_19, e11_19, e28_19, e29_19, e30_19, e69_19, -⟩ := hkeep
                simp [go_sem, e2_18, e8_18, e9_18, e10_18, e11_18, e28_18, e29_18, e30_18, e57_18] at e2_19 e8_19 e9_19 e10_19 e11_19 e28_19 e29_19 e30_19 e69_19
                clear e2_18 e8_18 e9_18 e10_18 e11_18 e28_18 e29_18 e30_18 e57_18
                refine Wp.condT (by go_simp) ?_
                refine Wp.exit ?_
                refine thenK_exit ?_
                refine thenK_exit ?_
                refine blockK_here ?_
                refine thenK_normal ?_
                refine Wp.loneRegion (.inl rfl) (by kernel_rfl) fun K' gd hK hg => ?_
                clear hg
                go_simp
                refine hK _ _ ?_
                clear hK K' gd
                refine Ends.keep [2, 8, 28, 29, 30] fun r20 hkeep => ?_
                obtain ⟨e2_20, e8_20, e28_20, e29_20, e30_20, -⟩ := hkeep
                simp [go_sem, e2_19, e8_19, e9_19, e10_19, e11_19, e28_19, e29_19, e30_19, e69_19] at e2_20 e8_20 e28_20 e29_20 e30_20
                clear e2_19 e8_19 e9_19 e10_19 e11_19 e28_19 e29_19 e30_19 e69_19
                refine Ends.mk ?_
                refine thenK_normal ⟨by omega, ⟨by rw [e2_20, e2_9], by rw [e8_20, e8_9], by rw [e28_20, e28_9], by rw [e29_20, e29_9], trivial⟩, rfl, xl4, ?_⟩
                exact ⟨by rw [e30_20, hk9.choose_spec], hnx (hres.2 (.inl ⟨h2, he⟩))⟩
              · skip
                refine Wp.seq ?_
                refine Wp.seqDraw (.inl rfl) mixed [([0, 1, 2, 3, 4], none), ([5, 6, 7, 8, 9], none), ([10, 11], none)] (by kernel_rfl) fun K' gd hK hg => ?_
                clear hg
                simp only [pick, nth, List.map_cons, List.map_nil, Option.map_none, Option.map_some]
                refine Mops.absD fun D7 hD7 zD7 => ?_
                replace f3 := Ext.fz hD7 c3_0 f3
                replace f4 := Ext.fz hD7 c4_0 f4
                replace f8 := Ext.fz hD7 c8_0 f8
                replace hM := hM.ext hD7
                replace xw := Ext.trans xw hD7
                replace xl4 := Ext.trans xl4 hD7
                replace c3_0 := Ext.cell hD7 c3_0
                replace c3_1 := Ext.cell hD7 c3_1
                replace c4_0 := Ext.cell hD7 c4_0
                replace c4_1 := Ext.cell hD7 c4_1
                replace c4_2 := Ext.cell hD7 c4_2
                replace c4_3 := Ext.cell hD7 c4_3
                replace c8_0 := Ext.cell hD7 c8_0
                replace c8_1 := Ext.cell hD7 c8_1
                replace c8_2 := Ext.cell hD7 c8_2
                replace c8_3 := Ext.cell hD7 c8_3
                replace c8_4 := Ext.cell hD7 c8_4
                replace dk := Ext.cell hD7 dk
                replace dq := Ext.cell hD7 dq
                clear hD7
                apply Mops.none
                · intro w' hE'
                  have hC' := hE'.cellsS
                  go_simp
                  with_reducible rfl
                apply Mops.none
                · intro w' hE'
                  have hC' := hE'.cellsS
                  go_simp
                  with_reducible rfl
                apply Mops.none
                · intro w' hE'
                  have hC' := hE'.cellsS
                  go_simp
                  with_reducible rfl
                refine Mops.done ?_
                refine hK _ _ ?_
                clear hK K' gd
                refine Wp.keep [2, 8, 9, 10, 11, 28, 29, 30, 69] fun r21 hkeep => ?_
                obtain ⟨e2_21, e8_21, e9_21, e10_21, e11_21, e28_21, e29_21, e30_21, e69_21, -⟩ := hkeep
                simp [go_sem, e2_18, e8_18, e9_18, e10_18, e11_18, e28_18, e29_18, e30_18, e57_18] at e2_21 e8_21 e9_21 e10_21 e11_21 e28_21 e29_21 e30_21 e69_21
                clear e2_18 e8_18 e9_18 e10_18 e11_18 e28_18 e29_18 e30_18 e57_18
                refine Wp.condF (by go_simp) ?_
                have hmx : ∃ _u : Unit, (if gI cl j9 - 1 < d1 then gI cl j9 - 1 else d1) = d0 := ⟨(), by rw [hd01.choose_spec, if_pos h2, Int.min_def]; split <;> split <;> omega⟩
                refine Wp.skip ?_
                refine thenK_normal ?_
                refine Wp.loneRegion (.inl rfl) (by kernel_rfl) fun K' gd hK hg => ?_
                clear hg
                refine Wops.cut 10 fun K1 hK1 => ?_
                simp only [List.take_succ_cons, List.take_zero]
                go_simp
                refine Wcall (.inl rfl) (aheadN_c _ (wrap_down hqi (by omega)) _) ?_
                rintro v w4 ⟨rfl, hE⟩
                go_simp
                refine hK1 _ _ ?_
                clear hK1 K1
                simp only [List.drop_succ_cons, List.drop_zero]
                have z22 := Below.size hE
                replace f3 := Ext.fz hE c3_0 f3
                replace f4 := Ext.fz hE c4_0 f4
                replace f8 := Ext.fz hE c8_0 f8
                replace hM := hM.ext hE
                replace xw := Ext.trans xw hE
                replace xl4 := Ext.trans xl4 hE
                replace c3_0 := Ext.cell hE c3_0
                replace c3_1 := Ext.cell hE c3_1
                replace c4_0 := Ext.cell hE c4_0
                replace c4_1 := Ext.cell hE c4_1
                replace c4_2 := Ext.cell hE c4_2
                replace c4_3 := Ext.cell hE c4_3
                replace c8_0 := Ext.cell hE c8_0
                replace c8_1 := Ext.cell hE c8_1
                replace c8_2 := Ext.cell hE c8_2
                replace c8_3 := Ext.cell hE c8_3
                replace c8_4 := Ext.cell hE c8_4
                replace dk := Ext.cell hE dk
                replace dq := Ext.cell hE dq
                clear hE
                go_simp
                refine hK _ _ ?_
                clear hK K' gd
                refine Ends.keep [2, 8, 9, 10, 11, 28, 29, 30] fun r23 hkeep => ?_
                obtain ⟨e2_23, e8_23, e9_23, e10_23, e11_23, e28_23, e29_23, e30_23, -⟩ := hkeep
                simp [go_sem, e2_21, e8_21, e9_21, e10_21, e11_21, e28_21, e29_21, e30_21, e69_21] at e2_23 e8_23 e9_23 e10_23 e11_23 e28_23 e29_23 e30_23
                clear e2_21 e8_21 e9_21 e10_21 e11_21 e28_21 e29_21 e30_21 e69_21
                refine Ends.mk ?_
                refine thenK_normal ?_
                refine Wp.seqRegion (.inl rfl) (by kernel_rfl) fun K' gd hK hg => ?_
                clear hg
                refine Wops.cut 4 fun K1 hK1 => ?_
                simp only [List.take_succ_cons, List.take_zero]
                go_simp
                refine Wcall (.inl rfl) (before_c _ (s.md c) k _ _ (hM.made (hW.ext xw)) hmk hkn) ?_
                rintro v w5 ⟨hv, hE⟩
                rw [hmx.choose_spec] at hv
                subst hv
                go_simp
                refine hK1 _ _ ?_
                clear hK1 K1
                simp only [List.drop_succ_cons, List.drop_zero]
                have z24 := Below.size hE
                replace f3 := Ext.fz hE c3_0 f3
                replace f4 := Ext.fz hE c4_0 f4
                replace f8 := Ext.fz hE c8_0 f8
                replace hM := hM.ext hE
                replace xw := Ext.trans xw hE
                replace xl4 := Ext.trans xl4 hE
                replace c3_0 := Ext.cell hE c3_0
                replace c3_1 := Ext.cell hE c3_1
                replace c4_0 := Ext.cell hE c4_0
                replace c4_1 := Ext.cell hE c4_1
                replace c4_2 := Ext.cell hE c4_2
                replace c4_3 := Ext.cell hE c4_3
                replace c8_0 := Ext.cell hE c8_0
                replace c8_1 := Ext.cell hE c8_1
                replace c8_2 := Ext.cell hE c8_2
                replace c8_3 := Ext.cell hE c8_3
                replace c8_4 := Ext.cell hE c8_4
                replace dk := Ext.cell hE dk
                replace dq := Ext.cell hE dq
                clear hE
                go_simp
                refine hK _ _ ?_
                clear hK K' gd
                refine Wp.keep [2, 8, 10, 12, 28, 29, 30] fun r25 hkeep => ?_
                obtain ⟨e2_25, e8_25, e10_25, e12_25, e28_25, e29_25, e30_25, -⟩ := hkeep
                simp [go_sem, e2_23, e8_23, e9_23, e10_23, e11_23, e28_23, e29_23, e30_23] at e2_25 e8_25 e10_25 e12_25 e28_25 e29_25 e30_25
                clear e2_23 e8_23 e9_23 e10_23 e11_23 e28_23 e29_23 e30_23
                by_cases hx : (s.md c).bf k d0 = -1
                · skip
                  refine Wp.seqRegion (.inl rfl) (by kernel_rfl) fun K' gd hK hg => ?_
                  have g2 : gd 2 = some 87 := hg 2
                  clear hg
                  go_simp
                  refine hK _ _ ?_
                  clear hK K' gd g2
                  refine Wp.keep [2, 8, 28, 29, 30, 91] fun r26 hkeep => ?_
                  obtain ⟨e2_26, e8_26, e28_26, e29_26, e30_26, e91_26, -⟩ := hkeep
                  simp [go_sem, e2_25, e8_25, e10_25, e12_25, e28_25, e29_25, e30_25] at e2_26 e8_26 e28_26 e29_26 e30_26 e91_26
                  clear e2_25 e8_25 e10_25 e12_25 e28_25 e29_25 e30_25
                  refine Wp.condF (by go_simp) ?_
                  refine Wp.skip ?_
                  refine blockK_normal ?_
                  refine thenK_normal ?_
                  refine Wp.loneRegion (.inl rfl) (by kernel_rfl) fun K' gd hK hg => ?_
                  clear hg
                  go_simp
                  refine hK _ _ ?_
                  clear hK K' gd
                  refine Ends.keep [2, 8, 28, 29, 30] fun r27 hkeep => ?_
                  obtain ⟨e2_27, e8_27, e28_27, e29_27, e30_27, -⟩ := hkeep
                  simp [go_sem, e2_26, e8_26, e28_26, e29_26, e30_26, e91_26] at e2_27 e8_27 e28_27 e29_27 e30_27
                  clear e2_26 e8_26 e28_26 e29_26 e30_26 e91_26
                  refine Ends.mk ?_
                  refine thenK_normal ⟨by omega, ⟨by rw [e2_27, e2_9], by rw [e8_27, e8_9], by rw [e28_27, e28_9], by rw [e29_27, e29_9], trivial⟩, rfl, xl4, ?_⟩
                  exact ⟨by rw [e30_27, hk9.choose_spec], hnx (hres.2 (.inr (.inl hx)))⟩
                · skip
                  by_cases hy : gI cl k < (s.md c).bf k d0
                  · skip
                    refine Wp.seqRegion (.inl rfl) (by kernel_rfl) fun K' gd hK hg => ?_
                    have g2 : gd 2 = some 87 := hg 2
                    clear hg
                    go_simp
                    refine hK _ _ ?_
                    clear hK K' gd g2
                    refine Wp.keep [2, 8, 28, 29, 30, 91] fun r28 hkeep => ?_
                    obtain ⟨e2_28, e8_28, e28_28, e29_28, e30_28, e91_28, -⟩ := hkeep
                    simp [go_sem, e2_25, e8_25, e10_25, e12_25, e28_25, e29_25, e30_25] at e2_28 e8_28 e28_28 e29_28 e30_28 e91_28
                    clear e2_25 e8_25 e10_25 e12_25 e28_25 e29_25 e30_25
                    refine Wp.condT (by go_simp) ?_
                    refine Wp.seqRegion (.inl rfl) (by kernel_rfl) fun K' gd hK hg => ?_
                    clear hg
                    go_simp
                    refine hK _ _ ?_
                    clear hK K' gd
                    refine Wp.keep [6] fun r29 hkeep => ?_
                    obtain ⟨e6_29, -⟩ := hkeep
                    simp [go_sem, e2_28, e8_28, e28_28, e29_28, e30_28, e91_28] at e6_29
                    clear e2_28 e8_28 e28_28 e29_28 e30_28 e91_28
                    refine Wp.ret ?_
                    refine blockK_ret ?_
                    refine thenK_ret ?_
                    refine thenK_ret ?_
                    refine blockK_ret ?_
                    refine thenK_ret ?_
                    refine endK_tmp Try.results66 (by decide) ?_
                    rw [e6_29]
                    exact ⟨by rw [(hno (fun q => by rcases hres.1 q with ⟨-, q⟩ | q | q; exact he q; exact hx q; omega)).choose_spec], xw⟩
                  · skip
                    refine Wp.seqRegion (.inl rfl) (by kernel_rfl) fun K' gd hK hg => ?_
                    have g2 : gd 2 = some 87 := hg 2
                    clear hg
                    go_simp
                    refine hK _ _ ?_
                    clear hK K' gd g2
                    refine Wp.keep [2, 8, 28, 29, 30, 91] fun r30 hkeep => ?_
                    obtain ⟨e2_30, e8_30, e28_30, e29_30, e30_30, e91_30, -⟩ := hkeep
                    simp [go_sem, e2_25, e8_25, e10_25, e12_25, e28_25, e29_25, e30_25] at e2_30 e8_30 e28_30 e29_30 e30_30 e91_30
                    clear e2_25 e8_25 e10_25 e12_25 e28_25 e29_25 e30_25
                    refine Wp.condF (by go_simp) ?_
                    refine Wp.skip ?_
                    refine blockK_normal ?_
                    refine thenK_normal ?_
                    refine Wp.loneRegion (.inl rfl) (by kernel_rfl) fun K' gd hK hg => ?_
                    clear hg
                    go_simp
                    refine hK _ _ ?_
                    clear hK K' gd
                    refine Ends.keep [2, 8, 28, 29, 30] fun r31 hkeep => ?_
                    obtain ⟨e2_31, e8_31, e28_31, e29_31, e30_31, -⟩ := hkeep
                    simp [go_sem, e2_30, e8_30, e28_30, e29_30, e30_30, e91_30] at e2_31 e8_31 e28_31 e29_31 e30_31
                    clear e2_30 e8_30 e28_30 e29_30 e30_30 e91_30
                    refine Ends.mk ?_
                    refine thenK_normal ⟨by omega, ⟨by rw [e2_31, e2_9], by rw [e8_31, e8_9], by rw [e28_31, e28_9], by rw [e29_31, e29_9], trivial⟩, rfl, xl4, ?_⟩
                    exact ⟨by rw [e30_31, hk9.choose_spec], hnx (hres.2 (.inr (.inr (by omega))))⟩
            · skip
              have hd00 : ∃ _u : Unit, d1 = d0 := ⟨(), by rw [hd01.choose_spec, if_neg h2]⟩
              refine Wp.seq ?_
              refine Wp.seqRegion (.inl rfl) (by kernel_rfl) fun K' gd hK hg => ?_
              clear hg
              go_simp
              refine hK _ _ ?_
              clear hK K' gd
              refine Wp.keep [2, 8, 9, 10, 11, 28, 29, 30, 57] fun r32 hkeep => ?_
              obtain ⟨e2_32, e8_32, e9_32, e10_32, e11_32, e28_32, e29_32, e30_32, e57_32, -⟩ := hkeep
              simp [go_sem, e2_17, e8_17, e9_17, e10_17, e11, e28_17, e29_17, e30_17] at e2_32 e8_32 e9_32 e10_32 e11_32 e28_32 e29_32 e30_32 e57_32
              clear e2_17 e8_17 e9_17 e10_17 e11 e28_17 e29_17 e30_17
              refine Wp.condF (by go_simp) ?_
              refine Wp.skip ?_
              refine thenK_normal ?_
              refine Wp.seqRegion (.inl rfl) (by kernel_rfl) fun K' gd hK hg => ?_
              clear hg
              refine Wops.cut 4 fun K1 hK1 => ?_
              simp only [List.take_succ_cons, List.take_zero]
              go_simp
              refine Wcall (.inl rfl) (before_c _ (s.md c) k _ _ (hM.made (hW.ext xw)) hmk hkn) ?_
              rintro v w5 ⟨hv, hE⟩
              rw [hd00.choose_spec] at hv
              subst hv
              go_simp
              refine hK1 _ _ ?_
              clear hK1 K1
              simp only [List.drop_succ_cons, List.drop_zero]
              have z33 := Below.size hE
              replace f3 := Ext.fz hE c3_0 f3
              replace f4 := Ext.fz hE c4_0 f4
              replace f8 := Ext.fz hE c8_0 f8
              replace hM := hM.ext hE
              replace xw := Ext.trans xw hE
              replace xl4 := Ext.trans xl4 hE
              replace c3_0 := Ext.cell hE c3_0
              replace c3_1 := Ext.cell hE c3_1
              replace c4_0 := Ext.cell hE c4_0
              replace c4_1 := Ext.cell hE c4_1
              replace c4_2 := Ext.cell hE c4_2
              replace c4_3 := Ext.cell hE c4_3
              replace c8_0 := Ext.cell hE c8_0
              replace c8_1 := Ext.cell hE c8_1
              replace c8_2 := Ext.cell hE c8_2
              replace c8_3 := Ext.cell hE c8_3
              replace c8_4 := Ext.cell hE c8_4
              replace dk := Ext.cell hE dk
              clear hE
              go_simp
              refine hK _ _ ?_
              clear hK K' gd
              refine Wp.keep [2, 8, 10, 12, 28, 29, 30] fun r34 hkeep => ?_
              obtain ⟨e2_34, e8_34, e10_34, e12_34, e28_34, e29_34, e30_34, -⟩ := hkeep
              simp [go_sem, e2_32, e8_32, e9_32, e10_32, e11_32, e28_32, e29_32, e30_32, e57_32] at e2_34 e8_34 e10_34 e12_34 e28_34 e29_34 e30_34
              clear e2_32 e8_32 e9_32 e10_32 e11_32 e28_32 e29_32 e30_32 e57_32
              by_cases hx : (s.md c).bf k d0 = -1
              · skip
                refine Wp.seqRegion (.inl rfl) (by kernel_rfl) fun K' gd hK hg => ?_
                have g2 : gd 2 = some 87 := hg 2
                clear hg
                go_simp
                refine hK _ _ ?_
                clear hK K' gd g2
                refine Wp.keep [2, 8, 28, 29, 30, 91] fun r35 hkeep => ?_
                obtain ⟨e2_35, e8_35, e28_35, e29_35, e30_35, e91_35, -⟩ := hkeep
                simp [go_sem, e2_34, e8_34, e10_34, e12_34, e28_34, e29_34, e30_34] at e2_35 e8_35 e28_35 e29_35 e30_35 e91_35
                clear e2_34 e8_34 e10_34 e12_34 e28_34 e29_34 e30_34
                refine Wp.condF (by go_simp) ?_
                refine Wp.skip ?_
                refine blockK_normal ?_
                refine thenK_normal ?_
                refine Wp.loneRegion (.inl rfl) (by kernel_rfl) fun K' gd hK hg => ?_
                clear hg
                go_simp
                refine hK _ _ ?_
                clear hK K' gd
                refine Ends.keep [2, 8, 28, 29, 30] fun r36 hkeep => ?_
                obtain ⟨e2_36, e8_36, e28_36, e29_36, e30_36, -⟩ := hkeep
                simp [go_sem, e2_35, e8_35, e28_35, e29_35, e30_35, e91_35] at e2_36 e8_36 e28_36 e29_36 e30_36
                clear e2_35 e8_35 e28_35 e29_35 e30_35 e91_35
                refine Ends.mk ?_
                refine thenK_normal ⟨by omega, ⟨by rw [e2_36, e2_9], by rw [e8_36, e8_9], by rw [e28_36, e28_9], by rw [e29_36, e29_9], trivial⟩, rfl, xl4, ?_⟩
                exact ⟨by rw [e30_36, hk9.choose_spec], hnx (hres.2 (.inr (.inl hx)))⟩
              · skip
                by_cases hy : gI cl k < (s.md c).bf k d0
                · skip
                  refine Wp.seqRegion (.inl rfl) (by kernel_rfl) fun K' gd hK hg => ?_
                  have g2 : gd 2 = some 87 := hg 2
                  clear hg
                  go_simp
                  refine hK _ _ ?_
                  clear hK K' gd g2
                  refine Wp.keep [2, 8, 28, 29, 30, 91] fun r37 hkeep => ?_
                  obtain ⟨e2_37, e8_37, e28_37, e29_37, e30_37, e91_37, -⟩ := hkeep
                  simp [go_sem, e2_34, e8_34, e10_34, e12_34, e28_34, e29_34, e30_34] at e2_37 e8_37 e28_37 e29_37 e30_37 e91_37
                  clear e2_34 e8_34 e10_34 e12_34 e28_34 e29_34 e30_34
                  refine Wp.condT (by go_simp) ?_
                  refine Wp.seqRegion (.inl rfl) (by kernel_rfl) fun K' gd hK hg => ?_
                  clear hg
                  go_simp
                  refine hK _ _ ?_
                  clear hK K' gd
                  refine Wp.keep [6] fun r38 hkeep => ?_
                  obtain ⟨e6_38, -⟩ := hkeep
                  simp [go_sem, e2_37, e8_37, e28_37, e29_37, e30_37, e91_37] at e6_38
                  clear e2_37 e8_37 e28_37 e29_37 e30_37 e91_37
                  refine Wp.ret ?_
                  refine blockK_ret ?_
                  refine thenK_ret ?_
                  refine thenK_ret ?_
                  refine blockK_ret ?_
                  refine thenK_ret ?_
                  refine endK_tmp Try.results66 (by decide) ?_
                  rw [e6_38]
                  exact ⟨by rw [(hno (fun q => by rcases hres.1 q with ⟨q, -⟩ | q | q; exact h2 q; exact hx q; omega)).choose_spec], xw⟩
                · skip
                  refine Wp.seqRegion (.inl rfl) (by kernel_rfl) fun K' gd hK hg => ?_
                  have g2 : gd 2 = some 87 := hg 2
                  clear hg
                  go_simp
                  refine hK _ _ ?_
                  clear hK K' gd g2
                  refine Wp.keep [2, 8, 28, 29, 30, 91] fun r39 hkeep => ?_
                  obtain ⟨e2_39, e8_39, e28_39, e29_39, e30_39, e91_39, -⟩ := hkeep
                  simp [go_sem, e2_34, e8_34, e10_34, e12_34, e28_34, e29_34, e30_34] at e2_39 e8_39 e28_39 e29_39 e30_39 e91_39
                  clear e2_34 e8_34 e10_34 e12_34 e28_34 e29_34 e30_34
                  refine Wp.condF (by go_simp) ?_
                  refine Wp.skip ?_
                  refine blockK_normal ?_
                  refine thenK_normal ?_
                  refine Wp.loneRegion (.inl rfl) (by kernel_rfl) fun K' gd hK hg => ?_
                  clear hg
                  go_simp
                  refine hK _ _ ?_
                  clear hK K' gd
                  refine Ends.keep [2, 8, 28, 29, 30] fun r40 hkeep => ?_
                  obtain ⟨e2_40, e8_40, e28_40, e29_40, e30_40, -⟩ := hkeep
                  simp [go_sem, e2_39, e8_39, e28_39, e29_39, e30_39, e91_39] at e2_40 e8_40 e28_40 e29_40 e30_40
                  clear e2_39 e8_39 e28_39 e29_39 e30_39 e91_39
                  refine Ends.mk ?_
                  refine thenK_normal ⟨by omega, ⟨by rw [e2_40, e2_9], by rw [e8_40, e8_9], by rw [e28_40, e28_9], by rw [e29_40, e29_9], trivial⟩, rfl, xl4, ?_⟩
                  exact ⟨by rw [e30_40, hk9.choose_spec], hnx (hres.2 (.inr (.inr (by omega))))⟩
        · refine Wp.condF (by go_simp) ?_
          obtain rfl : k = cl.length := by omega
          refine Wp.exit ?_
          refine thenK_exit ?_
          refine thenK_exit ?_
          refine blockK_here ?_
          refine thenK_normal ?_
          refine Wp.seqRegion (.inl rfl) (by kernel_rfl) fun K' gd hK hg => ?_
          clear hg
          go_simp
          refine hK _ _ ?_
          clear hK K' gd
          refine Wp.keep [6] fun r41 hkeep => ?_
          obtain ⟨e6_41, -⟩ := hkeep
          simp [go_sem, e2_11, e8_11, e28_11, e29_11, e30_11, e31_11] at e6_41
          clear e2_11 e8_11 e28_11 e29_11 e30_11 e31_11
          refine Wp.ret ?_
          refine endK_tmp Try.results66 (by decide) ?_
          rw [e6_41]
          exact ⟨by unfold cproofE; rw [if_pos h0, if_pos hl.choose_spec, if_pos (show roofS (s.md c) cl = true from decide_eq_true hH.choose_spec)], xw⟩
    · skip
      refine Wp.skip ?_
      refine thenK_normal ?_
      refine Wp.seq ?_
      refine Wp.seqRegion (.inl rfl) (by kernel_rfl) fun K' gd hK hg => ?_
      clear hg
      go_simp
      refine hK _ _ ?_
      clear hK K' gd
      refine Wp.keep [2, 3, 4, 24] fun r42 hkeep => ?_
      obtain ⟨e2_42, e3_42, e4_42, e24_42, -⟩ := hkeep
      simp [go_sem, e2_5, e3_5, e4_5, e7_5, e17_5] at e2_42 e3_42 e4_42 e24_42
      clear e2_5 e3_5 e4_5 e7_5 e17_5
      refine Wp.condT (by go_simp) ?_
      refine Wp.seqRegion (.inl rfl) (by kernel_rfl) fun K' gd hK hg => ?_
      clear hg
      go_simp
      refine hK _ _ ?_
      clear hK K' gd
      refine Wp.keep [6] fun r43 hkeep => ?_
      obtain ⟨e6_43, -⟩ := hkeep
      simp [go_sem, e2_42, e3_42, e4_42, e24_42] at e6_43
      clear e2_42 e3_42 e4_42 e24_42
      refine Wp.ret ?_
      refine thenK_ret ?_
      refine endK_tmp Try.results66 (by decide) ?_
      rw [e6_43]
      exact ⟨by unfold cproofE; rw [if_pos h0, if_neg (by unfold Sh.n; omega)], xw⟩
  · skip
    refine Wp.seqRegion (.inl rfl) (by kernel_rfl) fun K' gd hK hg => ?_
    clear hg
    go_simp
    refine hK _ _ ?_
    clear hK K' gd
    refine Wp.keep [2, 3, 4, 7, 17] fun r44 hkeep => ?_
    obtain ⟨e2_44, e3_44, e4_44, e7_44, e17_44, -⟩ := hkeep
    simp [go_sem, e2_4, e3_4, e4_4, e7_4] at e2_44 e3_44 e4_44 e7_44 e17_44
    clear e2_4 e3_4 e4_4 e7_4
    refine Wp.condT (by go_simp) ?_
    refine Wp.seqRegion (.inl rfl) (by kernel_rfl) fun K' gd hK hg => ?_
    clear hg
    go_simp
    refine hK _ _ ?_
    clear hK K' gd
    refine Wp.keep [6] fun r45 hkeep => ?_
    obtain ⟨e6_45, -⟩ := hkeep
    simp [go_sem, e2_44, e3_44, e4_44, e7_44, e17_44] at e6_45
    clear e2_44 e3_44 e4_44 e7_44 e17_44
    refine Wp.ret ?_
    refine thenK_ret ?_
    refine endK_tmp Try.results66 (by decide) ?_
    rw [e6_45]
    exact ⟨by unfold cproofE; rw [if_neg h0], xw⟩
end Go.Proofs.Ytnjajbkkgfohaaa
namespace Go.Proofs.Ytnjajbkkgfohaaa
open Go.RowKit Go.Wk Go.Proofs

theorem openJ {w : World} {v : Value} (h : Rd Try.prog w 22 [v]) : ∃ xs, IntsV w w.heap.size v xs ∧ xs.length ≤ farI ∧ AllI xs := by
  have e1 : Try.prog.cellsOf 3 = 1 := by kernel_rfl
  have e2 : Try.prog.bytesOf 3 = 8 := by kernel_rfl
  obtain ⟨A, n, c, rfl, hn, hc, hx⟩ := h.list Try.underlying22 (by rw [e1]; decide) (by rw [e2]; decide)
  rw [e1] at hx
  clear e1 e2
  obtain ⟨f, hf⟩ := Go.Deep.choose_lt (α := Int) (p := fun i z => (∃ b o, A = some ⟨b, o, none⟩ ∧ b < w.heap.size ∧ w.cell? ⟨b, o + i, none⟩ = some (.int .i64 z)) ∧ InI z) fun i hi => by
    obtain ⟨b, o, cs, h1, h2, h3, h4, h5⟩ := hx i hi
    obtain ⟨z, rfl, hz⟩ := h5.int Try.underlying3
    exact ⟨z, ⟨b, o, h1, h2, by have := h4 0 (by decide); simpa using this⟩, Go.bounds_i64 hz⟩
  have hl : ((List.range n).map f).length = n := by simp
  refine ⟨(List.range n).map f, ⟨A, c, by rw [hl], fun hne => ?_, by rw [hl]; exact hn⟩, by rw [hl]; omega, fun x hx => ?_⟩
  · have h0 : 0 < n := by
      rcases Nat.eq_zero_or_pos n with e | e
      · subst e; exact absurd rfl hne
      · exact e
    obtain ⟨⟨b, o, h1, h2, -⟩, -⟩ := hf 0 h0
    refine ⟨b, o, h1, h2, fun k hk => ?_⟩
    rw [hl] at hk
    obtain ⟨⟨b', o', h1', h2', h3'⟩, -⟩ := hf k hk
    rw [h1] at h1'
    injection h1' with h1'
    injection h1' with hb ho
    subst hb; subst ho
    simpa using h3'
  · obtain ⟨i, hi, rfl⟩ := List.mem_map.1 hx
    exact (hf i (List.mem_range.1 hi)).2
end Go.Proofs.Ytnjajbkkgfohaaa
namespace Go.Proofs.Ytnjajbkkgfohaaa
open Go.RowKit Go.Wk Go.Proofs
attribute [local irreducible] Go.Wk.Wops Go.Wk.Wp Go.Wk.Mtree Go.Wk.Mops
set_option maxHeartbeats 8000000
set_option maxRecDepth 20000

theorem MdOk.first_in {m : Md} (h : MdOk m) : AllI m.first := fun x hx => by
  have := firstGo_bd h _ _ x hx
  exact InI.of_bd (by omega) (by omega)
theorem clash_T {v u fv : Value} {s : Sh} {c : Cp} {fl : List Int} (h : fclashE s c fl = 0) (w : World) (hV : SheetV w w.heap.size v s) (hU : CopyV w w.heap.size u c) (hD : IntsV w w.heap.size fv fl) (hf : FitS s) (hg : FitC c) (hin : AllI fl) :
    CallsV Try.prog 60 #[v, u, fv] w fun v w' => v = .int .i64 0 ∧ Ext w w' :=
  (CheckClash_c v u fv s c fl w hV hU hD hf hg hin).mono fun v w' ⟨h1, h2⟩ => ⟨by rw [h1, h], h2⟩
theorem clashes_c (v u xv yv : Value) (s : Sh) (c : Cp) (x y : List Int) (w : World) (hV : SheetV w w.heap.size v s) (hU : CopyV w w.heap.size u c) (hX : IntsV w w.heap.size xv x) (hY : IntsV w w.heap.size yv y) (hf : FitS s) (hg : FitC c) {fx fy : Nat} (_hxl : x.length ≤ fx) (_hxi : AllI x) (_hyl : y.length ≤ fy) (hyi : AllI y) :
    CallsV Try.prog 17 #[v, u, xv, yv] w fun v w' => v = .bool true ∧ Ext w w' := by
  obtain ⟨wv, av, rfl, ⟨A, c1, rfl, -, -⟩, ⟨A3, c3, rfl, -, -⟩⟩ := id hV
  obtain ⟨wu, rfl, hW⟩ := id hU
  obtain ⟨A2, c2, rfl, -, -⟩ := id hW
  obtain ⟨A4, c4, rfl, hx, -⟩ := id hX
  obtain ⟨A5, c5, rfl, hy, -⟩ := id hY
  clear _hxl _hyl
  refine Wp.fn Try.func17 rfl Try.ntmps17 (by simp) ?_
  have xw := Ext.refl w
  refine Wp.keep [0, 1, 2, 3] fun r1 hkeep => ?_
  obtain ⟨e0_1, e1_1, e2_1, e3_1, -⟩ := hkeep
  simp [go_sem] at e0_1 e1_1 e2_1 e3_1
  refine Wp.seqRegion (.inl rfl) (by kernel_rfl) fun K' gd hK hg => ?_
  clear hg
  refine Wops.cut 1 fun K1 hK1 => ?_
  simp only [List.take_succ_cons, List.take_zero]
  go_simp
  refine hK1 _ _ ?_
  clear hK1 K1
  simp only [List.drop_succ_cons, List.drop_zero]
  refine Wops.absA fun V4_1 n4 hV4_1 => ?_
  obtain ⟨q4, hV4_1, s4, kV4_1, f4, r4⟩ := hV4_1
  try simp only [q4] at kV4_1 f4 r4 ⊢
  replace xw := Ext.trans xw hV4_1
  have c4_0 := kV4_1 0 _ rfl
  have c4_1 := kV4_1 1 _ rfl
  clear kV4_1 hV4_1
  clear r4
  refine Wops.cut 1 fun K1 hK1 => ?_
  simp only [List.take_succ_cons, List.take_zero]
  go_simp
  refine hK1 _ _ ?_
  clear hK1 K1
  simp only [List.drop_succ_cons, List.drop_zero]
  refine Wops.absA fun V5_2 n5 hV5_2 => ?_
  obtain ⟨q5, hV5_2, s5, kV5_2, f5, r5⟩ := hV5_2
  try simp only [q5] at kV5_2 f5 r5 ⊢
  replace f4 := Ext.fz hV5_2 c4_0 f4
  replace xw := Ext.trans xw hV5_2
  replace c4_0 := Ext.cell hV5_2 c4_0
  replace c4_1 := Ext.cell hV5_2 c4_1
  have c5_0 := kV5_2 0 _ rfl
  have c5_1 := kV5_2 1 _ rfl
  have c5_2 := kV5_2 2 _ rfl
  have c5_3 := kV5_2 3 _ rfl
  clear kV5_2 hV5_2
  clear r5
  go_simp
  refine hK _ _ ?_
  clear hK K' gd
  refine Wp.keep [2, 3, 4, 5] fun r2 hkeep => ?_
  obtain ⟨e2_2, e3_2, e4_2, e5_2, -⟩ := hkeep
  simp [go_sem, e0_1, e1_1, e2_1, e3_1] at e2_2 e3_2 e4_2 e5_2
  clear e0_1 e1_1 e2_1 e3_1
  refine Wp.seqRegion (.inl rfl) (by kernel_rfl) fun K' gd hK hg => ?_
  clear hg
  refine Wops.cut 1 fun K1 hK1 => ?_
  simp only [List.take_succ_cons, List.take_zero]
  go_simp
  refine Wcall (.inl rfl) (head_c _) ?_
  rintro v w2 ⟨rfl, hE⟩
  go_simp
  refine hK1 _ _ ?_
  clear hK1 K1
  simp only [List.drop_succ_cons, List.drop_zero]
  have z3 := Below.size hE
  replace f4 := Ext.fz hE c4_0 f4
  replace f5 := Ext.fz hE c5_0 f5
  replace xw := Ext.trans xw hE
  replace c4_0 := Ext.cell hE c4_0
  replace c4_1 := Ext.cell hE c4_1
  replace c5_0 := Ext.cell hE c5_0
  replace c5_1 := Ext.cell hE c5_1
  replace c5_2 := Ext.cell hE c5_2
  replace c5_3 := Ext.cell hE c5_3
  clear hE
  go_simp
  refine hK _ _ ?_
  clear hK K' gd
  refine Wp.keep [2, 3, 4, 5, 9] fun r4 hkeep => ?_
  obtain ⟨e2_4, e3_4, e4_4, e5_4, e9_4, -⟩ := hkeep
  simp [go_sem, e2_2, e3_2, e4_2, e5_2] at e2_4 e3_4 e4_4 e5_4 e9_4
  clear e2_2 e3_2 e4_2 e5_2
  by_cases hfw : fewS s
  · skip
    by_cases hbr : c.words.length ≤ 50
    · skip
      by_cases hxn : (60 : Int) < (x.length : Int)
      · skip
        refine Wp.seq ?_
        refine Wp.seqRegion (.inl rfl) (by kernel_rfl) fun K' gd hK hg => ?_
        have g3 : gd 3 = some 22 := hg 3
        have g8 : gd 8 = some 27 := hg 8
        have g13 : gd 13 = some 32 := hg 13
        clear hg
        refine Wops.cut 2 fun K1 hK1 => ?_
        simp only [List.take_succ_cons, List.take_zero]
        go_simp
        refine Wcall (.inl rfl) (few_c _ s _ (hV.ext xw)) ?_
        rintro v w3 ⟨rfl, hE⟩
        go_simp
        refine hK1 _ _ ?_
        clear hK1 K1
        simp only [List.drop_succ_cons, List.drop_zero]
        have z5 := Below.size hE
        replace f4 := Ext.fz hE c4_0 f4
        replace f5 := Ext.fz hE c5_0 f5
        replace xw := Ext.trans xw hE
        replace c4_0 := Ext.cell hE c4_0
        replace c4_1 := Ext.cell hE c4_1
        replace c5_0 := Ext.cell hE c5_0
        replace c5_1 := Ext.cell hE c5_1
        replace c5_2 := Ext.cell hE c5_2
        replace c5_3 := Ext.cell hE c5_3
        clear hE
        refine Wops.cut 4 fun K1 hK1 => ?_
        simp only [List.take_succ_cons, List.take_zero]
        go_simp
        refine Wcall (.inl rfl) (brief_c _ c _ (hU.ext xw)) ?_
        rintro v w4 ⟨rfl, hE⟩
        go_simp
        refine hK1 _ _ ?_
        clear hK1 K1
        simp only [List.drop_succ_cons, List.drop_zero]
        have z6 := Below.size hE
        replace f4 := Ext.fz hE c4_0 f4
        replace f5 := Ext.fz hE c5_0 f5
        replace xw := Ext.trans xw hE
        replace c4_0 := Ext.cell hE c4_0
        replace c4_1 := Ext.cell hE c4_1
        replace c5_0 := Ext.cell hE c5_0
        replace c5_1 := Ext.cell hE c5_1
        replace c5_2 := Ext.cell hE c5_2
        replace c5_3 := Ext.cell hE c5_3
        clear hE
        go_simp
        refine hK _ _ ?_
        clear hK K' gd g3 g8 g13
        refine Wp.keep [2, 3, 4, 5, 9, 36] fun r7 hkeep => ?_
        obtain ⟨e2_7, e3_7, e4_7, e5_7, e9_7, e36_7, -⟩ := hkeep
        simp [go_sem, e2_4, e3_4, e4_4, e5_4, e9_4] at e2_7 e3_7 e4_7 e5_7 e9_7 e36_7
        clear e2_4 e3_4 e4_4 e5_4 e9_4
        refine Wp.condT (by go_simp) ?_
        refine Wp.seqRegion (.inl rfl) (by kernel_rfl) fun K' gd hK hg => ?_
        clear hg
        go_simp
        refine hK _ _ ?_
        clear hK K' gd
        refine Wp.keep [8] fun r8 hkeep => ?_
        obtain ⟨e8_8, -⟩ := hkeep
        simp [go_sem, e2_7, e3_7, e4_7, e5_7, e9_7, e36_7] at e8_8
        clear e2_7 e3_7 e4_7 e5_7 e9_7 e36_7
        refine Wp.ret ?_
        refine thenK_ret ?_
        refine endK_tmp Try.results17 (by decide) ?_
        rw [e8_8]
        exact ⟨rfl, xw⟩
      · skip
        by_cases hyn : (60 : Int) < (y.length : Int)
        · skip
          refine Wp.seq ?_
          refine Wp.seqRegion (.inl rfl) (by kernel_rfl) fun K' gd hK hg => ?_
          have g3 : gd 3 = some 22 := hg 3
          have g8 : gd 8 = some 27 := hg 8
          have g13 : gd 13 = some 32 := hg 13
          clear hg
          refine Wops.cut 2 fun K1 hK1 => ?_
          simp only [List.take_succ_cons, List.take_zero]
          go_simp
          refine Wcall (.inl rfl) (few_c _ s _ (hV.ext xw)) ?_
          rintro v w3 ⟨rfl, hE⟩
          go_simp
          refine hK1 _ _ ?_
          clear hK1 K1
          simp only [List.drop_succ_cons, List.drop_zero]
          have z9 := Below.size hE
          replace f4 := Ext.fz hE c4_0 f4
          replace f5 := Ext.fz hE c5_0 f5
          replace xw := Ext.trans xw hE
          replace c4_0 := Ext.cell hE c4_0
          replace c4_1 := Ext.cell hE c4_1
          replace c5_0 := Ext.cell hE c5_0
          replace c5_1 := Ext.cell hE c5_1
          replace c5_2 := Ext.cell hE c5_2
          replace c5_3 := Ext.cell hE c5_3
          clear hE
          refine Wops.cut 4 fun K1 hK1 => ?_
          simp only [List.take_succ_cons, List.take_zero]
          go_simp
          refine Wcall (.inl rfl) (brief_c _ c _ (hU.ext xw)) ?_
          rintro v w4 ⟨rfl, hE⟩
          go_simp
          refine hK1 _ _ ?_
          clear hK1 K1
          simp only [List.drop_succ_cons, List.drop_zero]
          have z10 := Below.size hE
          replace f4 := Ext.fz hE c4_0 f4
          replace f5 := Ext.fz hE c5_0 f5
          replace xw := Ext.trans xw hE
          replace c4_0 := Ext.cell hE c4_0
          replace c4_1 := Ext.cell hE c4_1
          replace c5_0 := Ext.cell hE c5_0
          replace c5_1 := Ext.cell hE c5_1
          replace c5_2 := Ext.cell hE c5_2
          replace c5_3 := Ext.cell hE c5_3
          clear hE
          go_simp
          refine hK _ _ ?_
          clear hK K' gd g3 g8 g13
          refine Wp.keep [2, 3, 4, 5, 9, 36] fun r11 hkeep => ?_
          obtain ⟨e2_11, e3_11, e4_11, e5_11, e9_11, e36_11, -⟩ := hkeep
          simp [go_sem, e2_4, e3_4, e4_4, e5_4, e9_4] at e2_11 e3_11 e4_11 e5_11 e9_11 e36_11
          clear e2_4 e3_4 e4_4 e5_4 e9_4
          refine Wp.condT (by go_simp) ?_
          refine Wp.seqRegion (.inl rfl) (by kernel_rfl) fun K' gd hK hg => ?_
          clear hg
          go_simp
          refine hK _ _ ?_
          clear hK K' gd
          refine Wp.keep [8] fun r12 hkeep => ?_
          obtain ⟨e8_12, -⟩ := hkeep
          simp [go_sem, e2_11, e3_11, e4_11, e5_11, e9_11, e36_11] at e8_12
          clear e2_11 e3_11 e4_11 e5_11 e9_11 e36_11
          refine Wp.ret ?_
          refine thenK_ret ?_
          refine endK_tmp Try.results17 (by decide) ?_
          rw [e8_12]
          exact ⟨rfl, xw⟩
        · skip
          have hx6 : x.length ≤ 60 := by omega
          have hy6 : y.length ≤ 60 := by omega
          refine Wp.seq ?_
          refine Wp.seqRegion (.inl rfl) (by kernel_rfl) fun K' gd hK hg => ?_
          have g3 : gd 3 = some 22 := hg 3
          have g8 : gd 8 = some 27 := hg 8
          have g13 : gd 13 = some 32 := hg 13
          clear hg
          refine Wops.cut 2 fun K1 hK1 => ?_
          simp only [List.take_succ_cons, List.take_zero]
          go_simp
          refine Wcall (.inl rfl) (few_c _ s _ (hV.ext xw)) ?_
          rintro v w3 ⟨rfl, hE⟩
          go_simp
          refine hK1 _ _ ?_
          clear hK1 K1
          simp only [List.drop_succ_cons, List.drop_zero]
          have z13 := Below.size hE
          replace f4 := Ext.fz hE c4_0 f4
          replace f5 := Ext.fz hE c5_0 f5
          replace xw := Ext.trans xw hE
          replace c4_0 := Ext.cell hE c4_0
          replace c4_1 := Ext.cell hE c4_1
          replace c5_0 := Ext.cell hE c5_0
          replace c5_1 := Ext.cell hE c5_1
          replace c5_2 := Ext.cell hE c5_2
          replace c5_3 := Ext.cell hE c5_3
          clear hE
          refine Wops.cut 4 fun K1 hK1 => ?_
          simp only [List.take_succ_cons, List.take_zero]
          go_simp
          refine Wcall (.inl rfl) (brief_c _ c _ (hU.ext xw)) ?_
          rintro v w4 ⟨rfl, hE⟩
          go_simp
          refine hK1 _ _ ?_
          clear hK1 K1
          simp only [List.drop_succ_cons, List.drop_zero]
          have z14 := Below.size hE
          replace f4 := Ext.fz hE c4_0 f4
          replace f5 := Ext.fz hE c5_0 f5
          replace xw := Ext.trans xw hE
          replace c4_0 := Ext.cell hE c4_0
          replace c4_1 := Ext.cell hE c4_1
          replace c5_0 := Ext.cell hE c5_0
          replace c5_1 := Ext.cell hE c5_1
          replace c5_2 := Ext.cell hE c5_2
          replace c5_3 := Ext.cell hE c5_3
          clear hE
          go_simp
          refine hK _ _ ?_
          clear hK K' gd g3 g8 g13
          refine Wp.keep [2, 3, 4, 5, 9, 36] fun r15 hkeep => ?_
          obtain ⟨e2_15, e3_15, e4_15, e5_15, e9_15, e36_15, -⟩ := hkeep
          simp [go_sem, e2_4, e3_4, e4_4, e5_4, e9_4] at e2_15 e3_15 e4_15 e5_15 e9_15 e36_15
          clear e2_4 e3_4 e4_4 e5_4 e9_4
          refine Wp.condF (by go_simp) ?_
          refine Wp.skip ?_
          refine thenK_normal ?_
          refine Wp.seqRegion (.inl rfl) (by kernel_rfl) fun K' gd hK hg => ?_
          clear hg
          refine Wops.cut 3 fun K1 hK1 => ?_
          simp only [List.take_succ_cons, List.take_zero]
          go_simp
          refine Wcall (.inl rfl) (Clash_c _ _ s c _ (hV.ext xw) (hU.ext xw) hf hg) ?_
          rintro v w5 ⟨t10, rfl, hL, hE⟩
          go_simp
          refine hK1 _ _ ?_
          clear hK1 K1
          simp only [List.drop_succ_cons, List.drop_zero]
          have z16 := Below.size hE
          replace f4 := Ext.fz hE c4_0 f4
          replace f5 := Ext.fz hE c5_0 f5
          replace xw := Ext.trans xw hE
          replace c4_0 := Ext.cell hE c4_0
          replace c4_1 := Ext.cell hE c4_1
          replace c5_0 := Ext.cell hE c5_0
          replace c5_1 := Ext.cell hE c5_1
          replace c5_2 := Ext.cell hE c5_2
          replace c5_3 := Ext.cell hE c5_3
          clear hE
          go_simp
          refine hK _ _ ?_
          clear hK K' gd
          refine Wp.keep [2, 3, 4, 5, 9, 10, 11, 12] fun r17 hkeep => ?_
          obtain ⟨e2_17, e3_17, e4_17, e5_17, e9_17, e10_17, e11_17, e12_17, -⟩ := hkeep
          simp [go_sem, e2_15, e3_15, e4_15, e5_15, e9_15, e36_15] at e2_17 e3_17 e4_17 e5_17 e9_17 e10_17 e11_17 e12_17
          clear e2_15 e3_15 e4_15 e5_15 e9_15 e36_15
          refine Wp.seqRegion (.inl rfl) (by kernel_rfl) fun K' gd hK hg => ?_
          clear hg
          refine Wops.cut 3 fun K1 hK1 => ?_
          simp only [List.take_succ_cons, List.take_zero]
          go_simp
          refine Wcall (.inl rfl) (First_c _ _ s c _ (hV.ext xw) (hU.ext xw) hf hg) ?_
          rintro v w6 ⟨t12, rfl, -, hE⟩
          go_simp
          refine hK1 _ _ ?_
          clear hK1 K1
          simp only [List.drop_succ_cons, List.drop_zero]
          have z18 := Below.size hE
          replace f4 := Ext.fz hE c4_0 f4
          replace f5 := Ext.fz hE c5_0 f5
          replace hL := hL.ext hE
          replace xw := Ext.trans xw hE
          replace c4_0 := Ext.cell hE c4_0
          replace c4_1 := Ext.cell hE c4_1
          replace c5_0 := Ext.cell hE c5_0
          replace c5_1 := Ext.cell hE c5_1
          replace c5_2 := Ext.cell hE c5_2
          replace c5_3 := Ext.cell hE c5_3
          clear hE
          go_simp
          refine hK _ _ ?_
          clear hK K' gd
          refine Wp.keep [2, 3, 4, 5, 9, 10, 11, 12, 14] fun r19 hkeep => ?_
          obtain ⟨e2_19, e3_19, e4_19, e5_19, e9_19, e10_19, e11_19, e12_19, e14_19, -⟩ := hkeep
          simp [go_sem, e2_17, e3_17, e4_17, e5_17, e9_17, e10_17, e11_17, e12_17] at e2_19 e3_19 e4_19 e5_19 e9_19 e10_19 e11_19 e12_19 e14_19
          clear e2_17 e3_17 e4_17 e5_17 e9_17 e10_17 e11_17 e12_17
          refine Wp.seqRegion (.inl rfl) (by kernel_rfl) fun K' gd hK hg => ?_
          clear hg
          refine Wops.cut 4 fun K1 hK1 => ?_
          simp only [List.take_succ_cons, List.take_zero]
          go_simp
          refine Wcall (.inl rfl) (Fits_c _ _ _ s c x _ (hV.ext xw) (hU.ext xw) (hX.ext xw) hf hg (by omega)) ?_
          rintro v w7 ⟨rfl, hE⟩
          go_simp
          refine hK1 _ _ ?_
          clear hK1 K1
          simp only [List.drop_succ_cons, List.drop_zero]
          have z20 := Below.size hE
          replace f4 := Ext.fz hE c4_0 f4
          replace f5 := Ext.fz hE c5_0 f5
          replace hL := hL.ext hE
          replace xw := Ext.trans xw hE
          replace c4_0 := Ext.cell hE c4_0
          replace c4_1 := Ext.cell hE c4_1
          replace c5_0 := Ext.cell hE c5_0
          replace c5_1 := Ext.cell hE c5_1
          replace c5_2 := Ext.cell hE c5_2
          replace c5_3 := Ext.cell hE c5_3
          clear hE
          go_simp
          refine hK _ _ ?_
          clear hK K' gd
          refine Wp.keep [3, 4, 5, 9, 10, 11, 12, 14, 16, 17] fun r21 hkeep => ?_
          obtain ⟨e3_21, e4_21, e5_21, e9_21, e10_21, e11_21, e12_21, e14_21, e16_21, e17_21, -⟩ := hkeep
          simp [go_sem, e2_19, e3_19, e4_19, e5_19, e9_19, e10_19, e11_19, e12_19, e14_19] at e3_21 e4_21 e5_21 e9_21 e10_21 e11_21 e12_21 e14_21 e16_21 e17_21
          clear e2_19 e3_19 e4_19 e5_19 e9_19 e10_19 e11_19 e12_19 e14_19
          by_cases h0 : copyS s c = 0
          · skip
            refine Wp.seq ?_
            refine Wp.seqRegion (.inl rfl) (by kernel_rfl) fun K' gd hK hg => ?_
            clear hg
            go_simp
            refine hK _ _ ?_
            clear hK K' gd
            refine Wp.keep [3, 4, 5, 9, 10, 11, 12, 14, 16, 17, 60] fun r22 hkeep => ?_
            obtain ⟨e3_22, e4_22, e5_22, e9_22, e10_22, e11_22, e12_22, e14_22, e16_22, e17_22, e60_22, -⟩ := hkeep
            simp [go_sem, e3_21, e4_21, e5_21, e9_21, e10_21, e11_21, e12_21, e14_21, e16_21, e17_21] at e3_22 e4_22 e5_22 e9_22 e10_22 e11_22 e12_22 e14_22 e16_22 e17_22 e60_22
            clear e3_21 e4_21 e5_21 e9_21 e10_21 e11_21 e12_21 e14_21 e16_21 e17_21
            refine Wp.condF (by go_simp) ?_
            by_cases h9 : begE s c = 9
            · skip
              rw [if_pos h9] at hL
              obtain ⟨hcl, -⟩ := clash_yes h9
              have hmk := (checkS_zero.1 (copyS_zero.1 h0).1).mdOk (copyS_zero.1 h0).2
              obtain ⟨A7, c7, rfl⟩ := hL.slice
              have hnf : fitE s c x = 0 → (fitR s c x).2 = false := fun a => by rw [Bool.eq_false_iff]; intro b; have q := hmk.ok_of (fitR_true.1 ⟨a, b⟩).2.2; unfold begE okS at h9; rw [if_pos h0, if_pos q] at h9; exact absurd h9 (by decide)
              refine Wp.skip ?_
              refine thenK_normal ?_
              refine Wp.seq ?_
              refine Wp.seqRegion (.inl rfl) (by kernel_rfl) fun K' gd hK hg => ?_
              have g4 : gd 4 = some 71 := hg 4
              have g7 : gd 7 = some 74 := hg 7
              have g12 : gd 12 = some 79 := hg 12
              have g14 : gd 14 = some 81 := hg 14
              have g22 : gd 22 = some 89 := hg 22
              have g25 : gd 25 = some 92 := hg 25
              clear hg
              refine Wops.cut 19 fun K1 hK1 => ?_
              simp only [List.take_succ_cons, List.take_zero]
              go_simp
              refine Wcall (.inl rfl) (clash_T hcl _ (hV.ext xw) (hU.ext xw) hL.ints hf hg hmk.first_in) ?_
              rintro v w8 ⟨rfl, hE⟩
              go_simp
              refine hK1 _ _ ?_
              clear hK1 K1
              simp only [List.drop_succ_cons, List.drop_zero]
              have z23 := Below.size hE
              replace f4 := Ext.fz hE c4_0 f4
              replace f5 := Ext.fz hE c5_0 f5
              replace hL := hL.ext hE
              replace xw := Ext.trans xw hE
              replace c4_0 := Ext.cell hE c4_0
              replace c4_1 := Ext.cell hE c4_1
              replace c5_0 := Ext.cell hE c5_0
              replace c5_1 := Ext.cell hE c5_1
              replace c5_2 := Ext.cell hE c5_2
              replace c5_3 := Ext.cell hE c5_3
              clear hE
              go_simp
              refine hK _ _ ?_
              clear hK K' gd g4 g7 g12 g14 g22 g25
              refine Wp.keep [3, 4, 5, 9, 11, 16, 17, 97] fun r24 hkeep => ?_
              obtain ⟨e3_24, e4_24, e5_24, e9_24, e11_24, e16_24, e17_24, e97_24, -⟩ := hkeep
              simp [go_sem, e3_22, e4_22, e5_22, e9_22, e10_22, e11_22, e12_22, e14_22, e16_22, e17_22, e60_22] at e3_24 e4_24 e5_24 e9_24 e11_24 e16_24 e17_24 e97_24
              clear e3_22 e4_22 e5_22 e9_22 e10_22 e11_22 e12_22 e14_22 e16_22 e17_22 e60_22
              refine Wp.condF (by go_simp) ?_
              by_cases hk : fclashE s c y = 0
              · skip
                refine Wp.skip ?_
                refine thenK_normal ?_
                refine Wp.seq ?_
                refine Wp.seqRegion (.inl rfl) (by kernel_rfl) fun K' gd hK hg => ?_
                have g5 : gd 5 = some 103 := hg 5
                clear hg
                refine Wops.cut 4 fun K1 hK1 => ?_
                simp only [List.take_succ_cons, List.take_zero]
                go_simp
                refine Wcall (.inl rfl) (CheckClash_c _ _ _ s c y _ (hV.ext xw) (hU.ext xw) (hY.ext xw) hf hg hyi) ?_
                rintro v w9 ⟨rfl, hE⟩
                go_simp
                refine hK1 _ _ ?_
                clear hK1 K1
                simp only [List.drop_succ_cons, List.drop_zero]
                have z25 := Below.size hE
                replace f4 := Ext.fz hE c4_0 f4
                replace f5 := Ext.fz hE c5_0 f5
                replace hL := hL.ext hE
                replace xw := Ext.trans xw hE
                replace c4_0 := Ext.cell hE c4_0
                replace c4_1 := Ext.cell hE c4_1
                replace c5_0 := Ext.cell hE c5_0
                replace c5_1 := Ext.cell hE c5_1
                replace c5_2 := Ext.cell hE c5_2
                replace c5_3 := Ext.cell hE c5_3
                clear hE
                go_simp
                refine hK _ _ ?_
                clear hK K' gd g5
                refine Wp.keep [9, 11, 16, 17, 106] fun r26 hkeep => ?_
                obtain ⟨e9_26, e11_26, e16_26, e17_26, e106_26, -⟩ := hkeep
                simp [go_sem, e3_24, e4_24, e5_24, e9_24, e11_24, e16_24, e17_24, e97_24] at e9_26 e11_26 e16_26 e17_26 e106_26
                clear e3_24 e4_24 e5_24 e9_24 e11_24 e16_24 e17_24 e97_24
                refine Wp.condF (by go_simp) ?_
                by_cases a1 : fitE s c x = 0
                · skip
                  have a3 := hnf a1
                  refine Wp.skip ?_
                  refine thenK_normal ?_
                  refine Wp.seqRegion (.inl rfl) (by kernel_rfl) fun K' gd hK hg => ?_
                  have g1 : gd 1 = some 108 := hg 1
                  have g4 : gd 4 = some 111 := hg 4
                  have g8 : gd 8 = some 115 := hg 8
                  clear hg
                  go_simp
                  refine hK _ _ ?_
                  clear hK K' gd g1 g4 g8
                  refine Wp.keep [8] fun r27 hkeep => ?_
                  obtain ⟨e8_27, -⟩ := hkeep
                  simp [go_sem, e9_26, e11_26, e16_26, e17_26, e106_26] at e8_27
                  clear e9_26 e11_26 e16_26 e17_26 e106_26
                  refine Wp.ret ?_
                  refine endK_tmp Try.results17 (by decide) ?_
                  rw [e8_27]
                  exact ⟨by first | rfl | go_simp, xw⟩
                · skip
                  refine Wp.skip ?_
                  refine thenK_normal ?_
                  refine Wp.seqRegion (.inl rfl) (by kernel_rfl) fun K' gd hK hg => ?_
                  have g1 : gd 1 = some 108 := hg 1
                  have g4 : gd 4 = some 111 := hg 4
                  have g8 : gd 8 = some 115 := hg 8
                  clear hg
                  go_simp
                  refine hK _ _ ?_
                  clear hK K' gd g1 g4 g8
                  refine Wp.keep [8] fun r28 hkeep => ?_
                  obtain ⟨e8_28, -⟩ := hkeep
                  simp [go_sem, e9_26, e11_26, e16_26, e17_26, e106_26] at e8_28
                  clear e9_26 e11_26 e16_26 e17_26 e106_26
                  refine Wp.ret ?_
                  refine endK_tmp Try.results17 (by decide) ?_
                  rw [e8_28]
                  exact ⟨by first | rfl | go_simp, xw⟩
              · skip
                refine Wp.skip ?_
                refine thenK_normal ?_
                refine Wp.seq ?_
                refine Wp.seqRegion (.inl rfl) (by kernel_rfl) fun K' gd hK hg => ?_
                have g5 : gd 5 = some 103 := hg 5
                clear hg
                refine Wops.cut 4 fun K1 hK1 => ?_
                simp only [List.take_succ_cons, List.take_zero]
                go_simp
                refine Wcall (.inl rfl) (CheckClash_c _ _ _ s c y _ (hV.ext xw) (hU.ext xw) (hY.ext xw) hf hg hyi) ?_
                rintro v w9 ⟨rfl, hE⟩
                go_simp
                refine hK1 _ _ ?_
                clear hK1 K1
                simp only [List.drop_succ_cons, List.drop_zero]
                have z29 := Below.size hE
                replace f4 := Ext.fz hE c4_0 f4
                replace f5 := Ext.fz hE c5_0 f5
                replace hL := hL.ext hE
                replace xw := Ext.trans xw hE
                replace c4_0 := Ext.cell hE c4_0
                replace c4_1 := Ext.cell hE c4_1
                replace c5_0 := Ext.cell hE c5_0
                replace c5_1 := Ext.cell hE c5_1
                replace c5_2 := Ext.cell hE c5_2
                replace c5_3 := Ext.cell hE c5_3
                clear hE
                go_simp
                refine hK _ _ ?_
                clear hK K' gd g5
                refine Wp.keep [9, 11, 16, 17, 106] fun r30 hkeep => ?_
                obtain ⟨e9_30, e11_30, e16_30, e17_30, e106_30, -⟩ := hkeep
                simp [go_sem, e3_24, e4_24, e5_24, e9_24, e11_24, e16_24, e17_24, e97_24] at e9_30 e11_30 e16_30 e17_30 e106_30
                clear e3_24 e4_24 e5_24 e9_24 e11_24 e16_24 e17_24 e97_24
                refine Wp.condF (by go_simp) ?_
                by_cases a1 : fitE s c x = 0
                · skip
                  have a3 := hnf a1
                  refine Wp.skip ?_
                  refine thenK_normal ?_
                  refine Wp.seqRegion (.inl rfl) (by kernel_rfl) fun K' gd hK hg => ?_
                  have g1 : gd 1 = some 108 := hg 1
                  have g4 : gd 4 = some 111 := hg 4
                  have g8 : gd 8 = some 115 := hg 8
                  clear hg
                  go_simp
                  refine hK _ _ ?_
                  clear hK K' gd g1 g4 g8
                  refine Wp.keep [8] fun r31 hkeep => ?_
                  obtain ⟨e8_31, -⟩ := hkeep
                  simp [go_sem, e9_30, e11_30, e16_30, e17_30, e106_30] at e8_31
                  clear e9_30 e11_30 e16_30 e17_30 e106_30
                  refine Wp.ret ?_
                  refine endK_tmp Try.results17 (by decide) ?_
                  rw [e8_31]
                  exact ⟨by first | rfl | go_simp, xw⟩
                · skip
                  refine Wp.skip ?_
                  refine thenK_normal ?_
                  refine Wp.seqRegion (.inl rfl) (by kernel_rfl) fun K' gd hK hg => ?_
                  have g1 : gd 1 = some 108 := hg 1
                  have g4 : gd 4 = some 111 := hg 4
                  have g8 : gd 8 = some 115 := hg 8
                  clear hg
                  go_simp
                  refine hK _ _ ?_
                  clear hK K' gd g1 g4 g8
                  refine Wp.keep [8] fun r32 hkeep => ?_
                  obtain ⟨e8_32, -⟩ := hkeep
                  simp [go_sem, e9_30, e11_30, e16_30, e17_30, e106_30] at e8_32
                  clear e9_30 e11_30 e16_30 e17_30 e106_30
                  refine Wp.ret ?_
                  refine endK_tmp Try.results17 (by decide) ?_
                  rw [e8_32]
                  exact ⟨by first | rfl | go_simp, xw⟩
            · skip
              rw [if_neg h9] at hL
              have hb0 : begE s c = 0 := by unfold begE okS at h9 ⊢; rw [if_pos h0] at h9 ⊢; by_cases q : (s.md c).ok = true; (rw [if_pos q]); (rw [if_neg q] at h9; exact absurd rfl h9)
              obtain ⟨A7, c7, rfl⟩ := hL.slice
              refine Wp.skip ?_
              refine thenK_normal ?_
              refine Wp.seq ?_
              refine Wp.seqRegion (.inl rfl) (by kernel_rfl) fun K' gd hK hg => ?_
              have g4 : gd 4 = some 71 := hg 4
              have g7 : gd 7 = some 74 := hg 7
              have g12 : gd 12 = some 79 := hg 12
              have g14 : gd 14 = some 81 := hg 14
              have g22 : gd 22 = some 89 := hg 22
              have g25 : gd 25 = some 92 := hg 25
              clear hg
              refine Wops.cut 19 fun K1 hK1 => ?_
              simp only [List.take_succ_cons, List.take_zero]
              go_simp
              refine hK1 _ _ ?_
              clear hK1 K1
              simp only [List.drop_succ_cons, List.drop_zero]
              go_simp
              refine hK _ _ ?_
              clear hK K' gd g4 g7 g12 g14 g22 g25
              refine Wp.keep [3, 4, 5, 9, 11, 16, 17, 97] fun r33 hkeep => ?_
              obtain ⟨e3_33, e4_33, e5_33, e9_33, e11_33, e16_33, e17_33, e97_33, -⟩ := hkeep
              simp [go_sem, e3_22, e4_22, e5_22, e9_22, e10_22, e11_22, e12_22, e14_22, e16_22, e17_22, e60_22] at e3_33 e4_33 e5_33 e9_33 e11_33 e16_33 e17_33 e97_33
              clear e3_22 e4_22 e5_22 e9_22 e10_22 e11_22 e12_22 e14_22 e16_22 e17_22 e60_22
              refine Wp.condF (by go_simp) ?_
              have hk : ¬ fclashE s c y = 0 := fun q => h9 (clash_no q)
              refine Wp.skip ?_
              refine thenK_normal ?_
              refine Wp.seq ?_
              refine Wp.seqRegion (.inl rfl) (by kernel_rfl) fun K' gd hK hg => ?_
              have g5 : gd 5 = some 103 := hg 5
              clear hg
              refine Wops.cut 4 fun K1 hK1 => ?_
              simp only [List.take_succ_cons, List.take_zero]
              go_simp
              refine Wcall (.inl rfl) (CheckClash_c _ _ _ s c y _ (hV.ext xw) (hU.ext xw) (hY.ext xw) hf hg hyi) ?_
              rintro v w9 ⟨rfl, hE⟩
              go_simp
              refine hK1 _ _ ?_
              clear hK1 K1
              simp only [List.drop_succ_cons, List.drop_zero]
              have z34 := Below.size hE
              replace f4 := Ext.fz hE c4_0 f4
              replace f5 := Ext.fz hE c5_0 f5
              replace hL := hL.ext hE
              replace xw := Ext.trans xw hE
              replace c4_0 := Ext.cell hE c4_0
              replace c4_1 := Ext.cell hE c4_1
              replace c5_0 := Ext.cell hE c5_0
              replace c5_1 := Ext.cell hE c5_1
              replace c5_2 := Ext.cell hE c5_2
              replace c5_3 := Ext.cell hE c5_3
              clear hE
              go_simp
              refine hK _ _ ?_
              clear hK K' gd g5
              refine Wp.keep [9, 11, 16, 17, 106] fun r35 hkeep => ?_
              obtain ⟨e9_35, e11_35, e16_35, e17_35, e106_35, -⟩ := hkeep
              simp [go_sem, e3_33, e4_33, e5_33, e9_33, e11_33, e16_33, e17_33, e97_33] at e9_35 e11_35 e16_35 e17_35 e106_35
              clear e3_33 e4_33 e5_33 e9_33 e11_33 e16_33 e17_33 e97_33
              refine Wp.condF (by go_simp) ?_
              by_cases a1 : fitE s c x = 0
              · skip
                by_cases a3 : (fitR s c x).2 = true
                · skip
                  refine Wp.skip ?_
                  refine thenK_normal ?_
                  refine Wp.seqRegion (.inl rfl) (by kernel_rfl) fun K' gd hK hg => ?_
                  have g1 : gd 1 = some 108 := hg 1
                  have g4 : gd 4 = some 111 := hg 4
                  have g8 : gd 8 = some 115 := hg 8
                  clear hg
                  go_simp
                  refine hK _ _ ?_
                  clear hK K' gd g1 g4 g8
                  refine Wp.keep [8] fun r36 hkeep => ?_
                  obtain ⟨e8_36, -⟩ := hkeep
                  simp [go_sem, e9_35, e11_35, e16_35, e17_35, e106_35] at e8_36
                  clear e9_35 e11_35 e16_35 e17_35 e106_35
                  refine Wp.ret ?_
                  refine endK_tmp Try.results17 (by decide) ?_
                  rw [e8_36]
                  exact ⟨by first | rfl | go_simp, xw⟩
                · skip
                  refine Wp.skip ?_
                  refine thenK_normal ?_
                  refine Wp.seqRegion (.inl rfl) (by kernel_rfl) fun K' gd hK hg => ?_
                  have g1 : gd 1 = some 108 := hg 1
                  have g4 : gd 4 = some 111 := hg 4
                  have g8 : gd 8 = some 115 := hg 8
                  clear hg
                  go_simp
                  refine hK _ _ ?_
                  clear hK K' gd g1 g4 g8
                  refine Wp.keep [8] fun r37 hkeep => ?_
                  obtain ⟨e8_37, -⟩ := hkeep
                  simp [go_sem, e9_35, e11_35, e16_35, e17_35, e106_35] at e8_37
                  clear e9_35 e11_35 e16_35 e17_35 e106_35
                  refine Wp.ret ?_
                  refine endK_tmp Try.results17 (by decide) ?_
                  rw [e8_37]
                  exact ⟨by first | rfl | go_simp, xw⟩
              · skip
                refine Wp.skip ?_
                refine thenK_normal ?_
                refine Wp.seqRegion (.inl rfl) (by kernel_rfl) fun K' gd hK hg => ?_
                have g1 : gd 1 = some 108 := hg 1
                have g4 : gd 4 = some 111 := hg 4
                have g8 : gd 8 = some 115 := hg 8
                clear hg
                go_simp
                refine hK _ _ ?_
                clear hK K' gd g1 g4 g8
                refine Wp.keep [8] fun r38 hkeep => ?_
                obtain ⟨e8_38, -⟩ := hkeep
                simp [go_sem, e9_35, e11_35, e16_35, e17_35, e106_35] at e8_38
                clear e9_35 e11_35 e16_35 e17_35 e106_35
                refine Wp.ret ?_
                refine endK_tmp Try.results17 (by decide) ?_
                rw [e8_38]
                exact ⟨by first | rfl | go_simp, xw⟩
          · skip
            refine Wp.seq ?_
            refine Wp.seqRegion (.inl rfl) (by kernel_rfl) fun K' gd hK hg => ?_
            clear hg
            go_simp
            refine hK _ _ ?_
            clear hK K' gd
            refine Wp.keep [3, 4, 5, 9, 10, 11, 12, 14, 16, 17, 60] fun r39 hkeep => ?_
            obtain ⟨e3_39, e4_39, e5_39, e9_39, e10_39, e11_39, e12_39, e14_39, e16_39, e17_39, e60_39, -⟩ := hkeep
            simp [go_sem, e3_21, e4_21, e5_21, e9_21, e10_21, e11_21, e12_21, e14_21, e16_21, e17_21] at e3_39 e4_39 e5_39 e9_39 e10_39 e11_39 e12_39 e14_39 e16_39 e17_39 e60_39
            clear e3_21 e4_21 e5_21 e9_21 e10_21 e11_21 e12_21 e14_21 e16_21 e17_21
            refine Wp.condT (by go_simp) ?_
            refine Wp.seqRegion (.inl rfl) (by kernel_rfl) fun K' gd hK hg => ?_
            have g1 : gd 1 = some 62 := hg 1
            clear hg
            go_simp
            refine hK _ _ ?_
            clear hK K' gd g1
            refine Wp.keep [8] fun r40 hkeep => ?_
            obtain ⟨e8_40, -⟩ := hkeep
            simp [go_sem, e3_39, e4_39, e5_39, e9_39, e10_39, e11_39, e12_39, e14_39, e16_39, e17_39, e60_39] at e8_40
            clear e3_39 e4_39 e5_39 e9_39 e10_39 e11_39 e12_39 e14_39 e16_39 e17_39 e60_39
            refine Wp.ret ?_
            refine thenK_ret ?_
            refine endK_tmp Try.results17 (by decide) ?_
            rw [e8_40]
            have e : begE s c = copyS s c := by unfold begE; rw [if_neg h0]
            exact ⟨by rw [e]; first | rfl | simp | go_simp, xw⟩
    · skip
      refine Wp.seq ?_
      refine Wp.seqRegion (.inl rfl) (by kernel_rfl) fun K' gd hK hg => ?_
      have g3 : gd 3 = some 22 := hg 3
      have g8 : gd 8 = some 27 := hg 8
      have g13 : gd 13 = some 32 := hg 13
      clear hg
      refine Wops.cut 2 fun K1 hK1 => ?_
      simp only [List.take_succ_cons, List.take_zero]
      go_simp
      refine Wcall (.inl rfl) (few_c _ s _ (hV.ext xw)) ?_
      rintro v w3 ⟨rfl, hE⟩
      go_simp
      refine hK1 _ _ ?_
      clear hK1 K1
      simp only [List.drop_succ_cons, List.drop_zero]
      have z41 := Below.size hE
      replace f4 := Ext.fz hE c4_0 f4
      replace f5 := Ext.fz hE c5_0 f5
      replace xw := Ext.trans xw hE
      replace c4_0 := Ext.cell hE c4_0
      replace c4_1 := Ext.cell hE c4_1
      replace c5_0 := Ext.cell hE c5_0
      replace c5_1 := Ext.cell hE c5_1
      replace c5_2 := Ext.cell hE c5_2
      replace c5_3 := Ext.cell hE c5_3
      clear hE
      refine Wops.cut 4 fun K1 hK1 => ?_
      simp only [List.take_succ_cons, List.take_zero]
      go_simp
      refine Wcall (.inl rfl) (brief_c _ c _ (hU.ext xw)) ?_
      rintro v w4 ⟨rfl, hE⟩
      go_simp
      refine hK1 _ _ ?_
      clear hK1 K1
      simp only [List.drop_succ_cons, List.drop_zero]
      have z42 := Below.size hE
      replace f4 := Ext.fz hE c4_0 f4
      replace f5 := Ext.fz hE c5_0 f5
      replace xw := Ext.trans xw hE
      replace c4_0 := Ext.cell hE c4_0
      replace c4_1 := Ext.cell hE c4_1
      replace c5_0 := Ext.cell hE c5_0
      replace c5_1 := Ext.cell hE c5_1
      replace c5_2 := Ext.cell hE c5_2
      replace c5_3 := Ext.cell hE c5_3
      clear hE
      go_simp
      refine hK _ _ ?_
      clear hK K' gd g3 g8 g13
      refine Wp.keep [2, 3, 4, 5, 9, 36] fun r43 hkeep => ?_
      obtain ⟨e2_43, e3_43, e4_43, e5_43, e9_43, e36_43, -⟩ := hkeep
      simp [go_sem, e2_4, e3_4, e4_4, e5_4, e9_4] at e2_43 e3_43 e4_43 e5_43 e9_43 e36_43
      clear e2_4 e3_4 e4_4 e5_4 e9_4
      refine Wp.condT (by go_simp) ?_
      refine Wp.seqRegion (.inl rfl) (by kernel_rfl) fun K' gd hK hg => ?_
      clear hg
      go_simp
      refine hK _ _ ?_
      clear hK K' gd
      refine Wp.keep [8] fun r44 hkeep => ?_
      obtain ⟨e8_44, -⟩ := hkeep
      simp [go_sem, e2_43, e3_43, e4_43, e5_43, e9_43, e36_43] at e8_44
      clear e2_43 e3_43 e4_43 e5_43 e9_43 e36_43
      refine Wp.ret ?_
      refine thenK_ret ?_
      refine endK_tmp Try.results17 (by decide) ?_
      rw [e8_44]
      exact ⟨rfl, xw⟩
  · skip
    refine Wp.seq ?_
    refine Wp.seqRegion (.inl rfl) (by kernel_rfl) fun K' gd hK hg => ?_
    have g3 : gd 3 = some 22 := hg 3
    have g8 : gd 8 = some 27 := hg 8
    have g13 : gd 13 = some 32 := hg 13
    clear hg
    refine Wops.cut 2 fun K1 hK1 => ?_
    simp only [List.take_succ_cons, List.take_zero]
    go_simp
    refine Wcall (.inl rfl) (few_c _ s _ (hV.ext xw)) ?_
    rintro v w3 ⟨rfl, hE⟩
    go_simp
    refine hK1 _ _ ?_
    clear hK1 K1
    simp only [List.drop_succ_cons, List.drop_zero]
    have z45 := Below.size hE
    replace f4 := Ext.fz hE c4_0 f4
    replace f5 := Ext.fz hE c5_0 f5
    replace xw := Ext.trans xw hE
    replace c4_0 := Ext.cell hE c4_0
    replace c4_1 := Ext.cell hE c4_1
    replace c5_0 := Ext.cell hE c5_0
    replace c5_1 := Ext.cell hE c5_1
    replace c5_2 := Ext.cell hE c5_2
    replace c5_3 := Ext.cell hE c5_3
    clear hE
    refine Wops.cut 4 fun K1 hK1 => ?_
    simp only [List.take_succ_cons, List.take_zero]
    go_simp
    refine hK1 _ _ ?_
    clear hK1 K1
    simp only [List.drop_succ_cons, List.drop_zero]
    go_simp
    refine hK _ _ ?_
    clear hK K' gd g3 g8 g13
    refine Wp.keep [2, 3, 4, 5, 9, 36] fun r46 hkeep => ?_
    obtain ⟨e2_46, e3_46, e4_46, e5_46, e9_46, e36_46, -⟩ := hkeep
    simp [go_sem, e2_4, e3_4, e4_4, e5_4, e9_4] at e2_46 e3_46 e4_46 e5_46 e9_46 e36_46
    clear e2_4 e3_4 e4_4 e5_4 e9_4
    refine Wp.condT (by go_simp) ?_
    refine Wp.seqRegion (.inl rfl) (by kernel_rfl) fun K' gd hK hg => ?_
    clear hg
    go_simp
    refine hK _ _ ?_
    clear hK K' gd
    refine Wp.keep [8] fun r47 hkeep => ?_
    obtain ⟨e8_47, -⟩ := hkeep
    simp [go_sem, e2_46, e3_46, e4_46, e5_46, e9_46, e36_46] at e8_47
    clear e2_46 e3_46 e4_46 e5_46 e9_46 e36_46
    refine Wp.ret ?_
    refine thenK_ret ?_
    refine endK_tmp Try.results17 (by decide) ?_
    rw [e8_47]
    exact ⟨rfl, xw⟩
end Go.Proofs.Ytnjajbkkgfohaaa
namespace Go.Proofs.Ytnjajbkkgfohaaa
open Go.RowKit Go.Wk Go.Proofs
attribute [local irreducible] Go.Wk.Wops Go.Wk.Wp Go.Wk.Mtree Go.Wk.Mops
set_option maxHeartbeats 8000000
set_option maxRecDepth 20000

theorem last_in {s : Sh} {c : Cp} (h : begE s c = 0) : AllI (s.md c).last := fun x hx => by
  obtain ⟨-, hm, hk, -, -, -, -⟩ := (show Good s ∧ MdOk (s.md c) ∧ (s.md c).ok = true ∧ True ∧ True ∧ True ∧ True by
    obtain ⟨h1, h2⟩ := begE_zero.1 h
    obtain ⟨hg0, hv0⟩ := copyS_zero.1 h1
    have hgd := checkS_zero.1 hg0
    exact ⟨hgd, hgd.mdOk hv0, h2, trivial, trivial, trivial, trivial⟩)
  obtain ⟨l1, l2, -⟩ := hm.last_fit hk
  obtain ⟨i, hi, rfl⟩ := List.mem_iff_getElem.1 hx
  have q := l2 i (by omega)
  rw [gI_lt hi] at q
  have := hm.b0
  have := hm.e7
  exact InI.of_bd (by omega) (by omega)
theorem floors_T {v u fv : Value} {s : Sh} {c : Cp} {fl : List Int} (h : fproofE s c fl = 0) (w : World) (hV : SheetV w w.heap.size v s) (hU : CopyV w w.heap.size u c) (hD : IntsV w w.heap.size fv fl) (hf : FitS s) (hg : FitC c) (hin : AllI fl) :
    CallsV Try.prog 65 #[v, u, fv] w fun v w' => v = .int .i64 0 ∧ Ext w w' :=
  (CheckFloors_c v u fv s c fl w hV hU hD hf hg hin).mono fun v w' ⟨h1, h2⟩ => ⟨by rw [h1, h], h2⟩
theorem ceils_T {v u fv : Value} {s : Sh} {c : Cp} {fl : List Int} (h : cproofE s c fl = 0) (w : World) (hV : SheetV w w.heap.size v s) (hU : CopyV w w.heap.size u c) (hD : IntsV w w.heap.size fv fl) (hf : FitS s) (hg : FitC c) (hin : AllI fl) :
    CallsV Try.prog 66 #[v, u, fv] w fun v w' => v = .int .i64 0 ∧ Ext w w' :=
  (CheckCeilings_c v u fv s c fl w hV hU hD hf hg hin).mono fun v w' ⟨h1, h2⟩ => ⟨by rw [h1, h], h2⟩
/-- what StateEnds asks, of days that fit, and of floors or ceilings -/
theorem ends_know {s : Sh} {c : Cp} (h : begE s c = 0) : copyS s c = 0 ∧ (s.md c).first.length = s.n ∧ (s.md c).last.length = s.n ∧ (s.md c).Fit (gI (s.md c).first) ∧ (s.md c).Fit (gI (s.md c).last) ∧
    fproofE s c (s.md c).first = 0 ∧ cproofE s c (s.md c).last = 0 ∧ 1 ≤ s.n ∧ s.n ≤ 40 ∧ AllI (s.md c).first ∧
    (∀ dy : List Int, dy.length = s.n → (s.md c).Fit (gI dy) → (∀ i, i < s.n → gI (s.md c).first i ≤ gI dy i ∧ gI dy i ≤ gI (s.md c).last i) ∧
      (∀ fl, fproofE s c fl = 0 → fl.length ≤ s.n ∧ ∀ i, i < fl.length → gI fl i ≤ gI dy i) ∧ (∀ cl, cproofE s c cl = 0 → cl.length = s.n ∧ ∀ i, i < s.n → gI dy i ≤ gI cl i)) := by
  obtain ⟨h1, h2⟩ := begE_zero.1 h
  obtain ⟨hg0, hv0⟩ := copyS_zero.1 h1
  have hm := (checkS_zero.1 hg0).mdOk hv0
  have hn : (s.md c).n = s.n := hv0.1
  have hk : (s.md c).ok = true := h2
  obtain ⟨f1, -, f3, f4⟩ := hm.of_ok hk
  obtain ⟨l1, l2, l3⟩ := hm.last_fit hk
  have n1 := hm.n1
  have n2 := hm.n2
  rw [hn] at f1 l1 n1 n2
  refine ⟨h1, f1, l1, f3, l2, fproofE_zero.2 ⟨h1, ⟨by omega, by omega⟩, (holdS_true hm).2 (first_floor hm)⟩, cproofE_zero.2 ⟨h1, l1, (roofS_true hm).2 (last_ceil hm)⟩, n1, n2, hm.first_in, fun dy hl hd => ⟨fun i hi => ⟨f4 _ hd i (by omega), l3 _ hd i (by omega)⟩, fun fl hf => ?_, fun cl hc => ?_⟩⟩
  · obtain ⟨-, ⟨-, q2⟩, q3⟩ := fproofE_zero.1 hf
    exact ⟨q2, floors_le hm ((holdS_true hm).1 q3) hd (by omega)⟩
  · obtain ⟨-, q2, q3⟩ := cproofE_zero.1 hc
    exact ⟨q2, fun i hi => ceils_ge hm ((roofS_true hm).1 q3) (by omega) hd i (by omega)⟩
theorem ends_fl {s : Sh} {c : Cp} {x y : List Int} (b0 : begE s c = 0) (hl : x.length = s.n) (hd : (s.md c).Fit (gI x)) (k : fproofE s c y = 0) : ∃ _u : Unit, y.length ≤ s.n ∧ ∀ i, i < y.length → gI y i ≤ gI x i := by
  obtain ⟨-, -, -, -, -, -, -, -, -, -, h⟩ := ends_know b0
  exact ⟨(), (h x hl hd).2.1 y k⟩
theorem ends_cl {s : Sh} {c : Cp} {x y : List Int} (b0 : begE s c = 0) (hl : x.length = s.n) (hd : (s.md c).Fit (gI x)) (k : cproofE s c y = 0) : ∃ _u : Unit, y.length = s.n ∧ ∀ i, i < s.n → gI x i ≤ gI y i := by
  obtain ⟨-, -, -, -, -, -, -, -, -, -, h⟩ := ends_know b0
  exact ⟨(), (h x hl hd).2.2 y k⟩
theorem ends_in {s : Sh} {c : Cp} {x : List Int} (b0 : begE s c = 0) (hl : x.length = s.n) (hd : (s.md c).Fit (gI x)) : ∃ _u : Unit, ∀ i, i < s.n → gI (s.md c).first i ≤ gI x i ∧ gI x i ≤ gI (s.md c).last i := by
  obtain ⟨-, -, -, -, -, -, -, -, -, -, h⟩ := ends_know b0
  exact ⟨(), (h x hl hd).1⟩
theorem ends_c (v u xv yv : Value) (s : Sh) (c : Cp) (x y : List Int) (w : World) (hV : SheetV w w.heap.size v s) (hU : CopyV w w.heap.size u c) (hX : IntsV w w.heap.size xv x) (hY : IntsV w w.heap.size yv y) (hf : FitS s) (hg : FitC c) {fx fy : Nat} (_hxl : x.length ≤ fx) (_hxi : AllI x) (_hyl : y.length ≤ fy) (hyi : AllI y) :
    CallsV Try.prog 19 #[v, u, xv, yv] w fun v w' => v = .bool true ∧ Ext w w' := by
  obtain ⟨wv, av, rfl, ⟨A, c1, rfl, -, -⟩, ⟨A3, c3, rfl, -, -⟩⟩ := id hV
  obtain ⟨wu, rfl, hW⟩ := id hU
  obtain ⟨A2, c2, rfl, -, -⟩ := id hW
  obtain ⟨A4, c4, rfl, hx, -⟩ := id hX
  obtain ⟨A5, c5, rfl, hy, -⟩ := id hY
  clear _hxl _hyl
  refine Wp.fn Try.func19 rfl Try.ntmps19 (by simp) ?_
  have xw := Ext.refl w
  refine Wp.keep [0, 1, 2, 3] fun r1 hkeep => ?_
  obtain ⟨e0_1, e1_1, e2_1, e3_1, -⟩ := hkeep
  simp [go_sem] at e0_1 e1_1 e2_1 e3_1
  refine Wp.seqRegion (.inl rfl) (by kernel_rfl) fun K' gd hK hg => ?_
  clear hg
  refine Wops.cut 1 fun K1 hK1 => ?_
  simp only [List.take_succ_cons, List.take_zero]
  go_simp
  refine hK1 _ _ ?_
  clear hK1 K1
  simp only [List.drop_succ_cons, List.drop_zero]
  refine Wops.absA fun V4_1 n4 hV4_1 => ?_
  obtain ⟨q4, hV4_1, s4, kV4_1, f4, r4⟩ := hV4_1
  try simp only [q4] at kV4_1 f4 r4 ⊢
  replace xw := Ext.trans xw hV4_1
  have c4_0 := kV4_1 0 _ rfl
  have c4_1 := kV4_1 1 _ rfl
  clear kV4_1 hV4_1
  clear r4
  refine Wops.cut 1 fun K1 hK1 => ?_
  simp only [List.take_succ_cons, List.take_zero]
  go_simp
  refine hK1 _ _ ?_
  clear hK1 K1
  simp only [List.drop_succ_cons, List.drop_zero]
  refine Wops.absA fun V5_2 n5 hV5_2 => ?_
  obtain ⟨q5, hV5_2, s5, kV5_2, f5, r5⟩ := hV5_2
  try simp only [q5] at kV5_2 f5 r5 ⊢
  replace f4 := Ext.fz hV5_2 c4_0 f4
  replace xw := Ext.trans xw hV5_2
  replace c4_0 := Ext.cell hV5_2 c4_0
  replace c4_1 := Ext.cell hV5_2 c4_1
  have c5_0 := kV5_2 0 _ rfl
  have c5_1 := kV5_2 1 _ rfl
  have c5_2 := kV5_2 2 _ rfl
  have c5_3 := kV5_2 3 _ rfl
  clear kV5_2 hV5_2
  clear r5
  go_simp
  refine hK _ _ ?_
  clear hK K' gd
  refine Wp.keep [2, 3, 4, 5] fun r2 hkeep => ?_
  obtain ⟨e2_2, e3_2, e4_2, e5_2, -⟩ := hkeep
  simp [go_sem, e0_1, e1_1, e2_1, e3_1] at e2_2 e3_2 e4_2 e5_2
  clear e0_1 e1_1 e2_1 e3_1
  refine Wp.seqRegion (.inl rfl) (by kernel_rfl) fun K' gd hK hg => ?_
  clear hg
  refine Wops.cut 1 fun K1 hK1 => ?_
  simp only [List.take_succ_cons, List.take_zero]
  go_simp
  refine Wcall (.inl rfl) (head_c _) ?_
  rintro v w2 ⟨rfl, hE⟩
  go_simp
  refine hK1 _ _ ?_
  clear hK1 K1
  simp only [List.drop_succ_cons, List.drop_zero]
  have z3 := Below.size hE
  replace f4 := Ext.fz hE c4_0 f4
  replace f5 := Ext.fz hE c5_0 f5
  replace xw := Ext.trans xw hE
  replace c4_0 := Ext.cell hE c4_0
  replace c4_1 := Ext.cell hE c4_1
  replace c5_0 := Ext.cell hE c5_0
  replace c5_1 := Ext.cell hE c5_1
  replace c5_2 := Ext.cell hE c5_2
  replace c5_3 := Ext.cell hE c5_3
  clear hE
  go_simp
  refine hK _ _ ?_
  clear hK K' gd
  refine Wp.keep [2, 3, 4, 5, 9] fun r4 hkeep => ?_
  obtain ⟨e2_4, e3_4, e4_4, e5_4, e9_4, -⟩ := hkeep
  simp [go_sem, e2_2, e3_2, e4_2, e5_2] at e2_4 e3_4 e4_4 e5_4 e9_4
  clear e2_2 e3_2 e4_2 e5_2
  by_cases hfw : fewS s
  · skip
    by_cases hbr : c.words.length ≤ 50
    · skip
      by_cases hxn : (60 : Int) < (x.length : Int)
      · skip
        refine Wp.seq ?_
        refine Wp.seqRegion (.inl rfl) (by kernel_rfl) fun K' gd hK hg => ?_
        have g3 : gd 3 = some 27 := hg 3
        have g8 : gd 8 = some 32 := hg 8
        have g13 : gd 13 = some 37 := hg 13
        clear hg
        refine Wops.cut 2 fun K1 hK1 => ?_
        simp only [List.take_succ_cons, List.take_zero]
        go_simp
        refine Wcall (.inl rfl) (few_c _ s _ (hV.ext xw)) ?_
        rintro v w3 ⟨rfl, hE⟩
        go_simp
        refine hK1 _ _ ?_
        clear hK1 K1
        simp only [List.drop_succ_cons, List.drop_zero]
        have z5 := Below.size hE
        replace f4 := Ext.fz hE c4_0 f4
        replace f5 := Ext.fz hE c5_0 f5
        replace xw := Ext.trans xw hE
        replace c4_0 := Ext.cell hE c4_0
        replace c4_1 := Ext.cell hE c4_1
        replace c5_0 := Ext.cell hE c5_0
        replace c5_1 := Ext.cell hE c5_1
        replace c5_2 := Ext.cell hE c5_2
        replace c5_3 := Ext.cell hE c5_3
        clear hE
        refine Wops.cut 4 fun K1 hK1 => ?_
        simp only [List.take_succ_cons, List.take_zero]
        go_simp
        refine Wcall (.inl rfl) (brief_c _ c _ (hU.ext xw)) ?_
        rintro v w4 ⟨rfl, hE⟩
        go_simp
        refine hK1 _ _ ?_
        clear hK1 K1
        simp only [List.drop_succ_cons, List.drop_zero]
        have z6 := Below.size hE
        replace f4 := Ext.fz hE c4_0 f4
        replace f5 := Ext.fz hE c5_0 f5
        replace xw := Ext.trans xw hE
        replace c4_0 := Ext.cell hE c4_0
        replace c4_1 := Ext.cell hE c4_1
        replace c5_0 := Ext.cell hE c5_0
        replace c5_1 := Ext.cell hE c5_1
        replace c5_2 := Ext.cell hE c5_2
        replace c5_3 := Ext.cell hE c5_3
        clear hE
        go_simp
        refine hK _ _ ?_
        clear hK K' gd g3 g8 g13
        refine Wp.keep [2, 3, 4, 5, 9, 41] fun r7 hkeep => ?_
        obtain ⟨e2_7, e3_7, e4_7, e5_7, e9_7, e41_7, -⟩ := hkeep
        simp [go_sem, e2_4, e3_4, e4_4, e5_4, e9_4] at e2_7 e3_7 e4_7 e5_7 e9_7 e41_7
        clear e2_4 e3_4 e4_4 e5_4 e9_4
        refine Wp.condT (by go_simp) ?_
        refine Wp.seqRegion (.inl rfl) (by kernel_rfl) fun K' gd hK hg => ?_
        clear hg
        go_simp
        refine hK _ _ ?_
        clear hK K' gd
        refine Wp.keep [8] fun r8 hkeep => ?_
        obtain ⟨e8_8, -⟩ := hkeep
        simp [go_sem, e2_7, e3_7, e4_7, e5_7, e9_7, e41_7] at e8_8
        clear e2_7 e3_7 e4_7 e5_7 e9_7 e41_7
        refine Wp.ret ?_
        refine thenK_ret ?_
        refine endK_tmp Try.results19 (by decide) ?_
        rw [e8_8]
        exact ⟨rfl, xw⟩
      · skip
        by_cases hyn : (60 : Int) < (y.length : Int)
        · skip
          refine Wp.seq ?_
          refine Wp.seqRegion (.inl rfl) (by kernel_rfl) fun K' gd hK hg => ?_
          have g3 : gd 3 = some 27 := hg 3
          have g8 : gd 8 = some 32 := hg 8
          have g13 : gd 13 = some 37 := hg 13
          clear hg
          refine Wops.cut 2 fun K1 hK1 => ?_
          simp only [List.take_succ_cons, List.take_zero]
          go_simp
          refine Wcall (.inl rfl) (few_c _ s _ (hV.ext xw)) ?_
          rintro v w3 ⟨rfl, hE⟩
          go_simp
          refine hK1 _ _ ?_
          clear hK1 K1
          simp only [List.drop_succ_cons, List.drop_zero]
          have z9 := Below.size hE
          replace f4 := Ext.fz hE c4_0 f4
          replace f5 := Ext.fz hE c5_0 f5
          replace xw := Ext.trans xw hE
          replace c4_0 := Ext.cell hE c4_0
          replace c4_1 := Ext.cell hE c4_1
          replace c5_0 := Ext.cell hE c5_0
          replace c5_1 := Ext.cell hE c5_1
          replace c5_2 := Ext.cell hE c5_2
          replace c5_3 := Ext.cell hE c5_3
          clear hE
          refine Wops.cut 4 fun K1 hK1 => ?_
          simp only [List.take_succ_cons, List.take_zero]
          go_simp
          refine Wcall (.inl rfl) (brief_c _ c _ (hU.ext xw)) ?_
          rintro v w4 ⟨rfl, hE⟩
          go_simp
          refine hK1 _ _ ?_
          clear hK1 K1
          simp only [List.drop_succ_cons, List.drop_zero]
          have z10 := Below.size hE
          replace f4 := Ext.fz hE c4_0 f4
          replace f5 := Ext.fz hE c5_0 f5
          replace xw := Ext.trans xw hE
          replace c4_0 := Ext.cell hE c4_0
          replace c4_1 := Ext.cell hE c4_1
          replace c5_0 := Ext.cell hE c5_0
          replace c5_1 := Ext.cell hE c5_1
          replace c5_2 := Ext.cell hE c5_2
          replace c5_3 := Ext.cell hE c5_3
          clear hE
          go_simp
          refine hK _ _ ?_
          clear hK K' gd g3 g8 g13
          refine Wp.keep [2, 3, 4, 5, 9, 41] fun r11 hkeep => ?_
          obtain ⟨e2_11, e3_11, e4_11, e5_11, e9_11, e41_11, -⟩ := hkeep
          simp [go_sem, e2_4, e3_4, e4_4, e5_4, e9_4] at e2_11 e3_11 e4_11 e5_11 e9_11 e41_11
          clear e2_4 e3_4 e4_4 e5_4 e9_4
          refine Wp.condT (by go_simp) ?_
          refine Wp.seqRegion (.inl rfl) (by kernel_rfl) fun K' gd hK hg => ?_
          clear hg
          go_simp
          refine hK _ _ ?_
          clear hK K' gd
          refine Wp.keep [8] fun r12 hkeep => ?_
          obtain ⟨e8_12, -⟩ := hkeep
          simp [go_sem, e2_11, e3_11, e4_11, e5_11, e9_11, e41_11] at e8_12
          clear e2_11 e3_11 e4_11 e5_11 e9_11 e41_11
          refine Wp.ret ?_
          refine thenK_ret ?_
          refine endK_tmp Try.results19 (by decide) ?_
          rw [e8_12]
          exact ⟨rfl, xw⟩
        · skip
          have hx6 : x.length ≤ 60 := by omega
          have hy6 : y.length ≤ 60 := by omega
          refine Wp.seq ?_
          refine Wp.seqRegion (.inl rfl) (by kernel_rfl) fun K' gd hK hg => ?_
          have g3 : gd 3 = some 27 := hg 3
          have g8 : gd 8 = some 32 := hg 8
          have g13 : gd 13 = some 37 := hg 13
          clear hg
          refine Wops.cut 2 fun K1 hK1 => ?_
          simp only [List.take_succ_cons, List.take_zero]
          go_simp
          refine Wcall (.inl rfl) (few_c _ s _ (hV.ext xw)) ?_
          rintro v w3 ⟨rfl, hE⟩
          go_simp
          refine hK1 _ _ ?_
          clear hK1 K1
          simp only [List.drop_succ_cons, List.drop_zero]
          have z13 := Below.size hE
          replace f4 := Ext.fz hE c4_0 f4
          replace f5 := Ext.fz hE c5_0 f5
          replace xw := Ext.trans xw hE
          replace c4_0 := Ext.cell hE c4_0
          replace c4_1 := Ext.cell hE c4_1
          replace c5_0 := Ext.cell hE c5_0
          replace c5_1 := Ext.cell hE c5_1
          replace c5_2 := Ext.cell hE c5_2
          replace c5_3 := Ext.cell hE c5_3
          clear hE
          refine Wops.cut 4 fun K1 hK1 => ?_
          simp only [List.take_succ_cons, List.take_zero]
          go_simp
          refine Wcall (.inl rfl) (brief_c _ c _ (hU.ext xw)) ?_
          rintro v w4 ⟨rfl, hE⟩
          go_simp
          refine hK1 _ _ ?_
          clear hK1 K1
          simp only [List.drop_succ_cons, List.drop_zero]
          have z14 := Below.size hE
          replace f4 := Ext.fz hE c4_0 f4
          replace f5 := Ext.fz hE c5_0 f5
          replace xw := Ext.trans xw hE
          replace c4_0 := Ext.cell hE c4_0
          replace c4_1 := Ext.cell hE c4_1
          replace c5_0 := Ext.cell hE c5_0
          replace c5_1 := Ext.cell hE c5_1
          replace c5_2 := Ext.cell hE c5_2
          replace c5_3 := Ext.cell hE c5_3
          clear hE
          go_simp
          refine hK _ _ ?_
          clear hK K' gd g3 g8 g13
          refine Wp.keep [2, 3, 4, 5, 9, 41] fun r15 hkeep => ?_
          obtain ⟨e2_15, e3_15, e4_15, e5_15, e9_15, e41_15, -⟩ := hkeep
          simp [go_sem, e2_4, e3_4, e4_4, e5_4, e9_4] at e2_15 e3_15 e4_15 e5_15 e9_15 e41_15
          clear e2_4 e3_4 e4_4 e5_4 e9_4
          refine Wp.condF (by go_simp) ?_
          refine Wp.skip ?_
          refine thenK_normal ?_
          refine Wp.seqRegion (.inl rfl) (by kernel_rfl) fun K' gd hK hg => ?_
          clear hg
          refine Wops.cut 3 fun K1 hK1 => ?_
          simp only [List.take_succ_cons, List.take_zero]
          go_simp
          refine Wcall (.inl rfl) (First_c _ _ s c _ (hV.ext xw) (hU.ext xw) hf hg) ?_
          rintro v w5 ⟨t10, rfl, hI, hE⟩
          go_simp
          refine hK1 _ _ ?_
          clear hK1 K1
          simp only [List.drop_succ_cons, List.drop_zero]
          have z16 := Below.size hE
          replace f4 := Ext.fz hE c4_0 f4
          replace f5 := Ext.fz hE c5_0 f5
          replace xw := Ext.trans xw hE
          replace c4_0 := Ext.cell hE c4_0
          replace c4_1 := Ext.cell hE c4_1
          replace c5_0 := Ext.cell hE c5_0
          replace c5_1 := Ext.cell hE c5_1
          replace c5_2 := Ext.cell hE c5_2
          replace c5_3 := Ext.cell hE c5_3
          clear hE
          go_simp
          refine hK _ _ ?_
          clear hK K' gd
          refine Wp.keep [2, 3, 4, 5, 9, 10, 11] fun r17 hkeep => ?_
          obtain ⟨e2_17, e3_17, e4_17, e5_17, e9_17, e10_17, e11_17, -⟩ := hkeep
          simp [go_sem, e2_15, e3_15, e4_15, e5_15, e9_15, e41_15] at e2_17 e3_17 e4_17 e5_17 e9_17 e10_17 e11_17
          clear e2_15 e3_15 e4_15 e5_15 e9_15 e41_15
          refine Wp.seqRegion (.inl rfl) (by kernel_rfl) fun K' gd hK hg => ?_
          clear hg
          refine Wops.cut 3 fun K1 hK1 => ?_
          simp only [List.take_succ_cons, List.take_zero]
          go_simp
          refine Wcall (.inl rfl) (Last_c _ _ s c _ (hV.ext xw) (hU.ext xw) hf hg) ?_
          rintro v w6 ⟨t12, rfl, hJ, hE⟩
          go_simp
          refine hK1 _ _ ?_
          clear hK1 K1
          simp only [List.drop_succ_cons, List.drop_zero]
          have z18 := Below.size hE
          replace f4 := Ext.fz hE c4_0 f4
          replace f5 := Ext.fz hE c5_0 f5
          replace hI := hI.ext hE
          replace xw := Ext.trans xw hE
          replace c4_0 := Ext.cell hE c4_0
          replace c4_1 := Ext.cell hE c4_1
          replace c5_0 := Ext.cell hE c5_0
          replace c5_1 := Ext.cell hE c5_1
          replace c5_2 := Ext.cell hE c5_2
          replace c5_3 := Ext.cell hE c5_3
          clear hE
          go_simp
          refine hK _ _ ?_
          clear hK K' gd
          refine Wp.keep [2, 3, 4, 5, 9, 10, 11, 12, 13] fun r19 hkeep => ?_
          obtain ⟨e2_19, e3_19, e4_19, e5_19, e9_19, e10_19, e11_19, e12_19, e13_19, -⟩ := hkeep
          simp [go_sem, e2_17, e3_17, e4_17, e5_17, e9_17, e10_17, e11_17] at e2_19 e3_19 e4_19 e5_19 e9_19 e10_19 e11_19 e12_19 e13_19
          clear e2_17 e3_17 e4_17 e5_17 e9_17 e10_17 e11_17
          refine Wp.seqRegion (.inl rfl) (by kernel_rfl) fun K' gd hK hg => ?_
          clear hg
          refine Wops.cut 4 fun K1 hK1 => ?_
          simp only [List.take_succ_cons, List.take_zero]
          go_simp
          refine Wcall (.inl rfl) (Fits_c _ _ _ s c x _ (hV.ext xw) (hU.ext xw) (hX.ext xw) hf hg (by omega)) ?_
          rintro v w7 ⟨rfl, hE⟩
          go_simp
          refine hK1 _ _ ?_
          clear hK1 K1
          simp only [List.drop_succ_cons, List.drop_zero]
          have z20 := Below.size hE
          replace f4 := Ext.fz hE c4_0 f4
          replace f5 := Ext.fz hE c5_0 f5
          replace hI := hI.ext hE
          replace hJ := hJ.ext hE
          replace xw := Ext.trans xw hE
          replace c4_0 := Ext.cell hE c4_0
          replace c4_1 := Ext.cell hE c4_1
          replace c5_0 := Ext.cell hE c5_0
          replace c5_1 := Ext.cell hE c5_1
          replace c5_2 := Ext.cell hE c5_2
          replace c5_3 := Ext.cell hE c5_3
          clear hE
          go_simp
          refine hK _ _ ?_
          clear hK K' gd
          refine Wp.keep [2, 3, 4, 5, 9, 10, 11, 12, 13, 15, 16] fun r21 hkeep => ?_
          obtain ⟨e2_21, e3_21, e4_21, e5_21, e9_21, e10_21, e11_21, e12_21, e13_21, e15_21, e16_21, -⟩ := hkeep
          simp [go_sem, e2_19, e3_19, e4_19, e5_19, e9_19, e10_19, e11_19, e12_19, e13_19] at e2_21 e3_21 e4_21 e5_21 e9_21 e10_21 e11_21 e12_21 e13_21 e15_21 e16_21
          clear e2_19 e3_19 e4_19 e5_19 e9_19 e10_19 e11_19 e12_19 e13_19
          by_cases b0 : begE s c = 0
          · skip
            rw [if_pos b0] at hI hJ
            obtain ⟨h0, n1, n2, p1, p2, p3, p4, hn1, hn40, i1, -⟩ := ends_know b0
            have i2 := last_in b0
            replace n1 : ∃ _u : Unit, (s.md c).first.length = s.n := ⟨(), n1⟩
            replace n2 : ∃ _u : Unit, (s.md c).last.length = s.n := ⟨(), n2⟩
            obtain ⟨A7, c7, rfl⟩ := hI.slice
            obtain ⟨A8, c8, rfl⟩ := hJ.slice
            refine Wp.seq ?_
            refine Wp.cut (fun ρ ds W => AllEq [2, 3, 4, 5, 9, 10, 11, 12, 15, 16] ρ r21 ∧ ds = [] ∧ (Ext w7 W) ∧ (True)) ?_ ?_
            · have xq3 := Ext.refl w7
              by_cases a1 : fitE s c x = 0
              · skip
                by_cases a3 : (fitR s c x).2 = true
                · skip
                  refine Wp.seqRegion (.inl rfl) (by kernel_rfl) fun K' gd hK hg => ?_
                  have g3 : gd 3 = some 66 := hg 3
                  have g6 : gd 6 = some 69 := hg 6
                  have g9 : gd 9 = some 72 := hg 9
                  clear hg
                  go_simp
                  refine hK _ _ ?_
                  clear hK K' gd g3 g6 g9
                  refine Wp.keep [2, 3, 4, 5, 9, 10, 11, 12, 15, 16, 76] fun r22 hkeep => ?_
                  obtain ⟨e2_22, e3_22, e4_22, e5_22, e9_22, e10_22, e11_22, e12_22, e15_22, e16_22, e76_22, -⟩ := hkeep
                  simp [go_sem, e2_21, e3_21, e4_21, e5_21, e9_21, e10_21, e11_21, e12_21, e13_21, e15_21, e16_21] at e2_22 e3_22 e4_22 e5_22 e9_22 e10_22 e11_22 e12_22 e15_22 e16_22 e76_22
                  clear e13_21
                  refine Wp.condF (by go_simp) ?_
                  refine Wp.skip ?_
                  refine cutK_normal ⟨⟨by rw [e2_22, e2_21], by rw [e3_22, e3_21], by rw [e4_22, e4_21], by rw [e5_22, e5_21], by rw [e9_22, e9_21], by rw [e10_22, e10_21], by rw [e11_22, e11_21], by rw [e12_22, e12_21], by rw [e15_22, e15_21], by rw [e16_22, e16_21], trivial⟩, rfl, xq3, ?_⟩
                  trivial
                · skip
                  refine Wp.seqRegion (.inl rfl) (by kernel_rfl) fun K' gd hK hg => ?_
                  have g3 : gd 3 = some 66 := hg 3
                  have g6 : gd 6 = some 69 := hg 6
                  have g9 : gd 9 = some 72 := hg 9
                  clear hg
                  go_simp
                  refine hK _ _ ?_
                  clear hK K' gd g3 g6 g9
                  refine Wp.keep [2, 3, 4, 5, 9, 10, 11, 12, 15, 16, 76] fun r23 hkeep => ?_
                  obtain ⟨e2_23, e3_23, e4_23, e5_23, e9_23, e10_23, e11_23, e12_23, e15_23, e16_23, e76_23, -⟩ := hkeep
                  simp [go_sem, e2_21, e3_21, e4_21, e5_21, e9_21, e10_21, e11_21, e12_21, e13_21, e15_21, e16_21] at e2_23 e3_23 e4_23 e5_23 e9_23 e10_23 e11_23 e12_23 e15_23 e16_23 e76_23
                  clear e13_21
                  refine Wp.condF (by go_simp) ?_
                  refine Wp.skip ?_
                  refine cutK_normal ⟨⟨by rw [e2_23, e2_21], by rw [e3_23, e3_21], by rw [e4_23, e4_21], by rw [e5_23, e5_21], by rw [e9_23, e9_21], by rw [e10_23, e10_21], by rw [e11_23, e11_21], by rw [e12_23, e12_21], by rw [e15_23, e15_21], by rw [e16_23, e16_21], trivial⟩, rfl, xq3, ?_⟩
                  trivial
              · skip
                refine Wp.seqRegion (.inl rfl) (by kernel_rfl) fun K' gd hK hg => ?_
                have g3 : gd 3 = some 66 := hg 3
                have g6 : gd 6 = some 69 := hg 6
                have g9 : gd 9 = some 72 := hg 9
                clear hg
                go_simp
                refine hK _ _ ?_
                clear hK K' gd g3 g6 g9
                refine Wp.keep [2, 3, 4, 5, 9, 10, 11, 12, 15, 16, 76] fun r24 hkeep => ?_
                obtain ⟨e2_24, e3_24, e4_24, e5_24, e9_24, e10_24, e11_24, e12_24, e15_24, e16_24, e76_24, -⟩ := hkeep
                simp [go_sem, e2_21, e3_21, e4_21, e5_21, e9_21, e10_21, e11_21, e12_21, e13_21, e15_21, e16_21] at e2_24 e3_24 e4_24 e5_24 e9_24 e10_24 e11_24 e12_24 e15_24 e16_24 e76_24
                clear e13_21
                refine Wp.condF (by go_simp) ?_
                refine Wp.skip ?_
                refine cutK_normal ⟨⟨by rw [e2_24, e2_21], by rw [e3_24, e3_21], by rw [e4_24, e4_21], by rw [e5_24, e5_21], by rw [e9_24, e9_21], by rw [e10_24, e10_21], by rw [e11_24, e11_21], by rw [e12_24, e12_21], by rw [e15_24, e15_21], by rw [e16_24, e16_21], trivial⟩, rfl, xq3, ?_⟩
                trivial
            · rintro r25 _ W3 ⟨hA, rfl, xq3, -⟩
              obtain ⟨e2_25, e3_25, e4_25, e5_25, e9_25, e10_25, e11_25, e12_25, e15_25, e16_25, -⟩ := hA
              rw [e2_21] at e2_25
              rw [e3_21] at e3_25
              rw [e4_21] at e4_25
              rw [e5_21] at e5_25
              rw [e9_21] at e9_25
              rw [e10_21] at e10_25
              rw [e11_21] at e11_25
              rw [e12_21] at e12_25
              rw [e15_21] at e15_25
              rw [e16_21] at e16_25
              clear e2_21 e3_21 e4_21 e5_21 e9_21 e10_21 e11_21 e12_21 e13_21 e15_21 e16_21
              have zxq3 := Below.size xq3
              replace f4 := Ext.fz xq3 c4_0 f4
              replace f5 := Ext.fz xq3 c5_0 f5
              replace hI := hI.ext xq3
              replace hJ := hJ.ext xq3
              replace xw := Ext.trans xw xq3
              replace c4_0 := Ext.cell xq3 c4_0
              replace c4_1 := Ext.cell xq3 c4_1
              replace c5_0 := Ext.cell xq3 c5_0
              replace c5_1 := Ext.cell xq3 c5_1
              replace c5_2 := Ext.cell xq3 c5_2
              replace c5_3 := Ext.cell xq3 c5_3
              refine thenK_normal ?_
              refine Wp.seq ?_
              refine Wp.cut (fun ρ ds W => AllEq [2, 4, 5, 9, 10, 11, 12, 15, 16] ρ r25 ∧ ds = [] ∧ (Ext W3 W) ∧ (True)) ?_ ?_
              · have xq4 := Ext.refl W3
                by_cases a1 : fitE s c x = 0
                · skip
                  by_cases a3 : (fitR s c x).2 = true
                  · skip
                    refine Wp.seqRegion (.inl rfl) (by kernel_rfl) fun K' gd hK hg => ?_
                    have g2 : gd 2 = some 79 := hg 2
                    clear hg
                    go_simp
                    refine hK _ _ ?_
                    clear hK K' gd g2
                    refine Wp.keep [2, 3, 4, 5, 9, 10, 11, 12, 15, 16, 81] fun r26 hkeep => ?_
                    obtain ⟨e2_26, e3_26, e4_26, e5_26, e9_26, e10_26, e11_26, e12_26, e15_26, e16_26, e81_26, -⟩ := hkeep
                    simp [go_sem, e2_25, e3_25, e4_25, e5_25, e9_25, e10_25, e11_25, e12_25, e15_25, e16_25] at e2_26 e3_26 e4_26 e5_26 e9_26 e10_26 e11_26 e12_26 e15_26 e16_26 e81_26
                    clear e3_25
                    refine Wp.condT (by go_simp) ?_
                    obtain ⟨-, hxs, hfx⟩ := fitR_true.1 ⟨a1, a3⟩
                    have m2 : fproofE s c y = 0 → _ := ends_fl b0 hxs hfx
                    have m3 : cproofE s c y = 0 → _ := ends_cl b0 hxs hfx
                    replace hxs : ∃ _u : Unit, x.length = s.n := ⟨(), hxs⟩
                    by_cases k1 : fproofE s c y = 0
                    · skip
                      have m5 := m2 k1
                      clear m2
                      by_cases k2 : cproofE s c y = 0
                      · skip
                        have m7 := m3 k2
                        clear m3
                        refine Wp.seqRegion (.inl rfl) (by kernel_rfl) fun K' gd hK hg => ?_
                        have g5 : gd 5 = some 87 := hg 5
                        have g13 : gd 13 = some 95 := hg 13
                        have g19 : gd 19 = some 101 := hg 19
                        clear hg
                        refine Wops.cut 4 fun K1 hK1 => ?_
                        simp only [List.take_succ_cons, List.take_zero]
                        go_simp
                        refine Wcall (.inl rfl) (CheckFloors_c _ _ _ s c y _ (hV.ext xw) (hU.ext xw) (hY.ext xw) hf hg hyi) ?_
                        rintro v w8 ⟨rfl, hE⟩
                        go_simp
                        refine hK1 _ _ ?_
                        clear hK1 K1
                        simp only [List.drop_succ_cons, List.drop_zero]
                        have z27 := Below.size hE
                        replace f4 := Ext.fz hE c4_0 f4
                        replace f5 := Ext.fz hE c5_0 f5
                        replace hI := hI.ext hE
                        replace hJ := hJ.ext hE
                        replace xw := Ext.trans xw hE
                        replace xq4 := Ext.trans xq4 hE
                        replace c4_0 := Ext.cell hE c4_0
                        replace c4_1 := Ext.cell hE c4_1
                        replace c5_0 := Ext.cell hE c5_0
                        replace c5_1 := Ext.cell hE c5_1
                        replace c5_2 := Ext.cell hE c5_2
                        replace c5_3 := Ext.cell hE c5_3
                        clear hE
                        refine Wops.cut 7 fun K1 hK1 => ?_
                        simp only [List.take_succ_cons, List.take_zero]
                        go_simp
                        refine Wcall (.inl rfl) (below_T (Nat.le_refl _) (by have := hxs.choose_spec; have := m5.choose_spec.1; omega) m5.choose_spec.2 (by omega) _ (hY.ext xw) (hX.ext xw)) ?_
                        rintro v w9 ⟨rfl, hE⟩
                        go_simp
                        refine hK1 _ _ ?_
                        clear hK1 K1
                        simp only [List.drop_succ_cons, List.drop_zero]
                        have z28 := Below.size hE
                        replace f4 := Ext.fz hE c4_0 f4
                        replace f5 := Ext.fz hE c5_0 f5
                        replace hI := hI.ext hE
                        replace hJ := hJ.ext hE
                        replace xw := Ext.trans xw hE
                        replace xq4 := Ext.trans xq4 hE
                        replace c4_0 := Ext.cell hE c4_0
                        replace c4_1 := Ext.cell hE c4_1
                        replace c5_0 := Ext.cell hE c5_0
                        replace c5_1 := Ext.cell hE c5_1
                        replace c5_2 := Ext.cell hE c5_2
                        replace c5_3 := Ext.cell hE c5_3
                        clear hE
                        refine Wops.cut 7 fun K1 hK1 => ?_
                        simp only [List.take_succ_cons, List.take_zero]
                        go_simp
                        refine Wcall (.inl rfl) (CheckCeilings_c _ _ _ s c y _ (hV.ext xw) (hU.ext xw) (hY.ext xw) hf hg hyi) ?_
                        rintro v w10 ⟨rfl, hE⟩
                        go_simp
                        refine hK1 _ _ ?_
                        clear hK1 K1
                        simp only [List.drop_succ_cons, List.drop_zero]
                        have z29 := Below.size hE
                        replace f4 := Ext.fz hE c4_0 f4
                        replace f5 := Ext.fz hE c5_0 f5
                        replace hI := hI.ext hE
                        replace hJ := hJ.ext hE
                        replace xw := Ext.trans xw hE
                        replace xq4 := Ext.trans xq4 hE
                        replace c4_0 := Ext.cell hE c4_0
                        replace c4_1 := Ext.cell hE c4_1
                        replace c5_0 := Ext.cell hE c5_0
                        replace c5_1 := Ext.cell hE c5_1
                        replace c5_2 := Ext.cell hE c5_2
                        replace c5_3 := Ext.cell hE c5_3
                        clear hE
                        refine Wops.cut 7 fun K1 hK1 => ?_
                        simp only [List.take_succ_cons, List.take_zero]
                        go_simp
                        refine Wcall (.inl rfl) (below_T (Nat.le_refl _) (by have := hxs.choose_spec; have := m7.choose_spec.1; omega) (fun i hi => m7.choose_spec.2 i (by have := hxs.choose_spec; omega)) (by omega) _ (hX.ext xw) (hY.ext xw)) ?_
                        rintro v w11 ⟨rfl, hE⟩
                        go_simp
                        refine hK1 _ _ ?_
                        clear hK1 K1
                        simp only [List.drop_succ_cons, List.drop_zero]
                        have z30 := Below.size hE
                        replace f4 := Ext.fz hE c4_0 f4
                        replace f5 := Ext.fz hE c5_0 f5
                        replace hI := hI.ext hE
                        replace hJ := hJ.ext hE
                        replace xw := Ext.trans xw hE
                        replace xq4 := Ext.trans xq4 hE
                        replace c4_0 := Ext.cell hE c4_0
                        replace c4_1 := Ext.cell hE c4_1
                        replace c5_0 := Ext.cell hE c5_0
                        replace c5_1 := Ext.cell hE c5_1
                        replace c5_2 := Ext.cell hE c5_2
                        replace c5_3 := Ext.cell hE c5_3
                        clear hE
                        go_simp
                        refine hK _ _ ?_
                        clear hK K' gd g5 g13 g19
                        refine Wp.keep [2, 4, 5, 9, 10, 11, 12, 15, 16, 109] fun r31 hkeep => ?_
                        obtain ⟨e2_31, e4_31, e5_31, e9_31, e10_31, e11_31, e12_31, e15_31, e16_31, e109_31, -⟩ := hkeep
                        simp [go_sem, e2_26, e3_26, e4_26, e5_26, e9_26, e10_26, e11_26, e12_26, e15_26, e16_26, e81_26] at e2_31 e4_31 e5_31 e9_31 e10_31 e11_31 e12_31 e15_31 e16_31 e109_31
                        clear e2_26 e3_26 e4_26 e5_26 e9_26 e10_26 e11_26 e12_26 e15_26 e16_26 e81_26
                        refine Wp.condF (by go_simp) ?_
                        refine Wp.skip ?_
                        refine cutK_normal ⟨⟨by rw [e2_31, e2_25], by rw [e4_31, e4_25], by rw [e5_31, e5_25], by rw [e9_31, e9_25], by rw [e10_31, e10_25], by rw [e11_31, e11_25], by rw [e12_31, e12_25], by rw [e15_31, e15_25], by rw [e16_31, e16_25], trivial⟩, rfl, xq4, ?_⟩
                        trivial
                      · skip
                        refine Wp.seqRegion (.inl rfl) (by kernel_rfl) fun K' gd hK hg => ?_
                        have g5 : gd 5 = some 87 := hg 5
                        have g13 : gd 13 = some 95 := hg 13
                        have g19 : gd 19 = some 101 := hg 19
                        clear hg
                        refine Wops.cut 4 fun K1 hK1 => ?_
                        simp only [List.take_succ_cons, List.take_zero]
                        go_simp
                        refine Wcall (.inl rfl) (CheckFloors_c _ _ _ s c y _ (hV.ext xw) (hU.ext xw) (hY.ext xw) hf hg hyi) ?_
                        rintro v w8 ⟨rfl, hE⟩
                        go_simp
                        refine hK1 _ _ ?_
                        clear hK1 K1
                        simp only [List.drop_succ_cons, List.drop_zero]
                        have z32 := Below.size hE
                        replace f4 := Ext.fz hE c4_0 f4
                        replace f5 := Ext.fz hE c5_0 f5
                        replace hI := hI.ext hE
                        replace hJ := hJ.ext hE
                        replace xw := Ext.trans xw hE
                        replace xq4 := Ext.trans xq4 hE
                        replace c4_0 := Ext.cell hE c4_0
                        replace c4_1 := Ext.cell hE c4_1
                        replace c5_0 := Ext.cell hE c5_0
                        replace c5_1 := Ext.cell hE c5_1
                        replace c5_2 := Ext.cell hE c5_2
                        replace c5_3 := Ext.cell hE c5_3
                        clear hE
                        refine Wops.cut 7 fun K1 hK1 => ?_
                        simp only [List.take_succ_cons, List.take_zero]
                        go_simp
                        refine Wcall (.inl rfl) (below_T (Nat.le_refl _) (by have := hxs.choose_spec; have := m5.choose_spec.1; omega) m5.choose_spec.2 (by omega) _ (hY.ext xw) (hX.ext xw)) ?_
                        rintro v w9 ⟨rfl, hE⟩
                        go_simp
                        refine hK1 _ _ ?_
                        clear hK1 K1
                        simp only [List.drop_succ_cons, List.drop_zero]
                        have z33 := Below.size hE
                        replace f4 := Ext.fz hE c4_0 f4
                        replace f5 := Ext.fz hE c5_0 f5
                        replace hI := hI.ext hE
                        replace hJ := hJ.ext hE
                        replace xw := Ext.trans xw hE
                        replace xq4 := Ext.trans xq4 hE
                        replace c4_0 := Ext.cell hE c4_0
                        replace c4_1 := Ext.cell hE c4_1
                        replace c5_0 := Ext.cell hE c5_0
                        replace c5_1 := Ext.cell hE c5_1
                        replace c5_2 := Ext.cell hE c5_2
                        replace c5_3 := Ext.cell hE c5_3
                        clear hE
                        refine Wops.cut 7 fun K1 hK1 => ?_
                        simp only [List.take_succ_cons, List.take_zero]
                        go_simp
                        refine Wcall (.inl rfl) (CheckCeilings_c _ _ _ s c y _ (hV.ext xw) (hU.ext xw) (hY.ext xw) hf hg hyi) ?_
                        rintro v w10 ⟨rfl, hE⟩
                        go_simp
                        refine hK1 _ _ ?_
                        clear hK1 K1
                        simp only [List.drop_succ_cons, List.drop_zero]
                        have z34 := Below.size hE
                        replace f4 := Ext.fz hE c4_0 f4
                        replace f5 := Ext.fz hE c5_0 f5
                        replace hI := hI.ext hE
                        replace hJ := hJ.ext hE
                        replace xw := Ext.trans xw hE
                        replace xq4 := Ext.trans xq4 hE
                        replace c4_0 := Ext.cell hE c4_0
                        replace c4_1 := Ext.cell hE c4_1
                        replace c5_0 := Ext.cell hE c5_0
                        replace c5_1 := Ext.cell hE c5_1
                        replace c5_2 := Ext.cell hE c5_2
                        replace c5_3 := Ext.cell hE c5_3
                        clear hE
                        refine Wops.cut 7 fun K1 hK1 => ?_
                        simp only [List.take_succ_cons, List.take_zero]
                        go_simp
                        refine hK1 _ _ ?_
                        clear hK1 K1
                        simp only [List.drop_succ_cons, List.drop_zero]
                        go_simp
                        refine hK _ _ ?_
                        clear hK K' gd g5 g13 g19
                        refine Wp.keep [2, 4, 5, 9, 10, 11, 12, 15, 16, 109] fun r35 hkeep => ?_
                        obtain ⟨e2_35, e4_35, e5_35, e9_35, e10_35, e11_35, e12_35, e15_35, e16_35, e109_35, -⟩ := hkeep
                        simp [go_sem, e2_26, e3_26, e4_26, e5_26, e9_26, e10_26, e11_26, e12_26, e15_26, e16_26, e81_26] at e2_35 e4_35 e5_35 e9_35 e10_35 e11_35 e12_35 e15_35 e16_35 e109_35
                        clear e2_26 e3_26 e4_26 e5_26 e9_26 e10_26 e11_26 e12_26 e15_26 e16_26 e81_26
                        refine Wp.condF (by go_simp) ?_
                        refine Wp.skip ?_
                        refine cutK_normal ⟨⟨by rw [e2_35, e2_25], by rw [e4_35, e4_25], by rw [e5_35, e5_25], by rw [e9_35, e9_25], by rw [e10_35, e10_25], by rw [e11_35, e11_25], by rw [e12_35, e12_25], by rw [e15_35, e15_25], by rw [e16_35, e16_25], trivial⟩, rfl, xq4, ?_⟩
                        trivial
                    · skip
                      by_cases k2 : cproofE s c y = 0
                      · skip
                        have m7 := m3 k2
                        clear m3
                        refine Wp.seqRegion (.inl rfl) (by kernel_rfl) fun K' gd hK hg => ?_
                        have g5 : gd 5 = some 87 := hg 5
                        have g13 : gd 13 = some 95 := hg 13
                        have g19 : gd 19 = some 101 := hg 19
                        clear hg
                        refine Wops.cut 4 fun K1 hK1 => ?_
                        simp only [List.take_succ_cons, List.take_zero]
                        go_simp
                        refine Wcall (.inl rfl) (CheckFloors_c _ _ _ s c y _ (hV.ext xw) (hU.ext xw) (hY.ext xw) hf hg hyi) ?_
                        rintro v w8 ⟨rfl, hE⟩
                        go_simp
                        refine hK1 _ _ ?_
                        clear hK1 K1
                        simp only [List.drop_succ_cons, List.drop_zero]
                        have z36 := Below.size hE
                        replace f4 := Ext.fz hE c4_0 f4
                        replace f5 := Ext.fz hE c5_0 f5
                        replace hI := hI.ext hE
                        replace hJ := hJ.ext hE
                        replace xw := Ext.trans xw hE
                        replace xq4 := Ext.trans xq4 hE
                        replace c4_0 := Ext.cell hE c4_0
                        replace c4_1 := Ext.cell hE c4_1
                        replace c5_0 := Ext.cell hE c5_0
                        replace c5_1 := Ext.cell hE c5_1
                        replace c5_2 := Ext.cell hE c5_2
                        replace c5_3 := Ext.cell hE c5_3
                        clear hE
                        refine Wops.cut 7 fun K1 hK1 => ?_
                        simp only [List.take_succ_cons, List.take_zero]
                        go_simp
                        refine hK1 _ _ ?_
                        clear hK1 K1
                        simp only [List.drop_succ_cons, List.drop_zero]
                        refine Wops.cut 7 fun K1 hK1 => ?_
                        simp only [List.take_succ_cons, List.take_zero]
                        go_simp
                        refine Wcall (.inl rfl) (CheckCeilings_c _ _ _ s c y _ (hV.ext xw) (hU.ext xw) (hY.ext xw) hf hg hyi) ?_
                        rintro v w10 ⟨rfl, hE⟩
                        go_simp
                        refine hK1 _ _ ?_
                        clear hK1 K1
                        simp only [List.drop_succ_cons, List.drop_zero]
                        have z37 := Below.size hE
                        replace f4 := Ext.fz hE c4_0 f4
                        replace f5 := Ext.fz hE c5_0 f5
                        replace hI := hI.ext hE
                        replace hJ := hJ.ext hE
                        replace xw := Ext.trans xw hE
                        replace xq4 := Ext.trans xq4 hE
                        replace c4_0 := Ext.cell hE c4_0
                        replace c4_1 := Ext.cell hE c4_1
                        replace c5_0 := Ext.cell hE c5_0
                        replace c5_1 := Ext.cell hE c5_1
                        replace c5_2 := Ext.cell hE c5_2
                        replace c5_3 := Ext.cell hE c5_3
                        clear hE
                        refine Wops.cut 7 fun K1 hK1 => ?_
                        simp only [List.take_succ_cons, List.take_zero]
                        go_simp
                        refine Wcall (.inl rfl) (below_T (Nat.le_refl _) (by have := hxs.choose_spec; have := m7.choose_spec.1; omega) (fun i hi => m7.choose_spec.2 i (by have := hxs.choose_spec; omega)) (by omega) _ (hX.ext xw) (hY.ext xw)) ?_
                        rintro v w11 ⟨rfl, hE⟩
                        go_simp
                        refine hK1 _ _ ?_
                        clear hK1 K1
                        simp only [List.drop_succ_cons, List.drop_zero]
                        have z38 := Below.size hE
                        replace f4 := Ext.fz hE c4_0 f4
                        replace f5 := Ext.fz hE c5_0 f5
                        replace hI := hI.ext hE
                        replace hJ := hJ.ext hE
                        replace xw := Ext.trans xw hE
                        replace xq4 := Ext.trans xq4 hE
                        replace c4_0 := Ext.cell hE c4_0
                        replace c4_1 := Ext.cell hE c4_1
                        replace c5_0 := Ext.cell hE c5_0
                        replace c5_1 := Ext.cell hE c5_1
                        replace c5_2 := Ext.cell hE c5_2
                        replace c5_3 := Ext.cell hE c5_3
                        clear hE
                        go_simp
                        refine hK _ _ ?_
                        clear hK K' gd g5 g13 g19
                        refine Wp.keep [2, 4, 5, 9, 10, 11, 12, 15, 16, 109] fun r39 hkeep => ?_
                        obtain ⟨e2_39, e4_39, e5_39, e9_39, e10_39, e11_39, e12_39, e15_39, e16_39, e109_39, -⟩ := hkeep
                        simp [go_sem, e2_26, e3_26, e4_26, e5_26, e9_26, e10_26, e11_26, e12_26, e15_26, e16_26, e81_26] at e2_39 e4_39 e5_39 e9_39 e10_39 e11_39 e12_39 e15_39 e16_39 e109_39
                        clear e2_26 e3_26 e4_26 e5_26 e9_26 e10_26 e11_26 e12_26 e15_26 e16_26 e81_26
                        refine Wp.condF (by go_simp) ?_
                        refine Wp.skip ?_
                        refine cutK_normal ⟨⟨by rw [e2_39, e2_25], by rw [e4_39, e4_25], by rw [e5_39, e5_25], by rw [e9_39, e9_25], by rw [e10_39, e10_25], by rw [e11_39, e11_25], by rw [e12_39, e12_25], by rw [e15_39, e15_25], by rw [e16_39, e16_25], trivial⟩, rfl, xq4, ?_⟩
                        trivial
                      · skip
                        refine Wp.seqRegion (.inl rfl) (by kernel_rfl) fun K' gd hK hg => ?_
                        have g5 : gd 5 = some 87 := hg 5
                        have g13 : gd 13 = some 95 := hg 13
                        have g19 : gd 19 = some 101 := hg 19
                        clear hg
                        refine Wops.cut 4 fun K1 hK1 => ?_
                        simp only [List.take_succ_cons, List.take_zero]
                        go_simp
                        refine Wcall (.inl rfl) (CheckFloors_c _ _ _ s c y _ (hV.ext xw) (hU.ext xw) (hY.ext xw) hf hg hyi) ?_
                        rintro v w8 ⟨rfl, hE⟩
                        go_simp
                        refine hK1 _ _ ?_
                        clear hK1 K1
                        simp only [List.drop_succ_cons, List.drop_zero]
                        have z40 := Below.size hE
                        replace f4 := Ext.fz hE c4_0 f4
                        replace f5 := Ext.fz hE c5_0 f5
                        replace hI := hI.ext hE
                        replace hJ := hJ.ext hE
                        replace xw := Ext.trans xw hE
                        replace xq4 := Ext.trans xq4 hE
                        replace c4_0 := Ext.cell hE c4_0
                        replace c4_1 := Ext.cell hE c4_1
                        replace c5_0 := Ext.cell hE c5_0
                        replace c5_1 := Ext.cell hE c5_1
                        replace c5_2 := Ext.cell hE c5_2
                        replace c5_3 := Ext.cell hE c5_3
                        clear hE
                        refine Wops.cut 7 fun K1 hK1 => ?_
                        simp only [List.take_succ_cons, List.take_zero]
                        go_simp
                        refine hK1 _ _ ?_
                        clear hK1 K1
                        simp only [List.drop_succ_cons, List.drop_zero]
                        refine Wops.cut 7 fun K1 hK1 => ?_
                        simp only [List.take_succ_cons, List.take_zero]
                        go_simp
                        refine Wcall (.inl rfl) (CheckCeilings_c _ _ _ s c y _ (hV.ext xw) (hU.ext xw) (hY.ext xw) hf hg hyi) ?_
                        rintro v w10 ⟨rfl, hE⟩
                        go_simp
                        refine hK1 _ _ ?_
                        clear hK1 K1
                        simp only [List.drop_succ_cons, List.drop_zero]
                        have z41 := Below.size hE
                        replace f4 := Ext.fz hE c4_0 f4
                        replace f5 := Ext.fz hE c5_0 f5
                        replace hI := hI.ext hE
                        replace hJ := hJ.ext hE
                        replace xw := Ext.trans xw hE
                        replace xq4 := Ext.trans xq4 hE
                        replace c4_0 := Ext.cell hE c4_0
                        replace c4_1 := Ext.cell hE c4_1
                        replace c5_0 := Ext.cell hE c5_0
                        replace c5_1 := Ext.cell hE c5_1
                        replace c5_2 := Ext.cell hE c5_2
                        replace c5_3 := Ext.cell hE c5_3
                        clear hE
                        refine Wops.cut 7 fun K1 hK1 => ?_
                        simp only [List.take_succ_cons, List.take_zero]
                        go_simp
                        refine hK1 _ _ ?_
                        clear hK1 K1
                        simp only [List.drop_succ_cons, List.drop_zero]
                        go_simp
                        refine hK _ _ ?_
                        clear hK K' gd g5 g13 g19
                        refine Wp.keep [2, 4, 5, 9, 10, 11, 12, 15, 16, 109] fun r42 hkeep => ?_
                        obtain ⟨e2_42, e4_42, e5_42, e9_42, e10_42, e11_42, e12_42, e15_42, e16_42, e109_42, -⟩ := hkeep
                        simp [go_sem, e2_26, e3_26, e4_26, e5_26, e9_26, e10_26, e11_26, e12_26, e15_26, e16_26, e81_26] at e2_42 e4_42 e5_42 e9_42 e10_42 e11_42 e12_42 e15_42 e16_42 e109_42
                        clear e2_26 e3_26 e4_26 e5_26 e9_26 e10_26 e11_26 e12_26 e15_26 e16_26 e81_26
                        refine Wp.condF (by go_simp) ?_
                        refine Wp.skip ?_
                        refine cutK_normal ⟨⟨by rw [e2_42, e2_25], by rw [e4_42, e4_25], by rw [e5_42, e5_25], by rw [e9_42, e9_25], by rw [e10_42, e10_25], by rw [e11_42, e11_25], by rw [e12_42, e12_25], by rw [e15_42, e15_25], by rw [e16_42, e16_25], trivial⟩, rfl, xq4, ?_⟩
                        trivial
                  · skip
                    refine Wp.seqRegion (.inl rfl) (by kernel_rfl) fun K' gd hK hg => ?_
                    have g2 : gd 2 = some 79 := hg 2
                    clear hg
                    go_simp
                    refine hK _ _ ?_
                    clear hK K' gd g2
                    refine Wp.keep [2, 3, 4, 5, 9, 10, 11, 12, 15, 16, 81] fun r43 hkeep => ?_
                    obtain ⟨e2_43, e3_43, e4_43, e5_43, e9_43, e10_43, e11_43, e12_43, e15_43, e16_43, e81_43, -⟩ := hkeep
                    simp [go_sem, e2_25, e3_25, e4_25, e5_25, e9_25, e10_25, e11_25, e12_25, e15_25, e16_25] at e2_43 e3_43 e4_43 e5_43 e9_43 e10_43 e11_43 e12_43 e15_43 e16_43 e81_43
                    clear e3_25
                    refine Wp.condF (by go_simp) ?_
                    refine Wp.skip ?_
                    refine cutK_normal ⟨⟨by rw [e2_43, e2_25], by rw [e4_43, e4_25], by rw [e5_43, e5_25], by rw [e9_43, e9_25], by rw [e10_43, e10_25], by rw [e11_43, e11_25], by rw [e12_43, e12_25], by rw [e15_43, e15_25], by rw [e16_43, e16_25], trivial⟩, rfl, xq4, ?_⟩
                    trivial
                · skip
                  refine Wp.seqRegion (.inl rfl) (by kernel_rfl) fun K' gd hK hg => ?_
                  have g2 : gd 2 = some 79 := hg 2
                  clear hg
                  go_simp
                  refine hK _ _ ?_
                  clear hK K' gd g2
                  refine Wp.keep [2, 3, 4, 5, 9, 10, 11, 12, 15, 16, 81] fun r44 hkeep => ?_
                  obtain ⟨e2_44, e3_44, e4_44, e5_44, e9_44, e10_44, e11_44, e12_44, e15_44, e16_44, e81_44, -⟩ := hkeep
                  simp [go_sem, e2_25, e3_25, e4_25, e5_25, e9_25, e10_25, e11_25, e12_25, e15_25, e16_25] at e2_44 e3_44 e4_44 e5_44 e9_44 e10_44 e11_44 e12_44 e15_44 e16_44 e81_44
                  clear e3_25
                  refine Wp.condF (by go_simp) ?_
                  refine Wp.skip ?_
                  refine cutK_normal ⟨⟨by rw [e2_44, e2_25], by rw [e4_44, e4_25], by rw [e5_44, e5_25], by rw [e9_44, e9_25], by rw [e10_44, e10_25], by rw [e11_44, e11_25], by rw [e12_44, e12_25], by rw [e15_44, e15_25], by rw [e16_44, e16_25], trivial⟩, rfl, xq4, ?_⟩
                  trivial
              · rintro r45 _ W4 ⟨hA, rfl, xq4, -⟩
                obtain ⟨e2_45, e4_45, e5_45, e9_45, e10_45, e11_45, e12_45, e15_45, e16_45, -⟩ := hA
                rw [e2_25] at e2_45
                rw [e4_25] at e4_45
                rw [e5_25] at e5_45
                rw [e9_25] at e9_45
                rw [e10_25] at e10_45
                rw [e11_25] at e11_45
                rw [e12_25] at e12_45
                rw [e15_25] at e15_45
                rw [e16_25] at e16_45
                clear e2_25 e3_25 e4_25 e5_25 e9_25 e10_25 e11_25 e12_25 e15_25 e16_25
                have zxq4 := Below.size xq4
                replace f4 := Ext.fz xq4 c4_0 f4
                replace f5 := Ext.fz xq4 c5_0 f5
                replace hI := hI.ext xq4
                replace hJ := hJ.ext xq4
                replace xw := Ext.trans xw xq4
                replace c4_0 := Ext.cell xq4 c4_0
                replace c4_1 := Ext.cell xq4 c4_1
                replace c5_0 := Ext.cell xq4 c5_0
                replace c5_1 := Ext.cell xq4 c5_1
                replace c5_2 := Ext.cell xq4 c5_2
                replace c5_3 := Ext.cell xq4 c5_3
                refine thenK_normal ?_
                refine Wp.seq ?_
                refine Wp.seqRegion (.inl rfl) (by kernel_rfl) fun K' gd hK hg => ?_
                clear hg
                go_simp
                refine hK _ _ ?_
                clear hK K' gd
                refine Wp.keep [2, 4, 5, 9, 10, 12, 15, 16, 111] fun r46 hkeep => ?_
                obtain ⟨e2_46, e4_46, e5_46, e9_46, e10_46, e12_46, e15_46, e16_46, e111_46, -⟩ := hkeep
                simp [go_sem, e2_45, e4_45, e5_45, e9_45, e10_45, e11_45, e12_45, e15_45, e16_45] at e2_46 e4_46 e5_46 e9_46 e10_46 e12_46 e15_46 e16_46 e111_46
                clear e2_45 e4_45 e5_45 e9_45 e10_45 e11_45 e12_45 e15_45 e16_45
                refine Wp.condF (by go_simp) ?_
                refine Wp.skip ?_
                refine thenK_normal ?_
                refine Wp.seqRegion (.inl rfl) (by kernel_rfl) fun K' gd hK hg => ?_
                clear hg
                refine Wops.cut 4 fun K1 hK1 => ?_
                simp only [List.take_succ_cons, List.take_zero]
                go_simp
                refine Wcall (.inl rfl) (fits_T h0 n1.choose_spec p1 _ (hV.ext xw) (hU.ext xw) hI.ints hf hg) ?_
                rintro v w12 ⟨rfl, hE⟩
                go_simp
                refine hK1 _ _ ?_
                clear hK1 K1
                simp only [List.drop_succ_cons, List.drop_zero]
                have z47 := Below.size hE
                replace f4 := Ext.fz hE c4_0 f4
                replace f5 := Ext.fz hE c5_0 f5
                replace hI := hI.ext hE
                replace hJ := hJ.ext hE
                replace xw := Ext.trans xw hE
                replace c4_0 := Ext.cell hE c4_0
                replace c4_1 := Ext.cell hE c4_1
                replace c5_0 := Ext.cell hE c5_0
                replace c5_1 := Ext.cell hE c5_1
                replace c5_2 := Ext.cell hE c5_2
                replace c5_3 := Ext.cell hE c5_3
                clear hE
                go_simp
                refine hK _ _ ?_
                clear hK K' gd
                refine Wp.keep [2, 4, 5, 9, 10, 12, 15, 16, 18, 19] fun r48 hkeep => ?_
                obtain ⟨e2_48, e4_48, e5_48, e9_48, e10_48, e12_48, e15_48, e16_48, e18_48, e19_48, -⟩ := hkeep
                simp [go_sem, e2_46, e4_46, e5_46, e9_46, e10_46, e12_46, e15_46, e16_46, e111_46] at e2_48 e4_48 e5_48 e9_48 e10_48 e12_48 e15_48 e16_48 e18_48 e19_48
                clear e2_46 e4_46 e5_46 e9_46 e10_46 e12_46 e15_46 e16_46 e111_46
                refine Wp.seqRegion (.inl rfl) (by kernel_rfl) fun K' gd hK hg => ?_
                clear hg
                refine Wops.cut 4 fun K1 hK1 => ?_
                simp only [List.take_succ_cons, List.take_zero]
                go_simp
                refine Wcall (.inl rfl) (fits_T h0 n2.choose_spec p2 _ (hV.ext xw) (hU.ext xw) hJ.ints hf hg) ?_
                rintro v w13 ⟨rfl, hE⟩
                go_simp
                refine hK1 _ _ ?_
                clear hK1 K1
                simp only [List.drop_succ_cons, List.drop_zero]
                have z49 := Below.size hE
                replace f4 := Ext.fz hE c4_0 f4
                replace f5 := Ext.fz hE c5_0 f5
                replace hI := hI.ext hE
                replace hJ := hJ.ext hE
                replace xw := Ext.trans xw hE
                replace c4_0 := Ext.cell hE c4_0
                replace c4_1 := Ext.cell hE c4_1
                replace c5_0 := Ext.cell hE c5_0
                replace c5_1 := Ext.cell hE c5_1
                replace c5_2 := Ext.cell hE c5_2
                replace c5_3 := Ext.cell hE c5_3
                clear hE
                go_simp
                refine hK _ _ ?_
                clear hK K' gd
                refine Wp.keep [2, 4, 5, 9, 10, 12, 15, 16, 18, 19, 21, 22] fun r50 hkeep => ?_
                obtain ⟨e2_50, e4_50, e5_50, e9_50, e10_50, e12_50, e15_50, e16_50, e18_50, e19_50, e21_50, e22_50, -⟩ := hkeep
                simp [go_sem, e2_48, e4_48, e5_48, e9_48, e10_48, e12_48, e15_48, e16_48, e18_48, e19_48] at e2_50 e4_50 e5_50 e9_50 e10_50 e12_50 e15_50 e16_50 e18_50 e19_50 e21_50 e22_50
                clear e2_48 e4_48 e5_48 e9_48 e10_48 e12_48 e15_48 e16_48 e18_48 e19_48
                refine Wp.seq ?_
                refine Wp.seqRegion (.inl rfl) (by kernel_rfl) fun K' gd hK hg => ?_
                have g2 : gd 2 = some 131 := hg 2
                have g6 : gd 6 = some 135 := hg 6
                have g10 : gd 10 = some 139 := hg 10
                have g14 : gd 14 = some 143 := hg 14
                have g21 : gd 21 = some 150 := hg 21
                clear hg
                refine Wops.cut 19 fun K1 hK1 => ?_
                simp only [List.take_succ_cons, List.take_zero]
                go_simp
                refine Wcall (.inl rfl) (floors_T p3 _ (hV.ext xw) (hU.ext xw) hI.ints hf hg i1) ?_
                rintro v w14 ⟨rfl, hE⟩
                go_simp
                refine hK1 _ _ ?_
                clear hK1 K1
                simp only [List.drop_succ_cons, List.drop_zero]
                have z51 := Below.size hE
                replace f4 := Ext.fz hE c4_0 f4
                replace f5 := Ext.fz hE c5_0 f5
                replace hI := hI.ext hE
                replace hJ := hJ.ext hE
                replace xw := Ext.trans xw hE
                replace c4_0 := Ext.cell hE c4_0
                replace c4_1 := Ext.cell hE c4_1
                replace c5_0 := Ext.cell hE c5_0
                replace c5_1 := Ext.cell hE c5_1
                replace c5_2 := Ext.cell hE c5_2
                replace c5_3 := Ext.cell hE c5_3
                clear hE
                refine Wops.cut 7 fun K1 hK1 => ?_
                simp only [List.take_succ_cons, List.take_zero]
                go_simp
                refine Wcall (.inl rfl) (ceils_T p4 _ (hV.ext xw) (hU.ext xw) hJ.ints hf hg i2) ?_
                rintro v w15 ⟨rfl, hE⟩
                go_simp
                refine hK1 _ _ ?_
                clear hK1 K1
                simp only [List.drop_succ_cons, List.drop_zero]
                have z52 := Below.size hE
                replace f4 := Ext.fz hE c4_0 f4
                replace f5 := Ext.fz hE c5_0 f5
                replace hI := hI.ext hE
                replace hJ := hJ.ext hE
                replace xw := Ext.trans xw hE
                replace c4_0 := Ext.cell hE c4_0
                replace c4_1 := Ext.cell hE c4_1
                replace c5_0 := Ext.cell hE c5_0
                replace c5_1 := Ext.cell hE c5_1
                replace c5_2 := Ext.cell hE c5_2
                replace c5_3 := Ext.cell hE c5_3
                clear hE
                go_simp
                refine hK _ _ ?_
                clear hK K' gd g2 g6 g10 g14 g21
                refine Wp.keep [2, 9, 10, 12, 15, 16, 156] fun r53 hkeep => ?_
                obtain ⟨e2_53, e9_53, e10_53, e12_53, e15_53, e16_53, e156_53, -⟩ := hkeep
                simp [go_sem, e2_50, e4_50, e5_50, e9_50, e10_50, e12_50, e15_50, e16_50, e18_50, e19_50, e21_50, e22_50] at e2_53 e9_53 e10_53 e12_53 e15_53 e16_53 e156_53
                clear e2_50 e4_50 e5_50 e9_50 e10_50 e12_50 e15_50 e16_50 e18_50 e19_50 e21_50 e22_50
                refine Wp.condF (by go_simp) ?_
                by_cases a1 : fitE s c x = 0
                · skip
                  by_cases a3 : (fitR s c x).2 = true
                  · skip
                    obtain ⟨-, hxs, hfx⟩ := fitR_true.1 ⟨a1, a3⟩
                    have m1 := ends_in b0 hxs hfx
                    replace hxs : ∃ _u : Unit, x.length = s.n := ⟨(), hxs⟩
                    refine Wp.skip ?_
                    refine thenK_normal ?_
                    refine Wp.seqRegion (.inl rfl) (by kernel_rfl) fun K' gd hK hg => ?_
                    have g1 : gd 1 = some 158 := hg 1
                    have g4 : gd 4 = some 161 := hg 4
                    have g8 : gd 8 = some 165 := hg 8
                    have g14 : gd 14 = some 171 := hg 14
                    clear hg
                    refine Wops.cut 14 fun K1 hK1 => ?_
                    simp only [List.take_succ_cons, List.take_zero]
                    go_simp
                    refine Wcall (.inl rfl) (below_T (by have := hxs.choose_spec; have := n1.choose_spec; omega) (Nat.le_refl _) (fun i hi => (m1.choose_spec i (by have := hxs.choose_spec; omega)).1) (by omega) _ hI.ints (hX.ext xw)) ?_
                    rintro v w16 ⟨rfl, hE⟩
                    go_simp
                    refine hK1 _ _ ?_
                    clear hK1 K1
                    simp only [List.drop_succ_cons, List.drop_zero]
                    have z54 := Below.size hE
                    replace f4 := Ext.fz hE c4_0 f4
                    replace f5 := Ext.fz hE c5_0 f5
                    replace hI := hI.ext hE
                    replace hJ := hJ.ext hE
                    replace xw := Ext.trans xw hE
                    replace c4_0 := Ext.cell hE c4_0
                    replace c4_1 := Ext.cell hE c4_1
                    replace c5_0 := Ext.cell hE c5_0
                    replace c5_1 := Ext.cell hE c5_1
                    replace c5_2 := Ext.cell hE c5_2
                    replace c5_3 := Ext.cell hE c5_3
                    clear hE
                    refine Wops.cut 6 fun K1 hK1 => ?_
                    simp only [List.take_succ_cons, List.take_zero]
                    go_simp
                    refine Wcall (.inl rfl) (below_T (Nat.le_refl _) (by have := hxs.choose_spec; have := n2.choose_spec; omega) (fun i hi => (m1.choose_spec i (by have := hxs.choose_spec; omega)).2) (by omega) _ (hX.ext xw) hJ.ints) ?_
                    rintro v w17 ⟨rfl, hE⟩
                    go_simp
                    refine hK1 _ _ ?_
                    clear hK1 K1
                    simp only [List.drop_succ_cons, List.drop_zero]
                    have z55 := Below.size hE
                    replace f4 := Ext.fz hE c4_0 f4
                    replace f5 := Ext.fz hE c5_0 f5
                    replace hI := hI.ext hE
                    replace hJ := hJ.ext hE
                    replace xw := Ext.trans xw hE
                    replace c4_0 := Ext.cell hE c4_0
                    replace c4_1 := Ext.cell hE c4_1
                    replace c5_0 := Ext.cell hE c5_0
                    replace c5_1 := Ext.cell hE c5_1
                    replace c5_2 := Ext.cell hE c5_2
                    replace c5_3 := Ext.cell hE c5_3
                    clear hE
                    go_simp
                    refine hK _ _ ?_
                    clear hK K' gd g1 g4 g8 g14
                    refine Wp.keep [8] fun r56 hkeep => ?_
                    obtain ⟨e8_56, -⟩ := hkeep
                    simp [go_sem, e2_53, e9_53, e10_53, e12_53, e15_53, e16_53, e156_53] at e8_56
                    clear e2_53 e9_53 e10_53 e12_53 e15_53 e16_53 e156_53
                    refine Wp.ret ?_
                    refine endK_tmp Try.results19 (by decide) ?_
                    rw [e8_56]
                    exact ⟨by first | rfl | go_simp, xw⟩
                  · skip
                    refine Wp.skip ?_
                    refine thenK_normal ?_
                    refine Wp.seqRegion (.inl rfl) (by kernel_rfl) fun K' gd hK hg => ?_
                    have g1 : gd 1 = some 158 := hg 1
                    have g4 : gd 4 = some 161 := hg 4
                    have g8 : gd 8 = some 165 := hg 8
                    have g14 : gd 14 = some 171 := hg 14
                    clear hg
                    refine Wops.cut 14 fun K1 hK1 => ?_
                    simp only [List.take_succ_cons, List.take_zero]
                    go_simp
                    refine hK1 _ _ ?_
                    clear hK1 K1
                    simp only [List.drop_succ_cons, List.drop_zero]
                    refine Wops.cut 6 fun K1 hK1 => ?_
                    simp only [List.take_succ_cons, List.take_zero]
                    go_simp
                    refine hK1 _ _ ?_
                    clear hK1 K1
                    simp only [List.drop_succ_cons, List.drop_zero]
                    go_simp
                    refine hK _ _ ?_
                    clear hK K' gd g1 g4 g8 g14
                    refine Wp.keep [8] fun r57 hkeep => ?_
                    obtain ⟨e8_57, -⟩ := hkeep
                    simp [go_sem, e2_53, e9_53, e10_53, e12_53, e15_53, e16_53, e156_53] at e8_57
                    clear e2_53 e9_53 e10_53 e12_53 e15_53 e16_53 e156_53
                    refine Wp.ret ?_
                    refine endK_tmp Try.results19 (by decide) ?_
                    rw [e8_57]
                    exact ⟨by first | rfl | go_simp, xw⟩
                · skip
                  refine Wp.skip ?_
                  refine thenK_normal ?_
                  refine Wp.seqRegion (.inl rfl) (by kernel_rfl) fun K' gd hK hg => ?_
                  have g1 : gd 1 = some 158 := hg 1
                  have g4 : gd 4 = some 161 := hg 4
                  have g8 : gd 8 = some 165 := hg 8
                  have g14 : gd 14 = some 171 := hg 14
                  clear hg
                  refine Wops.cut 14 fun K1 hK1 => ?_
                  simp only [List.take_succ_cons, List.take_zero]
                  go_simp
                  refine hK1 _ _ ?_
                  clear hK1 K1
                  simp only [List.drop_succ_cons, List.drop_zero]
                  refine Wops.cut 6 fun K1 hK1 => ?_
                  simp only [List.take_succ_cons, List.take_zero]
                  go_simp
                  refine hK1 _ _ ?_
                  clear hK1 K1
                  simp only [List.drop_succ_cons, List.drop_zero]
                  go_simp
                  refine hK _ _ ?_
                  clear hK K' gd g1 g4 g8 g14
                  refine Wp.keep [8] fun r58 hkeep => ?_
                  obtain ⟨e8_58, -⟩ := hkeep
                  simp [go_sem, e2_53, e9_53, e10_53, e12_53, e15_53, e16_53, e156_53] at e8_58
                  clear e2_53 e9_53 e10_53 e12_53 e15_53 e16_53 e156_53
                  refine Wp.ret ?_
                  refine endK_tmp Try.results19 (by decide) ?_
                  rw [e8_58]
                  exact ⟨by first | rfl | go_simp, xw⟩
          · skip
            have hnf : fitE s c x = 0 → (fitR s c x).2 = false := fun a => by rw [Bool.eq_false_iff]; intro b; obtain ⟨q1, -, q2⟩ := fitR_true.1 ⟨a, b⟩; obtain ⟨hg0, hv0⟩ := copyS_zero.1 q1; exact b0 (begE_zero.2 ⟨q1, ((checkS_zero.1 hg0).mdOk hv0).ok_of q2⟩)
            by_cases a1 : fitE s c x = 0
            · skip
              have a3 := hnf a1
              refine Wp.seq ?_
              refine Wp.seqRegion (.inl rfl) (by kernel_rfl) fun K' gd hK hg => ?_
              have g3 : gd 3 = some 66 := hg 3
              have g6 : gd 6 = some 69 := hg 6
              have g9 : gd 9 = some 72 := hg 9
              clear hg
              go_simp
              refine hK _ _ ?_
              clear hK K' gd g3 g6 g9
              refine Wp.keep [2, 3, 4, 5, 9, 10, 11, 12, 15, 16, 76] fun r59 hkeep => ?_
              obtain ⟨e2_59, e3_59, e4_59, e5_59, e9_59, e10_59, e11_59, e12_59, e15_59, e16_59, e76_59, -⟩ := hkeep
              simp [go_sem, e2_21, e3_21, e4_21, e5_21, e9_21, e10_21, e11_21, e12_21, e13_21, e15_21, e16_21] at e2_59 e3_59 e4_59 e5_59 e9_59 e10_59 e11_59 e12_59 e15_59 e16_59 e76_59
              clear e2_21 e3_21 e4_21 e5_21 e9_21 e10_21 e11_21 e12_21 e13_21 e15_21 e16_21
              refine Wp.condF (by go_simp) ?_
              refine Wp.skip ?_
              refine thenK_normal ?_
              refine Wp.seq ?_
              refine Wp.seqRegion (.inl rfl) (by kernel_rfl) fun K' gd hK hg => ?_
              have g2 : gd 2 = some 79 := hg 2
              clear hg
              go_simp
              refine hK _ _ ?_
              clear hK K' gd g2
              refine Wp.keep [2, 3, 4, 5, 9, 10, 11, 12, 15, 16, 81] fun r60 hkeep => ?_
              obtain ⟨e2_60, e3_60, e4_60, e5_60, e9_60, e10_60, e11_60, e12_60, e15_60, e16_60, e81_60, -⟩ := hkeep
              simp [go_sem, e2_59, e3_59, e4_59, e5_59, e9_59, e10_59, e11_59, e12_59, e15_59, e16_59, e76_59] at e2_60 e3_60 e4_60 e5_60 e9_60 e10_60 e11_60 e12_60 e15_60 e16_60 e81_60
              clear e2_59 e3_59 e4_59 e5_59 e9_59 e10_59 e11_59 e12_59 e15_59 e16_59 e76_59
              refine Wp.condF (by go_simp) ?_
              refine Wp.skip ?_
              refine thenK_normal ?_
              refine Wp.seq ?_
              refine Wp.seqRegion (.inl rfl) (by kernel_rfl) fun K' gd hK hg => ?_
              clear hg
              go_simp
              refine hK _ _ ?_
              clear hK K' gd
              refine Wp.keep [2, 4, 5, 9, 10, 12, 15, 16, 111] fun r61 hkeep => ?_
              obtain ⟨e2_61, e4_61, e5_61, e9_61, e10_61, e12_61, e15_61, e16_61, e111_61, -⟩ := hkeep
              simp [go_sem, e2_60, e3_60, e4_60, e5_60, e9_60, e10_60, e11_60, e12_60, e15_60, e16_60, e81_60] at e2_61 e4_61 e5_61 e9_61 e10_61 e12_61 e15_61 e16_61 e111_61
              clear e2_60 e3_60 e4_60 e5_60 e9_60 e10_60 e11_60 e12_60 e15_60 e16_60 e81_60
              refine Wp.condT (by go_simp) ?_
              refine Wp.seqRegion (.inl rfl) (by kernel_rfl) fun K' gd hK hg => ?_
              clear hg
              go_simp
              refine hK _ _ ?_
              clear hK K' gd
              refine Wp.keep [8] fun r62 hkeep => ?_
              obtain ⟨e8_62, -⟩ := hkeep
              simp [go_sem, e2_61, e4_61, e5_61, e9_61, e10_61, e12_61, e15_61, e16_61, e111_61] at e8_62
              clear e2_61 e4_61 e5_61 e9_61 e10_61 e12_61 e15_61 e16_61 e111_61
              refine Wp.ret ?_
              refine thenK_ret ?_
              refine endK_tmp Try.results19 (by decide) ?_
              rw [e8_62]
              exact ⟨rfl, xw⟩
            · skip
              refine Wp.seq ?_
              refine Wp.seqRegion (.inl rfl) (by kernel_rfl) fun K' gd hK hg => ?_
              have g3 : gd 3 = some 66 := hg 3
              have g6 : gd 6 = some 69 := hg 6
              have g9 : gd 9 = some 72 := hg 9
              clear hg
              go_simp
              refine hK _ _ ?_
              clear hK K' gd g3 g6 g9
              refine Wp.keep [2, 3, 4, 5, 9, 10, 11, 12, 15, 16, 76] fun r63 hkeep => ?_
              obtain ⟨e2_63, e3_63, e4_63, e5_63, e9_63, e10_63, e11_63, e12_63, e15_63, e16_63, e76_63, -⟩ := hkeep
              simp [go_sem, e2_21, e3_21, e4_21, e5_21, e9_21, e10_21, e11_21, e12_21, e13_21, e15_21, e16_21] at e2_63 e3_63 e4_63 e5_63 e9_63 e10_63 e11_63 e12_63 e15_63 e16_63 e76_63
              clear e2_21 e3_21 e4_21 e5_21 e9_21 e10_21 e11_21 e12_21 e13_21 e15_21 e16_21
              refine Wp.condF (by go_simp) ?_
              refine Wp.skip ?_
              refine thenK_normal ?_
              refine Wp.seq ?_
              refine Wp.seqRegion (.inl rfl) (by kernel_rfl) fun K' gd hK hg => ?_
              have g2 : gd 2 = some 79 := hg 2
              clear hg
              go_simp
              refine hK _ _ ?_
              clear hK K' gd g2
              refine Wp.keep [2, 3, 4, 5, 9, 10, 11, 12, 15, 16, 81] fun r64 hkeep => ?_
              obtain ⟨e2_64, e3_64, e4_64, e5_64, e9_64, e10_64, e11_64, e12_64, e15_64, e16_64, e81_64, -⟩ := hkeep
              simp [go_sem, e2_63, e3_63, e4_63, e5_63, e9_63, e10_63, e11_63, e12_63, e15_63, e16_63, e76_63] at e2_64 e3_64 e4_64 e5_64 e9_64 e10_64 e11_64 e12_64 e15_64 e16_64 e81_64
              clear e2_63 e3_63 e4_63 e5_63 e9_63 e10_63 e11_63 e12_63 e15_63 e16_63 e76_63
              refine Wp.condF (by go_simp) ?_
              refine Wp.skip ?_
              refine thenK_normal ?_
              refine Wp.seq ?_
              refine Wp.seqRegion (.inl rfl) (by kernel_rfl) fun K' gd hK hg => ?_
              clear hg
              go_simp
              refine hK _ _ ?_
              clear hK K' gd
              refine Wp.keep [2, 4, 5, 9, 10, 12, 15, 16, 111] fun r65 hkeep => ?_
              obtain ⟨e2_65, e4_65, e5_65, e9_65, e10_65, e12_65, e15_65, e16_65, e111_65, -⟩ := hkeep
              simp [go_sem, e2_64, e3_64, e4_64, e5_64, e9_64, e10_64, e11_64, e12_64, e15_64, e16_64, e81_64] at e2_65 e4_65 e5_65 e9_65 e10_65 e12_65 e15_65 e16_65 e111_65
              clear e2_64 e3_64 e4_64 e5_64 e9_64 e10_64 e11_64 e12_64 e15_64 e16_64 e81_64
              refine Wp.condT (by go_simp) ?_
              refine Wp.seqRegion (.inl rfl) (by kernel_rfl) fun K' gd hK hg => ?_
              clear hg
              go_simp
              refine hK _ _ ?_
              clear hK K' gd
              refine Wp.keep [8] fun r66 hkeep => ?_
              obtain ⟨e8_66, -⟩ := hkeep
              simp [go_sem, e2_65, e4_65, e5_65, e9_65, e10_65, e12_65, e15_65, e16_65, e111_65] at e8_66
              clear e2_65 e4_65 e5_65 e9_65 e10_65 e12_65 e15_65 e16_65 e111_65
              refine Wp.ret ?_
              refine thenK_ret ?_
              refine endK_tmp Try.results19 (by decide) ?_
              rw [e8_66]
              exact ⟨rfl, xw⟩
    · skip
      refine Wp.seq ?_
      refine Wp.seqRegion (.inl rfl) (by kernel_rfl) fun K' gd hK hg => ?_
      have g3 : gd 3 = some 27 := hg 3
      have g8 : gd 8 = some 32 := hg 8
      have g13 : gd 13 = some 37 := hg 13
      clear hg
      refine Wops.cut 2 fun K1 hK1 => ?_
      simp only [List.take_succ_cons, List.take_zero]
      go_simp
      refine Wcall (.inl rfl) (few_c _ s _ (hV.ext xw)) ?_
      rintro v w3 ⟨rfl, hE⟩
      go_simp
      refine hK1 _ _ ?_
      clear hK1 K1
      simp only [List.drop_succ_cons, List.drop_zero]
      have z67 := Below.size hE
      replace f4 := Ext.fz hE c4_0 f4
      replace f5 := Ext.fz hE c5_0 f5
      replace xw := Ext.trans xw hE
      replace c4_0 := Ext.cell hE c4_0
      replace c4_1 := Ext.cell hE c4_1
      replace c5_0 := Ext.cell hE c5_0
      replace c5_1 := Ext.cell hE c5_1
      replace c5_2 := Ext.cell hE c5_2
      replace c5_3 := Ext.cell hE c5_3
      clear hE
      refine Wops.cut 4 fun K1 hK1 => ?_
      simp only [List.take_succ_cons, List.take_zero]
      go_simp
      refine Wcall (.inl rfl) (brief_c _ c _ (hU.ext xw)) ?_
      rintro v w4 ⟨rfl, hE⟩
      go_simp
      refine hK1 _ _ ?_
      clear hK1 K1
      simp only [List.drop_succ_cons, List.drop_zero]
      have z68 := Below.size hE
      replace f4 := Ext.fz hE c4_0 f4
      replace f5 := Ext.fz hE c5_0 f5
      replace xw := Ext.trans xw hE
      replace c4_0 := Ext.cell hE c4_0
      replace c4_1 := Ext.cell hE c4_1
      replace c5_0 := Ext.cell hE c5_0
      replace c5_1 := Ext.cell hE c5_1
      replace c5_2 := Ext.cell hE c5_2
      replace c5_3 := Ext.cell hE c5_3
      clear hE
      go_simp
      refine hK _ _ ?_
      clear hK K' gd g3 g8 g13
      refine Wp.keep [2, 3, 4, 5, 9, 41] fun r69 hkeep => ?_
      obtain ⟨e2_69, e3_69, e4_69, e5_69, e9_69, e41_69, -⟩ := hkeep
      simp [go_sem, e2_4, e3_4, e4_4, e5_4, e9_4] at e2_69 e3_69 e4_69 e5_69 e9_69 e41_69
      clear e2_4 e3_4 e4_4 e5_4 e9_4
      refine Wp.condT (by go_simp) ?_
      refine Wp.seqRegion (.inl rfl) (by kernel_rfl) fun K' gd hK hg => ?_
      clear hg
      go_simp
      refine hK _ _ ?_
      clear hK K' gd
      refine Wp.keep [8] fun r70 hkeep => ?_
      obtain ⟨e8_70, -⟩ := hkeep
      simp [go_sem, e2_69, e3_69, e4_69, e5_69, e9_69, e41_69] at e8_70
      clear e2_69 e3_69 e4_69 e5_69 e9_69 e41_69
      refine Wp.ret ?_
      refine thenK_ret ?_
      refine endK_tmp Try.results19 (by decide) ?_
      rw [e8_70]
      exact ⟨rfl, xw⟩
  · skip
    refine Wp.seq ?_
    refine Wp.seqRegion (.inl rfl) (by kernel_rfl) fun K' gd hK hg => ?_
    have g3 : gd 3 = some 27 := hg 3
    have g8 : gd 8 = some 32 := hg 8
    have g13 : gd 13 = some 37 := hg 13
    clear hg
    refine Wops.cut 2 fun K1 hK1 => ?_
    simp only [List.take_succ_cons, List.take_zero]
    go_simp
    refine Wcall (.inl rfl) (few_c _ s _ (hV.ext xw)) ?_
    rintro v w3 ⟨rfl, hE⟩
    go_simp
    refine hK1 _ _ ?_
    clear hK1 K1
    simp only [List.drop_succ_cons, List.drop_zero]
    have z71 := Below.size hE
    replace f4 := Ext.fz hE c4_0 f4
    replace f5 := Ext.fz hE c5_0 f5
    replace xw := Ext.trans xw hE
    replace c4_0 := Ext.cell hE c4_0
    replace c4_1 := Ext.cell hE c4_1
    replace c5_0 := Ext.cell hE c5_0
    replace c5_1 := Ext.cell hE c5_1
    replace c5_2 := Ext.cell hE c5_2
    replace c5_3 := Ext.cell hE c5_3
    clear hE
    refine Wops.cut 4 fun K1 hK1 => ?_
    simp only [List.take_succ_cons, List.take_zero]
    go_simp
    refine hK1 _ _ ?_
    clear hK1 K1
    simp only [List.drop_succ_cons, List.drop_zero]
    go_simp
    refine hK _ _ ?_
    clear hK K' gd g3 g8 g13
    refine Wp.keep [2, 3, 4, 5, 9, 41] fun r72 hkeep => ?_
    obtain ⟨e2_72, e3_72, e4_72, e5_72, e9_72, e41_72, -⟩ := hkeep
    simp [go_sem, e2_4, e3_4, e4_4, e5_4, e9_4] at e2_72 e3_72 e4_72 e5_72 e9_72 e41_72
    clear e2_4 e3_4 e4_4 e5_4 e9_4
    refine Wp.condT (by go_simp) ?_
    refine Wp.seqRegion (.inl rfl) (by kernel_rfl) fun K' gd hK hg => ?_
    clear hg
    go_simp
    refine hK _ _ ?_
    clear hK K' gd
    refine Wp.keep [8] fun r73 hkeep => ?_
    obtain ⟨e8_73, -⟩ := hkeep
    simp [go_sem, e2_72, e3_72, e4_72, e5_72, e9_72, e41_72] at e8_73
    clear e2_72 e3_72 e4_72 e5_72 e9_72 e41_72
    refine Wp.ret ?_
    refine thenK_ret ?_
    refine endK_tmp Try.results19 (by decide) ?_
    rw [e8_73]
    exact ⟨rfl, xw⟩
end Go.Proofs.Ytnjajbkkgfohaaa
