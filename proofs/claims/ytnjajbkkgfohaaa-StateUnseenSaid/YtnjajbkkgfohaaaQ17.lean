/- Days that fit: of lines, the lesser and the greater ones, narrower ones (plain law). Narrower copies; how long a copy took (plain law). below; what is asked of contracts at right arguments. Floors, ceilings, what shows that a copy cannot have been made (plain law). Before: the program's and the document's. Which changes lie between copies; copies before others (plain law). can; Sources. Sheets without some changes: Clone, DeleteFunc, without. Sheets without some changes: DeleteFunc. -/
import Derived.Test.YtnjajbkkgfohaaaP5
import Derived.Test.YtnjajbkkgfohaaaP6
import Derived.Lib.SliceRun
set_option linter.all false
namespace Go.Proofs.Ytnjajbkkgfohaaa

theorem possF_in {f l : Int} {T : List (Int × Int)} {d : Int} : inside (possF f l T) d ↔ inside T d ∧ f ≤ d ∧ d ≤ l := by
  unfold inside possF
  constructor
  · rintro ⟨y, hy, h1, h2⟩
    rw [List.mem_filterMap] at hy
    obtain ⟨x, hx, h⟩ := hy
    split at h
    · injection h with h; subst h
      dsimp only at h1 h2
      exact ⟨⟨x, hx, by omega, by omega⟩, by omega, by omega⟩
    · cases h
  · rintro ⟨⟨x, hx, h1, h2⟩, h3, h4⟩
    refine ⟨(max x.1 f, min x.2 l), List.mem_filterMap.2 ⟨x, hx, ?_⟩, ?_, ?_⟩
    · rw [if_pos (by omega)]
    · dsimp only; omega
    · dsimp only; omega
theorem fromD_iff {b : Int} {p i : Nat} {l : List Int} {d : Int} : fromD b p l i ≤ d ↔ b ≤ d ∧ (0 < i → gI l (i - 1) ≤ d) ∧ (p ≤ i → gI l (i - p) < d) := by
  constructor
  · intro h
    obtain ⟨h1, h2, h3⟩ := fromD_ge (b := b) (p := p) (i := i) (l := l)
    exact ⟨by omega, fun h0 => by have := h2 h0; omega, fun h0 => by have := h3 h0; omega⟩
  · rintro ⟨h1, h2, h3⟩
    unfold fromD
    split
    · have := h3 ‹_›
      split
      · have := h2 ‹_›; omega
      · omega
    · split
      · have := h2 ‹_›; omega
      · omega
theorem fit_at {m : Md} {dy : List Int} : m.Fit (gI dy) ↔ ∀ j, j < m.n → FitAt m dy j := by
  constructor
  · intro h j hj
    obtain ⟨h1, h2, h3, h4, h5⟩ := h j hj
    exact ⟨⟨h1, h2⟩, h3, fromD_iff.2 ⟨h1, h4, h5⟩⟩
  · intro h j hj
    obtain ⟨⟨h1, h2⟩, h3, h4⟩ := h j hj
    obtain ⟨-, h5, h6⟩ := fromD_iff.1 h4
    exact ⟨h1, h2, h3, h5, h6⟩
theorem fitR_true {s : Sh} {c : Cp} {dy : List Int} : fitE s c dy = 0 ∧ (fitR s c dy).2 = true ↔ copyS s c = 0 ∧ dy.length = s.n ∧ (s.md c).Fit (gI dy) := by
  have he : fitE s c dy = 0 ↔ copyS s c = 0 ∧ dy.length = s.n := by
    unfold fitE
    by_cases h : copyS s c = 0
    · by_cases h2 : dy.length = s.n <;> simp [h, h2]
    · simp [h]
  constructor
  · rintro ⟨h1, h2⟩
    refine ⟨(he.1 h1).1, (he.1 h1).2, fit_at.2 (fitI_none.1 ?_)⟩
    unfold fitR at h2
    rw [if_pos h1] at h2
    cases hf : fitI (s.md c) dy with
    | none => rfl
    | some i => rw [hf] at h2; cases h2
  · rintro ⟨h1, h2, h3⟩
    have h0 := he.2 ⟨h1, h2⟩
    refine ⟨h0, ?_⟩
    unfold fitR
    rw [if_pos h0, fitI_none.2 (fit_at.1 h3)]
theorem fitE_zero {s : Sh} {c : Cp} {dy : List Int} : fitE s c dy = 0 ↔ copyS s c = 0 ∧ dy.length = s.n := by
  unfold fitE
  by_cases h : copyS s c = 0
  · by_cases h2 : dy.length = s.n <;> simp [h, h2]
  · simp [h]
theorem fitR_good {s : Sh} {c : Cp} {dy : List Int} (h0 : copyS s c = 0) (hl : dy.length = s.n) (h : (s.md c).Fit (gI dy)) : fitE s c dy = 0 ∧ fitR s c dy = (0, true) := by
  have h1 := fitE_zero.2 ⟨h0, hl⟩
  exact ⟨h1, by unfold fitR; rw [if_pos h1, fitI_none.2 (fit_at.1 h)]⟩
/-- the earliest days ahead of a line, a day of its own, the latest ones behind it -/
theorem mix_fit {m : Md} (h : MdOk m) (hk : m.ok = true) {i : Nat} (hi : i < m.n) {d : Int} (hc : m.can i d) (h1 : gI m.first i ≤ d) (h2 : d ≤ gI m.last i) :
    m.Fit (gI (m.first.take i ++ d :: m.last.drop (i + 1))) := by
  obtain ⟨f1, -, f2, f3⟩ := h.of_ok hk
  obtain ⟨l1, l2, l3⟩ := h.last_fit hk
  have hle : ∀ j, j < m.n → gI m.first j ≤ gI m.last j := fun j hj => f3 _ l2 j hj
  have g : ∀ j, gI (m.first.take i ++ d :: m.last.drop (i + 1)) j = if j < i then gI m.first j else if j = i then d else gI m.last j := fun j => by
    have ht : (m.first.take i).length = i := by simp; omega
    unfold gI
    by_cases a : j < i
    · rw [if_pos a, List.getElem?_append_left (by omega), List.getElem?_take, if_pos a]
    · rw [if_neg a, List.getElem?_append_right (by omega), ht]
      by_cases b : j = i
      · subst b; simp
      · rw [if_neg b, show j - i = (j - i - 1) + 1 by omega, List.getElem?_cons_succ, List.getElem?_drop, show i + 1 + (j - i - 1) = j by omega]
  have hp := h.pp
  intro j hj
  obtain ⟨a1, a2, a3, a4, a5⟩ := f2 j hj
  obtain ⟨b1, b2, b3, b4, b5⟩ := l2 j hj
  rw [g]
  rcases Nat.lt_trichotomy j i with hji | rfl | hji
  · rw [if_pos hji]
    refine ⟨a1, a2, a3, fun h0 => ?_, fun hpj => ?_⟩
    · rw [g, if_pos (by omega)]; exact a4 h0
    · rw [g, if_pos (by omega)]; exact a5 hpj
  · rw [if_neg (by omega), if_pos rfl]
    have q1 := hle j hj
    refine ⟨by omega, by omega, hc, fun h0 => ?_, fun hpj => ?_⟩
    · rw [g, if_pos (by omega)]; have := a4 h0; omega
    · rw [g, if_pos (by omega)]; have := a5 hpj; omega
  · rw [if_neg (by omega), if_neg (by omega)]
    refine ⟨b1, b2, b3, fun h0 => ?_, fun hpj => ?_⟩
    · rw [g, if_neg (by omega)]
      by_cases e : j - 1 = i
      · rw [if_pos e]; have := b4 h0; rw [e] at this; omega
      · rw [if_neg e]; exact b4 h0
    · rw [g]
      have q := b5 hpj
      have q2 := hle (j - m.c.p.toNat) (by omega)
      by_cases e : j - m.c.p.toNat < i
      · rw [if_pos e]; omega
      · rw [if_neg e]
        by_cases e2 : j - m.c.p.toNat = i
        · rw [if_pos e2]; rw [e2] at q; omega
        · rw [if_neg e2]; exact q
/-- the lesser days, and the greater ones -/
theorem lattice_fit {m : Md} {x y : List Int} (hx : m.Fit (gI x)) (hy : m.Fit (gI y)) {lo hi : List Int} (hlo : ∀ i, i < m.n → gI lo i = min (gI x i) (gI y i)) (hhi : ∀ i, i < m.n → gI hi i = max (gI x i) (gI y i)) : m.Fit (gI lo) ∧ m.Fit (gI hi) := by
  have key : ∀ i, i < m.n → ∀ a b, (a = gI x i ∧ b = gI y i) → m.can i (min a b) ∧ m.can i (max a b) := fun i hi a b ⟨e1, e2⟩ => by
    have h1 := (hx i hi).2.2.1
    have h2 := (hy i hi).2.2.1
    rw [← e1] at h1
    rw [← e2] at h2
    rcases Int.le_total a b with h | h
    · rw [Int.min_eq_left h, Int.max_eq_right h]; exact ⟨h1, h2⟩
    · rw [Int.min_eq_right h, Int.max_eq_left h]; exact ⟨h2, h1⟩
  constructor
  · intro i hi'
    obtain ⟨a1, a2, a3, a4, a5⟩ := hx i hi'
    obtain ⟨b1, b2, b3, b4, b5⟩ := hy i hi'
    rw [hlo i hi']
    refine ⟨by omega, by omega, (key i hi' _ _ ⟨rfl, rfl⟩).1, fun h0 => ?_, fun hp => ?_⟩
    · rw [hlo (i - 1) (by omega)]; have := a4 h0; have := b4 h0; omega
    · rw [hlo (i - m.c.p.toNat) (by omega)]; have := a5 hp; have := b5 hp; omega
  · intro i hi'
    obtain ⟨a1, a2, a3, a4, a5⟩ := hx i hi'
    obtain ⟨b1, b2, b3, b4, b5⟩ := hy i hi'
    rw [hhi i hi']
    refine ⟨by omega, by omega, (key i hi' _ _ ⟨rfl, rfl⟩).2, fun h0 => ?_, fun hp => ?_⟩
    · rw [hhi (i - 1) (by omega)]; have := a4 h0; have := b4 h0; omega
    · rw [hhi (i - m.c.p.toNat) (by omega)]; have := a5 hp; have := b5 hp; omega
end Go.Proofs.Ytnjajbkkgfohaaa
namespace Go.Proofs.Ytnjajbkkgfohaaa

theorem Md.Fit.mono {m : Md} {ds : Nat → Int} (h : m.Fit ds) : ∀ {i j : Nat}, i ≤ j → j < m.n → ds i ≤ ds j := by
  intro i j hij hj
  induction j with
  | zero => obtain rfl : i = 0 := by omega
            exact Int.le_refl _
  | succ j ih =>
    rcases Nat.lt_or_ge i (j + 1) with h1 | h1
    · have h2 := ih (by omega) (by omega)
      have h3 := (h (j + 1) hj).2.2.2.1 (by omega)
      rw [Nat.add_sub_cancel] at h3
      omega
    · obtain rfl : i = j + 1 := by omega
      exact Int.le_refl _
/-- m' asks more than m -/
structure Narrow (m m' : Md) : Prop where
  n : m'.n = m.n
  T : ∀ i, m'.T i = m.T i
  b : m.c.b ≤ m'.c.b
  e : m'.c.e ≤ m.c.e
  p : m'.c.p.toNat ≤ m.c.p.toNat
  p1 : 1 ≤ m'.c.p.toNat
theorem Narrow.fit {m m' : Md} (h : Narrow m m') {ds : Nat → Int} (hd : m'.Fit ds) : m.Fit ds := by
  intro i hi
  rw [← h.n] at hi
  obtain ⟨h1, h2, h3, h4, h5⟩ := hd i hi
  have hb := h.b
  have he := h.e
  have hp := h.p
  have hp1 := h.p1
  refine ⟨by omega, by omega, ?_, h4, fun hpi => ?_⟩
  · unfold Md.can at *; rw [← h.T]; exact h3
  · have q1 := h5 (by omega)
    have q2 := hd.mono (i := i - m.c.p.toNat) (j := i - m'.c.p.toNat) (by omega) (by omega)
    omega
theorem Md.at_narrow {m : Md} {d : Int} (hp : 1 ≤ m.c.p.toNat) (h : m.c.b ≤ d) : Narrow m (m.at d) := ⟨rfl, fun _ => rfl, h, Int.le_refl _, Nat.le_refl _, hp⟩
theorem longF_le {m : Md} : ∀ (l : List Int) (lo : Int), longF m l lo ≤ lo ∧ ∀ d ∈ l, m.can 0 d ∧ (m.at d).ok = true → longF m l lo ≤ gI (m.at d).first (m.n - 1) - gI (m.at d).first 0
  | [], lo => ⟨Int.le_refl _, fun d hd => by cases hd⟩
  | x :: l, lo => by
    have e : longF m (x :: l) lo = longF m l (if m.can 0 x ∧ (m.at x).ok = true then min lo (gI (m.at x).first (m.n - 1) - gI (m.at x).first 0) else lo) := rfl
    rw [e]
    obtain ⟨h1, h2⟩ := longF_le (m := m) l (if m.can 0 x ∧ (m.at x).ok = true then min lo (gI (m.at x).first (m.n - 1) - gI (m.at x).first 0) else lo)
    refine ⟨?_, fun d hd hc => ?_⟩
    · split at h1 <;> split <;> first | omega | contradiction
    · rcases List.mem_cons.1 hd with rfl | hd
      · rw [if_pos hc] at h1 ⊢; omega
      · exact h2 d hd hc
theorem longF_or {m : Md} : ∀ (l : List Int) (lo : Int), longF m l lo = lo ∨ ∃ d ∈ l, (m.can 0 d ∧ (m.at d).ok = true) ∧ longF m l lo = gI (m.at d).first (m.n - 1) - gI (m.at d).first 0
  | [], lo => .inl rfl
  | x :: l, lo => by
    have e : longF m (x :: l) lo = longF m l (if m.can 0 x ∧ (m.at x).ok = true then min lo (gI (m.at x).first (m.n - 1) - gI (m.at x).first 0) else lo) := rfl
    rw [e]
    rcases longF_or (m := m) l (if m.can 0 x ∧ (m.at x).ok = true then min lo (gI (m.at x).first (m.n - 1) - gI (m.at x).first 0) else lo) with h | ⟨d, hd, hc, h⟩
    · by_cases hx : m.can 0 x ∧ (m.at x).ok = true
      · rw [if_pos hx] at h ⊢
        rcases Int.le_total lo (gI (m.at x).first (m.n - 1) - gI (m.at x).first 0) with q | q
        · exact .inl (by rw [h, Int.min_eq_left q])
        · exact .inr ⟨x, List.mem_cons_self, hx, by rw [h, Int.min_eq_right q]⟩
      · rw [if_neg hx] at h ⊢; exact .inl h
    · exact .inr ⟨d, List.mem_cons_of_mem _ hd, hc, h⟩
section
variable {m : Md} (h : MdOk m) (hk : m.ok = true)
include h hk
theorem long_le {ds : Nat → Int} (hd : m.Fit ds) : (longS m).1 ≤ ds (m.n - 1) - ds 0 := by
  unfold longS
  by_cases h1 : m.n = 1
  · rw [if_pos h1, h1]; simp
  · rw [if_neg h1]
    have hn := h.n1
    obtain ⟨f1, -, f2, f3⟩ := h.of_ok hk
    obtain ⟨l1, l2, l3⟩ := h.last_fit hk
    have a1 := f3 ds hd 0 (by omega)
    have a2 := l3 ds hd 0 (by omega)
    obtain ⟨c1, c2, c3, -⟩ := hd 0 (by omega)
    have hma : MdOk (m.at (ds 0)) := h.at (by have := h.b0; omega) c2
    have hfit : (m.at (ds 0)).Fit ds := fun i hi => by
      obtain ⟨q1, q2, q3, q4, q5⟩ := hd i hi
      exact ⟨hd.mono (Nat.zero_le i) hi, q2, q3, q4, q5⟩
    have hok := hma.ok_of hfit
    obtain ⟨g1, -, g2, g3⟩ := hma.of_ok hok
    have e1 := (longF_le (m := m) (daysL (gI m.first 0) (gI m.last 0)) (longHi m)).2 (ds 0) (mem_daysL.2 ⟨a1, a2⟩) ⟨c3, hok⟩
    have e2 := g3 ds hfit (m.n - 1) (by show m.n - 1 < m.n; omega)
    have e3 := (g2 0 (by show 0 < m.n; omega)).1
    dsimp only
    have e4 : (m.at (ds 0)).c.b = ds 0 := rfl
    omega
theorem long_or : (longS m).1 = (longS m).2 ∨ ∃ ds, m.Fit ds ∧ (longS m).1 = ds (m.n - 1) - ds 0 := by
  unfold longS
  by_cases h1 : m.n = 1
  · rw [if_pos h1]; exact .inl rfl
  · rw [if_neg h1]
    have hn := h.n1
    obtain ⟨f1, -, f2, f3⟩ := h.of_ok hk
    obtain ⟨l1, l2, l3⟩ := h.last_fit hk
    rcases longF_or (m := m) (daysL (gI m.first 0) (gI m.last 0)) (longHi m) with e | ⟨d, hd, ⟨hc, hok⟩, e⟩
    · exact .inl e
    · obtain ⟨d1, d2⟩ := mem_daysL.1 hd
      have b1 := (f2 0 (by omega)).1
      have b2 := (l2 0 (by omega)).2.1
      have hma : MdOk (m.at d) := h.at (by have := h.b0; omega) (by omega)
      obtain ⟨g1, -, g2, g3⟩ := hma.of_ok hok
      exact .inr ⟨gI (m.at d).first, (Md.at_narrow h.pp (by omega)).fit g2, e⟩
theorem long_hi : (longS m).2 = gI m.last (m.n - 1) - gI m.first 0 ∨ m.n = 1 ∧ (longS m).2 = 0 := by
  unfold longS
  by_cases h1 : m.n = 1
  · rw [if_pos h1]; exact .inr ⟨h1, rfl⟩
  · rw [if_neg h1]; exact .inl rfl
end
theorem Narrow.long {m m' : Md} (h : Narrow m m') (hm : MdOk m) (hm' : MdOk m') (hk' : m'.ok = true) : (longS m).1 ≤ (longS m').1 ∧ (longS m').2 ≤ (longS m).2 := by
  obtain ⟨f1, -, f2, f3⟩ := hm'.of_ok hk'
  obtain ⟨l1, l2, l3⟩ := hm'.last_fit hk'
  have hk := hm.ok_of (h.fit f2)
  obtain ⟨F1, -, F2, F3⟩ := hm.of_ok hk
  obtain ⟨L1, L2, L3⟩ := hm.last_fit hk
  have hn := hm.n1
  have hnn := h.n
  have a1 := f3 _ l2 0 (by omega)
  have a2 := L3 _ (h.fit l2) (m.n - 1) (by omega)
  have a3 := F3 _ (h.fit f2) 0 (by omega)
  have b1 := long_le hm hk (h.fit l2)
  have e : m'.n - 1 = m.n - 1 := by omega
  refine ⟨?_, ?_⟩
  · rcases long_or hm' hk' with q | ⟨ds, hd, q⟩
    · rcases long_hi hm' hk' with r | ⟨r, r2⟩
      · rw [q, r, e]; omega
      · rw [q, r2]
        have e1 : m.n = 1 := by omega
        unfold longS; rw [if_pos e1]; exact Int.le_refl _
    · rw [q, e]; exact long_le hm hk (h.fit hd)
  · rcases long_hi hm' hk' with r | ⟨r, r2⟩
    · rcases long_hi hm hk with s | ⟨s, s2⟩
      · rw [r, s, e]; omega
      · unfold longS; rw [if_pos (show m'.n = 1 by omega), if_pos s]; exact Int.le_refl _
    · rw [r2]
      unfold longS; rw [if_pos (show m.n = 1 by omega)]; exact Int.le_refl _
end Go.Proofs.Ytnjajbkkgfohaaa
namespace Go.Proofs.Ytnjajbkkgfohaaa
open Go.RowKit Go.Wk Go.Proofs
attribute [local irreducible] Go.Wk.Wops Go.Wk.Wp Go.Wk.Mtree Go.Wk.Mops
set_option maxHeartbeats 4000000
set_option maxRecDepth 20000

theorem below_T {x y : Value} {xs ys : List Int} {n : Nat} (h1 : n ≤ xs.length) (h2 : n ≤ ys.length) (h3 : ∀ i, i < n → gI xs i ≤ gI ys i) (hn : n ≤ 1000000000000000) (w : World) (hx : IntsV w w.heap.size x xs) (hy : IntsV w w.heap.size y ys) :
    CallsV Try.prog 45 #[x, y, .int .i64 (n : Int)] w fun v w' => v = .bool true ∧ Ext w w' := by
  obtain ⟨A, c, rfl, -, -⟩ := id hx
  obtain ⟨A2, c2, rfl, -, -⟩ := id hy
  have k1 : ¬ xs.length < n := by omega
  have k2 : ¬ ys.length < n := by omega
  refine Wp.fn Try.func45 rfl Try.ntmps45 (by simp) ?_
  have xw := Ext.refl w
  refine Wp.keep [0, 1, 2] fun r1 hkeep => ?_
  obtain ⟨e0_1, e1_1, e2_1, -⟩ := hkeep
  simp [go_sem] at e0_1 e1_1 e2_1
  refine Wp.seqRegion (.inl rfl) (by kernel_rfl) fun K' gd hK hg => ?_
  clear hg
  go_simp
  refine hK _ _ ?_
  clear hK K' gd
  refine Wp.keep [0, 1, 2] fun r2 hkeep => ?_
  obtain ⟨e0_2, e1_2, e2_2, -⟩ := hkeep
  simp [go_sem, e0_1, e1_1, e2_1] at e0_2 e1_2 e2_2
  clear e0_1 e1_1 e2_1
  refine Wp.seq ?_
  refine Wp.seqRegion (.inl rfl) (by kernel_rfl) fun K' gd hK hg => ?_
  have g4 : gd 4 = some 12 := hg 4
  clear hg
  go_simp
  refine hK _ _ ?_
  clear hK K' gd g4
  refine Wp.keep [0, 1, 2, 17] fun r3 hkeep => ?_
  obtain ⟨e0_3, e1_3, e2_3, e17_3, -⟩ := hkeep
  simp [go_sem, e0_2, e1_2, e2_2] at e0_3 e1_3 e2_3 e17_3
  clear e0_2 e1_2 e2_2
  refine Wp.condF (by go_simp) ?_
  refine Wp.skip ?_
  refine thenK_normal ?_
  refine Wp.seq ?_
  refine Wp.seqRegion (.inl rfl) (by kernel_rfl) fun K' gd hK hg => ?_
  clear hg
  go_simp
  refine hK _ _ ?_
  clear hK K' gd
  refine Wp.keep [0, 1, 2, 7] fun r4 hkeep => ?_
  obtain ⟨e0_4, e1_4, e2_4, e7_4, -⟩ := hkeep
  simp [go_sem, e0_3, e1_3, e2_3, e17_3] at e0_4 e1_4 e2_4 e7_4
  clear e0_3 e1_3 e2_3 e17_3
  refine Wp.block ?_
  refine Wp.loop (fun k ρ ds wk => AllEq [0, 1, 2] ρ r4 ∧ ds = [] ∧ (Ext w wk) ∧ (ρ 7 = .int .i64 (k : Int))) (n) ?_ ?_
  · refine ⟨AllEq.refl _ _, rfl, Ext.refl _, ?_⟩
    rw [e7_4]; rfl
  · rintro k r5 _ wk hk ⟨hA, rfl, xl1, e7⟩
    obtain ⟨e0_5, e1_5, e2_5, -⟩ := hA
    rw [e0_4] at e0_5
    rw [e1_4] at e1_5
    rw [e2_4] at e2_5
    have zxl1 := Below.size xl1
    replace xw := Ext.trans xw xl1
    refine Wp.seq ?_
    refine Wp.seqRegion (.inl rfl) (by kernel_rfl) fun K' gd hK hg => ?_
    clear hg
    go_simp
    refine hK _ _ ?_
    clear hK K' gd
    refine Wp.keep [0, 1, 2, 7, 20] fun r6 hkeep => ?_
    obtain ⟨e0_6, e1_6, e2_6, e7_6, e20_6, -⟩ := hkeep
    simp [go_sem, e0_5, e1_5, e2_5, e7] at e0_6 e1_6 e2_6 e7_6 e20_6
    clear e0_5 e1_5 e2_5 e7
    by_cases h : k < n
    · refine Wp.condT (by go_simp) ?_
      have hkx : k < xs.length := by omega
      have hky : k < ys.length := by omega
      obtain ⟨b, o, c5, e1, hb, hc⟩ := hx.get hkx
      injection e1 with e1 _ e2
      subst e1
      subst e2
      obtain ⟨b2, o2, c6, e1, hb2, hc2⟩ := hy.get hky
      injection e1 with e1 _ e2
      subst e1
      subst e2
      have d1 := xw.cell (hc k hkx)
      have d2 := xw.cell (hc2 k hky)
      have hle := h3 k h
      have hnl : ¬ gI ys k < gI xs k := by omega
      clear hc hc2
      refine Wp.skip ?_
      refine thenK_normal ?_
      refine Wp.seq ?_
      refine Wp.block ?_
      refine Wp.seqDraw (.inl rfl) mixed [([0, 1, 2, 3, 4], none), ([5, 6, 7, 8], none)] (by kernel_rfl) fun K' gd hK hg => ?_
      clear hg
      simp only [pick, nth, List.map_cons, List.map_nil, Option.map_none, Option.map_some]
      refine Mops.absD fun D2 hD2 zD2 => ?_
      replace xw := Ext.trans xw hD2
      replace xl1 := Ext.trans xl1 hD2
      replace d1 := Ext.cell hD2 d1
      replace d2 := Ext.cell hD2 d2
      clear hD2
      apply Mops.none
      · intro w' hE'
        have hC' := hE'.cellsS
        go_simp
        with_reducible rfl
      apply Mops.none
      · intro w' hE'
        have hC' := hE'.cellsS
        go_simp
        with_reducible rfl
      refine Mops.done ?_
      refine hK _ _ ?_
      clear hK K' gd
      refine Wp.keep [0, 1, 2, 7, 31] fun r7 hkeep => ?_
      obtain ⟨e0_7, e1_7, e2_7, e7_7, e31_7, -⟩ := hkeep
      simp [go_sem, e0_6, e1_6, e2_6, e7_6, e20_6] at e0_7 e1_7 e2_7 e7_7 e31_7
      clear e0_6 e1_6 e2_6 e7_6 e20_6
      refine Wp.condF (by go_simp) ?_
      refine Wp.skip ?_
      refine blockK_normal ?_
      refine thenK_normal ?_
      refine Wp.loneRegion (.inl rfl) (by kernel_rfl) fun K' gd hK hg => ?_
      clear hg
      go_simp
      refine hK _ _ ?_
      clear hK K' gd
      refine Ends.keep [0, 1, 2, 7] fun r8 hkeep => ?_
      obtain ⟨e0_8, e1_8, e2_8, e7_8, -⟩ := hkeep
      simp [go_sem, e0_7, e1_7, e2_7, e7_7, e31_7] at e0_8 e1_8 e2_8 e7_8
      clear e0_7 e1_7 e2_7 e7_7 e31_7
      refine Ends.mk ?_
      refine thenK_normal ⟨by omega, ⟨by rw [e0_8, e0_4], by rw [e1_8, e1_4], by rw [e2_8, e2_4], trivial⟩, rfl, xl1, ?_⟩
      rw [e7_8, IntWalk.i64_in _ (by omega)]; rfl
    · refine Wp.condF (by go_simp) ?_
      refine Wp.exit ?_
      refine thenK_exit ?_
      refine thenK_exit ?_
      refine blockK_here ?_
      refine thenK_normal ?_
      refine Wp.seqRegion (.inl rfl) (by kernel_rfl) fun K' gd hK hg => ?_
      clear hg
      go_simp
      refine hK _ _ ?_
      clear hK K' gd
      refine Wp.keep [6] fun r9 hkeep => ?_
      obtain ⟨e6_9, -⟩ := hkeep
      simp [go_sem, e0_6, e1_6, e2_6, e7_6, e20_6] at e6_9
      clear e0_6 e1_6 e2_6 e7_6 e20_6
      refine Wp.ret ?_
      refine endK_tmp Try.results45 (by decide) ?_
      rw [e6_9]
      exact ⟨rfl, xw⟩
theorem fits_T {v u dv : Value} {s : Sh} {c : Cp} {dy : List Int} (h0 : copyS s c = 0) (hl : dy.length = s.n) (h : (s.md c).Fit (gI dy)) (w : World) (hV : SheetV w w.heap.size v s) (hU : CopyV w w.heap.size u c) (hD : IntsV w w.heap.size dv dy) (hf : FitS s) (hg : FitC c) :
    CallsV Try.prog 37 #[v, u, dv] w fun v w' => v = .tuple #[.int .i64 0, .bool true, .int .i64 0] ∧ Ext w w' := by
  obtain ⟨h1, h2⟩ := fitR_good h0 hl h
  have := Fits_c v u dv s c dy w hV hU hD hf hg (by rw [hl]; exact hf.1)
  rw [h1, h2] at this
  exact this
end Go.Proofs.Ytnjajbkkgfohaaa
namespace Go.Proofs.Ytnjajbkkgfohaaa

/-- no day that a line can have by the floors ahead of it is less than its floor -/
def FloorAt (m : Md) (fl : List Int) (i : Nat) : Prop := ∀ d, fromD m.c.b m.c.p.toNat fl i ≤ d → d ≤ m.c.e → m.can i d → gI fl i ≤ d
def HoldAt (m : Md) (fl : List Int) (i : Nat) : Prop := (m.c.p.toNat ≤ i ∧ m.c.e ≤ gI fl (i - m.c.p.toNat)) ∨ m.nx i (fromD m.c.b m.c.p.toNat fl i) = 731 ∨ gI fl i ≤ m.nx i (fromD m.c.b m.c.p.toNat fl i)
instance (m : Md) (fl : List Int) (i : Nat) : Decidable (HoldAt m fl i) := by unfold HoldAt; infer_instance
theorem hold_iff {m : Md} (h : MdOk m) {fl : List Int} {i : Nat} : HoldAt m fl i ↔ FloorAt m fl i := by
  have h3 := (fromD_ge (b := m.c.b) (p := m.c.p.toNat) (i := i) (l := fl)).2.2
  rcases h.nxIs i (fromD m.c.b m.c.p.toNat fl i) with ⟨k0, k1, k2, k3, k4⟩ | ⟨k0, k1⟩
  · constructor
    · rintro (⟨a, b⟩ | a | a)
      · intro d h1 h2 _; have := h3 a; omega
      · exact absurd a k0
      · intro d h1 h2 hc
        rcases Int.lt_or_le d (m.nx i (fromD m.c.b m.c.p.toNat fl i)) with q | q
        · exact absurd hc (k4 d h1 q)
        · omega
    · intro hF; exact .inr (.inr (hF _ k1 k2 k3))
  · exact ⟨fun _ d h1 h2 hc => absurd hc (k1 d h1 h2), fun _ => .inr (.inl k0)⟩
def holdS (m : Md) (fl : List Int) : Bool := decide (∀ i, i < fl.length → HoldAt m fl i)
theorem holdS_true {m : Md} (h : MdOk m) {fl : List Int} : holdS m fl = true ↔ ∀ i, i < fl.length → FloorAt m fl i := by
  unfold holdS
  rw [decide_eq_true_eq]
  exact ⟨fun a i hi => (hold_iff h).1 (a i hi), fun a i hi => (hold_iff h).2 (a i hi)⟩
/-- days that fit are not less than floors that hold -/
theorem floors_le {m : Md} (h : MdOk m) {fl : List Int} (hf : ∀ i, i < fl.length → FloorAt m fl i) {n : Nat} {ds : Nat → Int} (hd : FitP m.can m.c.b m.c.e m.c.p.toNat n ds) (hl : fl.length ≤ n) :
    ∀ i, i < fl.length → gI fl i ≤ ds i := by
  intro i
  induction i using Nat.strongRecOn with
  | _ i ih =>
    intro hi
    obtain ⟨h1, h2, h3, -, -⟩ := hd i (by omega)
    exact hf i hi _ (fromD_le h.pp hd (by omega) fun j hj => ih j hj (by omega)) h2 h3
theorem fromD_congr' {b : Int} {p i : Nat} {l k : List Int} (hp : 1 ≤ p) (h : ∀ j, j < i → gI l j = gI k j) : fromD b p l i = fromD b p k i := fromD_congr hp h
theorem firstGo_get {nx : Nat → Int → Int} {b : Int} {p : Nat} (hp : 1 ≤ p) : ∀ k, (firstGo nx b p k).length ≤ k ∧ ∀ i, i < (firstGo nx b p k).length → gI (firstGo nx b p k) i = nx i (fromD b p (firstGo nx b p k) i) ∨ ((firstGo nx b p k).length < k ∧ (firstGo nx b p k).getLast? = some 731 ∧ gI (firstGo nx b p k) i = nx i (fromD b p (firstGo nx b p k) i))
  | 0 => ⟨Nat.le_refl _, fun i hi => absurd hi (Nat.not_lt_zero _)⟩
  | k + 1 => by
    obtain ⟨h1, h2⟩ := firstGo_get (nx := nx) (b := b) hp k
    have h3 : ∀ i, i < (firstGo nx b p k).length → gI (firstGo nx b p k) i = nx i (fromD b p (firstGo nx b p k) i) := fun i hi => by rcases h2 i hi with h | ⟨-, -, h⟩ <;> exact h
    rw [firstGo]
    split
    · exact ⟨by omega, fun i hi => .inl (h3 i hi)⟩
    · rename_i hne
      have hlk : (firstGo nx b p k).length = k := by
        rcases Nat.lt_or_ge (firstGo nx b p k).length k with q | q
        · exfalso; exact hne (firstGo_short hp k q)
        · omega
      refine ⟨by simp [hlk], fun i hi => .inl ?_⟩
      rcases Nat.lt_or_ge i (firstGo nx b p k).length with q | q
      · rw [gI_app q, h3 i q]; congr 1
        exact fromD_congr hp fun j hj => (gI_app (by omega)).symm
      · have e : i = (firstGo nx b p k).length := by simp at hi; omega
        rw [e, gI_last, hlk]; congr 1
        exact fromD_congr hp fun j hj => (gI_app (by omega)).symm
where firstGo_short {nx : Nat → Int → Int} {b : Int} {p : Nat} (hp : 1 ≤ p) : ∀ k, (firstGo nx b p k).length < k → (firstGo nx b p k).getLast? = some 731
  | 0, h => absurd h (Nat.not_lt_zero _)
  | k + 1, h => by
    rw [firstGo] at h ⊢
    split
    · assumption
    · rename_i hne
      rw [if_neg hne] at h
      have : (firstGo nx b p k).length < k := by simpa using h
      exact absurd (firstGo_short hp k this) hne
theorem first_floor {m : Md} (h : MdOk m) : ∀ i, i < m.first.length → FloorAt m m.first i := by
  intro i hi
  have hg : gI m.first i = m.nx i (fromD m.c.b m.c.p.toNat m.first i) := by
    rcases (firstGo_get (nx := m.nx) (b := m.c.b) h.pp m.n).2 i hi with q | ⟨-, -, q⟩ <;> exact q
  exact (hold_iff h).1 (.inr (.inr (by rw [hg]; exact Int.le_refl _)))
def fproofE (s : Sh) (c : Cp) (fl : List Int) : Int := if copyS s c = 0 then (if 1 ≤ fl.length ∧ fl.length ≤ s.n then (if holdS (s.md c) fl = true then 0 else 8) else 1) else copyS s c
def fclashE (s : Sh) (c : Cp) (fl : List Int) : Int := if fproofE s c fl = 0 then (if gI fl (fl.length - 1) ≤ c.e then 8 else 0) else fproofE s c fl
theorem fproofE_zero {s : Sh} {c : Cp} {fl : List Int} : fproofE s c fl = 0 ↔ copyS s c = 0 ∧ (1 ≤ fl.length ∧ fl.length ≤ s.n) ∧ holdS (s.md c) fl = true := by
  unfold fproofE
  by_cases h : copyS s c = 0
  · by_cases h2 : 1 ≤ fl.length ∧ fl.length ≤ s.n
    · by_cases h3 : holdS (s.md c) fl = true <;> simp [h, h2, h3]
    · rw [if_pos h, if_neg h2]; simp [h2]
  · simp [h]
theorem fclashE_zero {s : Sh} {c : Cp} {fl : List Int} : fclashE s c fl = 0 ↔ fproofE s c fl = 0 ∧ c.e < gI fl (fl.length - 1) := by
  unfold fclashE
  by_cases h : fproofE s c fl = 0
  · by_cases h2 : gI fl (fl.length - 1) ≤ c.e
    · rw [if_pos h, if_pos h2]; simp [h]; omega
    · rw [if_pos h, if_neg h2]; simp [h]; omega
  · simp [h]
/-- what the proof of a clash shows -/
theorem clash_no {s : Sh} {c : Cp} {fl : List Int} (h : fclashE s c fl = 0) : begE s c = 9 := by
  obtain ⟨h1, h2⟩ := fclashE_zero.1 h
  obtain ⟨h3, ⟨h4, h5⟩, h6⟩ := fproofE_zero.1 h1
  obtain ⟨hg0, hv0⟩ := copyS_zero.1 h3
  have hmk := (checkS_zero.1 hg0).mdOk hv0
  have hn : (s.md c).n = s.n := hv0.1
  unfold begE
  rw [if_pos h3, if_neg]
  intro hk
  have hfit := (hmk.of_ok hk).2.2.1
  have a := floors_le hmk ((holdS_true hmk).1 h6) hfit (by rw [hn]; exact h5) (fl.length - 1) (by omega)
  have b : gI (s.md c).first (fl.length - 1) ≤ c.e := (hfit (fl.length - 1) (by rw [hn]; omega)).2.1
  omega
theorem clash_yes {s : Sh} {c : Cp} (h : begE s c = 9) : fclashE s c (s.md c).first = 0 ∧ copyS s c = 0 := by
  have h3 : copyS s c = 0 := by
    unfold begE at h
    split at h
    · assumption
    · exact absurd h copyS_ne9
  have hk : (s.md c).ok = false := by
    unfold begE okS at h
    rw [if_pos h3] at h
    by_cases q : (s.md c).ok = true
    · rw [if_pos q] at h; exact absurd h (by decide)
    · simpa using q
  obtain ⟨hg0, hv0⟩ := copyS_zero.1 h3
  have hmk := (checkS_zero.1 hg0).mdOk hv0
  have hn : (s.md c).n = s.n := hv0.1
  obtain ⟨j, hj, hj2, hj3, -, -⟩ := hmk.not_ok hk
  have hl : (s.md c).first.length = j + 1 := by rw [hj2]; simp [hj3]
  have hlast : gI (s.md c).first ((s.md c).first.length - 1) = 731 := by
    rw [hl, show j + 1 - 1 = j by omega, hj2]
    have := gI_last (l := firstGo (s.md c).nx (s.md c).c.b (s.md c).c.p.toNat j) (x := 731)
    rwa [hj3] at this
  refine ⟨fclashE_zero.2 ⟨fproofE_zero.2 ⟨h3, ⟨by omega, by rw [← hn]; omega⟩, (holdS_true hmk).2 (first_floor hmk)⟩, ?_⟩, h3⟩
  rw [hlast]; have := hmk.e7; show (s.md c).c.e < 731; omega
/-- no day that a line can have by the ceilings behind it is greater than its ceiling -/
def CeilAt (m : Md) (cl : List Int) (i : Nat) : Prop := ∀ d, m.c.b ≤ d → d ≤ toD m.c.e m.c.p.toNat (cl.drop (i + 1)) → m.can i d → d ≤ gI cl i
def RoofAt (m : Md) (cl : List Int) (i : Nat) : Prop := (i + m.c.p.toNat < cl.length ∧ gI cl (i + m.c.p.toNat) ≤ m.c.b) ∨ m.bf i (toD m.c.e m.c.p.toNat (cl.drop (i + 1))) = -1 ∨ m.bf i (toD m.c.e m.c.p.toNat (cl.drop (i + 1))) ≤ gI cl i
instance (m : Md) (cl : List Int) (i : Nat) : Decidable (RoofAt m cl i) := by unfold RoofAt; infer_instance
theorem toD_lt {m : Md} (h : MdOk m) {cl : List Int} {i : Nat} (hi : i + m.c.p.toNat < cl.length) : toD m.c.e m.c.p.toNat (cl.drop (i + 1)) < gI cl (i + m.c.p.toNat) := by
  have hp := h.pp
  have := (toD_le (e := m.c.e) (p := m.c.p.toNat) (l := cl.drop (i + 1))).2.2 (by rw [List.length_drop]; omega)
  rwa [gI_drop, show i + 1 + (m.c.p.toNat - 1) = i + m.c.p.toNat by omega] at this
theorem roof_iff {m : Md} (h : MdOk m) {cl : List Int} {i : Nat} : RoofAt m cl i ↔ CeilAt m cl i := by
  rcases h.bfIs i (toD m.c.e m.c.p.toNat (cl.drop (i + 1))) with ⟨k0, k1, k2, k3, k4⟩ | ⟨k0, k1⟩
  · constructor
    · rintro (⟨a, b⟩ | a | a)
      · intro d h1 h2 _; have := toD_lt h a; omega
      · exact absurd a k0
      · intro d h1 h2 hc
        rcases Int.lt_or_le (m.bf i (toD m.c.e m.c.p.toNat (cl.drop (i + 1)))) d with q | q
        · exact absurd hc (k4 d q h2)
        · omega
    · intro hF; exact .inr (.inr (hF _ k1 k2 k3))
  · exact ⟨fun _ d h1 h2 hc => absurd hc (k1 d h1 h2), fun _ => .inr (.inl k0)⟩
def roofS (m : Md) (cl : List Int) : Bool := decide (∀ i, i < cl.length → RoofAt m cl i)
theorem roofS_true {m : Md} (h : MdOk m) {cl : List Int} : roofS m cl = true ↔ ∀ i, i < cl.length → CeilAt m cl i := by
  unfold roofS
  rw [decide_eq_true_eq]
  exact ⟨fun a i hi => (roof_iff h).1 (a i hi), fun a i hi => (roof_iff h).2 (a i hi)⟩
/-- days that fit are not greater than ceilings that hold -/
theorem ceils_ge {m : Md} (h : MdOk m) {cl : List Int} (hf : ∀ i, i < cl.length → CeilAt m cl i) (hl : cl.length = m.n) {ds : Nat → Int} (hd : m.Fit ds) : ∀ i, i < m.n → ds i ≤ gI cl i := by
  have key : ∀ k i, i < m.n → m.n - i ≤ k → ds i ≤ gI cl i := by
    intro k
    induction k with
    | zero => intro i hi hk; omega
    | succ k ih =>
      intro i hi hk
      obtain ⟨h1, h2, h3, -, -⟩ := hd i hi
      refine hf i (by omega) _ h1 ?_ h3
      refine toD_ge (m := 0) h.pp hd hi (by rw [List.length_drop]; omega) fun j hj => ?_
      rw [List.length_drop] at hj
      rw [gI_drop]
      exact ih (i + 1 + j) (by omega) (by omega)
  intro i hi
  exact key (m.n - i) i hi (Nat.le_refl _)
theorem lastGo_drop2 {bf : Nat → Int → Int} {e : Int} {p n : Nat} : ∀ k j, j ≤ k → (lastGo bf e p n k).drop j = lastGo bf e p n (k - j)
  | k, 0, _ => rfl
  | 0, j + 1, h => absurd h (by omega)
  | k + 1, j + 1, h => by rw [lastGo, List.drop_succ_cons, lastGo_drop2 k j (by omega), show k + 1 - (j + 1) = k - j by omega]
theorem last_ceil {m : Md} (h : MdOk m) : ∀ i, i < m.last.length → CeilAt m m.last i := by
  intro i hi
  have hll : m.last.length = m.n := lastGo_len _
  rw [hll] at hi
  have e1 : m.last.drop (i + 1) = lastGo m.bf m.c.e m.c.p.toNat m.n (m.n - (i + 1)) := lastGo_drop2 _ _ (by omega)
  have e0 : m.last.drop i = lastGo m.bf m.c.e m.c.p.toNat m.n (m.n - i) := lastGo_drop2 _ _ (by omega)
  have hg : gI m.last i = m.bf i (toD m.c.e m.c.p.toNat (m.last.drop (i + 1))) := by
    have := gI_drop m.last i 0
    rw [Nat.add_zero] at this
    rw [← this, e0, e1, show m.n - i = (m.n - (i + 1)) + 1 by omega, lastGo, show m.n - 1 - (m.n - (i + 1)) = i by omega]
    rfl
  exact (roof_iff h).1 (.inr (.inr (by rw [hg]; exact Int.le_refl _)))
def cproofE (s : Sh) (c : Cp) (cl : List Int) : Int := if copyS s c = 0 then (if cl.length = s.n then (if roofS (s.md c) cl = true then 0 else 8) else 1) else copyS s c
theorem cproofE_zero {s : Sh} {c : Cp} {cl : List Int} : cproofE s c cl = 0 ↔ copyS s c = 0 ∧ cl.length = s.n ∧ roofS (s.md c) cl = true := by
  unfold cproofE
  by_cases h : copyS s c = 0
  · by_cases h2 : cl.length = s.n
    · by_cases h3 : roofS (s.md c) cl = true <;> simp [h, h2, h3]
    · rw [if_pos h, if_neg h2]; simp [h2]
  · simp [h]
end Go.Proofs.Ytnjajbkkgfohaaa
namespace Go.Proofs.Ytnjajbkkgfohaaa
open Go.RowKit Go.Wk Go.Proofs
attribute [local irreducible] Go.Wk.Wops Go.Wk.Wp Go.Wk.Mtree Go.Wk.Mops
set_option maxHeartbeats 8000000
set_option maxRecDepth 20000

def befE (s : Sh) (c d : Cp) : Int := if copyS s c = 0 then (if copyS s d = 0 then (if begE s c = 0 then begE s d else begE s c) else copyS s d) else copyS s c
def befA (s : Sh) (c d : Cp) : Bool := if befE s c d = 0 then decide (gI (s.md c).last (s.words.length - 1) < gI (s.md d).first 0) else false
def befB (s : Sh) (c d : Cp) : Bool := if befE s c d = 0 then decide (gI (s.md c).first (s.words.length - 1) < gI (s.md d).last 0) else false
theorem bef_no {s : Sh} {c d : Cp} (h : ¬ befE s c d = 0) : befA s c d = false ∧ befB s c d = false := ⟨if_neg h, if_neg h⟩
theorem bef_yes {s : Sh} {c d : Cp} (h1 : begE s c = 0) (h2 : begE s d = 0) : befE s c d = 0 ∧ befA s c d = decide (gI (s.md c).last (s.words.length - 1) < gI (s.md d).first 0) ∧ befB s c d = decide (gI (s.md c).first (s.words.length - 1) < gI (s.md d).last 0) := by
  have e : befE s c d = 0 := by unfold befE; rw [if_pos (begE_zero.1 h1).1, if_pos (begE_zero.1 h2).1, if_pos h1, h2]
  exact ⟨e, if_pos e, if_pos e⟩
/-- what is known of days that there are -/
theorem beg_know {s : Sh} {c : Cp} (h : begE s c = 0) : Good s ∧ MdOk (s.md c) ∧ (s.md c).ok = true ∧ (s.md c).first.length = s.words.length ∧ (s.md c).last.length = s.words.length ∧ 1 ≤ s.words.length ∧ s.words.length ≤ 40 := by
  obtain ⟨h1, h2⟩ := begE_zero.1 h
  obtain ⟨hg0, hv0⟩ := copyS_zero.1 h1
  have hgd := checkS_zero.1 hg0
  have hm := hgd.mdOk hv0
  have e : (s.md c).n = s.words.length := hv0.1
  have := hm.n1
  have := hm.n2
  exact ⟨hgd, hm, h2, ((hm.of_ok h2).1).trans hv0.1, ((hm.last_fit h2).1).trans hv0.1, by omega, by omega⟩
theorem Before_c (v u t : Value) (s : Sh) (c d : Cp) (w : World) (hV : SheetV w w.heap.size v s) (hU : CopyV w w.heap.size u c) (hT : CopyV w w.heap.size t d) (hf : FitS s) (hg : FitC c) (hh : FitC d) :
    CallsV Try.prog 47 #[v, u, t] w fun v w' => v = .tuple #[.bool (befA s c d), .bool (befB s c d), .int .i64 (befE s c d)] ∧ Ext w w' := by
  obtain ⟨wv, av, rfl, ⟨A, c1, rfl, -, -⟩, ⟨A3, c3, rfl, -, -⟩⟩ := id hV
  obtain ⟨wu, rfl, hW⟩ := id hU
  obtain ⟨A2, c2, rfl, -, -⟩ := id hW
  obtain ⟨wt, rfl, hX⟩ := id hT
  obtain ⟨A4, c4, rfl, -, -⟩ := id hX
  refine Wp.fn Try.func47 rfl Try.ntmps47 (by simp) ?_
  have xw := Ext.refl w
  refine Wp.keep [0, 1, 2] fun r1 hkeep => ?_
  obtain ⟨e0_1, e1_1, e2_1, -⟩ := hkeep
  simp [go_sem] at e0_1 e1_1 e2_1
  refine Wp.seqRegion (.inl rfl) (by kernel_rfl) fun K' gd hK hg => ?_
  clear hg
  refine Wops.cut 1 fun K1 hK1 => ?_
  simp only [List.take_succ_cons, List.take_zero]
  go_simp
  refine hK1 _ _ ?_
  clear hK1 K1
  simp only [List.drop_succ_cons, List.drop_zero]
  refine Wops.absA fun V3_1 n3 hV3_1 => ?_
  obtain ⟨q3, hV3_1, s3, kV3_1, f3, r3⟩ := hV3_1
  try simp only [q3] at kV3_1 f3 r3 ⊢
  replace xw := Ext.trans xw hV3_1
  have c3_0 := kV3_1 0 _ rfl
  have c3_1 := kV3_1 1 _ rfl
  clear kV3_1 hV3_1
  clear r3
  refine Wops.cut 1 fun K1 hK1 => ?_
  simp only [List.take_succ_cons, List.take_zero]
  go_simp
  refine hK1 _ _ ?_
  clear hK1 K1
  simp only [List.drop_succ_cons, List.drop_zero]
  refine Wops.absA fun V4_2 n4 hV4_2 => ?_
  obtain ⟨q4, hV4_2, s4, kV4_2, f4, r4⟩ := hV4_2
  try simp only [q4] at kV4_2 f4 r4 ⊢
  replace f3 := Ext.fz hV4_2 c3_0 f3
  replace xw := Ext.trans xw hV4_2
  replace c3_0 := Ext.cell hV4_2 c3_0
  replace c3_1 := Ext.cell hV4_2 c3_1
  have c4_0 := kV4_2 0 _ rfl
  have c4_1 := kV4_2 1 _ rfl
  have c4_2 := kV4_2 2 _ rfl
  have c4_3 := kV4_2 3 _ rfl
  clear kV4_2 hV4_2
  clear r4
  refine Wops.cut 1 fun K1 hK1 => ?_
  simp only [List.take_succ_cons, List.take_zero]
  go_simp
  refine hK1 _ _ ?_
  clear hK1 K1
  simp only [List.drop_succ_cons, List.drop_zero]
  refine Wops.absA fun V5_3 n5 hV5_3 => ?_
  obtain ⟨q5, hV5_3, s5, kV5_3, f5, r5⟩ := hV5_3
  try simp only [q5] at kV5_3 f5 r5 ⊢
  replace f3 := Ext.fz hV5_3 c3_0 f3
  replace f4 := Ext.fz hV5_3 c4_0 f4
  replace xw := Ext.trans xw hV5_3
  replace c3_0 := Ext.cell hV5_3 c3_0
  replace c3_1 := Ext.cell hV5_3 c3_1
  replace c4_0 := Ext.cell hV5_3 c4_0
  replace c4_1 := Ext.cell hV5_3 c4_1
  replace c4_2 := Ext.cell hV5_3 c4_2
  replace c4_3 := Ext.cell hV5_3 c4_3
  have c5_0 := kV5_3 0 _ rfl
  have c5_1 := kV5_3 1 _ rfl
  have c5_2 := kV5_3 2 _ rfl
  have c5_3 := kV5_3 3 _ rfl
  clear kV5_3 hV5_3
  clear r5
  go_simp
  refine hK _ _ ?_
  clear hK K' gd
  refine Wp.keep [3, 4, 5] fun r2 hkeep => ?_
  obtain ⟨e3_2, e4_2, e5_2, -⟩ := hkeep
  simp [go_sem, e0_1, e1_1, e2_1] at e3_2 e4_2 e5_2
  clear e0_1 e1_1 e2_1
  refine Wp.seq ?_
  refine Wp.seqRegion (.inl rfl) (by kernel_rfl) fun K' gd hK hg => ?_
  clear hg
  refine Wops.cut 3 fun K1 hK1 => ?_
  simp only [List.take_succ_cons, List.take_zero]
  go_simp
  refine Wcall (.inl rfl) (copy_c _ _ s c _ (hV.ext xw) (hU.ext xw) hf hg) ?_
  rintro v w2 ⟨rfl, hE⟩
  go_simp
  refine hK1 _ _ ?_
  clear hK1 K1
  simp only [List.drop_succ_cons, List.drop_zero]
  have z3 := Below.size hE
  replace f3 := Ext.fz hE c3_0 f3
  replace f4 := Ext.fz hE c4_0 f4
  replace f5 := Ext.fz hE c5_0 f5
  replace xw := Ext.trans xw hE
  replace c3_0 := Ext.cell hE c3_0
  replace c3_1 := Ext.cell hE c3_1
  replace c4_0 := Ext.cell hE c4_0
  replace c4_1 := Ext.cell hE c4_1
  replace c4_2 := Ext.cell hE c4_2
  replace c4_3 := Ext.cell hE c4_3
  replace c5_0 := Ext.cell hE c5_0
  replace c5_1 := Ext.cell hE c5_1
  replace c5_2 := Ext.cell hE c5_2
  replace c5_3 := Ext.cell hE c5_3
  clear hE
  go_simp
  refine hK _ _ ?_
  clear hK K' gd
  refine Wp.keep [3, 4, 5, 9] fun r4 hkeep => ?_
  obtain ⟨e3_4, e4_4, e5_4, e9_4, -⟩ := hkeep
  simp [go_sem, e3_2, e4_2, e5_2] at e3_4 e4_4 e5_4 e9_4
  clear e3_2 e4_2 e5_2
  by_cases k1 : copyS s c = 0
  · skip
    refine Wp.seqRegion (.inl rfl) (by kernel_rfl) fun K' gd hK hg => ?_
    clear hg
    go_simp
    refine hK _ _ ?_
    clear hK K' gd
    refine Wp.keep [3, 4, 5, 9, 21] fun r5 hkeep => ?_
    obtain ⟨e3_5, e4_5, e5_5, e9_5, e21_5, -⟩ := hkeep
    simp [go_sem, e3_4, e4_4, e5_4, e9_4] at e3_5 e4_5 e5_5 e9_5 e21_5
    clear e3_4 e4_4 e5_4 e9_4
    refine Wp.condF (by go_simp) ?_
    refine Wp.skip ?_
    refine thenK_normal ?_
    refine Wp.seq ?_
    refine Wp.seqRegion (.inl rfl) (by kernel_rfl) fun K' gd hK hg => ?_
    clear hg
    refine Wops.cut 3 fun K1 hK1 => ?_
    simp only [List.take_succ_cons, List.take_zero]
    go_simp
    refine Wcall (.inl rfl) (copy_c _ _ s d _ (hV.ext xw) (hT.ext xw) hf hh) ?_
    rintro v w3 ⟨rfl, hE⟩
    go_simp
    refine hK1 _ _ ?_
    clear hK1 K1
    simp only [List.drop_succ_cons, List.drop_zero]
    have z6 := Below.size hE
    replace f3 := Ext.fz hE c3_0 f3
    replace f4 := Ext.fz hE c4_0 f4
    replace f5 := Ext.fz hE c5_0 f5
    replace xw := Ext.trans xw hE
    replace c3_0 := Ext.cell hE c3_0
    replace c3_1 := Ext.cell hE c3_1
    replace c4_0 := Ext.cell hE c4_0
    replace c4_1 := Ext.cell hE c4_1
    replace c4_2 := Ext.cell hE c4_2
    replace c4_3 := Ext.cell hE c4_3
    replace c5_0 := Ext.cell hE c5_0
    replace c5_1 := Ext.cell hE c5_1
    replace c5_2 := Ext.cell hE c5_2
    replace c5_3 := Ext.cell hE c5_3
    clear hE
    go_simp
    refine hK _ _ ?_
    clear hK K' gd
    refine Wp.keep [3, 4, 5, 10] fun r7 hkeep => ?_
    obtain ⟨e3_7, e4_7, e5_7, e10_7, -⟩ := hkeep
    simp [go_sem, e3_5, e4_5, e5_5, e9_5, e21_5] at e3_7 e4_7 e5_7 e10_7
    clear e3_5 e4_5 e5_5 e9_5 e21_5
    by_cases k2 : copyS s d = 0
    · skip
      refine Wp.seqRegion (.inl rfl) (by kernel_rfl) fun K' gd hK hg => ?_
      clear hg
      go_simp
      refine hK _ _ ?_
      clear hK K' gd
      refine Wp.keep [3, 4, 5, 10, 27] fun r8 hkeep => ?_
      obtain ⟨e3_8, e4_8, e5_8, e10_8, e27_8, -⟩ := hkeep
      simp [go_sem, e3_7, e4_7, e5_7, e10_7] at e3_8 e4_8 e5_8 e10_8 e27_8
      clear e3_7 e4_7 e5_7 e10_7
      refine Wp.condF (by go_simp) ?_
      by_cases k3 : begE s c = 0
      · skip
        refine Wp.skip ?_
        refine thenK_normal ?_
        refine Wp.seqRegion (.inl rfl) (by kernel_rfl) fun K' gd hK hg => ?_
        clear hg
        refine Wops.cut 3 fun K1 hK1 => ?_
        simp only [List.take_succ_cons, List.take_zero]
        go_simp
        refine Wcall (.inl rfl) (begun_c _ _ s c _ (hV.ext xw) (hU.ext xw) hf hg) ?_
        rintro v w4 ⟨B1, b2, b3, b4, b5, b6, B2, b7, b8, dv, rfl, hM, hI, hE⟩
        have xc := Ext.refl w4
        rw [if_pos k3] at hI
        obtain ⟨A6, c6, rfl⟩ := hI.slice
        go_simp
        refine hK1 _ _ ?_
        clear hK1 K1
        simp only [List.drop_succ_cons, List.drop_zero]
        have z9 := Below.size hE
        replace f3 := Ext.fz hE c3_0 f3
        replace f4 := Ext.fz hE c4_0 f4
        replace f5 := Ext.fz hE c5_0 f5
        replace xw := Ext.trans xw hE
        replace c3_0 := Ext.cell hE c3_0
        replace c3_1 := Ext.cell hE c3_1
        replace c4_0 := Ext.cell hE c4_0
        replace c4_1 := Ext.cell hE c4_1
        replace c4_2 := Ext.cell hE c4_2
        replace c4_3 := Ext.cell hE c4_3
        replace c5_0 := Ext.cell hE c5_0
        replace c5_1 := Ext.cell hE c5_1
        replace c5_2 := Ext.cell hE c5_2
        replace c5_3 := Ext.cell hE c5_3
        clear hE
        refine Wops.cut 6 fun K1 hK1 => ?_
        simp only [List.take_succ_cons, List.take_zero]
        go_simp
        refine hK1 _ _ ?_
        clear hK1 K1
        simp only [List.drop_succ_cons, List.drop_zero]
        refine Wops.absA fun V11_5 n11 hV11_5 => ?_
        obtain ⟨q11, hV11_5, s11, kV11_5, f11, r11⟩ := hV11_5
        try simp only [q11] at kV11_5 f11 r11 ⊢
        replace f3 := Ext.fz hV11_5 c3_0 f3
        replace f4 := Ext.fz hV11_5 c4_0 f4
        replace f5 := Ext.fz hV11_5 c5_0 f5
        replace xw := Ext.trans xw hV11_5
        replace xc := Ext.trans xc hV11_5
        replace c3_0 := Ext.cell hV11_5 c3_0
        replace c3_1 := Ext.cell hV11_5 c3_1
        replace c4_0 := Ext.cell hV11_5 c4_0
        replace c4_1 := Ext.cell hV11_5 c4_1
        replace c4_2 := Ext.cell hV11_5 c4_2
        replace c4_3 := Ext.cell hV11_5 c4_3
        replace c5_0 := Ext.cell hV11_5 c5_0
        replace c5_1 := Ext.cell hV11_5 c5_1
        replace c5_2 := Ext.cell hV11_5 c5_2
        replace c5_3 := Ext.cell hV11_5 c5_3
        have c11_0 := kV11_5 0 _ rfl
        have c11_1 := kV11_5 1 _ rfl
        have c11_2 := kV11_5 2 _ rfl
        have c11_3 := kV11_5 3 _ rfl
        have c11_4 := kV11_5 4 _ rfl
        clear kV11_5 hV11_5
        clear r11
        go_simp
        refine hK _ _ ?_
        clear hK K' gd
        refine Wp.keep [3, 5, 11, 12, 13] fun r10 hkeep => ?_
        obtain ⟨e3_10, e5_10, e11_10, e12_10, e13_10, -⟩ := hkeep
        simp [go_sem, e3_8, e4_8, e5_8, e10_8, e27_8] at e3_10 e5_10 e11_10 e12_10 e13_10
        clear e3_8 e4_8 e5_8 e10_8 e27_8
        refine Wp.seq ?_
        refine Wp.seqRegion (.inl rfl) (by kernel_rfl) fun K' gd hK hg => ?_
        clear hg
        go_simp
        refine hK _ _ ?_
        clear hK K' gd
        refine Wp.keep [3, 5, 11, 12, 13, 37] fun r11 hkeep => ?_
        obtain ⟨e3_11, e5_11, e11_11, e12_11, e13_11, e37_11, -⟩ := hkeep
        simp [go_sem, e3_10, e5_10, e11_10, e12_10, e13_10] at e3_11 e5_11 e11_11 e12_11 e13_11 e37_11
        clear e3_10 e5_10 e11_10 e12_10 e13_10
        refine Wp.condF (by go_simp) ?_
        by_cases k4 : begE s d = 0
        · skip
          refine Wp.skip ?_
          refine thenK_normal ?_
          refine Wp.seqRegion (.inl rfl) (by kernel_rfl) fun K' gd hK hg => ?_
          clear hg
          refine Wops.cut 3 fun K1 hK1 => ?_
          simp only [List.take_succ_cons, List.take_zero]
          go_simp
          refine Wcall (.inl rfl) (begun_c _ _ s d _ (hV.ext xw) (hT.ext xw) hf hh) ?_
          rintro v w5 ⟨D1, d2, d3, d4, d5, d6, D2, d7, d8, ev, rfl, hN, hJ, hE⟩
          have xd := Ext.refl w5
          rw [if_pos k4] at hJ
          obtain ⟨A7, c7, rfl⟩ := hJ.slice
          go_simp
          refine hK1 _ _ ?_
          clear hK1 K1
          simp only [List.drop_succ_cons, List.drop_zero]
          have z12 := Below.size hE
          replace f3 := Ext.fz hE c3_0 f3
          replace f4 := Ext.fz hE c4_0 f4
          replace f5 := Ext.fz hE c5_0 f5
          replace f11 := Ext.fz hE c11_0 f11
          replace xw := Ext.trans xw hE
          replace xc := Ext.trans xc hE
          replace c3_0 := Ext.cell hE c3_0
          replace c3_1 := Ext.cell hE c3_1
          replace c4_0 := Ext.cell hE c4_0
          replace c4_1 := Ext.cell hE c4_1
          replace c4_2 := Ext.cell hE c4_2
          replace c4_3 := Ext.cell hE c4_3
          replace c5_0 := Ext.cell hE c5_0
          replace c5_1 := Ext.cell hE c5_1
          replace c5_2 := Ext.cell hE c5_2
          replace c5_3 := Ext.cell hE c5_3
          replace c11_0 := Ext.cell hE c11_0
          replace c11_1 := Ext.cell hE c11_1
          replace c11_2 := Ext.cell hE c11_2
          replace c11_3 := Ext.cell hE c11_3
          replace c11_4 := Ext.cell hE c11_4
          clear hE
          refine Wops.cut 6 fun K1 hK1 => ?_
          simp only [List.take_succ_cons, List.take_zero]
          go_simp
          refine hK1 _ _ ?_
          clear hK1 K1
          simp only [List.drop_succ_cons, List.drop_zero]
          refine Wops.absA fun V14_7 n14 hV14_7 => ?_
          obtain ⟨q14, hV14_7, s14, kV14_7, f14, r14⟩ := hV14_7
          try simp only [q14] at kV14_7 f14 r14 ⊢
          replace f3 := Ext.fz hV14_7 c3_0 f3
          replace f4 := Ext.fz hV14_7 c4_0 f4
          replace f5 := Ext.fz hV14_7 c5_0 f5
          replace f11 := Ext.fz hV14_7 c11_0 f11
          replace xw := Ext.trans xw hV14_7
          replace xc := Ext.trans xc hV14_7
          replace xd := Ext.trans xd hV14_7
          replace c3_0 := Ext.cell hV14_7 c3_0
          replace c3_1 := Ext.cell hV14_7 c3_1
          replace c4_0 := Ext.cell hV14_7 c4_0
          replace c4_1 := Ext.cell hV14_7 c4_1
          replace c4_2 := Ext.cell hV14_7 c4_2
          replace c4_3 := Ext.cell hV14_7 c4_3
          replace c5_0 := Ext.cell hV14_7 c5_0
          replace c5_1 := Ext.cell hV14_7 c5_1
          replace c5_2 := Ext.cell hV14_7 c5_2
          replace c5_3 := Ext.cell hV14_7 c5_3
          replace c11_0 := Ext.cell hV14_7 c11_0
          replace c11_1 := Ext.cell hV14_7 c11_1
          replace c11_2 := Ext.cell hV14_7 c11_2
          replace c11_3 := Ext.cell hV14_7 c11_3
          replace c11_4 := Ext.cell hV14_7 c11_4
          have c14_0 := kV14_7 0 _ rfl
          have c14_1 := kV14_7 1 _ rfl
          have c14_2 := kV14_7 2 _ rfl
          have c14_3 := kV14_7 3 _ rfl
          have c14_4 := kV14_7 4 _ rfl
          clear kV14_7 hV14_7
          clear r14
          go_simp
          refine hK _ _ ?_
          clear hK K' gd
          refine Wp.keep [11, 12, 13, 14, 15] fun r13 hkeep => ?_
          obtain ⟨e11_13, e12_13, e13_13, e14_13, e15_13, -⟩ := hkeep
          simp [go_sem, e3_11, e5_11, e11_11, e12_11, e13_11, e37_11] at e11_13 e12_13 e13_13 e14_13 e15_13
          clear e3_11 e5_11 e11_11 e12_11 e13_11 e37_11
          obtain ⟨wu, hwu, hM⟩ := hM k3
          injection hwu with hwu
          simp at hwu
          subst hwu
          obtain ⟨wt, hwt, hN⟩ := hN k4
          injection hwt with hwt
          simp at hwt
          subst hwt
          obtain ⟨hgd, hmk, hok, hl1, hl2, hn1, hn40⟩ := beg_know k3
          obtain ⟨-, hmk2, hok2, hl3, hl4, -, -⟩ := beg_know k4
          obtain ⟨q, hq⟩ : ∃ q : Nat, ∃ _u : Unit, q + 1 = s.words.length := ⟨s.words.length - 1, (), by omega⟩
          have hls : ∃ _u : Unit, (s.md c).first.length = s.words.length ∧ (s.md c).last.length = s.words.length ∧ (s.md d).first.length = s.words.length ∧ (s.md d).last.length = s.words.length := ⟨(), hl1, hl2, hl3, hl4⟩
          obtain ⟨p9, o9, c9, e9, -, -, hc9⟩ := (hI.ext xc).get (k := q) (by have := hq.choose_spec; omega)
          injection e9 with q1 q2 q3
          subst q1
          subst q3
          have y1 := hc9 q (by have := hq.choose_spec; omega)
          obtain ⟨p8, o8, c8, e8, -, -, hc8⟩ := (hJ.ext xd).get (k := 0) (by omega)
          injection e8 with q1 q2 q3
          subst q1
          subst q3
          have y2 := hc8 0 (by omega)
          simp only [Nat.add_zero] at y2
          have hwq : IntKind.i64.wrap (((s.md c).first.length : Int) - 1) = (q : Int) := by have := hq.choose_spec; rw [IntWalk.i64_in _ (by omega)]; omega
          have i1 : (q : Int) < ((s.md c).first.length : Int) := by have := hq.choose_spec; omega
          have i2 : (q : Int) < ((s.md c).last.length : Int) := by have := hq.choose_spec; omega
          have i3 : 0 < (s.md d).first.length := by omega
          have i4 : 0 < (s.md d).last.length := by omega
          have hqq : ∃ _u : Unit, s.words.length - 1 = q := ⟨(), by have := hq.choose_spec; omega⟩
          clear hl1 hl2 hl3 hl4 hc9 hc8
          refine Wp.seq ?_
          refine Wp.seqRegion (.inl rfl) (by kernel_rfl) fun K' gd hK hg => ?_
          clear hg
          go_simp
          refine hK _ _ ?_
          clear hK K' gd
          refine Wp.keep [11, 12, 13, 14, 15, 47] fun r14 hkeep => ?_
          obtain ⟨e11_14, e12_14, e13_14, e14_14, e15_14, e47_14, -⟩ := hkeep
          simp [go_sem, e11_13, e12_13, e13_13, e14_13, e15_13] at e11_14 e12_14 e13_14 e14_14 e15_14 e47_14
          clear e11_13 e12_13 e13_13 e14_13 e15_13
          refine Wp.condF (by go_simp) ?_
          refine Wp.skip ?_
          refine thenK_normal ?_
          refine Wp.seqRegion (.inl rfl) (by kernel_rfl) fun K' gd hK hg => ?_
          clear hg
          go_simp
          refine hK _ _ ?_
          clear hK K' gd
          refine Wp.keep [11, 12, 14, 15, 16] fun r15 hkeep => ?_
          obtain ⟨e11_15, e12_15, e14_15, e15_15, e16_15, -⟩ := hkeep
          simp [go_sem, e11_14, e12_14, e13_14, e14_14, e15_14, e47_14] at e11_15 e12_15 e14_15 e15_15 e16_15
          clear e11_14 e12_14 e13_14 e14_14 e15_14 e47_14
          refine Wp.seqDraw (.inl rfl) mixed [([0, 2, 5, 6, 7], none), ([9, 10, 11, 12, 13], some (1, false)), ([3, 4, 8], some (14, false)), ([15, 16, 17, 18, 19], none), ([20], none)] (by kernel_rfl) fun K' gd hK hg => ?_
          clear hg
          simp only [pick, nth, List.map_cons, List.map_nil, Option.map_none, Option.map_some]
          refine Mops.absD fun D8 hD8 zD8 => ?_
          replace f3 := Ext.fz hD8 c3_0 f3
          replace f4 := Ext.fz hD8 c4_0 f4
          replace f5 := Ext.fz hD8 c5_0 f5
          replace f11 := Ext.fz hD8 c11_0 f11
          replace f14 := Ext.fz hD8 c14_0 f14
          replace xw := Ext.trans xw hD8
          replace xc := Ext.trans xc hD8
          replace xd := Ext.trans xd hD8
          replace c3_0 := Ext.cell hD8 c3_0
          replace c3_1 := Ext.cell hD8 c3_1
          replace c4_0 := Ext.cell hD8 c4_0
          replace c4_1 := Ext.cell hD8 c4_1
          replace c4_2 := Ext.cell hD8 c4_2
          replace c4_3 := Ext.cell hD8 c4_3
          replace c5_0 := Ext.cell hD8 c5_0
          replace c5_1 := Ext.cell hD8 c5_1
          replace c5_2 := Ext.cell hD8 c5_2
          replace c5_3 := Ext.cell hD8 c5_3
          replace c11_0 := Ext.cell hD8 c11_0
          replace c11_1 := Ext.cell hD8 c11_1
          replace c11_2 := Ext.cell hD8 c11_2
          replace c11_3 := Ext.cell hD8 c11_3
          replace c11_4 := Ext.cell hD8 c11_4
          replace c14_0 := Ext.cell hD8 c14_0
          replace c14_1 := Ext.cell hD8 c14_1
          replace c14_2 := Ext.cell hD8 c14_2
          replace c14_3 := Ext.cell hD8 c14_3
          replace c14_4 := Ext.cell hD8 c14_4
          replace y1 := Ext.cell hD8 y1
          replace y2 := Ext.cell hD8 y2
          clear hD8
          apply Mops.none
          · intro w' hE'
            have hC' := hE'.cellsS
            go_simp
            with_reducible rfl
          apply Mops.act
          · intro w' hE'
            have hC' := hE'.cellsS
            go_simp
            with_reducible rfl
          intro K1 hK1
          go_simp
          refine Wcall (.inl rfl) (last_c _ (s.md c) _ ((hM.ext xc).made (hW.ext xw)) hmk) ?_
          rintro v w6 ⟨hQa, hE⟩
          have xe := Ext.refl w6
          obtain ⟨A8, c8, rfl⟩ := hQa.slice
          go_simp
          refine hK1 _ _ (by assumption) ?_
          clear hK1 K1
          have z16 := Below.size hE
          replace f3 := Ext.fz hE c3_0 f3
          replace f4 := Ext.fz hE c4_0 f4
          replace f5 := Ext.fz hE c5_0 f5
          replace f11 := Ext.fz hE c11_0 f11
          replace f14 := Ext.fz hE c14_0 f14
          replace xw := Ext.trans xw hE
          replace xc := Ext.trans xc hE
          replace xd := Ext.trans xd hE
          replace c3_0 := Ext.cell hE c3_0
          replace c3_1 := Ext.cell hE c3_1
          replace c4_0 := Ext.cell hE c4_0
          replace c4_1 := Ext.cell hE c4_1
          replace c4_2 := Ext.cell hE c4_2
          replace c4_3 := Ext.cell hE c4_3
          replace c5_0 := Ext.cell hE c5_0
          replace c5_1 := Ext.cell hE c5_1
          replace c5_2 := Ext.cell hE c5_2
          replace c5_3 := Ext.cell hE c5_3
          replace c11_0 := Ext.cell hE c11_0
          replace c11_1 := Ext.cell hE c11_1
          replace c11_2 := Ext.cell hE c11_2
          replace c11_3 := Ext.cell hE c11_3
          replace c11_4 := Ext.cell hE c11_4
          replace c14_0 := Ext.cell hE c14_0
          replace c14_1 := Ext.cell hE c14_1
          replace c14_2 := Ext.cell hE c14_2
          replace c14_3 := Ext.cell hE c14_3
          replace c14_4 := Ext.cell hE c14_4
          replace y1 := Ext.cell hE y1
          replace y2 := Ext.cell hE y2
          clear hE
          obtain ⟨p7, o7, c7, e7, -, -, hc7⟩ := (hQa.ext xe).get (k := q) (by omega)
          injection e7 with q1 q2 q3
          subst q1
          subst q3
          have y3 := hc7 q (by omega)
          clear hc7
          apply Mops.act
          · intro w' hE'
            have hC' := hE'.cellsS
            go_simp
            with_reducible rfl
          intro K1 hK1
          go_simp
          refine Wcall (.inl rfl) (last_c _ (s.md d) _ ((hN.ext xd).made (hX.ext xw)) hmk2) ?_
          rintro v w7 ⟨hQb, hE⟩
          have xf := Ext.refl w7
          obtain ⟨A9, c9, rfl⟩ := hQb.slice
          go_simp
          refine hK1 _ _ (by assumption) ?_
          clear hK1 K1
          have z17 := Below.size hE
          replace f3 := Ext.fz hE c3_0 f3
          replace f4 := Ext.fz hE c4_0 f4
          replace f5 := Ext.fz hE c5_0 f5
          replace f11 := Ext.fz hE c11_0 f11
          replace f14 := Ext.fz hE c14_0 f14
          replace xw := Ext.trans xw hE
          replace xc := Ext.trans xc hE
          replace xd := Ext.trans xd hE
          replace xe := Ext.trans xe hE
          replace c3_0 := Ext.cell hE c3_0
          replace c3_1 := Ext.cell hE c3_1
          replace c4_0 := Ext.cell hE c4_0
          replace c4_1 := Ext.cell hE c4_1
          replace c4_2 := Ext.cell hE c4_2
          replace c4_3 := Ext.cell hE c4_3
          replace c5_0 := Ext.cell hE c5_0
          replace c5_1 := Ext.cell hE c5_1
          replace c5_2 := Ext.cell hE c5_2
          replace c5_3 := Ext.cell hE c5_3
          replace c11_0 := Ext.cell hE c11_0
          replace c11_1 := Ext.cell hE c11_1
          replace c11_2 := Ext.cell hE c11_2
          replace c11_3 := Ext.cell hE c11_3
          replace c11_4 := Ext.cell hE c11_4
          replace c14_0 := Ext.cell hE c14_0
          replace c14_1 := Ext.cell hE c14_1
          replace c14_2 := Ext.cell hE c14_2
          replace c14_3 := Ext.cell hE c14_3
          replace c14_4 := Ext.cell hE c14_4
          replace y1 := Ext.cell hE y1
          replace y2 := Ext.cell hE y2
          replace y3 := Ext.cell hE y3
          clear hE
          obtain ⟨p6, o6, c6, e6, -, -, hc6⟩ := (hQb.ext xf).get (k := 0) i4
          injection e6 with q1 q2 q3
          subst q1
          subst q3
          have y4 := hc6 0 i4
          simp only [Nat.add_zero] at y4
          clear hc6
          apply Mops.none
          · intro w' hE'
            have hC' := hE'.cellsS
            go_simp
            with_reducible rfl
          apply Mops.none
          · intro w' hE'
            have hC' := hE'.cellsS
            go_simp
            with_reducible rfl
          refine Mops.done ?_
          refine hK _ _ ?_
          clear hK K' gd
          refine Wp.keep [6, 7, 8] fun r18 hkeep => ?_
          obtain ⟨e6_18, e7_18, e8_18, -⟩ := hkeep
          simp [go_sem, e11_15, e12_15, e14_15, e15_15, e16_15] at e6_18 e7_18 e8_18
          clear e11_15 e12_15 e14_15 e15_15 e16_15
          refine Wp.ret ?_
          refine endK_tmp3 Try.results47 (by decide) (by decide) (by decide) ?_
          rw [e6_18, e7_18, e8_18]
          obtain ⟨e1, e2, e3⟩ := bef_yes k3 k4
          exact ⟨by rw [e1, e2, e3, hqq.choose_spec], xw⟩
        · skip
          refine Wp.skip ?_
          refine thenK_normal ?_
          refine Wp.seqRegion (.inl rfl) (by kernel_rfl) fun K' gd hK hg => ?_
          clear hg
          refine Wops.cut 3 fun K1 hK1 => ?_
          simp only [List.take_succ_cons, List.take_zero]
          go_simp
          refine Wcall (.inl rfl) (begun_c _ _ s d _ (hV.ext xw) (hT.ext xw) hf hh) ?_
          rintro v w5 ⟨D1, d2, d3, d4, d5, d6, D2, d7, d8, ev, rfl, -, -, hE⟩
          go_simp
          refine hK1 _ _ ?_
          clear hK1 K1
          simp only [List.drop_succ_cons, List.drop_zero]
          have z19 := Below.size hE
          replace f3 := Ext.fz hE c3_0 f3
          replace f4 := Ext.fz hE c4_0 f4
          replace f5 := Ext.fz hE c5_0 f5
          replace f11 := Ext.fz hE c11_0 f11
          replace xw := Ext.trans xw hE
          replace xc := Ext.trans xc hE
          replace c3_0 := Ext.cell hE c3_0
          replace c3_1 := Ext.cell hE c3_1
          replace c4_0 := Ext.cell hE c4_0
          replace c4_1 := Ext.cell hE c4_1
          replace c4_2 := Ext.cell hE c4_2
          replace c4_3 := Ext.cell hE c4_3
          replace c5_0 := Ext.cell hE c5_0
          replace c5_1 := Ext.cell hE c5_1
          replace c5_2 := Ext.cell hE c5_2
          replace c5_3 := Ext.cell hE c5_3
          replace c11_0 := Ext.cell hE c11_0
          replace c11_1 := Ext.cell hE c11_1
          replace c11_2 := Ext.cell hE c11_2
          replace c11_3 := Ext.cell hE c11_3
          replace c11_4 := Ext.cell hE c11_4
          clear hE
          refine Wops.cut 6 fun K1 hK1 => ?_
          simp only [List.take_succ_cons, List.take_zero]
          go_simp
          refine hK1 _ _ ?_
          clear hK1 K1
          simp only [List.drop_succ_cons, List.drop_zero]
          refine Wops.absA fun V14_11 n14 hV14_11 => ?_
          obtain ⟨q14, hV14_11, s14, kV14_11, f14, r14⟩ := hV14_11
          try simp only [q14] at kV14_11 f14 r14 ⊢
          replace f3 := Ext.fz hV14_11 c3_0 f3
          replace f4 := Ext.fz hV14_11 c4_0 f4
          replace f5 := Ext.fz hV14_11 c5_0 f5
          replace f11 := Ext.fz hV14_11 c11_0 f11
          replace xw := Ext.trans xw hV14_11
          replace xc := Ext.trans xc hV14_11
          replace c3_0 := Ext.cell hV14_11 c3_0
          replace c3_1 := Ext.cell hV14_11 c3_1
          replace c4_0 := Ext.cell hV14_11 c4_0
          replace c4_1 := Ext.cell hV14_11 c4_1
          replace c4_2 := Ext.cell hV14_11 c4_2
          replace c4_3 := Ext.cell hV14_11 c4_3
          replace c5_0 := Ext.cell hV14_11 c5_0
          replace c5_1 := Ext.cell hV14_11 c5_1
          replace c5_2 := Ext.cell hV14_11 c5_2
          replace c5_3 := Ext.cell hV14_11 c5_3
          replace c11_0 := Ext.cell hV14_11 c11_0
          replace c11_1 := Ext.cell hV14_11 c11_1
          replace c11_2 := Ext.cell hV14_11 c11_2
          replace c11_3 := Ext.cell hV14_11 c11_3
          replace c11_4 := Ext.cell hV14_11 c11_4
          have c14_0 := kV14_11 0 _ rfl
          have c14_1 := kV14_11 1 _ rfl
          have c14_2 := kV14_11 2 _ rfl
          have c14_3 := kV14_11 3 _ rfl
          have c14_4 := kV14_11 4 _ rfl
          clear kV14_11 hV14_11
          clear r14
          go_simp
          refine hK _ _ ?_
          clear hK K' gd
          refine Wp.keep [11, 12, 13, 14, 15] fun r20 hkeep => ?_
          obtain ⟨e11_20, e12_20, e13_20, e14_20, e15_20, -⟩ := hkeep
          simp [go_sem, e3_11, e5_11, e11_11, e12_11, e13_11, e37_11] at e11_20 e12_20 e13_20 e14_20 e15_20
          clear e3_11 e5_11 e11_11 e12_11 e13_11 e37_11
          refine Wp.seq ?_
          refine Wp.seqRegion (.inl rfl) (by kernel_rfl) fun K' gd hK hg => ?_
          clear hg
          go_simp
          refine hK _ _ ?_
          clear hK K' gd
          refine Wp.keep [11, 12, 13, 14, 15, 47] fun r21 hkeep => ?_
          obtain ⟨e11_21, e12_21, e13_21, e14_21, e15_21, e47_21, -⟩ := hkeep
          simp [go_sem, e11_20, e12_20, e13_20, e14_20, e15_20] at e11_21 e12_21 e13_21 e14_21 e15_21 e47_21
          clear e11_20 e12_20 e13_20 e14_20 e15_20
          refine Wp.condT (by go_simp) ?_
          refine Wp.seqRegion (.inl rfl) (by kernel_rfl) fun K' gd hK hg => ?_
          clear hg
          go_simp
          refine hK _ _ ?_
          clear hK K' gd
          refine Wp.keep [6, 7, 8] fun r22 hkeep => ?_
          obtain ⟨e6_22, e7_22, e8_22, -⟩ := hkeep
          simp [go_sem, e11_21, e12_21, e13_21, e14_21, e15_21, e47_21] at e6_22 e7_22 e8_22
          clear e11_21 e12_21 e13_21 e14_21 e15_21 e47_21
          refine Wp.ret ?_
          refine thenK_ret ?_
          refine endK_tmp3 Try.results47 (by decide) (by decide) (by decide) ?_
          rw [e6_22, e7_22, e8_22]
          have e : befE s c d = begE s d := by unfold befE; rw [if_pos k1, if_pos k2, if_pos k3]
          obtain ⟨e1, e2⟩ := bef_no (s := s) (c := c) (d := d) (by rw [e]; exact k4)
          exact ⟨by rw [e1, e2, e], xw⟩
      · skip
        refine Wp.skip ?_
        refine thenK_normal ?_
        refine Wp.seqRegion (.inl rfl) (by kernel_rfl) fun K' gd hK hg => ?_
        clear hg
        refine Wops.cut 3 fun K1 hK1 => ?_
        simp only [List.take_succ_cons, List.take_zero]
        go_simp
        refine Wcall (.inl rfl) (begun_c _ _ s c _ (hV.ext xw) (hU.ext xw) hf hg) ?_
        rintro v w4 ⟨B1, b2, b3, b4, b5, b6, B2, b7, b8, dv, rfl, -, -, hE⟩
        go_simp
        refine hK1 _ _ ?_
        clear hK1 K1
        simp only [List.drop_succ_cons, List.drop_zero]
        have z23 := Below.size hE
        replace f3 := Ext.fz hE c3_0 f3
        replace f4 := Ext.fz hE c4_0 f4
        replace f5 := Ext.fz hE c5_0 f5
        replace xw := Ext.trans xw hE
        replace c3_0 := Ext.cell hE c3_0
        replace c3_1 := Ext.cell hE c3_1
        replace c4_0 := Ext.cell hE c4_0
        replace c4_1 := Ext.cell hE c4_1
        replace c4_2 := Ext.cell hE c4_2
        replace c4_3 := Ext.cell hE c4_3
        replace c5_0 := Ext.cell hE c5_0
        replace c5_1 := Ext.cell hE c5_1
        replace c5_2 := Ext.cell hE c5_2
        replace c5_3 := Ext.cell hE c5_3
        clear hE
        refine Wops.cut 6 fun K1 hK1 => ?_
        simp only [List.take_succ_cons, List.take_zero]
        go_simp
        refine hK1 _ _ ?_
        clear hK1 K1
        simp only [List.drop_succ_cons, List.drop_zero]
        refine Wops.absA fun V11_12 n11 hV11_12 => ?_
        obtain ⟨q11, hV11_12, s11, kV11_12, f11, r11⟩ := hV11_12
        try simp only [q11] at kV11_12 f11 r11 ⊢
        replace f3 := Ext.fz hV11_12 c3_0 f3
        replace f4 := Ext.fz hV11_12 c4_0 f4
        replace f5 := Ext.fz hV11_12 c5_0 f5
        replace xw := Ext.trans xw hV11_12
        replace c3_0 := Ext.cell hV11_12 c3_0
        replace c3_1 := Ext.cell hV11_12 c3_1
        replace c4_0 := Ext.cell hV11_12 c4_0
        replace c4_1 := Ext.cell hV11_12 c4_1
        replace c4_2 := Ext.cell hV11_12 c4_2
        replace c4_3 := Ext.cell hV11_12 c4_3
        replace c5_0 := Ext.cell hV11_12 c5_0
        replace c5_1 := Ext.cell hV11_12 c5_1
        replace c5_2 := Ext.cell hV11_12 c5_2
        replace c5_3 := Ext.cell hV11_12 c5_3
        have c11_0 := kV11_12 0 _ rfl
        have c11_1 := kV11_12 1 _ rfl
        have c11_2 := kV11_12 2 _ rfl
        have c11_3 := kV11_12 3 _ rfl
        have c11_4 := kV11_12 4 _ rfl
        clear kV11_12 hV11_12
        clear r11
        go_simp
        refine hK _ _ ?_
        clear hK K' gd
        refine Wp.keep [3, 5, 11, 12, 13] fun r24 hkeep => ?_
        obtain ⟨e3_24, e5_24, e11_24, e12_24, e13_24, -⟩ := hkeep
        simp [go_sem, e3_8, e4_8, e5_8, e10_8, e27_8] at e3_24 e5_24 e11_24 e12_24 e13_24
        clear e3_8 e4_8 e5_8 e10_8 e27_8
        refine Wp.seq ?_
        refine Wp.seqRegion (.inl rfl) (by kernel_rfl) fun K' gd hK hg => ?_
        clear hg
        go_simp
        refine hK _ _ ?_
        clear hK K' gd
        refine Wp.keep [3, 5, 11, 12, 13, 37] fun r25 hkeep => ?_
        obtain ⟨e3_25, e5_25, e11_25, e12_25, e13_25, e37_25, -⟩ := hkeep
        simp [go_sem, e3_24, e5_24, e11_24, e12_24, e13_24] at e3_25 e5_25 e11_25 e12_25 e13_25 e37_25
        clear e3_24 e5_24 e11_24 e12_24 e13_24
        refine Wp.condT (by go_simp) ?_
        refine Wp.seqRegion (.inl rfl) (by kernel_rfl) fun K' gd hK hg => ?_
        clear hg
        go_simp
        refine hK _ _ ?_
        clear hK K' gd
        refine Wp.keep [6, 7, 8] fun r26 hkeep => ?_
        obtain ⟨e6_26, e7_26, e8_26, -⟩ := hkeep
        simp [go_sem, e3_25, e5_25, e11_25, e12_25, e13_25, e37_25] at e6_26 e7_26 e8_26
        clear e3_25 e5_25 e11_25 e12_25 e13_25 e37_25
        refine Wp.ret ?_
        refine thenK_ret ?_
        refine endK_tmp3 Try.results47 (by decide) (by decide) (by decide) ?_
        rw [e6_26, e7_26, e8_26]
        have e : befE s c d = begE s c := by unfold befE; rw [if_pos k1, if_pos k2, if_neg k3]
        obtain ⟨e1, e2⟩ := bef_no (s := s) (c := c) (d := d) (by rw [e]; exact k3)
        exact ⟨by rw [e1, e2, e], xw⟩
    · skip
      refine Wp.seqRegion (.inl rfl) (by kernel_rfl) fun K' gd hK hg => ?_
      clear hg
      go_simp
      refine hK _ _ ?_
      clear hK K' gd
      refine Wp.keep [3, 4, 5, 10, 27] fun r27 hkeep => ?_
      obtain ⟨e3_27, e4_27, e5_27, e10_27, e27_27, -⟩ := hkeep
      simp [go_sem, e3_7, e4_7, e5_7, e10_7] at e3_27 e4_27 e5_27 e10_27 e27_27
      clear e3_7 e4_7 e5_7 e10_7
      refine Wp.condT (by go_simp) ?_
      refine Wp.seqRegion (.inl rfl) (by kernel_rfl) fun K' gd hK hg => ?_
      clear hg
      go_simp
      refine hK _ _ ?_
      clear hK K' gd
      refine Wp.keep [6, 7, 8] fun r28 hkeep => ?_
      obtain ⟨e6_28, e7_28, e8_28, -⟩ := hkeep
      simp [go_sem, e3_27, e4_27, e5_27, e10_27, e27_27] at e6_28 e7_28 e8_28
      clear e3_27 e4_27 e5_27 e10_27 e27_27
      refine Wp.ret ?_
      refine thenK_ret ?_
      refine endK_tmp3 Try.results47 (by decide) (by decide) (by decide) ?_
      rw [e6_28, e7_28, e8_28]
      have e : befE s c d = copyS s d := by unfold befE; rw [if_pos k1, if_neg k2]
      obtain ⟨e1, e2⟩ := bef_no (s := s) (c := c) (d := d) (by rw [e]; exact k2)
      exact ⟨by rw [e1, e2, e], xw⟩
  · skip
    refine Wp.seqRegion (.inl rfl) (by kernel_rfl) fun K' gd hK hg => ?_
    clear hg
    go_simp
    refine hK _ _ ?_
    clear hK K' gd
    refine Wp.keep [3, 4, 5, 9, 21] fun r29 hkeep => ?_
    obtain ⟨e3_29, e4_29, e5_29, e9_29, e21_29, -⟩ := hkeep
    simp [go_sem, e3_4, e4_4, e5_4, e9_4] at e3_29 e4_29 e5_29 e9_29 e21_29
    clear e3_4 e4_4 e5_4 e9_4
    refine Wp.condT (by go_simp) ?_
    refine Wp.seqRegion (.inl rfl) (by kernel_rfl) fun K' gd hK hg => ?_
    clear hg
    go_simp
    refine hK _ _ ?_
    clear hK K' gd
    refine Wp.keep [6, 7, 8] fun r30 hkeep => ?_
    obtain ⟨e6_30, e7_30, e8_30, -⟩ := hkeep
    simp [go_sem, e3_29, e4_29, e5_29, e9_29, e21_29] at e6_30 e7_30 e8_30
    clear e3_29 e4_29 e5_29 e9_29 e21_29
    refine Wp.ret ?_
    refine thenK_ret ?_
    refine endK_tmp3 Try.results47 (by decide) (by decide) (by decide) ?_
    rw [e6_30, e7_30, e8_30]
    have e : befE s c d = copyS s c := by unfold befE; rw [if_neg k1]
    obtain ⟨e1, e2⟩ := bef_no (s := s) (c := c) (d := d) (by rw [e]; exact k1)
    exact ⟨by rw [e1, e2, e], xw⟩
end Go.Proofs.Ytnjajbkkgfohaaa
namespace Go.Proofs.Ytnjajbkkgfohaaa

theorem id_inj : ∀ {l : List Alt}, (l.map Alt.id).Nodup → ∀ a ∈ l, ∀ b ∈ l, a.id = b.id → a = b
  | [], _, a, ha, _, _, _ => by cases ha
  | x :: l, h, a, ha, b, hb, e => by
    rw [List.map_cons, List.nodup_cons] at h
    rcases List.mem_cons.1 ha with ha1 | ha1 <;> rcases List.mem_cons.1 hb with hb1 | hb1
    · rw [ha1, hb1]
    · exact absurd (List.mem_map.2 ⟨b, hb1, by rw [← e, ha1]⟩) h.1
    · exact absurd (List.mem_map.2 ⟨a, ha1, by rw [e, hb1]⟩) h.1
    · exact id_inj h.2 a ha1 b hb1 e
theorem ids_mem {s : Sh} (h : (s.alts.map Alt.id).Nodup) {a : Alt} (ha : a ∈ s.alts) (p : Alt → Bool) : a.id ∈ idsS s p ↔ p a = true := by
  unfold idsS
  rw [sortI_mem, List.mem_map]
  constructor
  · rintro ⟨b, hb, e⟩
    rw [List.mem_filter] at hb
    rw [← id_inj h b hb.1 a ha e]; exact hb.2
  · intro hp; exact ⟨a, List.mem_filter.2 ⟨ha, hp⟩, rfl⟩
theorem ids_nil {s : Sh} {p : Alt → Bool} (h : ∀ a ∈ s.alts, p a = false) : idsS s p = [] := by
  unfold idsS
  rw [List.filter_eq_nil_iff.2 fun a ha => by rw [h a ha]; decide]; rfl
def betP (f b : List Int) (a : Alt) : Bool := decide (a.day ≤ gI f a.tu.toNat) && decide (gI b a.tu.toNat < a.day)
theorem betP_true {f b : List Int} {a : Alt} : betP f b a = true ↔ a.day ≤ gI f a.tu.toNat ∧ gI b a.tu.toNat < a.day := by
  unfold betP; rw [Bool.and_eq_true, decide_eq_true_eq, decide_eq_true_eq]
theorem befE_zero {s : Sh} {c d : Cp} : befE s c d = 0 ↔ begE s c = 0 ∧ begE s d = 0 := by
  unfold befE
  constructor
  · intro h
    split at h
    · split at h
      · split at h
        · exact ⟨by assumption, h⟩
        · contradiction
      · contradiction
    · contradiction
  · rintro ⟨h1, h2⟩
    rw [if_pos (begE_zero.1 h1).1, if_pos (begE_zero.1 h2).1, if_pos h1, h2]
/-- what is known of earliest and latest days -/
structure DaysE (s : Sh) (c : Cp) : Prop where
  le : ∀ i, i < s.words.length → gI (s.md c).first i ≤ gI (s.md c).last i
  fm : ∀ i j, i ≤ j → j < s.words.length → gI (s.md c).first i ≤ gI (s.md c).first j
  lm : ∀ i j, i ≤ j → j < s.words.length → gI (s.md c).last i ≤ gI (s.md c).last j
  fit : ∀ ds, (s.md c).Fit ds → ∀ i, i < s.words.length → gI (s.md c).first i ≤ ds i ∧ ds i ≤ gI (s.md c).last i
  tu : ∀ a ∈ s.alts, a.tu.toNat < s.words.length ∧ 0 ≤ a.tu
theorem ends_of {s : Sh} {c : Cp} (h : begE s c = 0) : DaysE s c := by
  obtain ⟨hg, hm, hk, hl1, hl2, hn1, hn2⟩ := beg_know h
  have hn : (s.md c).n = s.words.length := (hm.of_ok hk).1.symm.trans hl1
  obtain ⟨-, -, f3, f4⟩ := hm.of_ok hk
  obtain ⟨-, l2, l3⟩ := hm.last_fit hk
  refine ⟨fun i hi => f4 _ l2 i (by omega), fun i j h1 h2 => f3.mono h1 (by omega), fun i j h1 h2 => l2.mono h1 (by omega), fun ds hd i hi => ⟨f4 ds hd i (by omega), l3 ds hd i (by omega)⟩, fun a ha => ?_⟩
  obtain ⟨q1, q2, q3, q4, -⟩ := hg.rt a ha
  unfold Sh.n at q3 q4
  omega
theorem sure_may {s : Sh} {c d : Cp} (h : befA s c d = true) : befB s c d = true ∧ befA s d c = false ∧ idsS s (betP (s.md c).first (s.md d).last) = [] := by
  have h0 : befE s c d = 0 := by
    unfold befA at h; split at h
    · assumption
    · cases h
  obtain ⟨h1, h2⟩ := befE_zero.1 h0
  obtain ⟨-, ea, eb⟩ := bef_yes h1 h2
  obtain ⟨-, ea2, -⟩ := bef_yes h2 h1
  have c1 := ends_of h1
  have c2 := ends_of h2
  obtain ⟨-, -, -, -, -, hn1, -⟩ := beg_know h1
  rw [ea, decide_eq_true_eq] at h
  have q1 := c1.le (s.words.length - 1) (by omega)
  have q2 := c2.le 0 (by omega)
  have q3 := c2.fm 0 (s.words.length - 1) (by omega) (by omega)
  have q4 := c2.le (s.words.length - 1) (by omega)
  have q5 := c1.fm 0 (s.words.length - 1) (by omega) (by omega)
  refine ⟨by rw [eb]; exact decide_eq_true (by omega), by rw [ea2]; exact decide_eq_false (by omega), ids_nil fun a ha => ?_⟩
  obtain ⟨t1, t2⟩ := c1.tu a ha
  rw [Bool.eq_false_iff]
  intro hb
  obtain ⟨b1, b2⟩ := betP_true.1 hb
  have q6 := c1.fm a.tu.toNat (s.words.length - 1) (by omega) (by omega)
  have q7 := c2.lm 0 a.tu.toNat (by omega) (by omega)
  omega
/-- days that fit two copies of which the first one surely, or not possibly, was before the second one -/
theorem bef_days {s : Sh} {c d : Cp} (h0 : befE s c d = 0) {x y : Nat → Int} (hx : (s.md c).Fit x) (hy : (s.md d).Fit y) :
    (befA s c d = true → x (s.words.length - 1) < y 0) ∧ (x (s.words.length - 1) < y 0 → befB s c d = true) := by
  obtain ⟨h1, h2⟩ := befE_zero.1 h0
  obtain ⟨-, ea, eb⟩ := bef_yes h1 h2
  obtain ⟨-, -, -, -, -, hn1, -⟩ := beg_know h1
  have q1 := (ends_of h1).fit x hx (s.words.length - 1) (by omega)
  have q2 := (ends_of h2).fit y hy 0 (by omega)
  rw [ea, eb]
  simp only [decide_eq_true_eq]
  omega
/-- what lies surely between two copies -/
theorem bet_sure {s : Sh} {c d : Cp} (h1 : begE s c = 0) (h2 : begE s d = 0) {a : Alt} (ha : a ∈ s.alts) (h : betP (s.md d).first (s.md c).last a = true) :
    gI (s.md c).last a.tu.toNat < gI (s.md d).first a.tu.toNat ∧ betP (s.md d).last (s.md c).first a = true ∧ seenP (s.md d).first a = true ∧ seenP (s.md c).first a = false ∧
      ∀ b ∈ s.alts, b.tu = a.tu → betP (s.md c).first (s.md d).last b = false := by
  obtain ⟨b1, b2⟩ := betP_true.1 h
  obtain ⟨t1, t2⟩ := (ends_of h1).tu a ha
  have q1 := (ends_of h1).le a.tu.toNat t1
  have q2 := (ends_of h2).le a.tu.toNat t1
  refine ⟨by omega, betP_true.2 ⟨by omega, by omega⟩, decide_eq_true b1, decide_eq_false (by omega), fun b hb e => ?_⟩
  rw [Bool.eq_false_iff]
  intro hb2
  obtain ⟨b3, b4⟩ := betP_true.1 hb2
  rw [e] at b3 b4
  omega
theorem few_alts {s : Sh} (h : fewS s) (h2 : Good s) : s.alts.length ≤ 12 := by
  have := h2.m2
  have := h.2
  unfold fewN at this
  omega
theorem beg_alts {s : Sh} {c : Cp} (h : fewS s) (h2 : begE s c = 0) : s.alts.length ≤ 12 := few_alts h (beg_know h2).1
theorem ids_len {s : Sh} {p : Alt → Bool} : (idsS s p).length ≤ s.alts.length := by
  unfold idsS; rw [sortI_len, List.length_map]; exact List.length_filter_le ..
end Go.Proofs.Ytnjajbkkgfohaaa
namespace Go.Proofs.Ytnjajbkkgfohaaa
open Go.RowKit Go.Wk Go.Proofs
attribute [local irreducible] Go.Wk.Wops Go.Wk.Wp Go.Wk.Mtree Go.Wk.Mops
set_option maxHeartbeats 8000000
set_option maxRecDepth 20000

/-- v reads in w as the sheets ss, in blocks below B -/
def SheetsV (w : World) (B : Nat) (v : Value) (ss : List Sh) : Prop :=
  ∃ (A : Option Addr) (c : Nat), v = .slice A ss.length c ∧ (ss ≠ [] → ∃ b o, A = some ⟨b, o, none⟩ ∧ b < B ∧ ∀ i (h : i < ss.length), ∃ wv av, w.cell? ⟨b, o + i * 2, none⟩ = some wv ∧ w.cell? ⟨b, o + i * 2 + 1, none⟩ = some av ∧ SheetV w B (.agg #[wv, av]) ss[i]) ∧ ss.length ≤ c
theorem SheetsV.ext {w w' : World} {v : Value} {ss : List Sh} (h : SheetsV w w.heap.size v ss) (hE : Ext w w') : SheetsV w' w'.heap.size v ss := by
  obtain ⟨A, c, hv, hx, hcap⟩ := h
  exact ⟨A, c, hv, fun hne => by
    obtain ⟨b, o, hA, hlt, hc⟩ := hx hne
    exact ⟨b, o, hA, Nat.lt_of_lt_of_le hlt hE.size, fun i hi => by
      obtain ⟨wv, av, h1, h2, h3⟩ := hc i hi
      exact ⟨wv, av, hE.cell h1, hE.cell h2, h3.ext hE⟩⟩, hcap⟩
theorem SheetsV.at {w : World} {A : Option Addr} {n c : Nat} {ss : List Sh} (h : SheetsV w w.heap.size (.slice A n c) ss) {k : Nat} (hk : k < ss.length) : ∃ b o P p Q q, A = some ⟨b, o, none⟩ ∧ b < w.heap.size ∧
    w.cell? ⟨b, o + k * 2, none⟩ = some (.slice P ss[k].words.length p) ∧ w.cell? ⟨b, o + k * 2 + 1, none⟩ = some (.slice Q ss[k].alts.length q) ∧ SheetV w w.heap.size (.agg #[.slice P ss[k].words.length p, .slice Q ss[k].alts.length q]) ss[k] := by
  obtain ⟨A', c', hv, hx, -⟩ := h
  injection hv with h1 h2 h3; subst h1
  obtain ⟨b, o, hA, hb, hc⟩ := hx (by rintro rfl; exact absurd hk (Nat.not_lt_zero _))
  obtain ⟨wv, av, h1, h2, h3⟩ := hc k hk
  obtain ⟨wv', av', e, ⟨P, p, rfl, -, -⟩, ⟨Q, q, rfl, -, -⟩⟩ := id h3
  injection e with e
  simp only [Array.mk.injEq, List.cons.injEq, and_true] at e
  obtain ⟨rfl, rfl⟩ := e
  exact ⟨b, o, P, p, Q, q, hA, hb, h1, h2, h3⟩
theorem can_ok (v u : Value) (s : Sh) (c : Cp) (w : World) (hV : SheetV w w.heap.size v s) (hU : CopyV w w.heap.size u c) (hgd : Good s) (hv0 : ValidC s c) :
    CallsV Try.prog 106 #[v, u] w fun v w' => v = .bool (okS s c) ∧ Ext w w' := by
  obtain ⟨wv, av, rfl, ⟨A, c1, rfl, -, -⟩, ⟨A3, c3, rfl, -, -⟩⟩ := id hV
  obtain ⟨wu, rfl, ⟨A2, c2, rfl, -, -⟩⟩ := id hU
  refine Wp.fn Try.func106 rfl Try.ntmps106 (by simp) ?_
  have xw := Ext.refl w
  refine Wp.keep [0, 1] fun r1 hkeep => ?_
  obtain ⟨e0_1, e1_1, -⟩ := hkeep
  simp [go_sem] at e0_1 e1_1
  refine Wp.seqRegion (.inl rfl) (by kernel_rfl) fun K' gd hK hg => ?_
  clear hg
  refine Wops.cut 1 fun K1 hK1 => ?_
  simp only [List.take_succ_cons, List.take_zero]
  go_simp
  refine hK1 _ _ ?_
  clear hK1 K1
  simp only [List.drop_succ_cons, List.drop_zero]
  refine Wops.absA fun V2_1 n2 hV2_1 => ?_
  obtain ⟨q2, hV2_1, s2, kV2_1, f2, r2⟩ := hV2_1
  try simp only [q2] at kV2_1 f2 r2 ⊢
  replace xw := Ext.trans xw hV2_1
  have c2_0 := kV2_1 0 _ rfl
  have c2_1 := kV2_1 1 _ rfl
  clear kV2_1 hV2_1
  clear r2
  refine Wops.cut 1 fun K1 hK1 => ?_
  simp only [List.take_succ_cons, List.take_zero]
  go_simp
  refine hK1 _ _ ?_
  clear hK1 K1
  simp only [List.drop_succ_cons, List.drop_zero]
  refine Wops.absA fun V3_2 n3 hV3_2 => ?_
  obtain ⟨q3, hV3_2, s3, kV3_2, f3, r3⟩ := hV3_2
  try simp only [q3] at kV3_2 f3 r3 ⊢
  replace f2 := Ext.fz hV3_2 c2_0 f2
  replace xw := Ext.trans xw hV3_2
  replace c2_0 := Ext.cell hV3_2 c2_0
  replace c2_1 := Ext.cell hV3_2 c2_1
  have c3_0 := kV3_2 0 _ rfl
  have c3_1 := kV3_2 1 _ rfl
  have c3_2 := kV3_2 2 _ rfl
  have c3_3 := kV3_2 3 _ rfl
  clear kV3_2 hV3_2
  clear r3
  go_simp
  refine hK _ _ ?_
  clear hK K' gd
  refine Wp.keep [2, 3] fun r2 hkeep => ?_
  obtain ⟨e2_2, e3_2, -⟩ := hkeep
  simp [go_sem, e0_1, e1_1] at e2_2 e3_2
  clear e0_1 e1_1
  refine Wp.seqRegion (.inl rfl) (by kernel_rfl) fun K' gd hK hg => ?_
  clear hg
  refine Wops.cut 3 fun K1 hK1 => ?_
  simp only [List.take_succ_cons, List.take_zero]
  go_simp
  refine Wcall (.inl rfl) (madeOf_c _ _ s c _ (hV.ext xw) (hU.ext xw) hgd hv0) ?_
  rintro v w3 ⟨hM, hE⟩
  obtain ⟨A5, c5, A6, c6, rfl⟩ := hM.five
  go_simp
  refine hK1 _ _ ?_
  clear hK1 K1
  simp only [List.drop_succ_cons, List.drop_zero]
  have z3 := Below.size hE
  replace f2 := Ext.fz hE c2_0 f2
  replace f3 := Ext.fz hE c3_0 f3
  replace xw := Ext.trans xw hE
  replace c2_0 := Ext.cell hE c2_0
  replace c2_1 := Ext.cell hE c2_1
  replace c3_0 := Ext.cell hE c3_0
  replace c3_1 := Ext.cell hE c3_1
  replace c3_2 := Ext.cell hE c3_2
  replace c3_3 := Ext.cell hE c3_3
  clear hE
  refine Wops.cut 1 fun K1 hK1 => ?_
  simp only [List.take_succ_cons, List.take_zero]
  go_simp
  refine Wcall (.inl rfl) (first_c _ (s.md c) _ hM (hgd.mdOk hv0)) ?_
  rintro v w4 ⟨t, rfl, -, hE⟩
  go_simp
  refine hK1 _ _ ?_
  clear hK1 K1
  simp only [List.drop_succ_cons, List.drop_zero]
  have z4 := Below.size hE
  replace f2 := Ext.fz hE c2_0 f2
  replace f3 := Ext.fz hE c3_0 f3
  replace hM := hM.ext hE
  replace xw := Ext.trans xw hE
  replace c2_0 := Ext.cell hE c2_0
  replace c2_1 := Ext.cell hE c2_1
  replace c3_0 := Ext.cell hE c3_0
  replace c3_1 := Ext.cell hE c3_1
  replace c3_2 := Ext.cell hE c3_2
  replace c3_3 := Ext.cell hE c3_3
  clear hE
  go_simp
  refine hK _ _ ?_
  clear hK K' gd
  refine Wp.keep [6] fun r5 hkeep => ?_
  obtain ⟨e6_5, -⟩ := hkeep
  simp [go_sem, e2_2, e3_2] at e6_5
  clear e2_2 e3_2
  refine Wp.seqRegion (.inl rfl) (by kernel_rfl) fun K' gd hK hg => ?_
  clear hg
  go_simp
  refine hK _ _ ?_
  clear hK K' gd
  refine Wp.keep [4] fun r6 hkeep => ?_
  obtain ⟨e4_6, -⟩ := hkeep
  simp [go_sem, e6_5] at e4_6
  clear e6_5
  refine Wp.ret ?_
  refine endK_tmp Try.results106 (by decide) ?_
  rw [e4_6]
  exact ⟨rfl, xw⟩
def errsL : List Sh → Int
  | [] => 0
  | s :: l => if checkS s = 0 then errsL l else checkS s
theorem errsL_at : ∀ {ss : List Sh} {k : Nat} (h : k < ss.length), (∀ j (hj : j < ss.length), j < k → checkS ss[j] = 0) → ¬ checkS ss[k] = 0 → errsL ss = checkS ss[k]
  | s :: l, 0, _, _, hk => by unfold errsL; rw [if_neg (show ¬ checkS s = 0 from hk)]; rfl
  | s :: l, k + 1, h, h0, hk => by
    unfold errsL
    rw [if_pos (show checkS s = 0 from h0 0 (by simp) (by omega))]
    exact errsL_at (by simpa using h) (fun j hj hjk => h0 (j + 1) (by simpa using hj) (by omega)) hk
theorem errsL_zero : ∀ {ss : List Sh}, (∀ j (hj : j < ss.length), checkS ss[j] = 0) → errsL ss = 0
  | [], _ => rfl
  | s :: l, h => by
    unfold errsL
    rw [if_pos (show checkS s = 0 from h 0 (by simp))]
    exact errsL_zero fun j hj => h (j + 1) (by simpa using hj)
def srcE (ss : List Sh) : Int := if 8 < ss.length then 2 else errsL ss
def srcP (ss : List Sh) (c : Cp) (i : Nat) : Bool := match ss[i]? with | some s => decide (begE s c = 0) | none => false
def srcL (ss : List Sh) (c : Cp) (k : Nat) : List Int := ((List.range k).filter (srcP ss c)).map fun i : Nat => (i : Int)
theorem srcL_zero (ss : List Sh) (c : Cp) : srcL ss c 0 = [] := rfl
theorem srcL_len (ss : List Sh) (c : Cp) (k : Nat) : (srcL ss c k).length ≤ k := by
  unfold srcL; rw [List.length_map]
  have := List.length_filter_le (srcP ss c) (List.range k)
  rwa [List.length_range] at this
theorem srcL_T {ss : List Sh} {c : Cp} {k : Nat} (h : k < ss.length) (hp : begE ss[k] c = 0) : srcL ss c (k + 1) = srcL ss c k ++ [(k : Int)] := by
  unfold srcL
  rw [List.range_succ, List.filter_append, List.map_append]
  congr 1
  have : srcP ss c k = true := by unfold srcP; rw [List.getElem?_eq_getElem h]; exact decide_eq_true hp
  rw [List.filter_cons_of_pos this]; rfl
theorem srcL_F {ss : List Sh} {c : Cp} {k : Nat} (h : k < ss.length) (hp : ¬ begE ss[k] c = 0) : srcL ss c (k + 1) = srcL ss c k := by
  unfold srcL
  rw [List.range_succ, List.filter_append, List.map_append]
  have : ¬ srcP ss c k = true := by unfold srcP; rw [List.getElem?_eq_getElem h]; simpa using hp
  rw [List.filter_cons_of_neg this]; simp
theorem Sources_c (v u : Value) (ss : List Sh) (c : Cp) (w : World) (hL : SheetsV w w.heap.size v ss) (hU : CopyV w w.heap.size u c) (hfs : ∀ s ∈ ss, FitS s) (hg : FitC c) :
    CallsV Try.prog 52 #[v, u] w fun v w' => ∃ t, v = .tuple #[t, .int .i64 (srcE ss)] ∧ IntsB w' w.heap.size t (if srcE ss = 0 then srcL ss c ss.length else []) ∧ Ext w w' := by
  obtain ⟨A, c1, rfl, -, -⟩ := id hL
  obtain ⟨wu, rfl, ⟨A2, c2, rfl, -, -⟩⟩ := id hU
  refine Wp.fn Try.func52 rfl Try.ntmps52 (by simp) ?_
  have xw := Ext.refl w
  refine Wp.keep [0, 1] fun r1 hkeep => ?_
  obtain ⟨e0_1, e1_1, -⟩ := hkeep
  simp [go_sem] at e0_1 e1_1
  by_cases h8 : (8 : Int) < (ss.length : Int)
  · skip
    refine Wp.seqRegion (.inl rfl) (by kernel_rfl) fun K' gd hK hg => ?_
    clear hg
    refine Wops.cut 1 fun K1 hK1 => ?_
    simp only [List.take_succ_cons, List.take_zero]
    go_simp
    refine hK1 _ _ ?_
    clear hK1 K1
    simp only [List.drop_succ_cons, List.drop_zero]
    refine Wops.absA fun V3_1 n3 hV3_1 => ?_
    obtain ⟨q3, hV3_1, s3, kV3_1, f3, r3⟩ := hV3_1
    try simp only [q3] at kV3_1 f3 r3 ⊢
    replace xw := Ext.trans xw hV3_1
    have c3_0 := kV3_1 0 _ rfl
    have c3_1 := kV3_1 1 _ rfl
    have c3_2 := kV3_1 2 _ rfl
    have c3_3 := kV3_1 3 _ rfl
    clear kV3_1 hV3_1
    clear r3
    go_simp
    refine hK _ _ ?_
    clear hK K' gd
    refine Wp.keep [0, 3] fun r2 hkeep => ?_
    obtain ⟨e0_2, e3_2, -⟩ := hkeep
    simp [go_sem, e0_1, e1_1] at e0_2 e3_2
    clear e0_1 e1_1
    refine Wp.seq ?_
    refine Wp.seqRegion (.inl rfl) (by kernel_rfl) fun K' gd hK hg => ?_
    clear hg
    go_simp
    refine hK _ _ ?_
    clear hK K' gd
    refine Wp.keep [0, 3, 14] fun r3 hkeep => ?_
    obtain ⟨e0_3, e3_3, e14_3, -⟩ := hkeep
    simp [go_sem, e0_2, e3_2] at e0_3 e3_3 e14_3
    clear e0_2 e3_2
    refine Wp.condT (by go_simp) ?_
    refine Wp.seqRegion (.inl rfl) (by kernel_rfl) fun K' gd hK hg => ?_
    clear hg
    go_simp
    refine hK _ _ ?_
    clear hK K' gd
    refine Wp.keep [4, 5] fun r4 hkeep => ?_
    obtain ⟨e4_4, e5_4, -⟩ := hkeep
    simp [go_sem, e0_3, e3_3, e14_3] at e4_4 e5_4
    clear e0_3 e3_3 e14_3
    refine Wp.ret ?_
    refine thenK_ret ?_
    refine endK_tmp2 Try.results52 (by decide) (by decide) ?_
    rw [e4_4, e5_4]
    have e : srcE ss = 2 := by unfold srcE; rw [if_pos (by omega)]
    exact ⟨_, by rw [e], by rw [e, if_neg (by decide)]; exact IntsB.nil _ _, xw⟩
  · skip
    refine Wp.seqRegion (.inl rfl) (by kernel_rfl) fun K' gd hK hg => ?_
    clear hg
    refine Wops.cut 1 fun K1 hK1 => ?_
    simp only [List.take_succ_cons, List.take_zero]
    go_simp
    refine hK1 _ _ ?_
    clear hK1 K1
    simp only [List.drop_succ_cons, List.drop_zero]
    refine Wops.absA fun V3_2 n3 hV3_2 => ?_
    obtain ⟨q3, hV3_2, s3, kV3_2, f3, r3⟩ := hV3_2
    try simp only [q3] at kV3_2 f3 r3 ⊢
    replace xw := Ext.trans xw hV3_2
    have c3_0 := kV3_2 0 _ rfl
    have c3_1 := kV3_2 1 _ rfl
    have c3_2 := kV3_2 2 _ rfl
    have c3_3 := kV3_2 3 _ rfl
    clear kV3_2 hV3_2
    clear r3
    go_simp
    refine hK _ _ ?_
    clear hK K' gd
    refine Wp.keep [0, 3] fun r5 hkeep => ?_
    obtain ⟨e0_5, e3_5, -⟩ := hkeep
    simp [go_sem, e0_1, e1_1] at e0_5 e3_5
    clear e0_1 e1_1
    refine Wp.seq ?_
    refine Wp.seqRegion (.inl rfl) (by kernel_rfl) fun K' gd hK hg => ?_
    clear hg
    go_simp
    refine hK _ _ ?_
    clear hK K' gd
    refine Wp.keep [0, 3, 14] fun r6 hkeep => ?_
    obtain ⟨e0_6, e3_6, e14_6, -⟩ := hkeep
    simp [go_sem, e0_5, e3_5] at e0_6 e3_6 e14_6
    clear e0_5 e3_5
    refine Wp.condF (by go_simp) ?_
    have hs8 : ss.length ≤ 8 := by omega
    have hse : ∃ _u : Unit, srcE ss = errsL ss := ⟨(), by unfold srcE; rw [if_neg (by omega)]⟩
    refine Wp.skip ?_
    refine thenK_normal ?_
    refine Wp.seq ?_
    refine Wp.seqRegion (.inl rfl) (by kernel_rfl) fun K' gd hK hg => ?_
    clear hg
    go_simp
    refine hK _ _ ?_
    clear hK K' gd
    refine Wp.keep [0, 3, 15, 16, 17] fun r7 hkeep => ?_
    obtain ⟨e0_7, e3_7, e15_7, e16_7, e17_7, -⟩ := hkeep
    simp [go_sem, e0_6, e3_6, e14_6] at e0_7 e3_7 e15_7 e16_7 e17_7
    clear e0_6 e3_6 e14_6
    refine Wp.block ?_
    refine Wp.loop (fun k ρ ds wk => AllEq [0, 3, 15, 16] ρ r7 ∧ ds = [] ∧ (Ext V3_2 wk) ∧ (ρ 17 = .int .i64 (k : Int) ∧ (∃ _u : Unit, ∀ j (hj : j < ss.length), j < k → checkS ss[j] = 0))) (ss.length) ?_ ?_
    · refine ⟨AllEq.refl _ _, rfl, Ext.refl _, ?_⟩
      exact ⟨by rw [e17_7]; rfl, (), fun j hj hk => absurd hk (Nat.not_lt_zero _)⟩
    · rintro k r8 _ wk hk ⟨hA, rfl, xl3, ⟨e17, h0⟩⟩
      obtain ⟨e0_8, e3_8, e15_8, e16_8, -⟩ := hA
      rw [e0_7] at e0_8
      rw [e3_7] at e3_8
      rw [e15_7] at e15_8
      rw [e16_7] at e16_8
      have zxl3 := Below.size xl3
      replace f3 := Ext.fz xl3 c3_0 f3
      replace xw := Ext.trans xw xl3
      replace c3_0 := Ext.cell xl3 c3_0
      replace c3_1 := Ext.cell xl3 c3_1
      replace c3_2 := Ext.cell xl3 c3_2
      replace c3_3 := Ext.cell xl3 c3_3
      refine Wp.seqRegion (.inl rfl) (by kernel_rfl) fun K' gd hK hg => ?_
      clear hg
      go_simp
      refine hK _ _ ?_
      clear hK K' gd
      refine Wp.keep [0, 3, 15, 16, 17, 18] fun r9 hkeep => ?_
      obtain ⟨e0_9, e3_9, e15_9, e16_9, e17_9, e18_9, -⟩ := hkeep
      simp [go_sem, e0_8, e3_8, e15_8, e16_8, e17] at e0_9 e3_9 e15_9 e16_9 e17_9 e18_9
      clear e0_8 e3_8 e15_8 e16_8 e17
      refine Wp.seq ?_
      by_cases h : k < ss.length
      · refine Wp.condT (by go_simp) ?_
        obtain ⟨b, o, P, p, Q, q, rfl, hb, d1, d2, hS⟩ := hL.at h
        replace d1 := xw.cell d1
        replace d2 := xw.cell d2
        have hfs1 := hfs _ (List.getElem_mem h)
        refine Wp.skip ?_
        refine thenK_normal ?_
        refine Wp.seq ?_
        refine Wp.block ?_
        refine Wp.seqRegion (.inl rfl) (by kernel_rfl) fun K' gd hK hg => ?_
        clear hg
        refine Wops.cut 4 fun K1 hK1 => ?_
        simp only [List.take_succ_cons, List.take_zero]
        go_simp
        refine hK1 _ _ ?_
        clear hK1 K1
        simp only [List.drop_succ_cons, List.drop_zero]
        refine Wops.absA fun V7_4 n7 hV7_4 => ?_
        obtain ⟨q7, hV7_4, s7, kV7_4, f7, r7⟩ := hV7_4
        try simp only [q7] at kV7_4 f7 r7 ⊢
        replace f3 := Ext.fz hV7_4 c3_0 f3
        replace xw := Ext.trans xw hV7_4
        replace xl3 := Ext.trans xl3 hV7_4
        replace c3_0 := Ext.cell hV7_4 c3_0
        replace c3_1 := Ext.cell hV7_4 c3_1
        replace c3_2 := Ext.cell hV7_4 c3_2
        replace c3_3 := Ext.cell hV7_4 c3_3
        replace d1 := Ext.cell hV7_4 d1
        replace d2 := Ext.cell hV7_4 d2
        have c7_0 := kV7_4 0 _ rfl
        have c7_1 := kV7_4 1 _ rfl
        clear kV7_4 hV7_4
        clear r7
        try simp only [Wops_nil, updO_some, updO_none]
        refine hK _ _ ?_
        clear hK K' gd
        refine Wp.keep [0, 3, 7, 15, 16, 17] fun r10 hkeep => ?_
        obtain ⟨e0_10, e3_10, e7_10, e15_10, e16_10, e17_10, -⟩ := hkeep
        simp [go_sem, e0_9, e3_9, e15_9, e16_9, e17_9, e18_9] at e0_10 e3_10 e7_10 e15_10 e16_10 e17_10
        clear e0_9 e3_9 e15_9 e16_9 e17_9 e18_9
        refine Wp.seqRegion (.inl rfl) (by kernel_rfl) fun K' gd hK hg => ?_
        clear hg
        refine Wops.cut 2 fun K1 hK1 => ?_
        simp only [List.take_succ_cons, List.take_zero]
        go_simp
        refine Wcall (.inl rfl) (check_c _ ss[k] _ (hS.ext xw) hfs1) ?_
        rintro v w2 ⟨rfl, hE⟩
        go_simp
        refine hK1 _ _ ?_
        clear hK1 K1
        simp only [List.drop_succ_cons, List.drop_zero]
        have z11 := Below.size hE
        replace f3 := Ext.fz hE c3_0 f3
        replace f7 := Ext.fz hE c7_0 f7
        replace xw := Ext.trans xw hE
        replace xl3 := Ext.trans xl3 hE
        replace c3_0 := Ext.cell hE c3_0
        replace c3_1 := Ext.cell hE c3_1
        replace c3_2 := Ext.cell hE c3_2
        replace c3_3 := Ext.cell hE c3_3
        replace d1 := Ext.cell hE d1
        replace d2 := Ext.cell hE d2
        replace c7_0 := Ext.cell hE c7_0
        replace c7_1 := Ext.cell hE c7_1
        clear hE
        go_simp
        refine hK _ _ ?_
        clear hK K' gd
        refine Wp.keep [0, 3, 8, 15, 16, 17] fun r12 hkeep => ?_
        obtain ⟨e0_12, e3_12, e8_12, e15_12, e16_12, e17_12, -⟩ := hkeep
        simp [go_sem, e0_10, e3_10, e7_10, e15_10, e16_10, e17_10] at e0_12 e3_12 e8_12 e15_12 e16_12 e17_12
        clear e0_10 e3_10 e7_10 e15_10 e16_10 e17_10
        by_cases hc0 : checkS ss[k] = 0
        · skip
          refine Wp.seqRegion (.inl rfl) (by kernel_rfl) fun K' gd hK hg => ?_
          clear hg
          go_simp
          refine hK _ _ ?_
          clear hK K' gd
          refine Wp.keep [0, 3, 8, 15, 16, 17, 24] fun r13 hkeep => ?_
          obtain ⟨e0_13, e3_13, e8_13, e15_13, e16_13, e17_13, e24_13, -⟩ := hkeep
          simp [go_sem, e0_12, e3_12, e8_12, e15_12, e16_12, e17_12] at e0_13 e3_13 e8_13 e15_13 e16_13 e17_13 e24_13
          clear e0_12 e3_12 e8_12 e15_12 e16_12 e17_12
          refine Wp.condF (by go_simp) ?_
          refine Wp.skip ?_
          refine blockK_normal ?_
          refine thenK_normal ?_
          refine Wp.loneRegion (.inl rfl) (by kernel_rfl) fun K' gd hK hg => ?_
          clear hg
          go_simp
          refine hK _ _ ?_
          clear hK K' gd
          refine Ends.keep [0, 3, 15, 16, 17] fun r14 hkeep => ?_
          obtain ⟨e0_14, e3_14, e15_14, e16_14, e17_14, -⟩ := hkeep
          simp [go_sem, e0_13, e3_13, e8_13, e15_13, e16_13, e17_13, e24_13] at e0_14 e3_14 e15_14 e16_14 e17_14
          clear e0_13 e3_13 e8_13 e15_13 e16_13 e17_13 e24_13
          refine Ends.mk ?_
          refine thenK_normal ⟨by omega, ⟨by rw [e0_14, e0_7], by rw [e3_14, e3_7], by rw [e15_14, e15_7], by rw [e16_14, e16_7], trivial⟩, rfl, xl3, ?_⟩
          exact ⟨by rw [e17_14, IntWalk.i64_in _ (by omega)]; rfl, (), fun j hj hk => by rcases Nat.lt_succ_iff_lt_or_eq.1 hk with hk | rfl; exact h0.choose_spec j hj hk; exact hc0⟩
        · skip
          refine Wp.seqRegion (.inl rfl) (by kernel_rfl) fun K' gd hK hg => ?_
          clear hg
          go_simp
          refine hK _ _ ?_
          clear hK K' gd
          refine Wp.keep [0, 3, 8, 15, 16, 17, 24] fun r15 hkeep => ?_
          obtain ⟨e0_15, e3_15, e8_15, e15_15, e16_15, e17_15, e24_15, -⟩ := hkeep
          simp [go_sem, e0_12, e3_12, e8_12, e15_12, e16_12, e17_12] at e0_15 e3_15 e8_15 e15_15 e16_15 e17_15 e24_15
          clear e0_12 e3_12 e8_12 e15_12 e16_12 e17_12
          refine Wp.condT (by go_simp) ?_
          refine Wp.seqRegion (.inl rfl) (by kernel_rfl) fun K' gd hK hg => ?_
          clear hg
          go_simp
          refine hK _ _ ?_
          clear hK K' gd
          refine Wp.keep [4, 5] fun r16 hkeep => ?_
          obtain ⟨e4_16, e5_16, -⟩ := hkeep
          simp [go_sem, e0_15, e3_15, e8_15, e15_15, e16_15, e17_15, e24_15] at e4_16 e5_16
          clear e0_15 e3_15 e8_15 e15_15 e16_15 e17_15 e24_15
          refine Wp.ret ?_
          refine blockK_ret ?_
          refine thenK_ret ?_
          refine thenK_ret ?_
          refine blockK_ret ?_
          refine thenK_ret ?_
          refine endK_tmp2 Try.results52 (by decide) (by decide) ?_
          rw [e4_16, e5_16]
          have e : srcE ss = checkS ss[k] := by rw [hse.choose_spec, errsL_at h h0.choose_spec hc0]
          exact ⟨_, by rw [e], by rw [e, if_neg hc0]; exact IntsB.nil _ _, xw⟩
      · refine Wp.condF (by go_simp) ?_
        have hall : ∃ _u : Unit, (∀ j (hj : j < ss.length), checkS ss[j] = 0) ∧ srcE ss = 0 := ⟨(), fun j hj => h0.choose_spec j hj (by omega), by rw [hse.choose_spec]; exact errsL_zero fun j hj => h0.choose_spec j hj (by omega)⟩
        refine Wp.exit ?_
        refine thenK_exit ?_
        refine thenK_exit ?_
        refine blockK_here ?_
        refine thenK_normal ?_
        have f3_xa := f3
        have xw_xa := xw
        have c3_0_xa := c3_0
        have c3_1_xa := c3_1
        have c3_2_xa := c3_2
        have c3_3_xa := c3_3
        have xl3_xa := xl3
        have xa := Ext.refl wk
        refine Wp.seqRegion (.inl rfl) (by kernel_rfl) fun K' gd hK hg => ?_
        clear hg
        go_simp
        refine hK _ _ ?_
        clear hK K' gd
        refine Wp.keep [0, 3, 9] fun r17 hkeep => ?_
        obtain ⟨e0_17, e3_17, e9_17, -⟩ := hkeep
        simp [go_sem, e0_9, e3_9, e15_9, e16_9, e17_9, e18_9] at e0_17 e3_17 e9_17
        clear e0_9 e3_9 e15_9 e16_9 e17_9 e18_9
        refine Wp.seq ?_
        obtain ⟨B0, hB0⟩ : ∃ B0 : Nat, B0 = wk.heap.size := ⟨_, rfl⟩
        refine Wp.seqRegion (.inl rfl) (by kernel_rfl) fun K' gd hK hg => ?_
        clear hg
        go_simp
        refine hK _ _ ?_
        clear hK K' gd
        refine Wp.keep [3, 9, 27, 28, 29] fun r18 hkeep => ?_
        obtain ⟨e3_18, e9_18, e27_18, e28_18, e29_18, -⟩ := hkeep
        simp [go_sem, e0_17, e3_17, e9_17] at e3_18 e9_18 e27_18 e28_18 e29_18
        clear e0_17 e3_17 e9_17
        refine Wp.block ?_
        refine Wp.loop (fun i ρ ds wi => AllEq [3, 27, 28] ρ r18 ∧ ds = [] ∧ (Ext wk wi) ∧ (∃ v, ρ 29 = .int .i64 (i : Int) ∧ ρ 9 = v ∧ OwnI wi B0 v (srcL ss c i))) (ss.length) ?_ ?_
        · refine ⟨AllEq.refl _ _, rfl, xa, ?_⟩
          exact ⟨_, by rw [e29_18]; rfl, e9_18, World.ownsRow_nil _ _ _ _⟩
        · rintro i r19 _ wi hi ⟨hA, rfl, xo, ⟨v9, e29, e9, hO⟩⟩
          obtain ⟨e3_19, e27_19, e28_19, -⟩ := hA
          rw [e3_18] at e3_19
          rw [e27_18] at e27_19
          rw [e28_18] at e28_19
          have zxo := Below.size xo
          have f3 := f3_xa
          have xw := xw_xa
          have c3_0 := c3_0_xa
          have c3_1 := c3_1_xa
          have c3_2 := c3_2_xa
          have c3_3 := c3_3_xa
          have xl3 := xl3_xa
          replace f3 := Ext.fz xo c3_0 f3
          replace xw := Ext.trans xw xo
          replace xl3 := Ext.trans xl3 xo
          replace c3_0 := Ext.cell xo c3_0
          replace c3_1 := Ext.cell xo c3_1
          replace c3_2 := Ext.cell xo c3_2
          replace c3_3 := Ext.cell xo c3_3
          obtain ⟨A9, c9, rfl⟩ := OwnI.slice hO
          have xo2 := Ext.refl wi
          refine Wp.seqRegion (.inl rfl) (by kernel_rfl) fun K' gd hK hg => ?_
          clear hg
          go_simp
          refine hK _ _ ?_
          clear hK K' gd
          refine Wp.keep [3, 9, 27, 28, 29, 30] fun r20 hkeep => ?_
          obtain ⟨e3_20, e9_20, e27_20, e28_20, e29_20, e30_20, -⟩ := hkeep
          simp [go_sem, e3_19, e9, e27_19, e28_19, e29] at e3_20 e9_20 e27_20 e28_20 e29_20 e30_20
          clear e3_19 e9 e27_19 e28_19 e29
          refine Wp.seq ?_
          by_cases hi : i < ss.length
          · refine Wp.condT (by go_simp) ?_
            obtain ⟨b, o, P, p, Q, q, rfl, hb, d1, d2, hS⟩ := hL.at hi
            replace d1 := xw.cell d1
            replace d2 := xw.cell d2
            have hfs1 := hfs _ (List.getElem_mem hi)
            have hc0 := hall.choose_spec.1 i hi
            have hll := srcL_len ss c i
            replace hc0 : ∃ _u : Unit, checkS ss[i] = 0 := ⟨(), hc0⟩
            have hbe : begE ss[i] c = 0 ↔ ValidC ss[i] c ∧ okS ss[i] c = true := by rw [begE_zero, copyS_zero]; exact ⟨fun a => ⟨a.1.2, a.2⟩, fun a => ⟨⟨hc0.choose_spec, a.1⟩, a.2⟩⟩
            by_cases hv : ValidC ss[i] c
            · skip
              by_cases hk : okS ss[i] c = true
              · skip
                refine Wp.skip ?_
                refine thenK_normal ?_
                refine Wp.seq ?_
                refine Wp.block ?_
                refine Wp.seqRegion (.inl rfl) (by kernel_rfl) fun K' gd hK hg => ?_
                clear hg
                refine Wops.cut 4 fun K1 hK1 => ?_
                simp only [List.take_succ_cons, List.take_zero]
                go_simp
                refine hK1 _ _ ?_
                clear hK1 K1
                simp only [List.drop_succ_cons, List.drop_zero]
                refine Wops.absA fun V11_8 n11 hV11_8 => ?_
                obtain ⟨q11, hV11_8, s11, kV11_8, f11, r11⟩ := hV11_8
                try simp only [q11] at kV11_8 f11 r11 ⊢
                replace f3 := Ext.fz hV11_8 c3_0 f3
                replace xw := Ext.trans xw hV11_8
                replace xl3 := Ext.trans xl3 hV11_8
                replace xo := Ext.trans xo hV11_8
                replace xo2 := Ext.trans xo2 hV11_8
                replace c3_0 := Ext.cell hV11_8 c3_0
                replace c3_1 := Ext.cell hV11_8 c3_1
                replace c3_2 := Ext.cell hV11_8 c3_2
                replace c3_3 := Ext.cell hV11_8 c3_3
                replace d1 := Ext.cell hV11_8 d1
                replace d2 := Ext.cell hV11_8 d2
                have c11_0 := kV11_8 0 _ rfl
                have c11_1 := kV11_8 1 _ rfl
                clear kV11_8 hV11_8
                clear r11
                refine Wops.cut 2 fun K1 hK1 => ?_
                simp only [List.take_succ_cons, List.take_zero]
                go_simp
                refine hK1 _ _ ?_
                clear hK1 K1
                simp only [List.drop_succ_cons, List.drop_zero]
                refine Wops.absS (b := n11) (i := 0) [_, _] (somes [cellVal c11_0, cellVal c11_1] (by simp) (by intro j v hj; match j, hj with | 0, hj => (simp at hj; subst hj; exact c11_0) | 1, hj => (simp at hj; subst hj; exact c11_1))) fun P9 hP9 => ?_
                have zP9 := hP9.same
                replace f3 := Put.frz hP9 f3
                replace f11 := Put.frz hP9 f11
                replace xw := Put.to xw hP9 (by omega)
                replace xl3 := Put.to xl3 hP9 (by omega)
                replace xo := Put.to xo hP9 (by omega)
                replace xo2 := Put.to xo2 hP9 (by omega)
                replace c3_0 := Put.cell hP9 c3_0 (by omega)
                replace c3_1 := Put.cell hP9 c3_1 (by omega)
                replace c3_2 := Put.cell hP9 c3_2 (by omega)
                replace c3_3 := Put.cell hP9 c3_3 (by omega)
                replace d1 := Put.cell hP9 d1 (by omega)
                replace d2 := Put.cell hP9 d2 (by omega)
                clear c11_0
                clear c11_1
                have c11_0 := hP9.new 0 _ rfl
                try simp only [Nat.reduceAdd, Nat.zero_add, Nat.add_zero] at c11_0
                have c11_1 := hP9.new 1 _ rfl
                try simp only [Nat.reduceAdd, Nat.zero_add, Nat.add_zero] at c11_1
                clear hP9
                try simp only [Wops_nil, updO_some, updO_none]
                refine hK _ _ ?_
                clear hK K' gd
                refine Wp.keep [3, 9, 10, 11, 27, 28, 29] fun r21 hkeep => ?_
                obtain ⟨e3_21, e9_21, e10_21, e11_21, e27_21, e28_21, e29_21, -⟩ := hkeep
                simp [go_sem, e3_20, e9_20, e27_20, e28_20, e29_20, e30_20] at e3_21 e9_21 e10_21 e11_21 e27_21 e28_21 e29_21
                clear e3_20 e9_20 e27_20 e28_20 e29_20 e30_20
                refine Wp.seqRegion (.inl rfl) (by kernel_rfl) fun K' gd hK hg => ?_
                have g3 : gd 3 = some 37 := hg 3
                clear hg
                refine Wops.cut 3 fun K1 hK1 => ?_
                simp only [List.take_succ_cons, List.take_zero]
                go_simp
                refine Wcall (.inl rfl) (valid_c _ _ ss[i] c _ (hS.ext xw) (hU.ext xw) hfs1 hg) ?_
                rintro v w3 ⟨rfl, hE⟩
                go_simp
                refine hK1 _ _ ?_
                clear hK1 K1
                simp only [List.drop_succ_cons, List.drop_zero]
                have z22 := Below.size hE
                replace f3 := Ext.fz hE c3_0 f3
                replace f11 := Ext.fz hE c11_0 f11
                replace xw := Ext.trans xw hE
                replace xl3 := Ext.trans xl3 hE
                replace xo := Ext.trans xo hE
                replace xo2 := Ext.trans xo2 hE
                replace c3_0 := Ext.cell hE c3_0
                replace c3_1 := Ext.cell hE c3_1
                replace c3_2 := Ext.cell hE c3_2
                replace c3_3 := Ext.cell hE c3_3
                replace d1 := Ext.cell hE d1
                replace d2 := Ext.cell hE d2
                replace c11_0 := Ext.cell hE c11_0
                replace c11_1 := Ext.cell hE c11_1
                clear hE
                refine Wops.cut 4 fun K1 hK1 => ?_
                simp only [List.take_succ_cons, List.take_zero]
                go_simp
                refine Wcall (.inl rfl) (can_ok _ _ ss[i] c _ (hS.ext xw) (hU.ext xw) (checkS_zero.1 hc0.choose_spec) hv) ?_
                rintro v w4 ⟨rfl, hE⟩
                go_simp
                refine hK1 _ _ ?_
                clear hK1 K1
                simp only [List.drop_succ_cons, List.drop_zero]
                have z23 := Below.size hE
                replace f3 := Ext.fz hE c3_0 f3
                replace f11 := Ext.fz hE c11_0 f11
                replace xw := Ext.trans xw hE
                replace xl3 := Ext.trans xl3 hE
                replace xo := Ext.trans xo hE
                replace xo2 := Ext.trans xo2 hE
                replace c3_0 := Ext.cell hE c3_0
                replace c3_1 := Ext.cell hE c3_1
                replace c3_2 := Ext.cell hE c3_2
                replace c3_3 := Ext.cell hE c3_3
                replace d1 := Ext.cell hE d1
                replace d2 := Ext.cell hE d2
                replace c11_0 := Ext.cell hE c11_0
                replace c11_1 := Ext.cell hE c11_1
                clear hE
                go_simp
                refine hK _ _ ?_
                clear hK K' gd g3
                refine Wp.keep [3, 9, 10, 27, 28, 29, 41] fun r24 hkeep => ?_
                obtain ⟨e3_24, e9_24, e10_24, e27_24, e28_24, e29_24, e41_24, -⟩ := hkeep
                simp [go_sem, e3_21, e9_21, e10_21, e11_21, e27_21, e28_21, e29_21] at e3_24 e9_24 e10_24 e27_24 e28_24 e29_24 e41_24
                clear e3_21 e9_21 e10_21 e11_21 e27_21 e28_21 e29_21
                refine Wp.condT (by go_simp) ?_
                refine Wp.loneRegion (.inl rfl) (by kernel_rfl) fun K' gd hK hg => ?_
                clear hg
                refine Wops.cut 3 fun K1 hK1 => ?_
                simp only [List.take_succ_cons, List.take_zero]
                go_simp
                refine hK1 _ _ ?_
                clear hK1 K1
                simp only [List.drop_succ_cons, List.drop_zero]
                refine Wops.absA fun V44_10 n44 hV44_10 => ?_
                obtain ⟨q44, hV44_10, s44, kV44_10, f44, r44⟩ := hV44_10
                try simp only [q44] at kV44_10 f44 r44 ⊢
                replace f3 := Ext.fz hV44_10 c3_0 f3
                replace f11 := Ext.fz hV44_10 c11_0 f11
                replace xw := Ext.trans xw hV44_10
                replace xl3 := Ext.trans xl3 hV44_10
                replace xo := Ext.trans xo hV44_10
                replace xo2 := Ext.trans xo2 hV44_10
                replace c3_0 := Ext.cell hV44_10 c3_0
                replace c3_1 := Ext.cell hV44_10 c3_1
                replace c3_2 := Ext.cell hV44_10 c3_2
                replace c3_3 := Ext.cell hV44_10 c3_3
                replace d1 := Ext.cell hV44_10 d1
                replace d2 := Ext.cell hV44_10 d2
                replace c11_0 := Ext.cell hV44_10 c11_0
                replace c11_1 := Ext.cell hV44_10 c11_1
                clear hV44_10 f44
                have c44_0 := kV44_10 0 _ rfl
                clear kV44_10
                refine Wops.cut 1 fun K1 hK1 => ?_
                simp only [List.take_succ_cons, List.take_zero]
                obtain ⟨v', w7, hrun, hO2, hgr, -⟩ := app_run ints_T (hO.ext xo2) ⟨n44, 0, none⟩ 1 1 [.int .i64 (i : Int)] 22 rfl (news_one c44_0) (one_one rfl) (by omega) (by omega)
                refine Wops.law rfl (exec_append2 rfl hrun (by go_simp) (by go_simp)) ?_
                simp only [updO_some, Wops_nil]
                refine hK1 _ _ ?_
                clear hK1 K1
                simp only [List.drop_succ_cons, List.drop_zero]
                have z25 := World.grownBy.size hgr
                replace f3 := Chg.fz (grown_chg hgr) c3_0 f3 (lt_off (World.ownsRow.lt (hO.ext xo2)) (by omega))
                replace xw := Chg.to xw (grown_chg hgr) (lt_ge (World.ownsRow.lt (hO.ext xo2)) (by omega))
                replace xl3 := Chg.to xl3 (grown_chg hgr) (lt_ge (World.ownsRow.lt (hO.ext xo2)) (by omega))
                replace xo := Chg.to xo (grown_chg hgr) (lt_ge (World.ownsRow.lt (hO.ext xo2)) (by omega))
                replace c3_0 := Chg.cell (grown_chg hgr) c3_0 (lt_off (World.ownsRow.lt (hO.ext xo2)) (by omega))
                replace c3_1 := Chg.cell (grown_chg hgr) c3_1 (lt_off (World.ownsRow.lt (hO.ext xo2)) (by omega))
                replace c3_2 := Chg.cell (grown_chg hgr) c3_2 (lt_off (World.ownsRow.lt (hO.ext xo2)) (by omega))
                replace c3_3 := Chg.cell (grown_chg hgr) c3_3 (lt_off (World.ownsRow.lt (hO.ext xo2)) (by omega))
                go_simp
                refine hK _ _ ?_
                clear hK K' gd
                refine Ends.keep [3, 9, 27, 28, 29] fun r26 hkeep => ?_
                obtain ⟨e3_26, e9_26, e27_26, e28_26, e29_26, -⟩ := hkeep
                simp [go_sem, e3_24, e9_24, e10_24, e27_24, e28_24, e29_24, e41_24] at e3_26 e9_26 e27_26 e28_26 e29_26
                clear e3_24 e9_24 e10_24 e27_24 e28_24 e29_24 e41_24
                refine Ends.mk ?_
                refine blockK_normal ?_
                refine thenK_normal ?_
                refine Wp.loneRegion (.inl rfl) (by kernel_rfl) fun K' gd hK hg => ?_
                clear hg
                go_simp
                refine hK _ _ ?_
                clear hK K' gd
                refine Ends.keep [3, 9, 27, 28, 29] fun r27 hkeep => ?_
                obtain ⟨e3_27, e9_27, e27_27, e28_27, e29_27, -⟩ := hkeep
                simp [go_sem, e3_26, e9_26, e27_26, e28_26, e29_26] at e3_27 e9_27 e27_27 e28_27 e29_27
                clear e3_26 e9_26 e27_26 e28_26 e29_26
                refine Ends.mk ?_
                refine thenK_normal ⟨by omega, ⟨by rw [e3_27, e3_18], by rw [e27_27, e27_18], by rw [e28_27, e28_18], trivial⟩, rfl, xo, ?_⟩
                exact ⟨_, by rw [e29_27, IntWalk.i64_in _ (by omega)]; rfl, e9_27, by rw [srcL_T hi (hbe.2 ⟨hv, hk⟩)]; unfold OwnI; rw [encI_add, List.length_append]; exact hO2⟩
              · skip
                refine Wp.skip ?_
                refine thenK_normal ?_
                refine Wp.seq ?_
                refine Wp.block ?_
                refine Wp.seqRegion (.inl rfl) (by kernel_rfl) fun K' gd hK hg => ?_
                clear hg
                refine Wops.cut 4 fun K1 hK1 => ?_
                simp only [List.take_succ_cons, List.take_zero]
                go_simp
                refine hK1 _ _ ?_
                clear hK1 K1
                simp only [List.drop_succ_cons, List.drop_zero]
                refine Wops.absA fun V11_11 n11 hV11_11 => ?_
                obtain ⟨q11, hV11_11, s11, kV11_11, f11, r11⟩ := hV11_11
                try simp only [q11] at kV11_11 f11 r11 ⊢
                replace f3 := Ext.fz hV11_11 c3_0 f3
                replace xw := Ext.trans xw hV11_11
                replace xl3 := Ext.trans xl3 hV11_11
                replace xo := Ext.trans xo hV11_11
                replace xo2 := Ext.trans xo2 hV11_11
                replace c3_0 := Ext.cell hV11_11 c3_0
                replace c3_1 := Ext.cell hV11_11 c3_1
                replace c3_2 := Ext.cell hV11_11 c3_2
                replace c3_3 := Ext.cell hV11_11 c3_3
                replace d1 := Ext.cell hV11_11 d1
                replace d2 := Ext.cell hV11_11 d2
                have c11_0 := kV11_11 0 _ rfl
                have c11_1 := kV11_11 1 _ rfl
                clear kV11_11 hV11_11
                clear r11
                refine Wops.cut 2 fun K1 hK1 => ?_
                simp only [List.take_succ_cons, List.take_zero]
                go_simp
                refine hK1 _ _ ?_
                clear hK1 K1
                simp only [List.drop_succ_cons, List.drop_zero]
                refine Wops.absS (b := n11) (i := 0) [_, _] (somes [cellVal c11_0, cellVal c11_1] (by simp) (by intro j v hj; match j, hj with | 0, hj => (simp at hj; subst hj; exact c11_0) | 1, hj => (simp at hj; subst hj; exact c11_1))) fun P12 hP12 => ?_
                have zP12 := hP12.same
                replace f3 := Put.frz hP12 f3
                replace f11 := Put.frz hP12 f11
                replace xw := Put.to xw hP12 (by omega)
                replace xl3 := Put.to xl3 hP12 (by omega)
                replace xo := Put.to xo hP12 (by omega)
                replace xo2 := Put.to xo2 hP12 (by omega)
                replace c3_0 := Put.cell hP12 c3_0 (by omega)
                replace c3_1 := Put.cell hP12 c3_1 (by omega)
                replace c3_2 := Put.cell hP12 c3_2 (by omega)
                replace c3_3 := Put.cell hP12 c3_3 (by omega)
                replace d1 := Put.cell hP12 d1 (by omega)
                replace d2 := Put.cell hP12 d2 (by omega)
                clear c11_0
                clear c11_1
                have c11_0 := hP12.new 0 _ rfl
                try simp only [Nat.reduceAdd, Nat.zero_add, Nat.add_zero] at c11_0
                have c11_1 := hP12.new 1 _ rfl
                try simp only [Nat.reduceAdd, Nat.zero_add, Nat.add_zero] at c11_1
                clear hP12
                try simp only [Wops_nil, updO_some, updO_none]
                refine hK _ _ ?_
                clear hK K' gd
                refine Wp.keep [3, 9, 10, 11, 27, 28, 29] fun r28 hkeep => ?_
                obtain ⟨e3_28, e9_28, e10_28, e11_28, e27_28, e28_28, e29_28, -⟩ := hkeep
                simp [go_sem, e3_20, e9_20, e27_20, e28_20, e29_20, e30_20] at e3_28 e9_28 e10_28 e11_28 e27_28 e28_28 e29_28
                clear e3_20 e9_20 e27_20 e28_20 e29_20 e30_20
                refine Wp.seqRegion (.inl rfl) (by kernel_rfl) fun K' gd hK hg => ?_
                have g3 : gd 3 = some 37 := hg 3
                clear hg
                refine Wops.cut 3 fun K1 hK1 => ?_
                simp only [List.take_succ_cons, List.take_zero]
                go_simp
                refine Wcall (.inl rfl) (valid_c _ _ ss[i] c _ (hS.ext xw) (hU.ext xw) hfs1 hg) ?_
                rintro v w3 ⟨rfl, hE⟩
                go_simp
                refine hK1 _ _ ?_
                clear hK1 K1
                simp only [List.drop_succ_cons, List.drop_zero]
                have z29 := Below.size hE
                replace f3 := Ext.fz hE c3_0 f3
                replace f11 := Ext.fz hE c11_0 f11
                replace xw := Ext.trans xw hE
                replace xl3 := Ext.trans xl3 hE
                replace xo := Ext.trans xo hE
                replace xo2 := Ext.trans xo2 hE
                replace c3_0 := Ext.cell hE c3_0
                replace c3_1 := Ext.cell hE c3_1
                replace c3_2 := Ext.cell hE c3_2
                replace c3_3 := Ext.cell hE c3_3
                replace d1 := Ext.cell hE d1
                replace d2 := Ext.cell hE d2
                replace c11_0 := Ext.cell hE c11_0
                replace c11_1 := Ext.cell hE c11_1
                clear hE
                refine Wops.cut 4 fun K1 hK1 => ?_
                simp only [List.take_succ_cons, List.take_zero]
                go_simp
                refine Wcall (.inl rfl) (can_ok _ _ ss[i] c _ (hS.ext xw) (hU.ext xw) (checkS_zero.1 hc0.choose_spec) hv) ?_
                rintro v w4 ⟨rfl, hE⟩
                go_simp
                refine hK1 _ _ ?_
                clear hK1 K1
                simp only [List.drop_succ_cons, List.drop_zero]
                have z30 := Below.size hE
                replace f3 := Ext.fz hE c3_0 f3
                replace f11 := Ext.fz hE c11_0 f11
                replace xw := Ext.trans xw hE
                replace xl3 := Ext.trans xl3 hE
                replace xo := Ext.trans xo hE
                replace xo2 := Ext.trans xo2 hE
                replace c3_0 := Ext.cell hE c3_0
                replace c3_1 := Ext.cell hE c3_1
                replace c3_2 := Ext.cell hE c3_2
                replace c3_3 := Ext.cell hE c3_3
                replace d1 := Ext.cell hE d1
                replace d2 := Ext.cell hE d2
                replace c11_0 := Ext.cell hE c11_0
                replace c11_1 := Ext.cell hE c11_1
                clear hE
                go_simp
                refine hK _ _ ?_
                clear hK K' gd g3
                refine Wp.keep [3, 9, 10, 27, 28, 29, 41] fun r31 hkeep => ?_
                obtain ⟨e3_31, e9_31, e10_31, e27_31, e28_31, e29_31, e41_31, -⟩ := hkeep
                simp [go_sem, e3_28, e9_28, e10_28, e11_28, e27_28, e28_28, e29_28] at e3_31 e9_31 e10_31 e27_31 e28_31 e29_31 e41_31
                clear e3_28 e9_28 e10_28 e11_28 e27_28 e28_28 e29_28
                refine Wp.condF (by go_simp) ?_
                refine Wp.skip ?_
                refine blockK_normal ?_
                refine thenK_normal ?_
                refine Wp.loneRegion (.inl rfl) (by kernel_rfl) fun K' gd hK hg => ?_
                clear hg
                go_simp
                refine hK _ _ ?_
                clear hK K' gd
                refine Ends.keep [3, 9, 27, 28, 29] fun r32 hkeep => ?_
                obtain ⟨e3_32, e9_32, e27_32, e28_32, e29_32, -⟩ := hkeep
                simp [go_sem, e3_31, e9_31, e10_31, e27_31, e28_31, e29_31, e41_31] at e3_32 e9_32 e27_32 e28_32 e29_32
                clear e3_31 e9_31 e10_31 e27_31 e28_31 e29_31 e41_31
                refine Ends.mk ?_
                refine thenK_normal ⟨by omega, ⟨by rw [e3_32, e3_18], by rw [e27_32, e27_18], by rw [e28_32, e28_18], trivial⟩, rfl, xo, ?_⟩
                exact ⟨_, by rw [e29_32, IntWalk.i64_in _ (by omega)]; rfl, e9_32, by rw [srcL_F hi (fun q => hk (hbe.1 q).2)]; exact hO.ext xo2⟩
            · skip
              refine Wp.skip ?_
              refine thenK_normal ?_
              refine Wp.seq ?_
              refine Wp.block ?_
              refine Wp.seqRegion (.inl rfl) (by kernel_rfl) fun K' gd hK hg => ?_
              clear hg
              refine Wops.cut 4 fun K1 hK1 => ?_
              simp only [List.take_succ_cons, List.take_zero]
              go_simp
              refine hK1 _ _ ?_
              clear hK1 K1
              simp only [List.drop_succ_cons, List.drop_zero]
              refine Wops.absA fun V11_13 n11 hV11_13 => ?_
              obtain ⟨q11, hV11_13, s11, kV11_13, f11, r11⟩ := hV11_13
              try simp only [q11] at kV11_13 f11 r11 ⊢
              replace f3 := Ext.fz hV11_13 c3_0 f3
              replace xw := Ext.trans xw hV11_13
              replace xl3 := Ext.trans xl3 hV11_13
              replace xo := Ext.trans xo hV11_13
              replace xo2 := Ext.trans xo2 hV11_13
              replace c3_0 := Ext.cell hV11_13 c3_0
              replace c3_1 := Ext.cell hV11_13 c3_1
              replace c3_2 := Ext.cell hV11_13 c3_2
              replace c3_3 := Ext.cell hV11_13 c3_3
              replace d1 := Ext.cell hV11_13 d1
              replace d2 := Ext.cell hV11_13 d2
              have c11_0 := kV11_13 0 _ rfl
              have c11_1 := kV11_13 1 _ rfl
              clear kV11_13 hV11_13
              clear r11
              refine Wops.cut 2 fun K1 hK1 => ?_
              simp only [List.take_succ_cons, List.take_zero]
              go_simp
              refine hK1 _ _ ?_
              clear hK1 K1
              simp only [List.drop_succ_cons, List.drop_zero]
              refine Wops.absS (b := n11) (i := 0) [_, _] (somes [cellVal c11_0, cellVal c11_1] (by simp) (by intro j v hj; match j, hj with | 0, hj => (simp at hj; subst hj; exact c11_0) | 1, hj => (simp at hj; subst hj; exact c11_1))) fun P14 hP14 => ?_
              have zP14 := hP14.same
              replace f3 := Put.frz hP14 f3
              replace f11 := Put.frz hP14 f11
              replace xw := Put.to xw hP14 (by omega)
              replace xl3 := Put.to xl3 hP14 (by omega)
              replace xo := Put.to xo hP14 (by omega)
              replace xo2 := Put.to xo2 hP14 (by omega)
              replace c3_0 := Put.cell hP14 c3_0 (by omega)
              replace c3_1 := Put.cell hP14 c3_1 (by omega)
              replace c3_2 := Put.cell hP14 c3_2 (by omega)
              replace c3_3 := Put.cell hP14 c3_3 (by omega)
              replace d1 := Put.cell hP14 d1 (by omega)
              replace d2 := Put.cell hP14 d2 (by omega)
              clear c11_0
              clear c11_1
              have c11_0 := hP14.new 0 _ rfl
              try simp only [Nat.reduceAdd, Nat.zero_add, Nat.add_zero] at c11_0
              have c11_1 := hP14.new 1 _ rfl
              try simp only [Nat.reduceAdd, Nat.zero_add, Nat.add_zero] at c11_1
              clear hP14
              try simp only [Wops_nil, updO_some, updO_none]
              refine hK _ _ ?_
              clear hK K' gd
              refine Wp.keep [3, 9, 10, 11, 27, 28, 29] fun r33 hkeep => ?_
              obtain ⟨e3_33, e9_33, e10_33, e11_33, e27_33, e28_33, e29_33, -⟩ := hkeep
              simp [go_sem, e3_20, e9_20, e27_20, e28_20, e29_20, e30_20] at e3_33 e9_33 e10_33 e11_33 e27_33 e28_33 e29_33
              clear e3_20 e9_20 e27_20 e28_20 e29_20 e30_20
              refine Wp.seqRegion (.inl rfl) (by kernel_rfl) fun K' gd hK hg => ?_
              have g3 : gd 3 = some 37 := hg 3
              clear hg
              refine Wops.cut 3 fun K1 hK1 => ?_
              simp only [List.take_succ_cons, List.take_zero]
              go_simp
              refine Wcall (.inl rfl) (valid_c _ _ ss[i] c _ (hS.ext xw) (hU.ext xw) hfs1 hg) ?_
              rintro v w3 ⟨rfl, hE⟩
              go_simp
              refine hK1 _ _ ?_
              clear hK1 K1
              simp only [List.drop_succ_cons, List.drop_zero]
              have z34 := Below.size hE
              replace f3 := Ext.fz hE c3_0 f3
              replace f11 := Ext.fz hE c11_0 f11
              replace xw := Ext.trans xw hE
              replace xl3 := Ext.trans xl3 hE
              replace xo := Ext.trans xo hE
              replace xo2 := Ext.trans xo2 hE
              replace c3_0 := Ext.cell hE c3_0
              replace c3_1 := Ext.cell hE c3_1
              replace c3_2 := Ext.cell hE c3_2
              replace c3_3 := Ext.cell hE c3_3
              replace d1 := Ext.cell hE d1
              replace d2 := Ext.cell hE d2
              replace c11_0 := Ext.cell hE c11_0
              replace c11_1 := Ext.cell hE c11_1
              clear hE
              refine Wops.cut 4 fun K1 hK1 => ?_
              simp only [List.take_succ_cons, List.take_zero]
              go_simp
              refine hK1 _ _ ?_
              clear hK1 K1
              simp only [List.drop_succ_cons, List.drop_zero]
              go_simp
              refine hK _ _ ?_
              clear hK K' gd g3
              refine Wp.keep [3, 9, 10, 27, 28, 29, 41] fun r35 hkeep => ?_
              obtain ⟨e3_35, e9_35, e10_35, e27_35, e28_35, e29_35, e41_35, -⟩ := hkeep
              simp [go_sem, e3_33, e9_33, e10_33, e11_33, e27_33, e28_33, e29_33] at e3_35 e9_35 e10_35 e27_35 e28_35 e29_35 e41_35
              clear e3_33 e9_33 e10_33 e11_33 e27_33 e28_33 e29_33
              refine Wp.condF (by go_simp) ?_
              refine Wp.skip ?_
              refine blockK_normal ?_
              refine thenK_normal ?_
              refine Wp.loneRegion (.inl rfl) (by kernel_rfl) fun K' gd hK hg => ?_
              clear hg
              go_simp
              refine hK _ _ ?_
              clear hK K' gd
              refine Ends.keep [3, 9, 27, 28, 29] fun r36 hkeep => ?_
              obtain ⟨e3_36, e9_36, e27_36, e28_36, e29_36, -⟩ := hkeep
              simp [go_sem, e3_35, e9_35, e10_35, e27_35, e28_35, e29_35, e41_35] at e3_36 e9_36 e27_36 e28_36 e29_36
              clear e3_35 e9_35 e10_35 e27_35 e28_35 e29_35 e41_35
              refine Ends.mk ?_
              refine thenK_normal ⟨by omega, ⟨by rw [e3_36, e3_18], by rw [e27_36, e27_18], by rw [e28_36, e28_18], trivial⟩, rfl, xo, ?_⟩
              exact ⟨_, by rw [e29_36, IntWalk.i64_in _ (by omega)]; rfl, e9_36, by rw [srcL_F hi (fun q => hv (hbe.1 q).1)]; exact hO.ext xo2⟩
          · refine Wp.condF (by go_simp) ?_
            obtain rfl : i = ss.length := by omega
            refine Wp.exit ?_
            refine thenK_exit ?_
            refine thenK_exit ?_
            refine blockK_here ?_
            refine thenK_normal ?_
            refine Wp.seqRegion (.inl rfl) (by kernel_rfl) fun K' gd hK hg => ?_
            clear hg
            go_simp
            refine hK _ _ ?_
            clear hK K' gd
            refine Wp.keep [4, 5] fun r37 hkeep => ?_
            obtain ⟨e4_37, e5_37, -⟩ := hkeep
            simp [go_sem, e3_20, e9_20, e27_20, e28_20, e29_20, e30_20] at e4_37 e5_37
            clear e3_20 e9_20 e27_20 e28_20 e29_20 e30_20
            refine Wp.ret ?_
            refine endK_tmp2 Try.results52 (by decide) (by decide) ?_
            rw [e4_37, e5_37]
            have e := hall.choose_spec.2
            exact ⟨_, by rw [e], by rw [if_pos e]; exact (hO.ext xo2).intsB.less (by omega), xw⟩
end Go.Proofs.Ytnjajbkkgfohaaa
namespace Go.Proofs.Ytnjajbkkgfohaaa
open Go.RowKit Go.Wk Go.Proofs
attribute [local irreducible] Go.Wk.Wops Go.Wk.Wp Go.Wk.Mtree Go.Wk.Mops
set_option maxHeartbeats 8000000
set_option maxRecDepth 20000

theorem setL_cells (b : Nat) : ∀ (vs : List Value) (w : World) (i : Nat), w.setCells b i vs = setL w b i vs
  | [], _, _ => rfl
  | v :: vs, w, i => by rw [World.setCells, setL, setL_cells b vs]
def zerosA (m : Nat) : List Value := List.replicate (m * 6) (.int .i64 0)
theorem zeroA (w : World) : (zeroValue 51).run Try.prog w = .ok (.agg #[.int .i64 0, .int .i64 0, .int .i64 0, .int .i64 0, .int .i64 0, .int .i64 0]) w := by
  simp [go_sem]
theorem run_clearA (w : World) (ty : TypeId) (b o m c : Nat) (hm : 0 < m) (hc : ∀ j, j < m * 6 → (w.cell? ⟨b, o + j, none⟩).isSome = true) (hf : ∀ j, j < m * 6 → w.frozen? ⟨b, o + j, none⟩ = false) :
    (Builtin.clear_ #[23] ty #[.slice (some ⟨b, o, none⟩) m c]).run Try.prog w = .ok (.tuple #[]) (setL w b o (zerosA m)) := by
  have hzc : (Builtin.zeroCells (Value.agg #[.int .i64 0, .int .i64 0, .int .i64 0, .int .i64 0, .int .i64 0, .int .i64 0]).cells m).toList = zerosA m := by
    unfold zerosA
    apply List.ext_getElem
    · simp [Builtin.zeroCells, Value.cells]
    · intro i h1 h2
      simp [Builtin.zeroCells, Value.cells]
      have h6 : i % 6 < 6 := Nat.mod_lt _ (by omega)
      match i % 6, h6 with
      | 0, _ => rfl
      | 1, _ => rfl
      | 2, _ => rfl
      | 3, _ => rfl
      | 4, _ => rfl
      | 5, _ => rfl
  have hst := run_storeCells_cells (P := Try.prog) b o (zerosA m) 0 w (by simpa [zerosA] using hc) (by simpa [zerosA] using hf) (by intro v hv'; unfold zerosA at hv'; rw [List.eq_of_mem_replicate hv']; rfl)
  simp only [Nat.add_zero] at hst
  rw [setL_cells] at hst
  obtain ⟨m, rfl⟩ : ∃ k, m = k + 1 := ⟨m - 1, by omega⟩
  simp [Builtin.clear_, run_underlying Try.underlying23, zeroA, hzc, hst]
theorem alts_T : ElemT Try.prog 23 51 6 := elemT_of (by kernel_rfl)
def encAs (al : List Alt) : List Value := al.flatMap encA
theorem encAs_len (al : List Alt) : (encAs al).length = al.length * 6 := by
  induction al with
  | nil => rfl
  | cons a al ih =>
    have e : encAs (a :: al) = encA a ++ encAs al := rfl
    rw [e, List.length_append, List.length_cons, ih]
    have : (encA a).length = 6 := rfl
    omega
theorem encAs_one {al : List Alt} : ∀ u ∈ encAs al, u.oneCell' = true := by
  intro u hu
  unfold encAs at hu
  rw [List.mem_flatMap] at hu
  obtain ⟨x, -, hx⟩ := hu
  simp [encA] at hx
  rcases hx with rfl | rfl | rfl | rfl | rfl | rfl <;> rfl
theorem encAs_add (al : List Alt) (a : Alt) : encAs (al ++ [a]) = encAs al ++ encA a := by unfold encAs; rw [List.flatMap_append]; simp
theorem newsA_of {w : World} {b o : Nat} {xs : List Alt} (h : ∀ i (h : i < xs.length) r u, (encA xs[i])[r]? = some u → w.cell? ⟨b, o + i * 6 + r, none⟩ = some u) :
    ∀ j u, (encAs xs)[j]? = some u → w.cell? ((⟨b, o, none⟩ : Addr).add j) = some u := by
  intro j u hu
  rw [Addr.add_lit]
  have hl := encAs_len xs
  have hj : j < xs.length * 6 := by have := (List.getElem?_eq_some_iff.1 hu).1; omega
  have hm : j % 6 < 6 := Nat.mod_lt _ (by omega)
  have hd := Nat.div_add_mod j 6
  have hi : j / 6 < xs.length := by omega
  have hr : j % 6 < (encA xs[j / 6]).length := hm
  have e := six_get xs (j / 6) hi (j % 6) _ (List.getElem?_eq_getElem hr)
  rw [show j / 6 * 6 + j % 6 = j by omega] at e
  unfold encAs at hu
  rw [hu] at e
  injection e with e
  have := h (j / 6) hi (j % 6) u (by rw [e]; exact List.getElem?_eq_getElem hr)
  rw [show o + j / 6 * 6 + j % 6 = o + j by omega] at this
  exact this
/-- changes in memory of our own -/
def OwnA (w : World) (base : Nat) (v : Value) (al : List Alt) : Prop := w.ownsRow base 51 6 v al.length (encAs al)
/-- block b holds the changes xs -/
structure RowA (W : World) (b : Nat) (xs : List Alt) : Prop where
  c : ∀ i (h : i < xs.length) r u, (encA xs[i])[r]? = some u → W.cell? ⟨b, i * 6 + r, none⟩ = some u
  fz : ∀ j, W.frozen? ⟨b, j, none⟩ = false
  ne : xs ≠ []
theorem RowA.len {W : World} {b : Nat} {xs : List Alt} (h : RowA W b xs) : b < W.heap.size := cell_lt (h.c 0 (List.length_pos_iff.2 h.ne) 0 _ rfl)
theorem RowA.ext {W V : World} {b : Nat} {xs : List Alt} (h : RowA W b xs) (hE : Ext W V) : RowA V b xs :=
  ⟨fun i hi r u hu => hE.cell (h.c i hi r u hu), Ext.fz hE (h.c 0 (List.length_pos_iff.2 h.ne) 0 _ rfl) h.fz, h.ne⟩
theorem RowA.store {W V : World} {b i : Nat} {xs : List Alt} {x : Alt} (h : RowA W b xs) (p : Put W V b (i * 6) (encA x)) (hi : i < xs.length) : RowA V b (xs.set i x) := by
  refine ⟨fun j hj r u hu => ?_, fun j => (p.fz _).trans (h.fz j), fun e => by have := congrArg List.length e; simp at this; exact h.ne this⟩
  rw [List.length_set] at hj
  have hr : r < 6 := (List.getElem?_eq_some_iff.1 hu).1
  rw [List.getElem_set] at hu
  by_cases e : i = j
  · subst e
    rw [if_pos rfl] at hu
    exact p.new r u (by rw [nthV_eq]; exact hu)
  · rw [if_neg e] at hu
    rw [p.old (j * 6 + r) (by have : (encA x).length = 6 := rfl; omega)]
    exact h.c j hj r u hu
theorem OwnA.rowA {w : World} {base : Nat} {v : Value} {xs : List Alt} (h : OwnA w base v xs) (hne : xs ≠ []) : ∃ b c, v = .slice (some ⟨b, 0, none⟩) xs.length c ∧ base ≤ b ∧ xs.length ≤ c ∧ RowA w b xs := by
  rcases h.2 with ⟨rfl, hn⟩ | ⟨g, cap, cur, rfl, hb, hg, hnc, hcm, hcs, htake⟩
  · exact absurd (List.eq_nil_of_length_eq_zero hn) hne
  · refine ⟨g, cap, rfl, hb, hnc, fun i hi r u hu => ?_, own_fz h, hne⟩
    have := World.ownsRow.cells h (g := g) rfl _ _ (six_get xs i hi r u hu)
    rw [Addr.add_lit, Nat.zero_add] at this
    exact this
@[go_sem] theorem eqA_nil (w : World) (a : Option Addr) (n c n' c' : Nat) : (binOp .eql 23 (.slice a n c) (.slice none n' c')).run Try.prog w = .ok (.bool a.isNone) w :=
  Lib.run_eql_slice_nil w _ 51 a n c n' c' (by kernel_rfl)
@[go_sem] theorem eqI_nil (w : World) (a : Option Addr) (n c n' c' : Nat) : (binOp .eql 22 (.slice a n c) (.slice none n' c')).run Try.prog w = .ok (.bool a.isNone) w :=
  Lib.run_eql_slice_nil w _ 3 a n c n' c' (by kernel_rfl)
theorem cloneA_c (v : Value) (xs : List Alt) (w : World) (hx : AltsV w w.heap.size v xs) (hl : xs.length ≤ 1000000000) :
    CallsV Try.prog 119 #[v] w fun v' w' => OwnA w' w.heap.size v' xs ∧ Ext w w' := by
  obtain ⟨A, c, rfl, hx, hcap⟩ := hx
  have hA : (∃ b o, A = some ⟨b, o, none⟩ ∧ b < w.heap.size ∧ ∀ i (h : i < xs.length) r u, (encA xs[i])[r]? = some u → w.cell? ⟨b, o + i * 6 + r, none⟩ = some u) ∨ (xs = [] ∧ A = none) ∨ (xs = [] ∧ ∃ a, A = some a) := by
    by_cases h : xs = []
    · cases A with
      | none => exact .inr (.inl ⟨h, rfl⟩)
      | some a => exact .inr (.inr ⟨h, a, rfl⟩)
    · exact .inl (hx h)
  rcases hA with ⟨b, o, rfl, hb, hc⟩ | ⟨rfl, rfl⟩ | ⟨rfl, a, rfl⟩
  · skip
    refine Wp.fn Try.func119 rfl Try.ntmps119 (by simp) ?_
    refine Wp.keep [0] fun r1 hkeep => ?_
    obtain ⟨e0_1, -⟩ := hkeep
    simp [go_sem] at e0_1
    refine Wp.seqRegion (.inl rfl) (by kernel_rfl) fun K' gd hK hg => ?_
    clear hg
    go_simp
    refine hK _ _ ?_
    clear hK K' gd
    refine Wp.keep [0] fun r2 hkeep => ?_
    obtain ⟨e0_2, -⟩ := hkeep
    simp [go_sem, e0_1] at e0_2
    clear e0_1
    refine Wp.seq ?_
    refine Wp.seqRegion (.inl rfl) (by kernel_rfl) fun K' gd hK hg => ?_
    clear hg
    go_simp
    refine hK _ _ ?_
    clear hK K' gd
    refine Wp.keep [0, 4] fun r3 hkeep => ?_
    obtain ⟨e0_3, e4_3, -⟩ := hkeep
    simp [go_sem, e0_2] at e0_3 e4_3
    clear e0_2
    refine Wp.condF (by go_simp) ?_
    refine Wp.skip ?_
    refine thenK_normal ?_
    refine Wp.seqRegion (.inl rfl) (by kernel_rfl) fun K' gd hK hg => ?_
    clear hg
    refine Wops.cut 2 fun K1 hK1 => ?_
    simp only [List.take_succ_cons, List.take_zero]
    go_simp
    refine hK1 _ _ ?_
    clear hK1 K1
    simp only [List.drop_succ_cons, List.drop_zero]
    obtain ⟨v', w', hrun, hown, hg, -⟩ := app_run alts_T (own0 w 51 6) ⟨b, o, none⟩ xs.length c (encAs xs) 23 (encAs_len xs) (newsA_of fun i h r u hu => cell_al _ (hc i h r u hu)) encAs_one (by omega) (by simp)
    refine Wops.law rfl (exec_append2 rfl hrun (by go_simp) (by go_simp)) ?_
    go_simp
    refine hK _ _ ?_
    clear hK K' gd
    refine Wp.keep [2] fun r4 hkeep => ?_
    obtain ⟨e2_4, -⟩ := hkeep
    simp [go_sem, e0_3, e4_3] at e2_4
    clear e0_3 e4_3
    refine Wp.ret ?_
    refine endK_tmp Try.results119 (by decide) ?_
    rw [e2_4]
    exact ⟨by simpa [OwnA] using hown, Below.grown ((Ext.refl w).alloc _) (own0 w 51 6) hg (Nat.le_refl _) (Nat.le_refl _)⟩
  · skip
    refine Wp.fn Try.func119 rfl Try.ntmps119 (by simp) ?_
    refine Wp.keep [0] fun r1 hkeep => ?_
    obtain ⟨e0_1, -⟩ := hkeep
    simp [go_sem] at e0_1
    refine Wp.seqRegion (.inl rfl) (by kernel_rfl) fun K' gd hK hg => ?_
    clear hg
    go_simp
    refine hK _ _ ?_
    clear hK K' gd
    refine Wp.keep [0] fun r2 hkeep => ?_
    obtain ⟨e0_2, -⟩ := hkeep
    simp [go_sem, e0_1] at e0_2
    clear e0_1
    refine Wp.seq ?_
    refine Wp.seqRegion (.inl rfl) (by kernel_rfl) fun K' gd hK hg => ?_
    clear hg
    go_simp
    refine hK _ _ ?_
    clear hK K' gd
    refine Wp.keep [0, 4] fun r3 hkeep => ?_
    obtain ⟨e0_3, e4_3, -⟩ := hkeep
    simp [go_sem, e0_2] at e0_3 e4_3
    clear e0_2
    refine Wp.condT (by go_simp) ?_
    refine Wp.seqRegion (.inl rfl) (by kernel_rfl) fun K' gd hK hg => ?_
    clear hg
    go_simp
    refine hK _ _ ?_
    clear hK K' gd
    refine Wp.keep [2] fun r4 hkeep => ?_
    obtain ⟨e2_4, -⟩ := hkeep
    simp [go_sem, e0_3, e4_3] at e2_4
    clear e0_3 e4_3
    refine Wp.ret ?_
    refine thenK_ret ?_
    refine endK_tmp Try.results119 (by decide) ?_
    rw [e2_4]
    exact ⟨World.ownsRow_nil _ _ _ _, Ext.refl _⟩
  · skip
    refine Wp.fn Try.func119 rfl Try.ntmps119 (by simp) ?_
    refine Wp.keep [0] fun r1 hkeep => ?_
    obtain ⟨e0_1, -⟩ := hkeep
    simp [go_sem] at e0_1
    refine Wp.seqRegion (.inl rfl) (by kernel_rfl) fun K' gd hK hg => ?_
    clear hg
    go_simp
    refine hK _ _ ?_
    clear hK K' gd
    refine Wp.keep [0] fun r2 hkeep => ?_
    obtain ⟨e0_2, -⟩ := hkeep
    simp [go_sem, e0_1] at e0_2
    clear e0_1
    refine Wp.seq ?_
    refine Wp.seqRegion (.inl rfl) (by kernel_rfl) fun K' gd hK hg => ?_
    clear hg
    go_simp
    refine hK _ _ ?_
    clear hK K' gd
    refine Wp.keep [0, 4] fun r3 hkeep => ?_
    obtain ⟨e0_3, e4_3, -⟩ := hkeep
    simp [go_sem, e0_2] at e0_3 e4_3
    clear e0_2
    refine Wp.condF (by go_simp) ?_
    refine Wp.skip ?_
    refine thenK_normal ?_
    refine Wp.seqRegion (.inl rfl) (by kernel_rfl) fun K' gd hK hg => ?_
    clear hg
    refine Wops.cut 2 fun K1 hK1 => ?_
    simp only [List.take_succ_cons, List.take_zero]
    go_simp
    refine hK1 _ _ ?_
    clear hK1 K1
    simp only [List.drop_succ_cons, List.drop_zero]
    obtain - := trivial
    refine Wops.law rfl (exec_append rfl (by go_simp; exact ⟨rfl, rfl⟩)) ?_
    go_simp
    refine hK _ _ ?_
    clear hK K' gd
    refine Wp.keep [2] fun r4 hkeep => ?_
    obtain ⟨e2_4, -⟩ := hkeep
    simp [go_sem, e0_3, e4_3] at e2_4
    clear e0_3 e4_3
    refine Wp.ret ?_
    refine endK_tmp Try.results119 (by decide) ?_
    rw [e2_4]
    exact ⟨own0 w 51 6, (Ext.refl w).alloc _⟩
theorem cloneI_c (v : Value) (xs : List Int) (w : World) (hx : IntsV w w.heap.size v xs) (hl : xs.length ≤ 1000000000) :
    CallsV Try.prog 117 #[v] w fun v' w' => OwnI w' w.heap.size v' xs ∧ Ext w w' := by
  obtain ⟨A, c, rfl, hx, hcap⟩ := hx
  have hA : (∃ b o, A = some ⟨b, o, none⟩ ∧ b < w.heap.size ∧ ∀ k (h : k < xs.length), w.cell? ⟨b, o + k, none⟩ = some (.int .i64 xs[k])) ∨ (xs = [] ∧ A = none) ∨ (xs = [] ∧ ∃ a, A = some a) := by
    by_cases h : xs = []
    · cases A with
      | none => exact .inr (.inl ⟨h, rfl⟩)
      | some a => exact .inr (.inr ⟨h, a, rfl⟩)
    · exact .inl (hx h)
  rcases hA with ⟨b, o, rfl, hb, hc⟩ | ⟨rfl, rfl⟩ | ⟨rfl, a, rfl⟩
  · skip
    refine Wp.fn Try.func117 rfl Try.ntmps117 (by simp) ?_
    refine Wp.keep [0] fun r1 hkeep => ?_
    obtain ⟨e0_1, -⟩ := hkeep
    simp [go_sem] at e0_1
    refine Wp.seqRegion (.inl rfl) (by kernel_rfl) fun K' gd hK hg => ?_
    clear hg
    go_simp
    refine hK _ _ ?_
    clear hK K' gd
    refine Wp.keep [0] fun r2 hkeep => ?_
    obtain ⟨e0_2, -⟩ := hkeep
    simp [go_sem, e0_1] at e0_2
    clear e0_1
    refine Wp.seq ?_
    refine Wp.seqRegion (.inl rfl) (by kernel_rfl) fun K' gd hK hg => ?_
    clear hg
    go_simp
    refine hK _ _ ?_
    clear hK K' gd
    refine Wp.keep [0, 4] fun r3 hkeep => ?_
    obtain ⟨e0_3, e4_3, -⟩ := hkeep
    simp [go_sem, e0_2] at e0_3 e4_3
    clear e0_2
    refine Wp.condF (by go_simp) ?_
    refine Wp.skip ?_
    refine thenK_normal ?_
    refine Wp.seqRegion (.inl rfl) (by kernel_rfl) fun K' gd hK hg => ?_
    clear hg
    refine Wops.cut 2 fun K1 hK1 => ?_
    simp only [List.take_succ_cons, List.take_zero]
    go_simp
    refine hK1 _ _ ?_
    clear hK1 K1
    simp only [List.drop_succ_cons, List.drop_zero]
    obtain ⟨v', w', hrun, hown, hg, -⟩ := app_run ints_T (own0 w 3 1) ⟨b, o, none⟩ xs.length c (xs.map (Value.int .i64)) 22 (by simp) (news_of fun k h => cell_al _ (hc k h)) one_ints (by omega) (by simp)
    refine Wops.law rfl (exec_append2 rfl hrun (by go_simp) (by go_simp)) ?_
    go_simp
    refine hK _ _ ?_
    clear hK K' gd
    refine Wp.keep [2] fun r4 hkeep => ?_
    obtain ⟨e2_4, -⟩ := hkeep
    simp [go_sem, e0_3, e4_3] at e2_4
    clear e0_3 e4_3
    refine Wp.ret ?_
    refine endK_tmp Try.results117 (by decide) ?_
    rw [e2_4]
    exact ⟨by simpa [OwnI] using hown, Below.grown ((Ext.refl w).alloc _) (own0 w 3 1) hg (Nat.le_refl _) (Nat.le_refl _)⟩
  · skip
    refine Wp.fn Try.func117 rfl Try.ntmps117 (by simp) ?_
    refine Wp.keep [0] fun r1 hkeep => ?_
    obtain ⟨e0_1, -⟩ := hkeep
    simp [go_sem] at e0_1
    refine Wp.seqRegion (.inl rfl) (by kernel_rfl) fun K' gd hK hg => ?_
    clear hg
    go_simp
    refine hK _ _ ?_
    clear hK K' gd
    refine Wp.keep [0] fun r2 hkeep => ?_
    obtain ⟨e0_2, -⟩ := hkeep
    simp [go_sem, e0_1] at e0_2
    clear e0_1
    refine Wp.seq ?_
    refine Wp.seqRegion (.inl rfl) (by kernel_rfl) fun K' gd hK hg => ?_
    clear hg
    go_simp
    refine hK _ _ ?_
    clear hK K' gd
    refine Wp.keep [0, 4] fun r3 hkeep => ?_
    obtain ⟨e0_3, e4_3, -⟩ := hkeep
    simp [go_sem, e0_2] at e0_3 e4_3
    clear e0_2
    refine Wp.condT (by go_simp) ?_
    refine Wp.seqRegion (.inl rfl) (by kernel_rfl) fun K' gd hK hg => ?_
    clear hg
    go_simp
    refine hK _ _ ?_
    clear hK K' gd
    refine Wp.keep [2] fun r4 hkeep => ?_
    obtain ⟨e2_4, -⟩ := hkeep
    simp [go_sem, e0_3, e4_3] at e2_4
    clear e0_3 e4_3
    refine Wp.ret ?_
    refine thenK_ret ?_
    refine endK_tmp Try.results117 (by decide) ?_
    rw [e2_4]
    exact ⟨World.ownsRow_nil _ _ _ _, Ext.refl _⟩
  · skip
    refine Wp.fn Try.func117 rfl Try.ntmps117 (by simp) ?_
    refine Wp.keep [0] fun r1 hkeep => ?_
    obtain ⟨e0_1, -⟩ := hkeep
    simp [go_sem] at e0_1
    refine Wp.seqRegion (.inl rfl) (by kernel_rfl) fun K' gd hK hg => ?_
    clear hg
    go_simp
    refine hK _ _ ?_
    clear hK K' gd
    refine Wp.keep [0] fun r2 hkeep => ?_
    obtain ⟨e0_2, -⟩ := hkeep
    simp [go_sem, e0_1] at e0_2
    clear e0_1
    refine Wp.seq ?_
    refine Wp.seqRegion (.inl rfl) (by kernel_rfl) fun K' gd hK hg => ?_
    clear hg
    go_simp
    refine hK _ _ ?_
    clear hK K' gd
    refine Wp.keep [0, 4] fun r3 hkeep => ?_
    obtain ⟨e0_3, e4_3, -⟩ := hkeep
    simp [go_sem, e0_2] at e0_3 e4_3
    clear e0_2
    refine Wp.condF (by go_simp) ?_
    refine Wp.skip ?_
    refine thenK_normal ?_
    refine Wp.seqRegion (.inl rfl) (by kernel_rfl) fun K' gd hK hg => ?_
    clear hg
    refine Wops.cut 2 fun K1 hK1 => ?_
    simp only [List.take_succ_cons, List.take_zero]
    go_simp
    refine hK1 _ _ ?_
    clear hK1 K1
    simp only [List.drop_succ_cons, List.drop_zero]
    obtain - := trivial
    refine Wops.law rfl (exec_append rfl (by go_simp; exact ⟨rfl, rfl⟩)) ?_
    go_simp
    refine hK _ _ ?_
    clear hK K' gd
    refine Wp.keep [2] fun r4 hkeep => ?_
    obtain ⟨e2_4, -⟩ := hkeep
    simp [go_sem, e0_3, e4_3] at e2_4
    clear e0_3 e4_3
    refine Wp.ret ?_
    refine endK_tmp Try.results117 (by decide) ?_
    rw [e2_4]
    exact ⟨own0 w 3 1, (Ext.refl w).alloc _⟩
/-- where the first change is of which p says so -/
theorem indexA_c (b n c : Nat) (xs : List Alt) (p : Alt → Bool) (gf : Nat) (en : Value) (w : World) (hx : RowA w b xs) (hn : xs.length = n) (hl : n ≤ 1000000000)
    (heg : ∀ args w, (callFunc gf args).run Try.prog w = .ok (.enter gf args) w)
    (hp : ∀ a ∈ xs, ∀ W, Ext w W → CallsV Try.prog gf #[altV a, en] W fun v W' => v = .bool (p a) ∧ Ext W W') :
    CallsV Try.prog 154 #[.slice (some ⟨b, 0, none⟩) n c, .func (.func gf) #[] #[en]] w fun v w' =>
      ((v = .int .i64 (-1) ∧ ∀ a ∈ xs, p a = false) ∨ (∃ (k : Nat) (h : k < xs.length), v = .int .i64 (k : Int) ∧ p xs[k] = true ∧ ∀ a ∈ xs.take k, p a = false)) ∧ Ext w w' := by
  refine Wp.fn Try.func154 rfl Try.ntmps154 (by simp) ?_
  have xw := Ext.refl w
  refine Wp.keep [0, 1] fun r1 hkeep => ?_
  obtain ⟨e0_1, e1_1, -⟩ := hkeep
  simp [go_sem] at e0_1 e1_1
  refine Wp.seqRegion (.inl rfl) (by kernel_rfl) fun K' gd hK hg => ?_
  clear hg
  go_simp
  refine hK _ _ ?_
  clear hK K' gd
  refine Wp.keep [0, 1] fun r2 hkeep => ?_
  obtain ⟨e0_2, e1_2, -⟩ := hkeep
  simp [go_sem, e0_1, e1_1] at e0_2 e1_2
  clear e0_1 e1_1
  refine Wp.seq ?_
  refine Wp.seqRegion (.inl rfl) (by kernel_rfl) fun K' gd hK hg => ?_
  clear hg
  go_simp
  refine hK _ _ ?_
  clear hK K' gd
  refine Wp.keep [0, 1, 7, 8] fun r3 hkeep => ?_
  obtain ⟨e0_3, e1_3, e7_3, e8_3, -⟩ := hkeep
  simp [go_sem, e0_2, e1_2] at e0_3 e1_3 e7_3 e8_3
  clear e0_2 e1_2
  refine Wp.block ?_
  refine Wp.loop (fun k ρ ds wk => AllEq [0, 1, 7] ρ r3 ∧ ds = [] ∧ (Ext w wk) ∧ (ρ 8 = .int .i64 (k : Int) ∧ (∃ _u : Unit, ∀ a ∈ xs.take k, p a = false))) (n) ?_ ?_
  · refine ⟨AllEq.refl _ _, rfl, Ext.refl _, ?_⟩
    exact ⟨by rw [e8_3]; rfl, (), fun a ha => by simp at ha⟩
  · rintro k r4 _ wk hk ⟨hA, rfl, xl1, ⟨e8, hno⟩⟩
    obtain ⟨e0_4, e1_4, e7_4, -⟩ := hA
    rw [e0_3] at e0_4
    rw [e1_3] at e1_4
    rw [e7_3] at e7_4
    have zxl1 := Below.size xl1
    replace xw := Ext.trans xw xl1
    refine Wp.seqRegion (.inl rfl) (by kernel_rfl) fun K' gd hK hg => ?_
    clear hg
    go_simp
    refine hK _ _ ?_
    clear hK K' gd
    refine Wp.keep [0, 1, 7, 8, 9] fun r5 hkeep => ?_
    obtain ⟨e0_5, e1_5, e7_5, e8_5, e9_5, -⟩ := hkeep
    simp [go_sem, e0_4, e1_4, e7_4, e8] at e0_5 e1_5 e7_5 e8_5 e9_5
    clear e0_4 e1_4 e7_4 e8
    refine Wp.seq ?_
    by_cases h : k < n
    · refine Wp.condT (by go_simp) ?_
      have hkx : k < xs.length := by omega
      have y0 := xw.cell (hx.c k hkx 0 _ rfl)
      have y1 := xw.cell (hx.c k hkx 1 _ rfl)
      have y2 := xw.cell (hx.c k hkx 2 _ rfl)
      have y3 := xw.cell (hx.c k hkx 3 _ rfl)
      have y4 := xw.cell (hx.c k hkx 4 _ rfl)
      have y5 := xw.cell (hx.c k hkx 5 _ rfl)
      rw [Nat.add_zero] at y0
      by_cases hq : p xs[k] = true
      · skip
        refine Wp.skip ?_
        refine thenK_normal ?_
        refine Wp.seq ?_
        refine Wp.block ?_
        refine Wp.seqRegion (.inl rfl) (by kernel_rfl) fun K' gd hK hg => ?_
        clear hg
        go_simp
        refine hK _ _ ?_
        clear hK K' gd
        refine Wp.keep [0, 1, 5, 7, 8] fun r6 hkeep => ?_
        obtain ⟨e0_6, e1_6, e5_6, e7_6, e8_6, -⟩ := hkeep
        simp [go_sem, e0_5, e1_5, e7_5, e8_5, e9_5] at e0_6 e1_6 e5_6 e7_6 e8_6
        clear e0_5 e1_5 e7_5 e8_5 e9_5
        refine Wp.seqRegion (.inl rfl) (by kernel_rfl) fun K' gd hK hg => ?_
        clear hg
        refine Wops.cut 6 fun K1 hK1 => ?_
        simp only [List.take_succ_cons, List.take_zero]
        go_simp
        refine Wcall (.inl rfl) (hp xs[k] (List.getElem_mem hkx) _ xw) ?_
        rintro v w2 ⟨rfl, hE⟩
        go_simp
        refine hK1 _ _ ?_
        clear hK1 K1
        simp only [List.drop_succ_cons, List.drop_zero]
        have z7 := Below.size hE
        replace xw := Ext.trans xw hE
        replace xl1 := Ext.trans xl1 hE
        replace y0 := Ext.cell hE y0
        replace y1 := Ext.cell hE y1
        replace y2 := Ext.cell hE y2
        replace y3 := Ext.cell hE y3
        replace y4 := Ext.cell hE y4
        replace y5 := Ext.cell hE y5
        clear hE
        try simp only [Wops_nil, updO_some, updO_none]
        refine hK _ _ ?_
        clear hK K' gd
        refine Wp.keep [0, 1, 5, 7, 8, 16] fun r8 hkeep => ?_
        obtain ⟨e0_8, e1_8, e5_8, e7_8, e8_8, e16_8, -⟩ := hkeep
        simp [go_sem, e0_6, e1_6, e5_6, e7_6, e8_6] at e0_8 e1_8 e5_8 e7_8 e8_8 e16_8
        clear e0_6 e1_6 e5_6 e7_6 e8_6
        refine Wp.condT (by go_simp) ?_
        refine Wp.seqRegion (.inl rfl) (by kernel_rfl) fun K' gd hK hg => ?_
        clear hg
        go_simp
        refine hK _ _ ?_
        clear hK K' gd
        refine Wp.keep [4] fun r9 hkeep => ?_
        obtain ⟨e4_9, -⟩ := hkeep
        simp [go_sem, e0_8, e1_8, e5_8, e7_8, e8_8, e16_8] at e4_9
        clear e0_8 e1_8 e5_8 e7_8 e8_8 e16_8
        refine Wp.ret ?_
        refine blockK_ret ?_
        refine thenK_ret ?_
        refine thenK_ret ?_
        refine blockK_ret ?_
        refine thenK_ret ?_
        refine endK_tmp Try.results154 (by decide) ?_
        rw [e4_9]
        exact ⟨.inr ⟨k, hkx, rfl, hq, hno.choose_spec⟩, xw⟩
      · skip
        refine Wp.skip ?_
        refine thenK_normal ?_
        refine Wp.seq ?_
        refine Wp.block ?_
        refine Wp.seqRegion (.inl rfl) (by kernel_rfl) fun K' gd hK hg => ?_
        clear hg
        go_simp
        refine hK _ _ ?_
        clear hK K' gd
        refine Wp.keep [0, 1, 5, 7, 8] fun r10 hkeep => ?_
        obtain ⟨e0_10, e1_10, e5_10, e7_10, e8_10, -⟩ := hkeep
        simp [go_sem, e0_5, e1_5, e7_5, e8_5, e9_5] at e0_10 e1_10 e5_10 e7_10 e8_10
        clear e0_5 e1_5 e7_5 e8_5 e9_5
        refine Wp.seqRegion (.inl rfl) (by kernel_rfl) fun K' gd hK hg => ?_
        clear hg
        refine Wops.cut 6 fun K1 hK1 => ?_
        simp only [List.take_succ_cons, List.take_zero]
        go_simp
        refine Wcall (.inl rfl) (hp xs[k] (List.getElem_mem hkx) _ xw) ?_
        rintro v w2 ⟨rfl, hE⟩
        go_simp
        refine hK1 _ _ ?_
        clear hK1 K1
        simp only [List.drop_succ_cons, List.drop_zero]
        have z11 := Below.size hE
        replace xw := Ext.trans xw hE
        replace xl1 := Ext.trans xl1 hE
        replace y0 := Ext.cell hE y0
        replace y1 := Ext.cell hE y1
        replace y2 := Ext.cell hE y2
        replace y3 := Ext.cell hE y3
        replace y4 := Ext.cell hE y4
        replace y5 := Ext.cell hE y5
        clear hE
        try simp only [Wops_nil, updO_some, updO_none]
        refine hK _ _ ?_
        clear hK K' gd
        refine Wp.keep [0, 1, 5, 7, 8, 16] fun r12 hkeep => ?_
        obtain ⟨e0_12, e1_12, e5_12, e7_12, e8_12, e16_12, -⟩ := hkeep
        simp [go_sem, e0_10, e1_10, e5_10, e7_10, e8_10] at e0_12 e1_12 e5_12 e7_12 e8_12 e16_12
        clear e0_10 e1_10 e5_10 e7_10 e8_10
        refine Wp.condF (by go_simp) ?_
        refine Wp.skip ?_
        refine blockK_normal ?_
        refine thenK_normal ?_
        refine Wp.loneRegion (.inl rfl) (by kernel_rfl) fun K' gd hK hg => ?_
        clear hg
        go_simp
        refine hK _ _ ?_
        clear hK K' gd
        refine Ends.keep [0, 1, 7, 8] fun r13 hkeep => ?_
        obtain ⟨e0_13, e1_13, e7_13, e8_13, -⟩ := hkeep
        simp [go_sem, e0_12, e1_12, e5_12, e7_12, e8_12, e16_12] at e0_13 e1_13 e7_13 e8_13
        clear e0_12 e1_12 e5_12 e7_12 e8_12 e16_12
        refine Ends.mk ?_
        refine thenK_normal ⟨by omega, ⟨by rw [e0_13, e0_3], by rw [e1_13, e1_3], by rw [e7_13, e7_3], trivial⟩, rfl, xl1, ?_⟩
        exact ⟨by rw [e8_13, IntWalk.i64_in _ (by omega)]; rfl, (), fun a ha => by rw [take_snoc hkx, List.mem_append, List.mem_singleton] at ha; rcases ha with ha | rfl; exact hno.choose_spec a ha; simpa using hq⟩
    · refine Wp.condF (by go_simp) ?_
      obtain rfl : k = n := by omega
      refine Wp.exit ?_
      refine thenK_exit ?_
      refine thenK_exit ?_
      refine blockK_here ?_
      refine thenK_normal ?_
      refine Wp.seqRegion (.inl rfl) (by kernel_rfl) fun K' gd hK hg => ?_
      clear hg
      go_simp
      refine hK _ _ ?_
      clear hK K' gd
      refine Wp.keep [4] fun r14 hkeep => ?_
      obtain ⟨e4_14, -⟩ := hkeep
      simp [go_sem, e0_5, e1_5, e7_5, e8_5, e9_5] at e4_14
      clear e0_5 e1_5 e7_5 e8_5 e9_5
      refine Wp.ret ?_
      refine endK_tmp Try.results154 (by decide) ?_
      rw [e4_14]
      exact ⟨.inl ⟨rfl, fun a ha => hno.choose_spec a (by rw [List.take_of_length_le (by omega)]; exact ha)⟩, xw⟩
end Go.Proofs.Ytnjajbkkgfohaaa
namespace Go.Proofs.Ytnjajbkkgfohaaa
open Go.RowKit Go.Wk Go.Proofs
attribute [local irreducible] Go.Wk.Wops Go.Wk.Wp Go.Wk.Mtree Go.Wk.Mops
set_option maxHeartbeats 8000000
set_option maxRecDepth 20000

def filN (p : Alt → Bool) (al : List Alt) : List Alt := al.filter fun a => !p a
theorem filN_all {p : Alt → Bool} {al : List Alt} (h : ∀ a ∈ al, p a = false) : filN p al = al := List.filter_eq_self.2 fun a ha => by rw [h a ha]; rfl
theorem filN_T {p : Alt → Bool} {al : List Alt} {j : Nat} (h : j < al.length) (hp : p al[j] = true) : filN p (al.take (j + 1)) = filN p (al.take j) := by
  unfold filN; rw [take_snoc h, List.filter_append, List.filter_cons_of_neg (by rw [hp]; decide)]; simp
theorem filN_F {p : Alt → Bool} {al : List Alt} {j : Nat} (h : j < al.length) (hp : p al[j] = false) : filN p (al.take (j + 1)) = filN p (al.take j) ++ [al[j]] := by
  unfold filN; rw [take_snoc h, List.filter_append, List.filter_cons_of_pos (by rw [hp]; rfl)]; simp
theorem RowA.some6 {W : World} {b i : Nat} {xs : List Alt} (h : RowA W b xs) (hi : i < xs.length) {v0 v1 v2 v3 v4 v5 : Value} : ∀ j, j < [v0, v1, v2, v3, v4, v5].length → (W.cell? ⟨b, i * 6 + j, none⟩).isSome = true := fun j hj => by
  rw [h.c i hi j _ (List.getElem?_eq_getElem (show j < (encA xs[i]).length from hj))]; rfl
theorem RowA.someZ {W : World} {b i m : Nat} {xs : List Alt} (h : RowA W b xs) (hm : i + m ≤ xs.length) : ∀ j, j < m * 6 → (W.cell? ⟨b, i * 6 + j, none⟩).isSome = true := fun j hj => by
  have h6 : j % 6 < 6 := Nat.mod_lt _ (by omega)
  have hd := Nat.div_add_mod j 6
  have := h.c (i + j / 6) (by omega) (j % 6) _ (List.getElem?_eq_getElem (show j % 6 < (encA xs[i + j / 6]).length from h6))
  rw [show (i + j / 6) * 6 + j % 6 = i * 6 + j by omega] at this
  rw [this]; rfl
theorem set_mid {F mt R : List Alt} {m0 x : Alt} : (F ++ m0 :: mt ++ x :: R).set F.length x = (F ++ [x]) ++ (mt ++ [x]) ++ R := by
  rw [List.append_assoc, List.set_append_right _ _ (Nat.le_refl _), Nat.sub_self]; simp
theorem exec_clear {P : Program} {ev : Operand → Value} {o : Oper} {s : Operand} {t : TypeId} (ho : o.op = .call { callee := .builtin .clear, args := #[s], argTypes := #[t] }) {v vs : Value} {w w' : World}
    (h : (Builtin.clear_ #[t] o.type #[vs]).run P w = .ok v w') (h1 : ev s = vs) : (execOp ev o).run P w = .ok (.value v) w' := by
  unfold execOp
  simp only [ho, resolve, invoke, builtin, Sem.run_bind, Sem.run_pure, Result.andThen_ok, List.map_toArray, List.map_cons, List.map_nil, h1, h]
theorem indexA2_c (b n c : Nat) (xs : List Alt) (p : Alt → Bool) (gf : Nat) (en : Value) (w : World) (hx : RowA w b xs) (hn : xs.length = n) (hl : n ≤ 1000000000)
    (heg : ∀ args w, (callFunc gf args).run Try.prog w = .ok (.enter gf args) w)
    (hp : ∀ a ∈ xs, ∀ W, Ext w W → CallsV Try.prog gf #[altV a, en] W fun v W' => v = .bool (p a) ∧ Ext W W') :
    CallsV Try.prog 154 #[.slice (some ⟨b, 0, none⟩) n c, .func (.func gf) #[] #[en]] w fun v w' =>
      ∃ r : Int, v = .int .i64 r ∧ (r = -1 → ∀ a ∈ xs, p a = false) ∧ (¬ r = -1 → ∃ (k : Nat) (h : k < xs.length), r = (k : Int) ∧ p xs[k] = true ∧ ∀ a ∈ xs.take k, p a = false) ∧ Ext w w' :=
  (indexA_c b n c xs p gf en w hx hn hl heg hp).mono fun v w' ⟨h, hE⟩ => by
    rcases h with ⟨rfl, h⟩ | ⟨k, hk, rfl, h1, h2⟩
    · exact ⟨-1, rfl, fun _ => h, fun q => absurd rfl q, hE⟩
    · exact ⟨k, rfl, fun q => absurd q (by omega), fun _ => ⟨k, hk, rfl, h1, h2⟩, hE⟩
theorem deleteA_c (b n c : Nat) (al : List Alt) (p : Alt → Bool) (gf : Nat) (en : Value) (w : World) (hx : RowA w b al) (hn : al.length = n) (hnc : n ≤ c) (hl : n ≤ 1000000000)
    (heg : ∀ args w, (callFunc gf args).run Try.prog w = .ok (.enter gf args) w)
    (hp : ∀ a ∈ al, ∀ W, Chg [b] w W → CallsV Try.prog gf #[altV a, en] W fun v W' => v = .bool (p a) ∧ Ext W W') :
    CallsV Try.prog 136 #[.slice (some ⟨b, 0, none⟩) n c, .func (.func gf) #[] #[en]] w fun v w' =>
      (v = .slice (some ⟨b, 0, none⟩) (filN p al).length c ∧ ∀ i (h : i < (filN p al).length) r u, (encA (filN p al)[i])[r]? = some u → w'.cell? ⟨b, i * 6 + r, none⟩ = some u) ∧ Chg [b] w w' := by
  have lb := hx.len
  refine Wp.fn Try.func136 rfl Try.ntmps136 (by simp) ?_
  have xw := Ext.refl w
  refine Wp.keep [0, 1] fun r1 hkeep => ?_
  obtain ⟨e0_1, e1_1, -⟩ := hkeep
  simp [go_sem] at e0_1 e1_1
  have xq := Chg.refl [b] w
  refine Wp.seqRegion (.inl rfl) (by kernel_rfl) fun K' gd hK hg => ?_
  clear hg
  go_simp
  refine hK _ _ ?_
  clear hK K' gd
  refine Wp.keep [0, 1] fun r2 hkeep => ?_
  obtain ⟨e0_2, e1_2, -⟩ := hkeep
  simp [go_sem, e0_1, e1_1] at e0_2 e1_2
  clear e0_1 e1_1
  refine Wp.seqRegion (.inl rfl) (by kernel_rfl) fun K' gd hK hg => ?_
  clear hg
  refine Wops.cut 3 fun K1 hK1 => ?_
  simp only [List.take_succ_cons, List.take_zero]
  go_simp
  refine Wcall (.inl rfl) (indexA2_c b n c al p gf en _ (hx.ext xw) hn hl heg (fun a ha W hW => hp a ha W (xq.ext hW))) ?_
  rintro v w2 ⟨r, rfl, hI1, hI2, hE⟩
  go_simp
  refine hK1 _ _ ?_
  clear hK1 K1
  simp only [List.drop_succ_cons, List.drop_zero]
  have z3 := Below.size hE
  replace xw := Ext.trans xw hE
  replace xq := Chg.ext xq hE
  clear hE
  go_simp
  refine hK _ _ ?_
  clear hK K' gd
  refine Wp.keep [0, 1, 5] fun r4 hkeep => ?_
  obtain ⟨e0_4, e1_4, e5_4, -⟩ := hkeep
  simp [go_sem, e0_2, e1_2] at e0_4 e1_4 e5_4
  clear e0_2 e1_2
  by_cases hr : r = -1
  · skip
    have hall := filN_all (hI1 hr)
    have hxr := hx.ext xw
    subst hr
    refine Wp.seq ?_
    refine Wp.seqRegion (.inl rfl) (by kernel_rfl) fun K' gd hK hg => ?_
    clear hg
    go_simp
    refine hK _ _ ?_
    clear hK K' gd
    refine Wp.keep [0, 1, 5, 12] fun r5 hkeep => ?_
    obtain ⟨e0_5, e1_5, e5_5, e12_5, -⟩ := hkeep
    simp [go_sem, e0_4, e1_4, e5_4] at e0_5 e1_5 e5_5 e12_5
    clear e0_4 e1_4 e5_4
    refine Wp.condT (by go_simp) ?_
    refine Wp.seqRegion (.inl rfl) (by kernel_rfl) fun K' gd hK hg => ?_
    clear hg
    go_simp
    refine hK _ _ ?_
    clear hK K' gd
    refine Wp.keep [4] fun r6 hkeep => ?_
    obtain ⟨e4_6, -⟩ := hkeep
    simp [go_sem, e0_5, e1_5, e5_5, e12_5] at e4_6
    clear e0_5 e1_5 e5_5 e12_5
    refine Wp.ret ?_
    refine thenK_ret ?_
    refine endK_tmp Try.results136 (by decide) ?_
    rw [e4_6]
    refine ⟨⟨by rw [hall, hn], ?_⟩, xq⟩
    rw [hall]
    exact hxr.c
  · skip
    obtain ⟨k, hk, rfl, hpk, hbef⟩ := hI2 hr
    have hwk : IntKind.i64.wrap ((k : Int) + 1) = ((k + 1 : Nat) : Int) := by rw [IntWalk.i64_in _ (by omega)]; omega
    obtain ⟨k5, hk5⟩ : ∃ k5 : Nat, ∃ _u : Unit, k + 1 = k5 := ⟨_, (), rfl⟩
    rw [hk5.choose_spec] at hwk
    have hf0 : ∃ _u : Unit, filN p (al.take k5) = al.take k ∧ al.take k ++ [al[k]] ++ al.drop k5 = al := ⟨(), by rw [← hk5.choose_spec, filN_T hk hpk]; exact filN_all hbef, by rw [← hk5.choose_spec, ← take_snoc hk, List.take_append_drop]⟩
    clear hI1 hI2
    refine Wp.seq ?_
    refine Wp.seqRegion (.inl rfl) (by kernel_rfl) fun K' gd hK hg => ?_
    clear hg
    go_simp
    refine hK _ _ ?_
    clear hK K' gd
    refine Wp.keep [0, 1, 5, 12] fun r7 hkeep => ?_
    obtain ⟨e0_7, e1_7, e5_7, e12_7, -⟩ := hkeep
    simp [go_sem, e0_4, e1_4, e5_4] at e0_7 e1_7 e5_7 e12_7
    clear e0_4 e1_4 e5_4
    refine Wp.condF (by go_simp) ?_
    refine Wp.skip ?_
    refine thenK_normal ?_
    refine Wp.seq ?_
    refine Wp.seqRegion (.inl rfl) (by kernel_rfl) fun K' gd hK hg => ?_
    clear hg
    go_simp
    refine hK _ _ ?_
    clear hK K' gd
    refine Wp.keep [0, 1, 5, 6] fun r8 hkeep => ?_
    obtain ⟨e0_8, e1_8, e5_8, e6_8, -⟩ := hkeep
    simp [go_sem, e0_7, e1_7, e5_7, e12_7] at e0_8 e1_8 e5_8 e6_8
    clear e0_7 e1_7 e5_7 e12_7
    refine Wp.block ?_
    refine Wp.loop (fun u ρ ds wu => AllEq [0, 1] ρ r8 ∧ ds = [] ∧ (Chg [b] w2 wu) ∧ (∃ (j : Nat) (Fj mid R : List Alt), ρ 5 = .int .i64 (Fj.length : Int) ∧ ρ 6 = .int .i64 (j : Int) ∧ RowA wu b (Fj ++ mid ++ R) ∧ (∃ _u : Unit, j = k5 + u ∧ Fj = filN p (al.take j) ∧ R = al.drop j ∧ mid.length + Fj.length = j ∧ mid ≠ []))) (n - k5) ?_ ?_
    · refine ⟨AllEq.refl _ _, rfl, Chg.refl _ _, ?_⟩
      exact ⟨k5, al.take k, [al[k]], al.drop k5, by rw [e5_8, List.length_take]; congr 1; omega, by rw [e6_8], by rw [hf0.choose_spec.2]; exact hx.ext xw, (), rfl, hf0.choose_spec.1.symm, rfl, by have := hk5.choose_spec; simp; omega, by simp⟩
    · rintro u r9 _ wu hu ⟨hA, rfl, xo, ⟨j, Fj, mid, R, e5, e6, hR, hI⟩⟩
      obtain ⟨e0_9, e1_9, -⟩ := hA
      rw [e0_8] at e0_9
      rw [e1_8] at e1_9
      have zxo := Chg.size xo
      clear xw
      replace xq := Chg.more xq xo (by intro b hm; simp only [List.mem_cons, List.not_mem_nil, or_false] at hm; first | (left; omega) | (right; simp [hm]))
      have hjn : j ≤ n := by obtain ⟨h1, h2, h3, h4, h5⟩ := hI.choose_spec; have := hk5.choose_spec; omega
      have hFj : Fj.length < j := by obtain ⟨h1, h2, h3, h4, h5⟩ := hI.choose_spec; have := List.length_pos_iff.2 h5; omega
      by_cases hju : (j : Int) < (n : Int)
      · skip
        obtain ⟨x, R2, hxR, hxe⟩ : ∃ x R2, R = x :: R2 ∧ ∃ _u : Unit, al[j]? = some x ∧ R2 = al.drop (j + 1) := by obtain ⟨h1, h2, h3, h4, h5⟩ := hI.choose_spec; exact ⟨al[j]'(by omega), al.drop (j + 1), h3.trans (drop_cons (by omega)), (), List.getElem?_eq_getElem _, rfl⟩
        subst hxR
        obtain ⟨m0, mt, hm0⟩ : ∃ m0 mt, mid = m0 :: mt := by obtain ⟨h1, h2, h3, h4, h5⟩ := hI.choose_spec; exact List.exists_cons_of_ne_nil h5
        subst hm0
        have hml : ∃ _u : Unit, (Fj ++ m0 :: mt).length = j := ⟨(), by obtain ⟨h1, h2, h3, h4, h5⟩ := hI.choose_spec; rw [List.length_append]; omega⟩
        have hcl : j < (Fj ++ m0 :: mt ++ x :: R2).length := by have := hml.choose_spec; rw [List.length_append]; simp at this ⊢; omega
        have hcx : ∃ _u : Unit, (Fj ++ m0 :: mt ++ x :: R2)[j] = x := ⟨(), by rw [List.getElem_append_right (by have := hml.choose_spec; omega)]; simp [hml.choose_spec]⟩
        have y0 := hR.c j hcl 0 _ rfl
        have y1 := hR.c j hcl 1 _ rfl
        have y2 := hR.c j hcl 2 _ rfl
        have y3 := hR.c j hcl 3 _ rfl
        have y4 := hR.c j hcl 4 _ rfl
        have y5 := hR.c j hcl 5 _ rfl
        rw [hcx.choose_spec] at y0 y1 y2 y3 y4 y5
        rw [Nat.add_zero] at y0
        have hxm : x ∈ al := List.mem_of_getElem? hxe.choose_spec.1
        have hjp : j < al.length := by omega
        have hxg : ∃ _u : Unit, al[j] = x := ⟨(), by have := hxe.choose_spec.1; rw [List.getElem?_eq_getElem hjp] at this; injection this⟩
        by_cases hq : p x = true
        · skip
          refine Wp.seq ?_
          refine Wp.seqRegion (.inl rfl) (by kernel_rfl) fun K' gd hK hg => ?_
          clear hg
          go_simp
          refine hK _ _ ?_
          clear hK K' gd
          refine Wp.keep [0, 1, 5, 6, 19] fun r10 hkeep => ?_
          obtain ⟨e0_10, e1_10, e5_10, e6_10, e19_10, -⟩ := hkeep
          simp [go_sem, e0_9, e1_9, e5, e6] at e0_10 e1_10 e5_10 e6_10 e19_10
          clear e0_9 e1_9 e5 e6
          refine Wp.condT (by go_simp) ?_
          refine Wp.skip ?_
          refine thenK_normal ?_
          refine Wp.seq ?_
          refine Wp.block ?_
          refine Wp.seqRegion (.inl rfl) (by kernel_rfl) fun K' gd hK hg => ?_
          clear hg
          refine Wops.cut 6 fun K1 hK1 => ?_
          simp only [List.take_succ_cons, List.take_zero]
          go_simp
          refine hK1 _ _ ?_
          clear hK1 K1
          simp only [List.drop_succ_cons, List.drop_zero]
          refine Wops.absA fun V7_3 n7 hV7_3 => ?_
          obtain ⟨q7, hV7_3, s7, kV7_3, f7, r7⟩ := hV7_3
          try simp only [q7] at kV7_3 f7 r7 ⊢
          replace hR := hR.ext hV7_3
          replace xq := Chg.ext xq hV7_3
          replace xo := Chg.ext xo hV7_3
          replace y0 := Ext.cell hV7_3 y0
          replace y1 := Ext.cell hV7_3 y1
          replace y2 := Ext.cell hV7_3 y2
          replace y3 := Ext.cell hV7_3 y3
          replace y4 := Ext.cell hV7_3 y4
          replace y5 := Ext.cell hV7_3 y5
          have c7_0 := kV7_3 0 _ rfl
          have c7_1 := kV7_3 1 _ rfl
          have c7_2 := kV7_3 2 _ rfl
          have c7_3 := kV7_3 3 _ rfl
          have c7_4 := kV7_3 4 _ rfl
          have c7_5 := kV7_3 5 _ rfl
          clear kV7_3 hV7_3
          clear r7
          try simp only [Wops_nil, updO_some, updO_none]
          refine hK _ _ ?_
          clear hK K' gd
          refine Wp.keep [0, 1, 5, 6, 7] fun r11 hkeep => ?_
          obtain ⟨e0_11, e1_11, e5_11, e6_11, e7_11, -⟩ := hkeep
          simp [go_sem, e0_10, e1_10, e5_10, e6_10, e19_10] at e0_11 e1_11 e5_11 e6_11 e7_11
          clear e0_10 e1_10 e5_10 e6_10 e19_10
          refine Wp.seqRegion (.inl rfl) (by kernel_rfl) fun K' gd hK hg => ?_
          clear hg
          refine Wops.cut 3 fun K1 hK1 => ?_
          simp only [List.take_succ_cons, List.take_zero]
          go_simp
          refine Wcall (.inl rfl) (hp x hxm _ xq) ?_
          rintro v w3 ⟨rfl, hE⟩
          go_simp
          refine hK1 _ _ ?_
          clear hK1 K1
          simp only [List.drop_succ_cons, List.drop_zero]
          have z12 := Below.size hE
          replace f7 := Ext.fz hE c7_0 f7
          replace hR := hR.ext hE
          replace xq := Chg.ext xq hE
          replace xo := Chg.ext xo hE
          replace y0 := Ext.cell hE y0
          replace y1 := Ext.cell hE y1
          replace y2 := Ext.cell hE y2
          replace y3 := Ext.cell hE y3
          replace y4 := Ext.cell hE y4
          replace y5 := Ext.cell hE y5
          replace c7_0 := Ext.cell hE c7_0
          replace c7_1 := Ext.cell hE c7_1
          replace c7_2 := Ext.cell hE c7_2
          replace c7_3 := Ext.cell hE c7_3
          replace c7_4 := Ext.cell hE c7_4
          replace c7_5 := Ext.cell hE c7_5
          clear hE
          go_simp
          refine hK _ _ ?_
          clear hK K' gd
          refine Wp.keep [0, 1, 5, 6, 7, 29] fun r13 hkeep => ?_
          obtain ⟨e0_13, e1_13, e5_13, e6_13, e7_13, e29_13, -⟩ := hkeep
          simp [go_sem, e0_11, e1_11, e5_11, e6_11, e7_11] at e0_13 e1_13 e5_13 e6_13 e7_13 e29_13
          clear e0_11 e1_11 e5_11 e6_11 e7_11
          refine Wp.condF (by go_simp) ?_
          refine Wp.skip ?_
          refine blockK_normal ?_
          refine thenK_normal ?_
          refine Wp.loneRegion (.inl rfl) (by kernel_rfl) fun K' gd hK hg => ?_
          clear hg
          go_simp
          refine hK _ _ ?_
          clear hK K' gd
          refine Ends.keep [0, 1, 5, 6] fun r14 hkeep => ?_
          obtain ⟨e0_14, e1_14, e5_14, e6_14, -⟩ := hkeep
          simp [go_sem, e0_13, e1_13, e5_13, e6_13, e7_13, e29_13] at e0_14 e1_14 e5_14 e6_14
          clear e0_13 e1_13 e5_13 e6_13 e7_13 e29_13
          refine Ends.mk ?_
          refine thenK_normal ⟨by omega, ⟨by rw [e0_14, e0_8], by rw [e1_14, e1_8], trivial⟩, rfl, xo, ?_⟩
          exact ⟨j + 1, Fj, (m0 :: mt) ++ [x], R2, by rw [e5_14], by rw [e6_14, IntWalk.i64_in _ (by omega)]; rfl, by simpa using hR, (), by have := hI.choose_spec.1; omega, by rw [filN_T hjp (by rw [hxg.choose_spec]; exact hq)]; exact hI.choose_spec.2.1, hxe.choose_spec.2, by have := hI.choose_spec.2.2.2.1; rw [List.length_append]; simp; simp at this; omega, by simp⟩
        · skip
          refine Wp.seq ?_
          refine Wp.seqRegion (.inl rfl) (by kernel_rfl) fun K' gd hK hg => ?_
          clear hg
          go_simp
          refine hK _ _ ?_
          clear hK K' gd
          refine Wp.keep [0, 1, 5, 6, 19] fun r15 hkeep => ?_
          obtain ⟨e0_15, e1_15, e5_15, e6_15, e19_15, -⟩ := hkeep
          simp [go_sem, e0_9, e1_9, e5, e6] at e0_15 e1_15 e5_15 e6_15 e19_15
          clear e0_9 e1_9 e5 e6
          refine Wp.condT (by go_simp) ?_
          refine Wp.skip ?_
          refine thenK_normal ?_
          refine Wp.seq ?_
          refine Wp.block ?_
          refine Wp.seqRegion (.inl rfl) (by kernel_rfl) fun K' gd hK hg => ?_
          clear hg
          refine Wops.cut 6 fun K1 hK1 => ?_
          simp only [List.take_succ_cons, List.take_zero]
          go_simp
          refine hK1 _ _ ?_
          clear hK1 K1
          simp only [List.drop_succ_cons, List.drop_zero]
          refine Wops.absA fun V7_4 n7 hV7_4 => ?_
          obtain ⟨q7, hV7_4, s7, kV7_4, f7, r7⟩ := hV7_4
          try simp only [q7] at kV7_4 f7 r7 ⊢
          replace hR := hR.ext hV7_4
          replace xq := Chg.ext xq hV7_4
          replace xo := Chg.ext xo hV7_4
          replace y0 := Ext.cell hV7_4 y0
          replace y1 := Ext.cell hV7_4 y1
          replace y2 := Ext.cell hV7_4 y2
          replace y3 := Ext.cell hV7_4 y3
          replace y4 := Ext.cell hV7_4 y4
          replace y5 := Ext.cell hV7_4 y5
          have c7_0 := kV7_4 0 _ rfl
          have c7_1 := kV7_4 1 _ rfl
          have c7_2 := kV7_4 2 _ rfl
          have c7_3 := kV7_4 3 _ rfl
          have c7_4 := kV7_4 4 _ rfl
          have c7_5 := kV7_4 5 _ rfl
          clear kV7_4 hV7_4
          clear r7
          try simp only [Wops_nil, updO_some, updO_none]
          refine hK _ _ ?_
          clear hK K' gd
          refine Wp.keep [0, 1, 5, 6, 7] fun r16 hkeep => ?_
          obtain ⟨e0_16, e1_16, e5_16, e6_16, e7_16, -⟩ := hkeep
          simp [go_sem, e0_15, e1_15, e5_15, e6_15, e19_15] at e0_16 e1_16 e5_16 e6_16 e7_16
          clear e0_15 e1_15 e5_15 e6_15 e19_15
          refine Wp.seqRegion (.inl rfl) (by kernel_rfl) fun K' gd hK hg => ?_
          clear hg
          refine Wops.cut 3 fun K1 hK1 => ?_
          simp only [List.take_succ_cons, List.take_zero]
          go_simp
          refine Wcall (.inl rfl) (hp x hxm _ xq) ?_
          rintro v w3 ⟨rfl, hE⟩
          go_simp
          refine hK1 _ _ ?_
          clear hK1 K1
          simp only [List.drop_succ_cons, List.drop_zero]
          have z17 := Below.size hE
          replace f7 := Ext.fz hE c7_0 f7
          replace hR := hR.ext hE
          replace xq := Chg.ext xq hE
          replace xo := Chg.ext xo hE
          replace y0 := Ext.cell hE y0
          replace y1 := Ext.cell hE y1
          replace y2 := Ext.cell hE y2
          replace y3 := Ext.cell hE y3
          replace y4 := Ext.cell hE y4
          replace y5 := Ext.cell hE y5
          replace c7_0 := Ext.cell hE c7_0
          replace c7_1 := Ext.cell hE c7_1
          replace c7_2 := Ext.cell hE c7_2
          replace c7_3 := Ext.cell hE c7_3
          replace c7_4 := Ext.cell hE c7_4
          replace c7_5 := Ext.cell hE c7_5
          clear hE
          go_simp
          refine hK _ _ ?_
          clear hK K' gd
          refine Wp.keep [0, 1, 5, 6, 7, 29] fun r18 hkeep => ?_
          obtain ⟨e0_18, e1_18, e5_18, e6_18, e7_18, e29_18, -⟩ := hkeep
          simp [go_sem, e0_16, e1_16, e5_16, e6_16, e7_16] at e0_18 e1_18 e5_18 e6_18 e7_18 e29_18
          clear e0_16 e1_16 e5_16 e6_16 e7_16
          refine Wp.condT (by go_simp) ?_
          have hFl : Fj.length < (Fj ++ m0 :: mt ++ x :: R2).length := by rw [List.length_append, List.length_append]; simp; omega
          have hFn : (Fj.length : Int) < (n : Int) := by omega
          have hwF : IntKind.i64.wrap ((Fj.length : Int) + 1) = ((Fj.length + 1 : Nat) : Int) := by rw [IntWalk.i64_in _ (by omega)]; omega
          have fb := hR.fz
          have z0 := hR.c Fj.length hFl 0 _ rfl
          rw [Nat.add_zero] at z0
          have z1 := hR.c Fj.length hFl 1 _ rfl
          have z2 := hR.c Fj.length hFl 2 _ rfl
          have z3 := hR.c Fj.length hFl 3 _ rfl
          have z4 := hR.c Fj.length hFl 4 _ rfl
          have z5 := hR.c Fj.length hFl 5 _ rfl
          refine Wp.seqRegion (.inl rfl) (by kernel_rfl) fun K' gd hK hg => ?_
          clear hg
          refine Wops.cut 5 fun K1 hK1 => ?_
          simp only [List.take_succ_cons, List.take_zero]
          go_simp
          refine hK1 _ _ ?_
          clear hK1 K1
          simp only [List.drop_succ_cons, List.drop_zero]
          refine Wops.absS (b := b) (i := Fj.length * 6) [_, _, _, _, _, _] (hR.some6 hFl) fun P9 hP9 => ?_
          have zP9 := hP9.same
          replace f7 := Put.frz hP9 f7
          replace xq := Put.more xq hP9 (.inr (by simp))
          replace xo := Put.more xo hP9 (.inr (by simp))
          replace c7_0 := Put.cell hP9 c7_0 (by omega)
          replace c7_1 := Put.cell hP9 c7_1 (by omega)
          replace c7_2 := Put.cell hP9 c7_2 (by omega)
          replace c7_3 := Put.cell hP9 c7_3 (by omega)
          replace c7_4 := Put.cell hP9 c7_4 (by omega)
          replace c7_5 := Put.cell hP9 c7_5 (by omega)
          try simp only [Wops_nil, updO_some, updO_none]
          refine hK _ _ ?_
          clear hK K' gd
          refine Wp.keep [0, 1, 5, 6] fun r19 hkeep => ?_
          obtain ⟨e0_19, e1_19, e5_19, e6_19, -⟩ := hkeep
          simp [go_sem, e0_18, e1_18, e5_18, e6_18, e7_18, e29_18] at e0_19 e1_19 e5_19 e6_19
          clear e0_18 e1_18 e5_18 e6_18 e7_18 e29_18
          have hR2 := hR.store hP9 hFl
          rw [set_mid] at hR2
          refine Wp.loneRegion (.inl rfl) (by kernel_rfl) fun K' gd hK hg => ?_
          clear hg
          go_simp
          refine hK _ _ ?_
          clear hK K' gd
          refine Ends.keep [0, 1, 5, 6] fun r20 hkeep => ?_
          obtain ⟨e0_20, e1_20, e5_20, e6_20, -⟩ := hkeep
          simp [go_sem, e0_19, e1_19, e5_19, e6_19] at e0_20 e1_20 e5_20 e6_20
          clear e0_19 e1_19 e5_19 e6_19
          refine Ends.mk ?_
          refine blockK_normal ?_
          refine thenK_normal ?_
          refine Wp.loneRegion (.inl rfl) (by kernel_rfl) fun K' gd hK hg => ?_
          clear hg
          go_simp
          refine hK _ _ ?_
          clear hK K' gd
          refine Ends.keep [0, 1, 5, 6] fun r21 hkeep => ?_
          obtain ⟨e0_21, e1_21, e5_21, e6_21, -⟩ := hkeep
          simp [go_sem, e0_20, e1_20, e5_20, e6_20] at e0_21 e1_21 e5_21 e6_21
          clear e0_20 e1_20 e5_20 e6_20
          refine Ends.mk ?_
          refine thenK_normal ⟨by omega, ⟨by rw [e0_21, e0_8], by rw [e1_21, e1_8], trivial⟩, rfl, xo, ?_⟩
          exact ⟨j + 1, Fj ++ [x], mt ++ [x], R2, by rw [e5_21]; congr 1; simp, by rw [e6_21, IntWalk.i64_in _ (by omega)]; rfl, hR2, (), by have := hI.choose_spec.1; omega, by rw [filN_F hjp (by rw [hxg.choose_spec]; simpa using hq), hxg.choose_spec, ← hI.choose_spec.2.1], hxe.choose_spec.2, by have := hI.choose_spec.2.2.2.1; simp at this ⊢; omega, by simp⟩
      · skip
        have hje : j = n := by omega
        have hfin : ∃ _u : Unit, Fj = filN p al ∧ (Fj ++ mid ++ R).length = n := ⟨(), by obtain ⟨h1, h2, h3, h4, h5⟩ := hI.choose_spec; exact ⟨by rw [h2, List.take_of_length_le (by omega)], by rw [List.length_append, List.length_append, h3, List.length_drop]; omega⟩⟩
        have hFn : Fj.length < n := by omega
        have hFc : (Fj.length : Int) ≤ (n : Int) := by omega
        have hcF : ¬ c = Fj.length := by omega
        have hFc2 : (Fj.length : Int) ≤ (c : Int) := by omega
        refine Wp.seq ?_
        refine Wp.seqRegion (.inl rfl) (by kernel_rfl) fun K' gd hK hg => ?_
        clear hg
        go_simp
        refine hK _ _ ?_
        clear hK K' gd
        refine Wp.keep [0, 1, 5, 6, 19] fun r22 hkeep => ?_
        obtain ⟨e0_22, e1_22, e5_22, e6_22, e19_22, -⟩ := hkeep
        simp [go_sem, e0_9, e1_9, e5, e6] at e0_22 e1_22 e5_22 e6_22 e19_22
        clear e0_9 e1_9 e5 e6
        refine Wp.condF (by go_simp) ?_
        refine Wp.exit ?_
        refine thenK_exit ?_
        refine thenK_exit ?_
        refine blockK_here ?_
        refine thenK_normal ?_
        refine Wp.seqRegion (.inl rfl) (by kernel_rfl) fun K' gd hK hg => ?_
        clear hg
        refine Wops.cut 4 fun K1 hK1 => ?_
        simp only [List.take_succ_cons, List.take_zero]
        refine Wops.cut 3 fun K2 hK2 => ?_
        simp only [List.take_succ_cons, List.take_zero]
        go_simp
        refine hK2 _ _ ?_
        clear hK2 K2
        simp only [List.drop_succ_cons, List.drop_zero]
        obtain hrun := run_clearA wu 23 b (Fj.length * 6) (n - Fj.length) (c - Fj.length) (by omega) (hR.someZ (by rw [hfin.choose_spec.2]; omega)) (fun j _ => hR.fz _)
        refine Wops.law rfl (exec_clear rfl hrun (by go_simp)) ?_
        simp only [updO_some, Wops_nil]
        refine hK1 _ _ ?_
        clear hK1 K1
        simp only [List.drop_succ_cons, List.drop_zero]
        refine Wops.absS (b := b) (i := Fj.length * 6) (zerosA (n - Fj.length)) (by unfold zerosA; rw [List.length_replicate]; exact hR.someZ (by rw [hfin.choose_spec.2]; omega)) fun Pc hPc => ?_
        have zPc := hPc.same
        replace xq := Put.more xq hPc (.inr (by simp))
        replace xo := Put.more xo hPc (.inr (by simp))
        try simp only [Wops_nil, updO_some, updO_none]
        refine hK _ _ ?_
        clear hK K' gd
        refine Wp.keep [0, 5] fun r23 hkeep => ?_
        obtain ⟨e0_23, e5_23, -⟩ := hkeep
        simp [go_sem, e0_22, e1_22, e5_22, e6_22, e19_22] at e0_23 e5_23
        clear e0_22 e1_22 e5_22 e6_22 e19_22
        refine Wp.seqRegion (.inl rfl) (by kernel_rfl) fun K' gd hK hg => ?_
        clear hg
        go_simp
        refine hK _ _ ?_
        clear hK K' gd
        refine Wp.keep [4] fun r24 hkeep => ?_
        obtain ⟨e4_24, -⟩ := hkeep
        simp [go_sem, e0_23, e5_23] at e4_24
        clear e0_23 e5_23
        refine Wp.ret ?_
        refine endK_tmp Try.results136 (by decide) ?_
        rw [e4_24]
        refine ⟨⟨by rw [← hfin.choose_spec.1], ?_⟩, xq⟩
        have hF := hfin.choose_spec.1
        intro i hi r u hu
        have hi2 : i < Fj.length := by rw [hF]; exact hi
        have hu2 : (encA Fj[i])[r]? = some u := by simp only [hF]; exact hu
        have hr6 : r < 6 := (List.getElem?_eq_some_iff.1 hu2).1
        rw [hPc.old (i * 6 + r) (.inl (by omega))]
        exact hR.c i (by rw [List.append_assoc, List.length_append]; omega) r u (by simp only [List.append_assoc]; rw [List.getElem_append_left hi2]; exact hu2)
end Go.Proofs.Ytnjajbkkgfohaaa
