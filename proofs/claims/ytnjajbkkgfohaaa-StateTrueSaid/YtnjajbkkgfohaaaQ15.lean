/- What a line reads, and what can be copied (plain law). Days that fit: of lines, the lesser and the greater ones, narrower ones (plain law). Narrower copies; how long a copy took (plain law). below; what is asked of contracts at right arguments. Floors, ceilings, what shows that a copy cannot have been made (plain law). Before: the program's and the document's. Which changes lie between copies; copies before others (plain law). A copy truly made: its days fit (plain law). -/
import Derived.Test.YtnjajbkkgfohaaaP3
import Derived.Test.YtnjajbkkgfohaaaP5
import Derived.Test.YtnjajbkkgfohaaaP6
set_option linter.all false
namespace Go.Proofs.Ytnjajbkkgfohaaa

theorem readsL_len (f : Face) : (readsL f).length ≤ 2 := by unfold readsL; split <;> split <;> simp
theorem readsL_has (f : Face) (w : Int) : (w ∈ readsL f ∨ w = 0 ∧ (readsL f).length = 0) ↔ rds f w = true := by
  obtain ⟨x, y, z⟩ := f
  unfold readsL rds
  by_cases hw : w = 0
  · subst hw
    by_cases hx : x = 0
    · by_cases hy : y = 0
      · simp [hx, hy]
      · simp [hx, hy]; omega
    · by_cases hy : y = 0
      · simp [hx, hy]; omega
      · by_cases hxy : y = x
        · simp [hx, hxy]; omega
        · simp [hx, hy, hxy]; omega
  · by_cases hx : x = 0
    · by_cases hy : y = 0
      · simp [hw, hx, hy]; omega
      · simp [hw, hx, hy]; constructor <;> intro h <;> omega
    · by_cases hy : y = 0
      · simp [hw, hx, hy]; constructor <;> intro h <;> omega
      · by_cases hxy : y = x
        · simp [hw, hx, hxy]; constructor <;> intro h <;> omega
        · simp [hw, hx, hy, hxy]; constructor <;> intro h <;> omega
theorem onF_prev {i d : Int} : ∀ {l : List Alt} {f : Face}, (∀ a ∈ l, a.day ≠ d) → onF i (d - 1) l f = onF i d l f
  | [], _, _ => rfl
  | a :: l, f, h => by
    have ha := h a List.mem_cons_self
    have e : ∀ e f, onF i e (a :: l) f = onF i e l (if a.day ≤ e then nxt i f a else f) := fun e f => rfl
    rw [e, e]
    by_cases h1 : a.day ≤ d
    · rw [if_pos h1, if_pos (by omega)]; exact onF_prev fun x hx => h x (List.mem_cons_of_mem _ hx)
    · rw [if_neg h1, if_neg (by omega)]; exact onF_prev fun x hx => h x (List.mem_cons_of_mem _ hx)
theorem onF_none {i d : Int} : ∀ {l : List Alt} {f : Face}, (∀ a ∈ l, d < a.day) → onF i d l f = f
  | [], _, _ => rfl
  | a :: l, f, h => by
    have ha := h a List.mem_cons_self
    have e : onF i d (a :: l) f = onF i d l (if a.day ≤ d then nxt i f a else f) := rfl
    rw [e, if_neg (by omega)]; exact onF_none fun x hx => h x (List.mem_cons_of_mem _ hx)
theorem Good.on_zero {s : Sh} (g : Good s) (i : Nat) (h : ∀ a ∈ s.alts, a.day ≠ 0) : s.on i 0 = (s.W i, 0, false) :=
  onF_none fun a ha => by have := (g.rt a ha).2.1.1; have := h a ha; omega
theorem Good.W_pos {s : Sh} (g : Good s) {i : Nat} (h : i < s.words.length) : 1 ≤ s.W i ∧ s.W i ≤ 9999 := by
  unfold Sh.W; rw [List.getElem?_eq_getElem h]; exact g.ws _ (List.getElem_mem h)
theorem Good.reads_zero {s : Sh} (g : Good s) {i : Nat} (hi : i < s.words.length) (h : ∀ a ∈ s.alts, a.day ≠ 0) : readsL (s.on i 0) = [s.W i] := by
  have := g.W_pos hi
  rw [g.on_zero i h]; unfold readsL
  rw [if_pos (by dsimp only; omega)]; simp
theorem Sh.on_prev {s : Sh} {i : Nat} {d : Int} (h : ∀ a ∈ s.alts, a.day ≠ d) : s.on i (d - 1) = s.on i d := onF_prev h
end Go.Proofs.Ytnjajbkkgfohaaa
namespace Go.Proofs.Ytnjajbkkgfohaaa

theorem possF_in {f l : Int} {T : List (Int × Int)} {d : Int} : inside (possF f l T) d ↔ inside T d ∧ f ≤ d ∧ d ≤ l := by
  unfold inside possF
  constructor
  · rintro ⟨y, hy, h1, h2⟩
    rw [List.mem_filterMap] at hy
    obtain ⟨x, hx, h⟩ := hy
    split at h
    · injection h with h; subst h
      dsimp only at h1 h2
      exact ⟨⟨x, hx, by omega, by omega⟩, by omega, by omega⟩
    · cases h
  · rintro ⟨⟨x, hx, h1, h2⟩, h3, h4⟩
    refine ⟨(max x.1 f, min x.2 l), List.mem_filterMap.2 ⟨x, hx, ?_⟩, ?_, ?_⟩
    · rw [if_pos (by omega)]
    · dsimp only; omega
    · dsimp only; omega
theorem fromD_iff {b : Int} {p i : Nat} {l : List Int} {d : Int} : fromD b p l i ≤ d ↔ b ≤ d ∧ (0 < i → gI l (i - 1) ≤ d) ∧ (p ≤ i → gI l (i - p) < d) := by
  constructor
  · intro h
    obtain ⟨h1, h2, h3⟩ := fromD_ge (b := b) (p := p) (i := i) (l := l)
    exact ⟨by omega, fun h0 => by have := h2 h0; omega, fun h0 => by have := h3 h0; omega⟩
  · rintro ⟨h1, h2, h3⟩
    unfold fromD
    split
    · have := h3 ‹_›
      split
      · have := h2 ‹_›; omega
      · omega
    · split
      · have := h2 ‹_›; omega
      · omega
theorem fit_at {m : Md} {dy : List Int} : m.Fit (gI dy) ↔ ∀ j, j < m.n → FitAt m dy j := by
  constructor
  · intro h j hj
    obtain ⟨h1, h2, h3, h4, h5⟩ := h j hj
    exact ⟨⟨h1, h2⟩, h3, fromD_iff.2 ⟨h1, h4, h5⟩⟩
  · intro h j hj
    obtain ⟨⟨h1, h2⟩, h3, h4⟩ := h j hj
    obtain ⟨-, h5, h6⟩ := fromD_iff.1 h4
    exact ⟨h1, h2, h3, h5, h6⟩
theorem fitR_true {s : Sh} {c : Cp} {dy : List Int} : fitE s c dy = 0 ∧ (fitR s c dy).2 = true ↔ copyS s c = 0 ∧ dy.length = s.n ∧ (s.md c).Fit (gI dy) := by
  have he : fitE s c dy = 0 ↔ copyS s c = 0 ∧ dy.length = s.n := by
    unfold fitE
    by_cases h : copyS s c = 0
    · by_cases h2 : dy.length = s.n <;> simp [h, h2]
    · simp [h]
  constructor
  · rintro ⟨h1, h2⟩
    refine ⟨(he.1 h1).1, (he.1 h1).2, fit_at.2 (fitI_none.1 ?_)⟩
    unfold fitR at h2
    rw [if_pos h1] at h2
    cases hf : fitI (s.md c) dy with
    | none => rfl
    | some i => rw [hf] at h2; cases h2
  · rintro ⟨h1, h2, h3⟩
    have h0 := he.2 ⟨h1, h2⟩
    refine ⟨h0, ?_⟩
    unfold fitR
    rw [if_pos h0, fitI_none.2 (fit_at.1 h3)]
theorem fitE_zero {s : Sh} {c : Cp} {dy : List Int} : fitE s c dy = 0 ↔ copyS s c = 0 ∧ dy.length = s.n := by
  unfold fitE
  by_cases h : copyS s c = 0
  · by_cases h2 : dy.length = s.n <;> simp [h, h2]
  · simp [h]
theorem fitR_good {s : Sh} {c : Cp} {dy : List Int} (h0 : copyS s c = 0) (hl : dy.length = s.n) (h : (s.md c).Fit (gI dy)) : fitE s c dy = 0 ∧ fitR s c dy = (0, true) := by
  have h1 := fitE_zero.2 ⟨h0, hl⟩
  exact ⟨h1, by unfold fitR; rw [if_pos h1, fitI_none.2 (fit_at.1 h)]⟩
/-- the earliest days ahead of a line, a day of its own, the latest ones behind it -/
theorem mix_fit {m : Md} (h : MdOk m) (hk : m.ok = true) {i : Nat} (hi : i < m.n) {d : Int} (hc : m.can i d) (h1 : gI m.first i ≤ d) (h2 : d ≤ gI m.last i) :
    m.Fit (gI (m.first.take i ++ d :: m.last.drop (i + 1))) := by
  obtain ⟨f1, -, f2, f3⟩ := h.of_ok hk
  obtain ⟨l1, l2, l3⟩ := h.last_fit hk
  have hle : ∀ j, j < m.n → gI m.first j ≤ gI m.last j := fun j hj => f3 _ l2 j hj
  have g : ∀ j, gI (m.first.take i ++ d :: m.last.drop (i + 1)) j = if j < i then gI m.first j else if j = i then d else gI m.last j := fun j => by
    have ht : (m.first.take i).length = i := by simp; omega
    unfold gI
    by_cases a : j < i
    · rw [if_pos a, List.getElem?_append_left (by omega), List.getElem?_take, if_pos a]
    · rw [if_neg a, List.getElem?_append_right (by omega), ht]
      by_cases b : j = i
      · subst b; simp
      · rw [if_neg b, show j - i = (j - i - 1) + 1 by omega, List.getElem?_cons_succ, List.getElem?_drop, show i + 1 + (j - i - 1) = j by omega]
  have hp := h.pp
  intro j hj
  obtain ⟨a1, a2, a3, a4, a5⟩ := f2 j hj
  obtain ⟨b1, b2, b3, b4, b5⟩ := l2 j hj
  rw [g]
  rcases Nat.lt_trichotomy j i with hji | rfl | hji
  · rw [if_pos hji]
    refine ⟨a1, a2, a3, fun h0 => ?_, fun hpj => ?_⟩
    · rw [g, if_pos (by omega)]; exact a4 h0
    · rw [g, if_pos (by omega)]; exact a5 hpj
  · rw [if_neg (by omega), if_pos rfl]
    have q1 := hle j hj
    refine ⟨by omega, by omega, hc, fun h0 => ?_, fun hpj => ?_⟩
    · rw [g, if_pos (by omega)]; have := a4 h0; omega
    · rw [g, if_pos (by omega)]; have := a5 hpj; omega
  · rw [if_neg (by omega), if_neg (by omega)]
    refine ⟨b1, b2, b3, fun h0 => ?_, fun hpj => ?_⟩
    · rw [g, if_neg (by omega)]
      by_cases e : j - 1 = i
      · rw [if_pos e]; have := b4 h0; rw [e] at this; omega
      · rw [if_neg e]; exact b4 h0
    · rw [g]
      have q := b5 hpj
      have q2 := hle (j - m.c.p.toNat) (by omega)
      by_cases e : j - m.c.p.toNat < i
      · rw [if_pos e]; omega
      · rw [if_neg e]
        by_cases e2 : j - m.c.p.toNat = i
        · rw [if_pos e2]; rw [e2] at q; omega
        · rw [if_neg e2]; exact q
/-- the lesser days, and the greater ones -/
theorem lattice_fit {m : Md} {x y : List Int} (hx : m.Fit (gI x)) (hy : m.Fit (gI y)) {lo hi : List Int} (hlo : ∀ i, i < m.n → gI lo i = min (gI x i) (gI y i)) (hhi : ∀ i, i < m.n → gI hi i = max (gI x i) (gI y i)) : m.Fit (gI lo) ∧ m.Fit (gI hi) := by
  have key : ∀ i, i < m.n → ∀ a b, (a = gI x i ∧ b = gI y i) → m.can i (min a b) ∧ m.can i (max a b) := fun i hi a b ⟨e1, e2⟩ => by
    have h1 := (hx i hi).2.2.1
    have h2 := (hy i hi).2.2.1
    rw [← e1] at h1
    rw [← e2] at h2
    rcases Int.le_total a b with h | h
    · rw [Int.min_eq_left h, Int.max_eq_right h]; exact ⟨h1, h2⟩
    · rw [Int.min_eq_right h, Int.max_eq_left h]; exact ⟨h2, h1⟩
  constructor
  · intro i hi'
    obtain ⟨a1, a2, a3, a4, a5⟩ := hx i hi'
    obtain ⟨b1, b2, b3, b4, b5⟩ := hy i hi'
    rw [hlo i hi']
    refine ⟨by omega, by omega, (key i hi' _ _ ⟨rfl, rfl⟩).1, fun h0 => ?_, fun hp => ?_⟩
    · rw [hlo (i - 1) (by omega)]; have := a4 h0; have := b4 h0; omega
    · rw [hlo (i - m.c.p.toNat) (by omega)]; have := a5 hp; have := b5 hp; omega
  · intro i hi'
    obtain ⟨a1, a2, a3, a4, a5⟩ := hx i hi'
    obtain ⟨b1, b2, b3, b4, b5⟩ := hy i hi'
    rw [hhi i hi']
    refine ⟨by omega, by omega, (key i hi' _ _ ⟨rfl, rfl⟩).2, fun h0 => ?_, fun hp => ?_⟩
    · rw [hhi (i - 1) (by omega)]; have := a4 h0; have := b4 h0; omega
    · rw [hhi (i - m.c.p.toNat) (by omega)]; have := a5 hp; have := b5 hp; omega
end Go.Proofs.Ytnjajbkkgfohaaa
namespace Go.Proofs.Ytnjajbkkgfohaaa

theorem Md.Fit.mono {m : Md} {ds : Nat → Int} (h : m.Fit ds) : ∀ {i j : Nat}, i ≤ j → j < m.n → ds i ≤ ds j := by
  intro i j hij hj
  induction j with
  | zero => obtain rfl : i = 0 := by omega
            exact Int.le_refl _
  | succ j ih =>
    rcases Nat.lt_or_ge i (j + 1) with h1 | h1
    · have h2 := ih (by omega) (by omega)
      have h3 := (h (j + 1) hj).2.2.2.1 (by omega)
      rw [Nat.add_sub_cancel] at h3
      omega
    · obtain rfl : i = j + 1 := by omega
      exact Int.le_refl _
/-- m' asks more than m -/
structure Narrow (m m' : Md) : Prop where
  n : m'.n = m.n
  T : ∀ i, m'.T i = m.T i
  b : m.c.b ≤ m'.c.b
  e : m'.c.e ≤ m.c.e
  p : m'.c.p.toNat ≤ m.c.p.toNat
  p1 : 1 ≤ m'.c.p.toNat
theorem Narrow.fit {m m' : Md} (h : Narrow m m') {ds : Nat → Int} (hd : m'.Fit ds) : m.Fit ds := by
  intro i hi
  rw [← h.n] at hi
  obtain ⟨h1, h2, h3, h4, h5⟩ := hd i hi
  have hb := h.b
  have he := h.e
  have hp := h.p
  have hp1 := h.p1
  refine ⟨by omega, by omega, ?_, h4, fun hpi => ?_⟩
  · unfold Md.can at *; rw [← h.T]; exact h3
  · have q1 := h5 (by omega)
    have q2 := hd.mono (i := i - m.c.p.toNat) (j := i - m'.c.p.toNat) (by omega) (by omega)
    omega
theorem Md.at_narrow {m : Md} {d : Int} (hp : 1 ≤ m.c.p.toNat) (h : m.c.b ≤ d) : Narrow m (m.at d) := ⟨rfl, fun _ => rfl, h, Int.le_refl _, Nat.le_refl _, hp⟩
theorem longF_le {m : Md} : ∀ (l : List Int) (lo : Int), longF m l lo ≤ lo ∧ ∀ d ∈ l, m.can 0 d ∧ (m.at d).ok = true → longF m l lo ≤ gI (m.at d).first (m.n - 1) - gI (m.at d).first 0
  | [], lo => ⟨Int.le_refl _, fun d hd => by cases hd⟩
  | x :: l, lo => by
    have e : longF m (x :: l) lo = longF m l (if m.can 0 x ∧ (m.at x).ok = true then min lo (gI (m.at x).first (m.n - 1) - gI (m.at x).first 0) else lo) := rfl
    rw [e]
    obtain ⟨h1, h2⟩ := longF_le (m := m) l (if m.can 0 x ∧ (m.at x).ok = true then min lo (gI (m.at x).first (m.n - 1) - gI (m.at x).first 0) else lo)
    refine ⟨?_, fun d hd hc => ?_⟩
    · split at h1 <;> split <;> first | omega | contradiction
    · rcases List.mem_cons.1 hd with rfl | hd
      · rw [if_pos hc] at h1 ⊢; omega
      · exact h2 d hd hc
theorem longF_or {m : Md} : ∀ (l : List Int) (lo : Int), longF m l lo = lo ∨ ∃ d ∈ l, (m.can 0 d ∧ (m.at d).ok = true) ∧ longF m l lo = gI (m.at d).first (m.n - 1) - gI (m.at d).first 0
  | [], lo => .inl rfl
  | x :: l, lo => by
    have e : longF m (x :: l) lo = longF m l (if m.can 0 x ∧ (m.at x).ok = true then min lo (gI (m.at x).first (m.n - 1) - gI (m.at x).first 0) else lo) := rfl
    rw [e]
    rcases longF_or (m := m) l (if m.can 0 x ∧ (m.at x).ok = true then min lo (gI (m.at x).first (m.n - 1) - gI (m.at x).first 0) else lo) with h | ⟨d, hd, hc, h⟩
    · by_cases hx : m.can 0 x ∧ (m.at x).ok = true
      · rw [if_pos hx] at h ⊢
        rcases Int.le_total lo (gI (m.at x).first (m.n - 1) - gI (m.at x).first 0) with q | q
        · exact .inl (by rw [h, Int.min_eq_left q])
        · exact .inr ⟨x, List.mem_cons_self, hx, by rw [h, Int.min_eq_right q]⟩
      · rw [if_neg hx] at h ⊢; exact .inl h
    · exact .inr ⟨d, List.mem_cons_of_mem _ hd, hc, h⟩
section
variable {m : Md} (h : MdOk m) (hk : m.ok = true)
include h hk
theorem long_le {ds : Nat → Int} (hd : m.Fit ds) : (longS m).1 ≤ ds (m.n - 1) - ds 0 := by
  unfold longS
  by_cases h1 : m.n = 1
  · rw [if_pos h1, h1]; simp
  · rw [if_neg h1]
    have hn := h.n1
    obtain ⟨f1, -, f2, f3⟩ := h.of_ok hk
    obtain ⟨l1, l2, l3⟩ := h.last_fit hk
    have a1 := f3 ds hd 0 (by omega)
    have a2 := l3 ds hd 0 (by omega)
    obtain ⟨c1, c2, c3, -⟩ := hd 0 (by omega)
    have hma : MdOk (m.at (ds 0)) := h.at (by have := h.b0; omega) c2
    have hfit : (m.at (ds 0)).Fit ds := fun i hi => by
      obtain ⟨q1, q2, q3, q4, q5⟩ := hd i hi
      exact ⟨hd.mono (Nat.zero_le i) hi, q2, q3, q4, q5⟩
    have hok := hma.ok_of hfit
    obtain ⟨g1, -, g2, g3⟩ := hma.of_ok hok
    have e1 := (longF_le (m := m) (daysL (gI m.first 0) (gI m.last 0)) (longHi m)).2 (ds 0) (mem_daysL.2 ⟨a1, a2⟩) ⟨c3, hok⟩
    have e2 := g3 ds hfit (m.n - 1) (by show m.n - 1 < m.n; omega)
    have e3 := (g2 0 (by show 0 < m.n; omega)).1
    dsimp only
    have e4 : (m.at (ds 0)).c.b = ds 0 := rfl
    omega
theorem long_or : (longS m).1 = (longS m).2 ∨ ∃ ds, m.Fit ds ∧ (longS m).1 = ds (m.n - 1) - ds 0 := by
  unfold longS
  by_cases h1 : m.n = 1
  · rw [if_pos h1]; exact .inl rfl
  · rw [if_neg h1]
    have hn := h.n1
    obtain ⟨f1, -, f2, f3⟩ := h.of_ok hk
    obtain ⟨l1, l2, l3⟩ := h.last_fit hk
    rcases longF_or (m := m) (daysL (gI m.first 0) (gI m.last 0)) (longHi m) with e | ⟨d, hd, ⟨hc, hok⟩, e⟩
    · exact .inl e
    · obtain ⟨d1, d2⟩ := mem_daysL.1 hd
      have b1 := (f2 0 (by omega)).1
      have b2 := (l2 0 (by omega)).2.1
      have hma : MdOk (m.at d) := h.at (by have := h.b0; omega) (by omega)
      obtain ⟨g1, -, g2, g3⟩ := hma.of_ok hok
      exact .inr ⟨gI (m.at d).first, (Md.at_narrow h.pp (by omega)).fit g2, e⟩
theorem long_hi : (longS m).2 = gI m.last (m.n - 1) - gI m.first 0 ∨ m.n = 1 ∧ (longS m).2 = 0 := by
  unfold longS
  by_cases h1 : m.n = 1
  · rw [if_pos h1]; exact .inr ⟨h1, rfl⟩
  · rw [if_neg h1]; exact .inl rfl
end
theorem Narrow.long {m m' : Md} (h : Narrow m m') (hm : MdOk m) (hm' : MdOk m') (hk' : m'.ok = true) : (longS m).1 ≤ (longS m').1 ∧ (longS m').2 ≤ (longS m).2 := by
  obtain ⟨f1, -, f2, f3⟩ := hm'.of_ok hk'
  obtain ⟨l1, l2, l3⟩ := hm'.last_fit hk'
  have hk := hm.ok_of (h.fit f2)
  obtain ⟨F1, -, F2, F3⟩ := hm.of_ok hk
  obtain ⟨L1, L2, L3⟩ := hm.last_fit hk
  have hn := hm.n1
  have hnn := h.n
  have a1 := f3 _ l2 0 (by omega)
  have a2 := L3 _ (h.fit l2) (m.n - 1) (by omega)
  have a3 := F3 _ (h.fit f2) 0 (by omega)
  have b1 := long_le hm hk (h.fit l2)
  have e : m'.n - 1 = m.n - 1 := by omega
  refine ⟨?_, ?_⟩
  · rcases long_or hm' hk' with q | ⟨ds, hd, q⟩
    · rcases long_hi hm' hk' with r | ⟨r, r2⟩
      · rw [q, r, e]; omega
      · rw [q, r2]
        have e1 : m.n = 1 := by omega
        unfold longS; rw [if_pos e1]; exact Int.le_refl _
    · rw [q, e]; exact long_le hm hk (h.fit hd)
  · rcases long_hi hm' hk' with r | ⟨r, r2⟩
    · rcases long_hi hm hk with s | ⟨s, s2⟩
      · rw [r, s, e]; omega
      · unfold longS; rw [if_pos (show m'.n = 1 by omega), if_pos s]; exact Int.le_refl _
    · rw [r2]
      unfold longS; rw [if_pos (show m.n = 1 by omega)]; exact Int.le_refl _
end Go.Proofs.Ytnjajbkkgfohaaa
namespace Go.Proofs.Ytnjajbkkgfohaaa
open Go.RowKit Go.Wk Go.Proofs
attribute [local irreducible] Go.Wk.Wops Go.Wk.Wp Go.Wk.Mtree Go.Wk.Mops
set_option maxHeartbeats 4000000
set_option maxRecDepth 20000

theorem below_T {x y : Value} {xs ys : List Int} {n : Nat} (h1 : n ≤ xs.length) (h2 : n ≤ ys.length) (h3 : ∀ i, i < n → gI xs i ≤ gI ys i) (hn : n ≤ 1000000000000000) (w : World) (hx : IntsV w w.heap.size x xs) (hy : IntsV w w.heap.size y ys) :
    CallsV Try.prog 45 #[x, y, .int .i64 (n : Int)] w fun v w' => v = .bool true ∧ Ext w w' := by
  obtain ⟨A, c, rfl, -, -⟩ := id hx
  obtain ⟨A2, c2, rfl, -, -⟩ := id hy
  have k1 : ¬ xs.length < n := by omega
  have k2 : ¬ ys.length < n := by omega
  refine Wp.fn Try.func45 rfl Try.ntmps45 (by simp) ?_
  have xw := Ext.refl w
  refine Wp.keep [0, 1, 2] fun r1 hkeep => ?_
  obtain ⟨e0_1, e1_1, e2_1, -⟩ := hkeep
  simp [go_sem] at e0_1 e1_1 e2_1
  refine Wp.seqRegion (.inl rfl) (by kernel_rfl) fun K' gd hK hg => ?_
  clear hg
  go_simp
  refine hK _ _ ?_
  clear hK K' gd
  refine Wp.keep [0, 1, 2] fun r2 hkeep => ?_
  obtain ⟨e0_2, e1_2, e2_2, -⟩ := hkeep
  simp [go_sem, e0_1, e1_1, e2_1] at e0_2 e1_2 e2_2
  clear e0_1 e1_1 e2_1
  refine Wp.seq ?_
  refine Wp.seqRegion (.inl rfl) (by kernel_rfl) fun K' gd hK hg => ?_
  have g4 : gd 4 = some 12 := hg 4
  clear hg
  go_simp
  refine hK _ _ ?_
  clear hK K' gd g4
  refine Wp.keep [0, 1, 2, 17] fun r3 hkeep => ?_
  obtain ⟨e0_3, e1_3, e2_3, e17_3, -⟩ := hkeep
  simp [go_sem, e0_2, e1_2, e2_2] at e0_3 e1_3 e2_3 e17_3
  clear e0_2 e1_2 e2_2
  refine Wp.condF (by go_simp) ?_
  refine Wp.skip ?_
  refine thenK_normal ?_
  refine Wp.seq ?_
  refine Wp.seqRegion (.inl rfl) (by kernel_rfl) fun K' gd hK hg => ?_
  clear hg
  go_simp
  refine hK _ _ ?_
  clear hK K' gd
  refine Wp.keep [0, 1, 2, 7] fun r4 hkeep => ?_
  obtain ⟨e0_4, e1_4, e2_4, e7_4, -⟩ := hkeep
  simp [go_sem, e0_3, e1_3, e2_3, e17_3] at e0_4 e1_4 e2_4 e7_4
  clear e0_3 e1_3 e2_3 e17_3
  refine Wp.block ?_
  refine Wp.loop (fun k ρ ds wk => AllEq [0, 1, 2] ρ r4 ∧ ds = [] ∧ (Ext w wk) ∧ (ρ 7 = .int .i64 (k : Int))) (n) ?_ ?_
  · refine ⟨AllEq.refl _ _, rfl, Ext.refl _, ?_⟩
    rw [e7_4]; rfl
  · rintro k r5 _ wk hk ⟨hA, rfl, xl1, e7⟩
    obtain ⟨e0_5, e1_5, e2_5, -⟩ := hA
    rw [e0_4] at e0_5
    rw [e1_4] at e1_5
    rw [e2_4] at e2_5
    have zxl1 := Below.size xl1
    replace xw := Ext.trans xw xl1
    refine Wp.seq ?_
    refine Wp.seqRegion (.inl rfl) (by kernel_rfl) fun K' gd hK hg => ?_
    clear hg
    go_simp
    refine hK _ _ ?_
    clear hK K' gd
    refine Wp.keep [0, 1, 2, 7, 20] fun r6 hkeep => ?_
    obtain ⟨e0_6, e1_6, e2_6, e7_6, e20_6, -⟩ := hkeep
    simp [go_sem, e0_5, e1_5, e2_5, e7] at e0_6 e1_6 e2_6 e7_6 e20_6
    clear e0_5 e1_5 e2_5 e7
    by_cases h : k < n
    · refine Wp.condT (by go_simp) ?_
      have hkx : k < xs.length := by omega
      have hky : k < ys.length := by omega
      obtain ⟨b, o, c5, e1, hb, hc⟩ := hx.get hkx
      injection e1 with e1 _ e2
      subst e1
      subst e2
      obtain ⟨b2, o2, c6, e1, hb2, hc2⟩ := hy.get hky
      injection e1 with e1 _ e2
      subst e1
      subst e2
      have d1 := xw.cell (hc k hkx)
      have d2 := xw.cell (hc2 k hky)
      have hle := h3 k h
      have hnl : ¬ gI ys k < gI xs k := by omega
      clear hc hc2
      refine Wp.skip ?_
      refine thenK_normal ?_
      refine Wp.seq ?_
      refine Wp.block ?_
      refine Wp.seqDraw (.inl rfl) mixed [([0, 1, 2, 3, 4], none), ([5, 6, 7, 8], none)] (by kernel_rfl) fun K' gd hK hg => ?_
      clear hg
      simp only [pick, nth, List.map_cons, List.map_nil, Option.map_none, Option.map_some]
      refine Mops.absD fun D2 hD2 zD2 => ?_
      replace xw := Ext.trans xw hD2
      replace xl1 := Ext.trans xl1 hD2
      replace d1 := Ext.cell hD2 d1
      replace d2 := Ext.cell hD2 d2
      clear hD2
      apply Mops.none
      · intro w' hE'
        have hC' := hE'.cellsS
        go_simp
        with_reducible rfl
      apply Mops.none
      · intro w' hE'
        have hC' := hE'.cellsS
        go_simp
        with_reducible rfl
      refine Mops.done ?_
      refine hK _ _ ?_
      clear hK K' gd
      refine Wp.keep [0, 1, 2, 7, 31] fun r7 hkeep => ?_
      obtain ⟨e0_7, e1_7, e2_7, e7_7, e31_7, -⟩ := hkeep
      simp [go_sem, e0_6, e1_6, e2_6, e7_6, e20_6] at e0_7 e1_7 e2_7 e7_7 e31_7
      clear e0_6 e1_6 e2_6 e7_6 e20_6
      refine Wp.condF (by go_simp) ?_
      refine Wp.skip ?_
      refine blockK_normal ?_
      refine thenK_normal ?_
      refine Wp.loneRegion (.inl rfl) (by kernel_rfl) fun K' gd hK hg => ?_
      clear hg
      go_simp
      refine hK _ _ ?_
      clear hK K' gd
      refine Ends.keep [0, 1, 2, 7] fun r8 hkeep => ?_
      obtain ⟨e0_8, e1_8, e2_8, e7_8, -⟩ := hkeep
      simp [go_sem, e0_7, e1_7, e2_7, e7_7, e31_7] at e0_8 e1_8 e2_8 e7_8
      clear e0_7 e1_7 e2_7 e7_7 e31_7
      refine Ends.mk ?_
      refine thenK_normal ⟨by omega, ⟨by rw [e0_8, e0_4], by rw [e1_8, e1_4], by rw [e2_8, e2_4], trivial⟩, rfl, xl1, ?_⟩
      rw [e7_8, IntWalk.i64_in _ (by omega)]; rfl
    · refine Wp.condF (by go_simp) ?_
      refine Wp.exit ?_
      refine thenK_exit ?_
      refine thenK_exit ?_
      refine blockK_here ?_
      refine thenK_normal ?_
      refine Wp.seqRegion (.inl rfl) (by kernel_rfl) fun K' gd hK hg => ?_
      clear hg
      go_simp
      refine hK _ _ ?_
      clear hK K' gd
      refine Wp.keep [6] fun r9 hkeep => ?_
      obtain ⟨e6_9, -⟩ := hkeep
      simp [go_sem, e0_6, e1_6, e2_6, e7_6, e20_6] at e6_9
      clear e0_6 e1_6 e2_6 e7_6 e20_6
      refine Wp.ret ?_
      refine endK_tmp Try.results45 (by decide) ?_
      rw [e6_9]
      exact ⟨rfl, xw⟩
theorem fits_T {v u dv : Value} {s : Sh} {c : Cp} {dy : List Int} (h0 : copyS s c = 0) (hl : dy.length = s.n) (h : (s.md c).Fit (gI dy)) (w : World) (hV : SheetV w w.heap.size v s) (hU : CopyV w w.heap.size u c) (hD : IntsV w w.heap.size dv dy) (hf : FitS s) (hg : FitC c) :
    CallsV Try.prog 37 #[v, u, dv] w fun v w' => v = .tuple #[.int .i64 0, .bool true, .int .i64 0] ∧ Ext w w' := by
  obtain ⟨h1, h2⟩ := fitR_good h0 hl h
  have := Fits_c v u dv s c dy w hV hU hD hf hg (by rw [hl]; exact hf.1)
  rw [h1, h2] at this
  exact this
end Go.Proofs.Ytnjajbkkgfohaaa
namespace Go.Proofs.Ytnjajbkkgfohaaa

/-- no day that a line can have by the floors ahead of it is less than its floor -/
def FloorAt (m : Md) (fl : List Int) (i : Nat) : Prop := ∀ d, fromD m.c.b m.c.p.toNat fl i ≤ d → d ≤ m.c.e → m.can i d → gI fl i ≤ d
def HoldAt (m : Md) (fl : List Int) (i : Nat) : Prop := (m.c.p.toNat ≤ i ∧ m.c.e ≤ gI fl (i - m.c.p.toNat)) ∨ m.nx i (fromD m.c.b m.c.p.toNat fl i) = 731 ∨ gI fl i ≤ m.nx i (fromD m.c.b m.c.p.toNat fl i)
instance (m : Md) (fl : List Int) (i : Nat) : Decidable (HoldAt m fl i) := by unfold HoldAt; infer_instance
theorem hold_iff {m : Md} (h : MdOk m) {fl : List Int} {i : Nat} : HoldAt m fl i ↔ FloorAt m fl i := by
  have h3 := (fromD_ge (b := m.c.b) (p := m.c.p.toNat) (i := i) (l := fl)).2.2
  rcases h.nxIs i (fromD m.c.b m.c.p.toNat fl i) with ⟨k0, k1, k2, k3, k4⟩ | ⟨k0, k1⟩
  · constructor
    · rintro (⟨a, b⟩ | a | a)
      · intro d h1 h2 _; have := h3 a; omega
      · exact absurd a k0
      · intro d h1 h2 hc
        rcases Int.lt_or_le d (m.nx i (fromD m.c.b m.c.p.toNat fl i)) with q | q
        · exact absurd hc (k4 d h1 q)
        · omega
    · intro hF; exact .inr (.inr (hF _ k1 k2 k3))
  · exact ⟨fun _ d h1 h2 hc => absurd hc (k1 d h1 h2), fun _ => .inr (.inl k0)⟩
def holdS (m : Md) (fl : List Int) : Bool := decide (∀ i, i < fl.length → HoldAt m fl i)
theorem holdS_true {m : Md} (h : MdOk m) {fl : List Int} : holdS m fl = true ↔ ∀ i, i < fl.length → FloorAt m fl i := by
  unfold holdS
  rw [decide_eq_true_eq]
  exact ⟨fun a i hi => (hold_iff h).1 (a i hi), fun a i hi => (hold_iff h).2 (a i hi)⟩
/-- days that fit are not less than floors that hold -/
theorem floors_le {m : Md} (h : MdOk m) {fl : List Int} (hf : ∀ i, i < fl.length → FloorAt m fl i) {n : Nat} {ds : Nat → Int} (hd : FitP m.can m.c.b m.c.e m.c.p.toNat n ds) (hl : fl.length ≤ n) :
    ∀ i, i < fl.length → gI fl i ≤ ds i := by
  intro i
  induction i using Nat.strongRecOn with
  | _ i ih =>
    intro hi
    obtain ⟨h1, h2, h3, -, -⟩ := hd i (by omega)
    exact hf i hi _ (fromD_le h.pp hd (by omega) fun j hj => ih j hj (by omega)) h2 h3
theorem fromD_congr' {b : Int} {p i : Nat} {l k : List Int} (hp : 1 ≤ p) (h : ∀ j, j < i → gI l j = gI k j) : fromD b p l i = fromD b p k i := fromD_congr hp h
theorem firstGo_get {nx : Nat → Int → Int} {b : Int} {p : Nat} (hp : 1 ≤ p) : ∀ k, (firstGo nx b p k).length ≤ k ∧ ∀ i, i < (firstGo nx b p k).length → gI (firstGo nx b p k) i = nx i (fromD b p (firstGo nx b p k) i) ∨ ((firstGo nx b p k).length < k ∧ (firstGo nx b p k).getLast? = some 731 ∧ gI (firstGo nx b p k) i = nx i (fromD b p (firstGo nx b p k) i))
  | 0 => ⟨Nat.le_refl _, fun i hi => absurd hi (Nat.not_lt_zero _)⟩
  | k + 1 => by
    obtain ⟨h1, h2⟩ := firstGo_get (nx := nx) (b := b) hp k
    have h3 : ∀ i, i < (firstGo nx b p k).length → gI (firstGo nx b p k) i = nx i (fromD b p (firstGo nx b p k) i) := fun i hi => by rcases h2 i hi with h | ⟨-, -, h⟩ <;> exact h
    rw [firstGo]
    split
    · exact ⟨by omega, fun i hi => .inl (h3 i hi)⟩
    · rename_i hne
      have hlk : (firstGo nx b p k).length = k := by
        rcases Nat.lt_or_ge (firstGo nx b p k).length k with q | q
        · exfalso; exact hne (firstGo_short hp k q)
        · omega
      refine ⟨by simp [hlk], fun i hi => .inl ?_⟩
      rcases Nat.lt_or_ge i (firstGo nx b p k).length with q | q
      · rw [gI_app q, h3 i q]; congr 1
        exact fromD_congr hp fun j hj => (gI_app (by omega)).symm
      · have e : i = (firstGo nx b p k).length := by simp at hi; omega
        rw [e, gI_last, hlk]; congr 1
        exact fromD_congr hp fun j hj => (gI_app (by omega)).symm
where firstGo_short {nx : Nat → Int → Int} {b : Int} {p : Nat} (hp : 1 ≤ p) : ∀ k, (firstGo nx b p k).length < k → (firstGo nx b p k).getLast? = some 731
  | 0, h => absurd h (Nat.not_lt_zero _)
  | k + 1, h => by
    rw [firstGo] at h ⊢
    split
    · assumption
    · rename_i hne
      rw [if_neg hne] at h
      have : (firstGo nx b p k).length < k := by simpa using h
      exact absurd (firstGo_short hp k this) hne
theorem first_floor {m : Md} (h : MdOk m) : ∀ i, i < m.first.length → FloorAt m m.first i := by
  intro i hi
  have hg : gI m.first i = m.nx i (fromD m.c.b m.c.p.toNat m.first i) := by
    rcases (firstGo_get (nx := m.nx) (b := m.c.b) h.pp m.n).2 i hi with q | ⟨-, -, q⟩ <;> exact q
  exact (hold_iff h).1 (.inr (.inr (by rw [hg]; exact Int.le_refl _)))
def fproofE (s : Sh) (c : Cp) (fl : List Int) : Int := if copyS s c = 0 then (if 1 ≤ fl.length ∧ fl.length ≤ s.n then (if holdS (s.md c) fl = true then 0 else 8) else 1) else copyS s c
def fclashE (s : Sh) (c : Cp) (fl : List Int) : Int := if fproofE s c fl = 0 then (if gI fl (fl.length - 1) ≤ c.e then 8 else 0) else fproofE s c fl
theorem fproofE_zero {s : Sh} {c : Cp} {fl : List Int} : fproofE s c fl = 0 ↔ copyS s c = 0 ∧ (1 ≤ fl.length ∧ fl.length ≤ s.n) ∧ holdS (s.md c) fl = true := by
  unfold fproofE
  by_cases h : copyS s c = 0
  · by_cases h2 : 1 ≤ fl.length ∧ fl.length ≤ s.n
    · by_cases h3 : holdS (s.md c) fl = true <;> simp [h, h2, h3]
    · rw [if_pos h, if_neg h2]; simp [h2]
  · simp [h]
theorem fclashE_zero {s : Sh} {c : Cp} {fl : List Int} : fclashE s c fl = 0 ↔ fproofE s c fl = 0 ∧ c.e < gI fl (fl.length - 1) := by
  unfold fclashE
  by_cases h : fproofE s c fl = 0
  · by_cases h2 : gI fl (fl.length - 1) ≤ c.e
    · rw [if_pos h, if_pos h2]; simp [h]; omega
    · rw [if_pos h, if_neg h2]; simp [h]; omega
  · simp [h]
/-- what the proof of a clash shows -/
theorem clash_no {s : Sh} {c : Cp} {fl : List Int} (h : fclashE s c fl = 0) : begE s c = 9 := by
  obtain ⟨h1, h2⟩ := fclashE_zero.1 h
  obtain ⟨h3, ⟨h4, h5⟩, h6⟩ := fproofE_zero.1 h1
  obtain ⟨hg0, hv0⟩ := copyS_zero.1 h3
  have hmk := (checkS_zero.1 hg0).mdOk hv0
  have hn : (s.md c).n = s.n := hv0.1
  unfold begE
  rw [if_pos h3, if_neg]
  intro hk
  have hfit := (hmk.of_ok hk).2.2.1
  have a := floors_le hmk ((holdS_true hmk).1 h6) hfit (by rw [hn]; exact h5) (fl.length - 1) (by omega)
  have b : gI (s.md c).first (fl.length - 1) ≤ c.e := (hfit (fl.length - 1) (by rw [hn]; omega)).2.1
  omega
theorem clash_yes {s : Sh} {c : Cp} (h : begE s c = 9) : fclashE s c (s.md c).first = 0 ∧ copyS s c = 0 := by
  have h3 : copyS s c = 0 := by
    unfold begE at h
    split at h
    · assumption
    · exact absurd h copyS_ne9
  have hk : (s.md c).ok = false := by
    unfold begE okS at h
    rw [if_pos h3] at h
    by_cases q : (s.md c).ok = true
    · rw [if_pos q] at h; exact absurd h (by decide)
    · simpa using q
  obtain ⟨hg0, hv0⟩ := copyS_zero.1 h3
  have hmk := (checkS_zero.1 hg0).mdOk hv0
  have hn : (s.md c).n = s.n := hv0.1
  obtain ⟨j, hj, hj2, hj3, -, -⟩ := hmk.not_ok hk
  have hl : (s.md c).first.length = j + 1 := by rw [hj2]; simp [hj3]
  have hlast : gI (s.md c).first ((s.md c).first.length - 1) = 731 := by
    rw [hl, show j + 1 - 1 = j by omega, hj2]
    have := gI_last (l := firstGo (s.md c).nx (s.md c).c.b (s.md c).c.p.toNat j) (x := 731)
    rwa [hj3] at this
  refine ⟨fclashE_zero.2 ⟨fproofE_zero.2 ⟨h3, ⟨by omega, by rw [← hn]; omega⟩, (holdS_true hmk).2 (first_floor hmk)⟩, ?_⟩, h3⟩
  rw [hlast]; have := hmk.e7; show (s.md c).c.e < 731; omega
/-- no day that a line can have by the ceilings behind it is greater than its ceiling -/
def CeilAt (m : Md) (cl : List Int) (i : Nat) : Prop := ∀ d, m.c.b ≤ d → d ≤ toD m.c.e m.c.p.toNat (cl.drop (i + 1)) → m.can i d → d ≤ gI cl i
def RoofAt (m : Md) (cl : List Int) (i : Nat) : Prop := (i + m.c.p.toNat < cl.length ∧ gI cl (i + m.c.p.toNat) ≤ m.c.b) ∨ m.bf i (toD m.c.e m.c.p.toNat (cl.drop (i + 1))) = -1 ∨ m.bf i (toD m.c.e m.c.p.toNat (cl.drop (i + 1))) ≤ gI cl i
instance (m : Md) (cl : List Int) (i : Nat) : Decidable (RoofAt m cl i) := by unfold RoofAt; infer_instance
theorem toD_lt {m : Md} (h : MdOk m) {cl : List Int} {i : Nat} (hi : i + m.c.p.toNat < cl.length) : toD m.c.e m.c.p.toNat (cl.drop (i + 1)) < gI cl (i + m.c.p.toNat) := by
  have hp := h.pp
  have := (toD_le (e := m.c.e) (p := m.c.p.toNat) (l := cl.drop (i + 1))).2.2 (by rw [List.length_drop]; omega)
  rwa [gI_drop, show i + 1 + (m.c.p.toNat - 1) = i + m.c.p.toNat by omega] at this
theorem roof_iff {m : Md} (h : MdOk m) {cl : List Int} {i : Nat} : RoofAt m cl i ↔ CeilAt m cl i := by
  rcases h.bfIs i (toD m.c.e m.c.p.toNat (cl.drop (i + 1))) with ⟨k0, k1, k2, k3, k4⟩ | ⟨k0, k1⟩
  · constructor
    · rintro (⟨a, b⟩ | a | a)
      · intro d h1 h2 _; have := toD_lt h a; omega
      · exact absurd a k0
      · intro d h1 h2 hc
        rcases Int.lt_or_le (m.bf i (toD m.c.e m.c.p.toNat (cl.drop (i + 1)))) d with q | q
        · exact absurd hc (k4 d q h2)
        · omega
    · intro hF; exact .inr (.inr (hF _ k1 k2 k3))
  · exact ⟨fun _ d h1 h2 hc => absurd hc (k1 d h1 h2), fun _ => .inr (.inl k0)⟩
def roofS (m : Md) (cl : List Int) : Bool := decide (∀ i, i < cl.length → RoofAt m cl i)
theorem roofS_true {m : Md} (h : MdOk m) {cl : List Int} : roofS m cl = true ↔ ∀ i, i < cl.length → CeilAt m cl i := by
  unfold roofS
  rw [decide_eq_true_eq]
  exact ⟨fun a i hi => (roof_iff h).1 (a i hi), fun a i hi => (roof_iff h).2 (a i hi)⟩
/-- days that fit are not greater than ceilings that hold -/
theorem ceils_ge {m : Md} (h : MdOk m) {cl : List Int} (hf : ∀ i, i < cl.length → CeilAt m cl i) (hl : cl.length = m.n) {ds : Nat → Int} (hd : m.Fit ds) : ∀ i, i < m.n → ds i ≤ gI cl i := by
  have key : ∀ k i, i < m.n → m.n - i ≤ k → ds i ≤ gI cl i := by
    intro k
    induction k with
    | zero => intro i hi hk; omega
    | succ k ih =>
      intro i hi hk
      obtain ⟨h1, h2, h3, -, -⟩ := hd i hi
      refine hf i (by omega) _ h1 ?_ h3
      refine toD_ge (m := 0) h.pp hd hi (by rw [List.length_drop]; omega) fun j hj => ?_
      rw [List.length_drop] at hj
      rw [gI_drop]
      exact ih (i + 1 + j) (by omega) (by omega)
  intro i hi
  exact key (m.n - i) i hi (Nat.le_refl _)
theorem lastGo_drop2 {bf : Nat → Int → Int} {e : Int} {p n : Nat} : ∀ k j, j ≤ k → (lastGo bf e p n k).drop j = lastGo bf e p n (k - j)
  | k, 0, _ => rfl
  | 0, j + 1, h => absurd h (by omega)
  | k + 1, j + 1, h => by rw [lastGo, List.drop_succ_cons, lastGo_drop2 k j (by omega), show k + 1 - (j + 1) = k - j by omega]
theorem last_ceil {m : Md} (h : MdOk m) : ∀ i, i < m.last.length → CeilAt m m.last i := by
  intro i hi
  have hll : m.last.length = m.n := lastGo_len _
  rw [hll] at hi
  have e1 : m.last.drop (i + 1) = lastGo m.bf m.c.e m.c.p.toNat m.n (m.n - (i + 1)) := lastGo_drop2 _ _ (by omega)
  have e0 : m.last.drop i = lastGo m.bf m.c.e m.c.p.toNat m.n (m.n - i) := lastGo_drop2 _ _ (by omega)
  have hg : gI m.last i = m.bf i (toD m.c.e m.c.p.toNat (m.last.drop (i + 1))) := by
    have := gI_drop m.last i 0
    rw [Nat.add_zero] at this
    rw [← this, e0, e1, show m.n - i = (m.n - (i + 1)) + 1 by omega, lastGo, show m.n - 1 - (m.n - (i + 1)) = i by omega]
    rfl
  exact (roof_iff h).1 (.inr (.inr (by rw [hg]; exact Int.le_refl _)))
def cproofE (s : Sh) (c : Cp) (cl : List Int) : Int := if copyS s c = 0 then (if cl.length = s.n then (if roofS (s.md c) cl = true then 0 else 8) else 1) else copyS s c
theorem cproofE_zero {s : Sh} {c : Cp} {cl : List Int} : cproofE s c cl = 0 ↔ copyS s c = 0 ∧ cl.length = s.n ∧ roofS (s.md c) cl = true := by
  unfold cproofE
  by_cases h : copyS s c = 0
  · by_cases h2 : cl.length = s.n
    · by_cases h3 : roofS (s.md c) cl = true <;> simp [h, h2, h3]
    · rw [if_pos h, if_neg h2]; simp [h2]
  · simp [h]
end Go.Proofs.Ytnjajbkkgfohaaa
namespace Go.Proofs.Ytnjajbkkgfohaaa
open Go.RowKit Go.Wk Go.Proofs
attribute [local irreducible] Go.Wk.Wops Go.Wk.Wp Go.Wk.Mtree Go.Wk.Mops
set_option maxHeartbeats 8000000
set_option maxRecDepth 20000

def befE (s : Sh) (c d : Cp) : Int := if copyS s c = 0 then (if copyS s d = 0 then (if begE s c = 0 then begE s d else begE s c) else copyS s d) else copyS s c
def befA (s : Sh) (c d : Cp) : Bool := if befE s c d = 0 then decide (gI (s.md c).last (s.words.length - 1) < gI (s.md d).first 0) else false
def befB (s : Sh) (c d : Cp) : Bool := if befE s c d = 0 then decide (gI (s.md c).first (s.words.length - 1) < gI (s.md d).last 0) else false
theorem bef_no {s : Sh} {c d : Cp} (h : ¬ befE s c d = 0) : befA s c d = false ∧ befB s c d = false := ⟨if_neg h, if_neg h⟩
theorem bef_yes {s : Sh} {c d : Cp} (h1 : begE s c = 0) (h2 : begE s d = 0) : befE s c d = 0 ∧ befA s c d = decide (gI (s.md c).last (s.words.length - 1) < gI (s.md d).first 0) ∧ befB s c d = decide (gI (s.md c).first (s.words.length - 1) < gI (s.md d).last 0) := by
  have e : befE s c d = 0 := by unfold befE; rw [if_pos (begE_zero.1 h1).1, if_pos (begE_zero.1 h2).1, if_pos h1, h2]
  exact ⟨e, if_pos e, if_pos e⟩
/-- what is known of days that there are -/
theorem beg_know {s : Sh} {c : Cp} (h : begE s c = 0) : Good s ∧ MdOk (s.md c) ∧ (s.md c).ok = true ∧ (s.md c).first.length = s.words.length ∧ (s.md c).last.length = s.words.length ∧ 1 ≤ s.words.length ∧ s.words.length ≤ 40 := by
  obtain ⟨h1, h2⟩ := begE_zero.1 h
  obtain ⟨hg0, hv0⟩ := copyS_zero.1 h1
  have hgd := checkS_zero.1 hg0
  have hm := hgd.mdOk hv0
  have e : (s.md c).n = s.words.length := hv0.1
  have := hm.n1
  have := hm.n2
  exact ⟨hgd, hm, h2, ((hm.of_ok h2).1).trans hv0.1, ((hm.last_fit h2).1).trans hv0.1, by omega, by omega⟩
theorem Before_c (v u t : Value) (s : Sh) (c d : Cp) (w : World) (hV : SheetV w w.heap.size v s) (hU : CopyV w w.heap.size u c) (hT : CopyV w w.heap.size t d) (hf : FitS s) (hg : FitC c) (hh : FitC d) :
    CallsV Try.prog 47 #[v, u, t] w fun v w' => v = .tuple #[.bool (befA s c d), .bool (befB s c d), .int .i64 (befE s c d)] ∧ Ext w w' := by
  obtain ⟨wv, av, rfl, ⟨A, c1, rfl, -, -⟩, ⟨A3, c3, rfl, -, -⟩⟩ := id hV
  obtain ⟨wu, rfl, hW⟩ := id hU
  obtain ⟨A2, c2, rfl, -, -⟩ := id hW
  obtain ⟨wt, rfl, hX⟩ := id hT
  obtain ⟨A4, c4, rfl, -, -⟩ := id hX
  refine Wp.fn Try.func47 rfl Try.ntmps47 (by simp) ?_
  have xw := Ext.refl w
  refine Wp.keep [0, 1, 2] fun r1 hkeep => ?_
  obtain ⟨e0_1, e1_1, e2_1, -⟩ := hkeep
  simp [go_sem] at e0_1 e1_1 e2_1
  refine Wp.seqRegion (.inl rfl) (by kernel_rfl) fun K' gd hK hg => ?_
  clear hg
  refine Wops.cut 1 fun K1 hK1 => ?_
  simp only [List.take_succ_cons, List.take_zero]
  go_simp
  refine hK1 _ _ ?_
  clear hK1 K1
  simp only [List.drop_succ_cons, List.drop_zero]
  refine Wops.absA fun V3_1 n3 hV3_1 => ?_
  obtain ⟨q3, hV3_1, s3, kV3_1, f3, r3⟩ := hV3_1
  try simp only [q3] at kV3_1 f3 r3 ⊢
  replace xw := Ext.trans xw hV3_1
  have c3_0 := kV3_1 0 _ rfl
  have c3_1 := kV3_1 1 _ rfl
  clear kV3_1 hV3_1
  clear r3
  refine Wops.cut 1 fun K1 hK1 => ?_
  simp only [List.take_succ_cons, List.take_zero]
  go_simp
  refine hK1 _ _ ?_
  clear hK1 K1
  simp only [List.drop_succ_cons, List.drop_zero]
  refine Wops.absA fun V4_2 n4 hV4_2 => ?_
  obtain ⟨q4, hV4_2, s4, kV4_2, f4, r4⟩ := hV4_2
  try simp only [q4] at kV4_2 f4 r4 ⊢
  replace f3 := Ext.fz hV4_2 c3_0 f3
  replace xw := Ext.trans xw hV4_2
  replace c3_0 := Ext.cell hV4_2 c3_0
  replace c3_1 := Ext.cell hV4_2 c3_1
  have c4_0 := kV4_2 0 _ rfl
  have c4_1 := kV4_2 1 _ rfl
  have c4_2 := kV4_2 2 _ rfl
  have c4_3 := kV4_2 3 _ rfl
  clear kV4_2 hV4_2
  clear r4
  refine Wops.cut 1 fun K1 hK1 => ?_
  simp only [List.take_succ_cons, List.take_zero]
  go_simp
  refine hK1 _ _ ?_
  clear hK1 K1
  simp only [List.drop_succ_cons, List.drop_zero]
  refine Wops.absA fun V5_3 n5 hV5_3 => ?_
  obtain ⟨q5, hV5_3, s5, kV5_3, f5, r5⟩ := hV5_3
  try simp only [q5] at kV5_3 f5 r5 ⊢
  replace f3 := Ext.fz hV5_3 c3_0 f3
  replace f4 := Ext.fz hV5_3 c4_0 f4
  replace xw := Ext.trans xw hV5_3
  replace c3_0 := Ext.cell hV5_3 c3_0
  replace c3_1 := Ext.cell hV5_3 c3_1
  replace c4_0 := Ext.cell hV5_3 c4_0
  replace c4_1 := Ext.cell hV5_3 c4_1
  replace c4_2 := Ext.cell hV5_3 c4_2
  replace c4_3 := Ext.cell hV5_3 c4_3
  have c5_0 := kV5_3 0 _ rfl
  have c5_1 := kV5_3 1 _ rfl
  have c5_2 := kV5_3 2 _ rfl
  have c5_3 := kV5_3 3 _ rfl
  clear kV5_3 hV5_3
  clear r5
  go_simp
  refine hK _ _ ?_
  clear hK K' gd
  refine Wp.keep [3, 4, 5] fun r2 hkeep => ?_
  obtain ⟨e3_2, e4_2, e5_2, -⟩ := hkeep
  simp [go_sem, e0_1, e1_1, e2_1] at e3_2 e4_2 e5_2
  clear e0_1 e1_1 e2_1
  refine Wp.seq ?_
  refine Wp.seqRegion (.inl rfl) (by kernel_rfl) fun K' gd hK hg => ?_
  clear hg
  refine Wops.cut 3 fun K1 hK1 => ?_
  simp only [List.take_succ_cons, List.take_zero]
  go_simp
  refine Wcall (.inl rfl) (copy_c _ _ s c _ (hV.ext xw) (hU.ext xw) hf hg) ?_
  rintro v w2 ⟨rfl, hE⟩
  go_simp
  refine hK1 _ _ ?_
  clear hK1 K1
  simp only [List.drop_succ_cons, List.drop_zero]
  have z3 := Below.size hE
  replace f3 := Ext.fz hE c3_0 f3
  replace f4 := Ext.fz hE c4_0 f4
  replace f5 := Ext.fz hE c5_0 f5
  replace xw := Ext.trans xw hE
  replace c3_0 := Ext.cell hE c3_0
  replace c3_1 := Ext.cell hE c3_1
  replace c4_0 := Ext.cell hE c4_0
  replace c4_1 := Ext.cell hE c4_1
  replace c4_2 := Ext.cell hE c4_2
  replace c4_3 := Ext.cell hE c4_3
  replace c5_0 := Ext.cell hE c5_0
  replace c5_1 := Ext.cell hE c5_1
  replace c5_2 := Ext.cell hE c5_2
  replace c5_3 := Ext.cell hE c5_3
  clear hE
  go_simp
  refine hK _ _ ?_
  clear hK K' gd
  refine Wp.keep [3, 4, 5, 9] fun r4 hkeep => ?_
  obtain ⟨e3_4, e4_4, e5_4, e9_4, -⟩ := hkeep
  simp [go_sem, e3_2, e4_2, e5_2] at e3_4 e4_4 e5_4 e9_4
  clear e3_2 e4_2 e5_2
  by_cases k1 : copyS s c = 0
  · skip
    refine Wp.seqRegion (.inl rfl) (by kernel_rfl) fun K' gd hK hg => ?_
    clear hg
    go_simp
    refine hK _ _ ?_
    clear hK K' gd
    refine Wp.keep [3, 4, 5, 9, 21] fun r5 hkeep => ?_
    obtain ⟨e3_5, e4_5, e5_5, e9_5, e21_5, -⟩ := hkeep
    simp [go_sem, e3_4, e4_4, e5_4, e9_4] at e3_5 e4_5 e5_5 e9_5 e21_5
    clear e3_4 e4_4 e5_4 e9_4
    refine Wp.condF (by go_simp) ?_
    refine Wp.skip ?_
    refine thenK_normal ?_
    refine Wp.seq ?_
    refine Wp.seqRegion (.inl rfl) (by kernel_rfl) fun K' gd hK hg => ?_
    clear hg
    refine Wops.cut 3 fun K1 hK1 => ?_
    simp only [List.take_succ_cons, List.take_zero]
    go_simp
    refine Wcall (.inl rfl) (copy_c _ _ s d _ (hV.ext xw) (hT.ext xw) hf hh) ?_
    rintro v w3 ⟨rfl, hE⟩
    go_simp
    refine hK1 _ _ ?_
    clear hK1 K1
    simp only [List.drop_succ_cons, List.drop_zero]
    have z6 := Below.size hE
    replace f3 := Ext.fz hE c3_0 f3
    replace f4 := Ext.fz hE c4_0 f4
    replace f5 := Ext.fz hE c5_0 f5
    replace xw := Ext.trans xw hE
    replace c3_0 := Ext.cell hE c3_0
    replace c3_1 := Ext.cell hE c3_1
    replace c4_0 := Ext.cell hE c4_0
    replace c4_1 := Ext.cell hE c4_1
    replace c4_2 := Ext.cell hE c4_2
    replace c4_3 := Ext.cell hE c4_3
    replace c5_0 := Ext.cell hE c5_0
    replace c5_1 := Ext.cell hE c5_1
    replace c5_2 := Ext.cell hE c5_2
    replace c5_3 := Ext.cell hE c5_3
    clear hE
    go_simp
    refine hK _ _ ?_
    clear hK K' gd
    refine Wp.keep [3, 4, 5, 10] fun r7 hkeep => ?_
    obtain ⟨e3_7, e4_7, e5_7, e10_7, -⟩ := hkeep
    simp [go_sem, e3_5, e4_5, e5_5, e9_5, e21_5] at e3_7 e4_7 e5_7 e10_7
    clear e3_5 e4_5 e5_5 e9_5 e21_5
    by_cases k2 : copyS s d = 0
    · skip
      refine Wp.seqRegion (.inl rfl) (by kernel_rfl) fun K' gd hK hg => ?_
      clear hg
      go_simp
      refine hK _ _ ?_
      clear hK K' gd
      refine Wp.keep [3, 4, 5, 10, 27] fun r8 hkeep => ?_
      obtain ⟨e3_8, e4_8, e5_8, e10_8, e27_8, -⟩ := hkeep
      simp [go_sem, e3_7, e4_7, e5_7, e10_7] at e3_8 e4_8 e5_8 e10_8 e27_8
      clear e3_7 e4_7 e5_7 e10_7
      refine Wp.condF (by go_simp) ?_
      by_cases k3 : begE s c = 0
      · skip
        refine Wp.skip ?_
        refine thenK_normal ?_
        refine Wp.seqRegion (.inl rfl) (by kernel_rfl) fun K' gd hK hg => ?_
        clear hg
        refine Wops.cut 3 fun K1 hK1 => ?_
        simp only [List.take_succ_cons, List.take_zero]
        go_simp
        refine Wcall (.inl rfl) (begun_c _ _ s c _ (hV.ext xw) (hU.ext xw) hf hg) ?_
        rintro v w4 ⟨B1, b2, b3, b4, b5, b6, B2, b7, b8, dv, rfl, hM, hI, hE⟩
        have xc := Ext.refl w4
        rw [if_pos k3] at hI
        obtain ⟨A6, c6, rfl⟩ := hI.slice
        go_simp
        refine hK1 _ _ ?_
        clear hK1 K1
        simp only [List.drop_succ_cons, List.drop_zero]
        have z9 := Below.size hE
        replace f3 := Ext.fz hE c3_0 f3
        replace f4 := Ext.fz hE c4_0 f4
        replace f5 := Ext.fz hE c5_0 f5
        replace xw := Ext.trans xw hE
        replace c3_0 := Ext.cell hE c3_0
        replace c3_1 := Ext.cell hE c3_1
        replace c4_0 := Ext.cell hE c4_0
        replace c4_1 := Ext.cell hE c4_1
        replace c4_2 := Ext.cell hE c4_2
        replace c4_3 := Ext.cell hE c4_3
        replace c5_0 := Ext.cell hE c5_0
        replace c5_1 := Ext.cell hE c5_1
        replace c5_2 := Ext.cell hE c5_2
        replace c5_3 := Ext.cell hE c5_3
        clear hE
        refine Wops.cut 6 fun K1 hK1 => ?_
        simp only [List.take_succ_cons, List.take_zero]
        go_simp
        refine hK1 _ _ ?_
        clear hK1 K1
        simp only [List.drop_succ_cons, List.drop_zero]
        refine Wops.absA fun V11_5 n11 hV11_5 => ?_
        obtain ⟨q11, hV11_5, s11, kV11_5, f11, r11⟩ := hV11_5
        try simp only [q11] at kV11_5 f11 r11 ⊢
        replace f3 := Ext.fz hV11_5 c3_0 f3
        replace f4 := Ext.fz hV11_5 c4_0 f4
        replace f5 := Ext.fz hV11_5 c5_0 f5
        replace xw := Ext.trans xw hV11_5
        replace xc := Ext.trans xc hV11_5
        replace c3_0 := Ext.cell hV11_5 c3_0
        replace c3_1 := Ext.cell hV11_5 c3_1
        replace c4_0 := Ext.cell hV11_5 c4_0
        replace c4_1 := Ext.cell hV11_5 c4_1
        replace c4_2 := Ext.cell hV11_5 c4_2
        replace c4_3 := Ext.cell hV11_5 c4_3
        replace c5_0 := Ext.cell hV11_5 c5_0
        replace c5_1 := Ext.cell hV11_5 c5_1
        replace c5_2 := Ext.cell hV11_5 c5_2
        replace c5_3 := Ext.cell hV11_5 c5_3
        have c11_0 := kV11_5 0 _ rfl
        have c11_1 := kV11_5 1 _ rfl
        have c11_2 := kV11_5 2 _ rfl
        have c11_3 := kV11_5 3 _ rfl
        have c11_4 := kV11_5 4 _ rfl
        clear kV11_5 hV11_5
        clear r11
        go_simp
        refine hK _ _ ?_
        clear hK K' gd
        refine Wp.keep [3, 5, 11, 12, 13] fun r10 hkeep => ?_
        obtain ⟨e3_10, e5_10, e11_10, e12_10, e13_10, -⟩ := hkeep
        simp [go_sem, e3_8, e4_8, e5_8, e10_8, e27_8] at e3_10 e5_10 e11_10 e12_10 e13_10
        clear e3_8 e4_8 e5_8 e10_8 e27_8
        refine Wp.seq ?_
        refine Wp.seqRegion (.inl rfl) (by kernel_rfl) fun K' gd hK hg => ?_
        clear hg
        go_simp
        refine hK _ _ ?_
        clear hK K' gd
        refine Wp.keep [3, 5, 11, 12, 13, 37] fun r11 hkeep => ?_
        obtain ⟨e3_11, e5_11, e11_11, e12_11, e13_11, e37_11, -⟩ := hkeep
        simp [go_sem, e3_10, e5_10, e11_10, e12_10, e13_10] at e3_11 e5_11 e11_11 e12_11 e13_11 e37_11
        clear e3_10 e5_10 e11_10 e12_10 e13_10
        refine Wp.condF (by go_simp) ?_
        by_cases k4 : begE s d = 0
        · skip
          refine Wp.skip ?_
          refine thenK_normal ?_
          refine Wp.seqRegion (.inl rfl) (by kernel_rfl) fun K' gd hK hg => ?_
          clear hg
          refine Wops.cut 3 fun K1 hK1 => ?_
          simp only [List.take_succ_cons, List.take_zero]
          go_simp
          refine Wcall (.inl rfl) (begun_c _ _ s d _ (hV.ext xw) (hT.ext xw) hf hh) ?_
          rintro v w5 ⟨D1, d2, d3, d4, d5, d6, D2, d7, d8, ev, rfl, hN, hJ, hE⟩
          have xd := Ext.refl w5
          rw [if_pos k4] at hJ
          obtain ⟨A7, c7, rfl⟩ := hJ.slice
          go_simp
          refine hK1 _ _ ?_
          clear hK1 K1
          simp only [List.drop_succ_cons, List.drop_zero]
          have z12 := Below.size hE
          replace f3 := Ext.fz hE c3_0 f3
          replace f4 := Ext.fz hE c4_0 f4
          replace f5 := Ext.fz hE c5_0 f5
          replace f11 := Ext.fz hE c11_0 f11
          replace xw := Ext.trans xw hE
          replace xc := Ext.trans xc hE
          replace c3_0 := Ext.cell hE c3_0
          replace c3_1 := Ext.cell hE c3_1
          replace c4_0 := Ext.cell hE c4_0
          replace c4_1 := Ext.cell hE c4_1
          replace c4_2 := Ext.cell hE c4_2
          replace c4_3 := Ext.cell hE c4_3
          replace c5_0 := Ext.cell hE c5_0
          replace c5_1 := Ext.cell hE c5_1
          replace c5_2 := Ext.cell hE c5_2
          replace c5_3 := Ext.cell hE c5_3
          replace c11_0 := Ext.cell hE c11_0
          replace c11_1 := Ext.cell hE c11_1
          replace c11_2 := Ext.cell hE c11_2
          replace c11_3 := Ext.cell hE c11_3
          replace c11_4 := Ext.cell hE c11_4
          clear hE
          refine Wops.cut 6 fun K1 hK1 => ?_
          simp only [List.take_succ_cons, List.take_zero]
          go_simp
          refine hK1 _ _ ?_
          clear hK1 K1
          simp only [List.drop_succ_cons, List.drop_zero]
          refine Wops.absA fun V14_7 n14 hV14_7 => ?_
          obtain ⟨q14, hV14_7, s14, kV14_7, f14, r14⟩ := hV14_7
          try simp only [q14] at kV14_7 f14 r14 ⊢
          replace f3 := Ext.fz hV14_7 c3_0 f3
          replace f4 := Ext.fz hV14_7 c4_0 f4
          replace f5 := Ext.fz hV14_7 c5_0 f5
          replace f11 := Ext.fz hV14_7 c11_0 f11
          replace xw := Ext.trans xw hV14_7
          replace xc := Ext.trans xc hV14_7
          replace xd := Ext.trans xd hV14_7
          replace c3_0 := Ext.cell hV14_7 c3_0
          replace c3_1 := Ext.cell hV14_7 c3_1
          replace c4_0 := Ext.cell hV14_7 c4_0
          replace c4_1 := Ext.cell hV14_7 c4_1
          replace c4_2 := Ext.cell hV14_7 c4_2
          replace c4_3 := Ext.cell hV14_7 c4_3
          replace c5_0 := Ext.cell hV14_7 c5_0
          replace c5_1 := Ext.cell hV14_7 c5_1
          replace c5_2 := Ext.cell hV14_7 c5_2
          replace c5_3 := Ext.cell hV14_7 c5_3
          replace c11_0 := Ext.cell hV14_7 c11_0
          replace c11_1 := Ext.cell hV14_7 c11_1
          replace c11_2 := Ext.cell hV14_7 c11_2
          replace c11_3 := Ext.cell hV14_7 c11_3
          replace c11_4 := Ext.cell hV14_7 c11_4
          have c14_0 := kV14_7 0 _ rfl
          have c14_1 := kV14_7 1 _ rfl
          have c14_2 := kV14_7 2 _ rfl
          have c14_3 := kV14_7 3 _ rfl
          have c14_4 := kV14_7 4 _ rfl
          clear kV14_7 hV14_7
          clear r14
          go_simp
          refine hK _ _ ?_
          clear hK K' gd
          refine Wp.keep [11, 12, 13, 14, 15] fun r13 hkeep => ?_
          obtain ⟨e11_13, e12_13, e13_13, e14_13, e15_13, -⟩ := hkeep
          simp [go_sem, e3_11, e5_11, e11_11, e12_11, e13_11, e37_11] at e11_13 e12_13 e13_13 e14_13 e15_13
          clear e3_11 e5_11 e11_11 e12_11 e13_11 e37_11
          obtain ⟨wu, hwu, hM⟩ := hM k3
          injection hwu with hwu
          simp at hwu
          subst hwu
          obtain ⟨wt, hwt, hN⟩ := hN k4
          injection hwt with hwt
          simp at hwt
          subst hwt
          obtain ⟨hgd, hmk, hok, hl1, hl2, hn1, hn40⟩ := beg_know k3
          obtain ⟨-, hmk2, hok2, hl3, hl4, -, -⟩ := beg_know k4
          obtain ⟨q, hq⟩ : ∃ q : Nat, ∃ _u : Unit, q + 1 = s.words.length := ⟨s.words.length - 1, (), by omega⟩
          have hls : ∃ _u : Unit, (s.md c).first.length = s.words.length ∧ (s.md c).last.length = s.words.length ∧ (s.md d).first.length = s.words.length ∧ (s.md d).last.length = s.words.length := ⟨(), hl1, hl2, hl3, hl4⟩
          obtain ⟨p9, o9, c9, e9, -, -, hc9⟩ := (hI.ext xc).get (k := q) (by have := hq.choose_spec; omega)
          injection e9 with q1 q2 q3
          subst q1
          subst q3
          have y1 := hc9 q (by have := hq.choose_spec; omega)
          obtain ⟨p8, o8, c8, e8, -, -, hc8⟩ := (hJ.ext xd).get (k := 0) (by omega)
          injection e8 with q1 q2 q3
          subst q1
          subst q3
          have y2 := hc8 0 (by omega)
          simp only [Nat.add_zero] at y2
          have hwq : IntKind.i64.wrap (((s.md c).first.length : Int) - 1) = (q : Int) := by have := hq.choose_spec; rw [IntWalk.i64_in _ (by omega)]; omega
          have i1 : (q : Int) < ((s.md c).first.length : Int) := by have := hq.choose_spec; omega
          have i2 : (q : Int) < ((s.md c).last.length : Int) := by have := hq.choose_spec; omega
          have i3 : 0 < (s.md d).first.length := by omega
          have i4 : 0 < (s.md d).last.length := by omega
          have hqq : ∃ _u : Unit, s.words.length - 1 = q := ⟨(), by have := hq.choose_spec; omega⟩
          clear hl1 hl2 hl3 hl4 hc9 hc8
          refine Wp.seq ?_
          refine Wp.seqRegion (.inl rfl) (by kernel_rfl) fun K' gd hK hg => ?_
          clear hg
          go_simp
          refine hK _ _ ?_
          clear hK K' gd
          refine Wp.keep [11, 12, 13, 14, 15, 47] fun r14 hkeep => ?_
          obtain ⟨e11_14, e12_14, e13_14, e14_14, e15_14, e47_14, -⟩ := hkeep
          simp [go_sem, e11_13, e12_13, e13_13, e14_13, e15_13] at e11_14 e12_14 e13_14 e14_14 e15_14 e47_14
          clear e11_13 e12_13 e13_13 e14_13 e15_13
          refine Wp.condF (by go_simp) ?_
          refine Wp.skip ?_
          refine thenK_normal ?_
          refine Wp.seqRegion (.inl rfl) (by kernel_rfl) fun K' gd hK hg => ?_
          clear hg
          go_simp
          refine hK _ _ ?_
          clear hK K' gd
          refine Wp.keep [11, 12, 14, 15, 16] fun r15 hkeep => ?_
          obtain ⟨e11_15, e12_15, e14_15, e15_15, e16_15, -⟩ := hkeep
          simp [go_sem, e11_14, e12_14, e13_14, e14_14, e15_14, e47_14] at e11_15 e12_15 e14_15 e15_15 e16_15
          clear e11_14 e12_14 e13_14 e14_14 e15_14 e47_14
          refine Wp.seqDraw (.inl rfl) mixed [([0, 2, 5, 6, 7], none), ([9, 10, 11, 12, 13], some (1, false)), ([3, 4, 8], some (14, false)), ([15, 16, 17, 18, 19], none), ([20], none)] (by kernel_rfl) fun K' gd hK hg => ?_
          clear hg
          simp only [pick, nth, List.map_cons, List.map_nil, Option.map_none, Option.map_some]
          refine Mops.absD fun D8 hD8 zD8 => ?_
          replace f3 := Ext.fz hD8 c3_0 f3
          replace f4 := Ext.fz hD8 c4_0 f4
          replace f5 := Ext.fz hD8 c5_0 f5
          replace f11 := Ext.fz hD8 c11_0 f11
          replace f14 := Ext.fz hD8 c14_0 f14
          replace xw := Ext.trans xw hD8
          replace xc := Ext.trans xc hD8
          replace xd := Ext.trans xd hD8
          replace c3_0 := Ext.cell hD8 c3_0
          replace c3_1 := Ext.cell hD8 c3_1
          replace c4_0 := Ext.cell hD8 c4_0
          replace c4_1 := Ext.cell hD8 c4_1
          replace c4_2 := Ext.cell hD8 c4_2
          replace c4_3 := Ext.cell hD8 c4_3
          replace c5_0 := Ext.cell hD8 c5_0
          replace c5_1 := Ext.cell hD8 c5_1
          replace c5_2 := Ext.cell hD8 c5_2
          replace c5_3 := Ext.cell hD8 c5_3
          replace c11_0 := Ext.cell hD8 c11_0
          replace c11_1 := Ext.cell hD8 c11_1
          replace c11_2 := Ext.cell hD8 c11_2
          replace c11_3 := Ext.cell hD8 c11_3
          replace c11_4 := Ext.cell hD8 c11_4
          replace c14_0 := Ext.cell hD8 c14_0
          replace c14_1 := Ext.cell hD8 c14_1
          replace c14_2 := Ext.cell hD8 c14_2
          replace c14_3 := Ext.cell hD8 c14_3
          replace c14_4 := Ext.cell hD8 c14_4
          replace y1 := Ext.cell hD8 y1
          replace y2 := Ext.cell hD8 y2
          clear hD8
          apply Mops.none
          · intro w' hE'
            have hC' := hE'.cellsS
            go_simp
            with_reducible rfl
          apply Mops.act
          · intro w' hE'
            have hC' := hE'.cellsS
            go_simp
            with_reducible rfl
          intro K1 hK1
          go_simp
          refine Wcall (.inl rfl) (last_c _ (s.md c) _ ((hM.ext xc).made (hW.ext xw)) hmk) ?_
          rintro v w6 ⟨hQa, hE⟩
          have xe := Ext.refl w6
          obtain ⟨A8, c8, rfl⟩ := hQa.slice
          go_simp
          refine hK1 _ _ (by assumption) ?_
          clear hK1 K1
          have z16 := Below.size hE
          replace f3 := Ext.fz hE c3_0 f3
          replace f4 := Ext.fz hE c4_0 f4
          replace f5 := Ext.fz hE c5_0 f5
          replace f11 := Ext.fz hE c11_0 f11
          replace f14 := Ext.fz hE c14_0 f14
          replace xw := Ext.trans xw hE
          replace xc := Ext.trans xc hE
          replace xd := Ext.trans xd hE
          replace c3_0 := Ext.cell hE c3_0
          replace c3_1 := Ext.cell hE c3_1
          replace c4_0 := Ext.cell hE c4_0
          replace c4_1 := Ext.cell hE c4_1
          replace c4_2 := Ext.cell hE c4_2
          replace c4_3 := Ext.cell hE c4_3
          replace c5_0 := Ext.cell hE c5_0
          replace c5_1 := Ext.cell hE c5_1
          replace c5_2 := Ext.cell hE c5_2
          replace c5_3 := Ext.cell hE c5_3
          replace c11_0 := Ext.cell hE c11_0
          replace c11_1 := Ext.cell hE c11_1
          replace c11_2 := Ext.cell hE c11_2
          replace c11_3 := Ext.cell hE c11_3
          replace c11_4 := Ext.cell hE c11_4
          replace c14_0 := Ext.cell hE c14_0
          replace c14_1 := Ext.cell hE c14_1
          replace c14_2 := Ext.cell hE c14_2
          replace c14_3 := Ext.cell hE c14_3
          replace c14_4 := Ext.cell hE c14_4
          replace y1 := Ext.cell hE y1
          replace y2 := Ext.cell hE y2
          clear hE
          obtain ⟨p7, o7, c7, e7, -, -, hc7⟩ := (hQa.ext xe).get (k := q) (by omega)
          injection e7 with q1 q2 q3
          subst q1
          subst q3
          have y3 := hc7 q (by omega)
          clear hc7
          apply Mops.act
          · intro w' hE'
            have hC' := hE'.cellsS
            go_simp
            with_reducible rfl
          intro K1 hK1
          go_simp
          refine Wcall (.inl rfl) (last_c _ (s.md d) _ ((hN.ext xd).made (hX.ext xw)) hmk2) ?_
          rintro v w7 ⟨hQb, hE⟩
          have xf := Ext.refl w7
          obtain ⟨A9, c9, rfl⟩ := hQb.slice
          go_simp
          refine hK1 _ _ (by assumption) ?_
          clear hK1 K1
          have z17 := Below.size hE
          replace f3 := Ext.fz hE c3_0 f3
          replace f4 := Ext.fz hE c4_0 f4
          replace f5 := Ext.fz hE c5_0 f5
          replace f11 := Ext.fz hE c11_0 f11
          replace f14 := Ext.fz hE c14_0 f14
          replace xw := Ext.trans xw hE
          replace xc := Ext.trans xc hE
          replace xd := Ext.trans xd hE
          replace xe := Ext.trans xe hE
          replace c3_0 := Ext.cell hE c3_0
          replace c3_1 := Ext.cell hE c3_1
          replace c4_0 := Ext.cell hE c4_0
          replace c4_1 := Ext.cell hE c4_1
          replace c4_2 := Ext.cell hE c4_2
          replace c4_3 := Ext.cell hE c4_3
          replace c5_0 := Ext.cell hE c5_0
          replace c5_1 := Ext.cell hE c5_1
          replace c5_2 := Ext.cell hE c5_2
          replace c5_3 := Ext.cell hE c5_3
          replace c11_0 := Ext.cell hE c11_0
          replace c11_1 := Ext.cell hE c11_1
          replace c11_2 := Ext.cell hE c11_2
          replace c11_3 := Ext.cell hE c11_3
          replace c11_4 := Ext.cell hE c11_4
          replace c14_0 := Ext.cell hE c14_0
          replace c14_1 := Ext.cell hE c14_1
          replace c14_2 := Ext.cell hE c14_2
          replace c14_3 := Ext.cell hE c14_3
          replace c14_4 := Ext.cell hE c14_4
          replace y1 := Ext.cell hE y1
          replace y2 := Ext.cell hE y2
          replace y3 := Ext.cell hE y3
          clear hE
          obtain ⟨p6, o6, c6, e6, -, -, hc6⟩ := (hQb.ext xf).get (k := 0) i4
          injection e6 with q1 q2 q3
          subst q1
          subst q3
          have y4 := hc6 0 i4
          simp only [Nat.add_zero] at y4
          clear hc6
          apply Mops.none
          · intro w' hE'
            have hC' := hE'.cellsS
            go_simp
            with_reducible rfl
          apply Mops.none
          · intro w' hE'
            have hC' := hE'.cellsS
            go_simp
            with_reducible rfl
          refine Mops.done ?_
          refine hK _ _ ?_
          clear hK K' gd
          refine Wp.keep [6, 7, 8] fun r18 hkeep => ?_
          obtain ⟨e6_18, e7_18, e8_18, -⟩ := hkeep
          simp [go_sem, e11_15, e12_15, e14_15, e15_15, e16_15] at e6_18 e7_18 e8_18
          clear e11_15 e12_15 e14_15 e15_15 e16_15
          refine Wp.ret ?_
          refine endK_tmp3 Try.results47 (by decide) (by decide) (by decide) ?_
          rw [e6_18, e7_18, e8_18]
          obtain ⟨e1, e2, e3⟩ := bef_yes k3 k4
          exact ⟨by rw [e1, e2, e3, hqq.choose_spec], xw⟩
        · skip
          refine Wp.skip ?_
          refine thenK_normal ?_
          refine Wp.seqRegion (.inl rfl) (by kernel_rfl) fun K' gd hK hg => ?_
          clear hg
          refine Wops.cut 3 fun K1 hK1 => ?_
          simp only [List.take_succ_cons, List.take_zero]
          go_simp
          refine Wcall (.inl rfl) (begun_c _ _ s d _ (hV.ext xw) (hT.ext xw) hf hh) ?_
          rintro v w5 ⟨D1, d2, d3, d4, d5, d6, D2, d7, d8, ev, rfl, -, -, hE⟩
          go_simp
          refine hK1 _ _ ?_
          clear hK1 K1
          simp only [List.drop_succ_cons, List.drop_zero]
          have z19 := Below.size hE
          replace f3 := Ext.fz hE c3_0 f3
          replace f4 := Ext.fz hE c4_0 f4
          replace f5 := Ext.fz hE c5_0 f5
          replace f11 := Ext.fz hE c11_0 f11
          replace xw := Ext.trans xw hE
          replace xc := Ext.trans xc hE
          replace c3_0 := Ext.cell hE c3_0
          replace c3_1 := Ext.cell hE c3_1
          replace c4_0 := Ext.cell hE c4_0
          replace c4_1 := Ext.cell hE c4_1
          replace c4_2 := Ext.cell hE c4_2
          replace c4_3 := Ext.cell hE c4_3
          replace c5_0 := Ext.cell hE c5_0
          replace c5_1 := Ext.cell hE c5_1
          replace c5_2 := Ext.cell hE c5_2
          replace c5_3 := Ext.cell hE c5_3
          replace c11_0 := Ext.cell hE c11_0
          replace c11_1 := Ext.cell hE c11_1
          replace c11_2 := Ext.cell hE c11_2
          replace c11_3 := Ext.cell hE c11_3
          replace c11_4 := Ext.cell hE c11_4
          clear hE
          refine Wops.cut 6 fun K1 hK1 => ?_
          simp only [List.take_succ_cons, List.take_zero]
          go_simp
          refine hK1 _ _ ?_
          clear hK1 K1
          simp only [List.drop_succ_cons, List.drop_zero]
          refine Wops.absA fun V14_11 n14 hV14_11 => ?_
          obtain ⟨q14, hV14_11, s14, kV14_11, f14, r14⟩ := hV14_11
          try simp only [q14] at kV14_11 f14 r14 ⊢
          replace f3 := Ext.fz hV14_11 c3_0 f3
          replace f4 := Ext.fz hV14_11 c4_0 f4
          replace f5 := Ext.fz hV14_11 c5_0 f5
          replace f11 := Ext.fz hV14_11 c11_0 f11
          replace xw := Ext.trans xw hV14_11
          replace xc := Ext.trans xc hV14_11
          replace c3_0 := Ext.cell hV14_11 c3_0
          replace c3_1 := Ext.cell hV14_11 c3_1
          replace c4_0 := Ext.cell hV14_11 c4_0
          replace c4_1 := Ext.cell hV14_11 c4_1
          replace c4_2 := Ext.cell hV14_11 c4_2
          replace c4_3 := Ext.cell hV14_11 c4_3
          replace c5_0 := Ext.cell hV14_11 c5_0
          replace c5_1 := Ext.cell hV14_11 c5_1
          replace c5_2 := Ext.cell hV14_11 c5_2
          replace c5_3 := Ext.cell hV14_11 c5_3
          replace c11_0 := Ext.cell hV14_11 c11_0
          replace c11_1 := Ext.cell hV14_11 c11_1
          replace c11_2 := Ext.cell hV14_11 c11_2
          replace c11_3 := Ext.cell hV14_11 c11_3
          replace c11_4 := Ext.cell hV14_11 c11_4
          have c14_0 := kV14_11 0 _ rfl
          have c14_1 := kV14_11 1 _ rfl
          have c14_2 := kV14_11 2 _ rfl
          have c14_3 := kV14_11 3 _ rfl
          have c14_4 := kV14_11 4 _ rfl
          clear kV14_11 hV14_11
          clear r14
          go_simp
          refine hK _ _ ?_
          clear hK K' gd
          refine Wp.keep [11, 12, 13, 14, 15] fun r20 hkeep => ?_
          obtain ⟨e11_20, e12_20, e13_20, e14_20, e15_20, -⟩ := hkeep
          simp [go_sem, e3_11, e5_11, e11_11, e12_11, e13_11, e37_11] at e11_20 e12_20 e13_20 e14_20 e15_20
          clear e3_11 e5_11 e11_11 e12_11 e13_11 e37_11
          refine Wp.seq ?_
          refine Wp.seqRegion (.inl rfl) (by kernel_rfl) fun K' gd hK hg => ?_
          clear hg
          go_simp
          refine hK _ _ ?_
          clear hK K' gd
          refine Wp.keep [11, 12, 13, 14, 15, 47] fun r21 hkeep => ?_
          obtain ⟨e11_21, e12_21, e13_21, e14_21, e15_21, e47_21, -⟩ := hkeep
          simp [go_sem, e11_20, e12_20, e13_20, e14_20, e15_20] at e11_21 e12_21 e13_21 e14_21 e15_21 e47_21
          clear e11_20 e12_20 e13_20 e14_20 e15_20
          refine Wp.condT (by go_simp) ?_
          refine Wp.seqRegion (.inl rfl) (by kernel_rfl) fun K' gd hK hg => ?_
          clear hg
          go_simp
          refine hK _ _ ?_
          clear hK K' gd
          refine Wp.keep [6, 7, 8] fun r22 hkeep => ?_
          obtain ⟨e6_22, e7_22, e8_22, -⟩ := hkeep
          simp [go_sem, e11_21, e12_21, e13_21, e14_21, e15_21, e47_21] at e6_22 e7_22 e8_22
          clear e11_21 e12_21 e13_21 e14_21 e15_21 e47_21
          refine Wp.ret ?_
          refine thenK_ret ?_
          refine endK_tmp3 Try.results47 (by decide) (by decide) (by decide) ?_
          rw [e6_22, e7_22, e8_22]
          have e : befE s c d = begE s d := by unfold befE; rw [if_pos k1, if_pos k2, if_pos k3]
          obtain ⟨e1, e2⟩ := bef_no (s := s) (c := c) (d := d) (by rw [e]; exact k4)
          exact ⟨by rw [e1, e2, e], xw⟩
      · skip
        refine Wp.skip ?_
        refine thenK_normal ?_
        refine Wp.seqRegion (.inl rfl) (by kernel_rfl) fun K' gd hK hg => ?_
        clear hg
        refine Wops.cut 3 fun K1 hK1 => ?_
        simp only [List.take_succ_cons, List.take_zero]
        go_simp
        refine Wcall (.inl rfl) (begun_c _ _ s c _ (hV.ext xw) (hU.ext xw) hf hg) ?_
        rintro v w4 ⟨B1, b2, b3, b4, b5, b6, B2, b7, b8, dv, rfl, -, -, hE⟩
        go_simp
        refine hK1 _ _ ?_
        clear hK1 K1
        simp only [List.drop_succ_cons, List.drop_zero]
        have z23 := Below.size hE
        replace f3 := Ext.fz hE c3_0 f3
        replace f4 := Ext.fz hE c4_0 f4
        replace f5 := Ext.fz hE c5_0 f5
        replace xw := Ext.trans xw hE
        replace c3_0 := Ext.cell hE c3_0
        replace c3_1 := Ext.cell hE c3_1
        replace c4_0 := Ext.cell hE c4_0
        replace c4_1 := Ext.cell hE c4_1
        replace c4_2 := Ext.cell hE c4_2
        replace c4_3 := Ext.cell hE c4_3
        replace c5_0 := Ext.cell hE c5_0
        replace c5_1 := Ext.cell hE c5_1
        replace c5_2 := Ext.cell hE c5_2
        replace c5_3 := Ext.cell hE c5_3
        clear hE
        refine Wops.cut 6 fun K1 hK1 => ?_
        simp only [List.take_succ_cons, List.take_zero]
        go_simp
        refine hK1 _ _ ?_
        clear hK1 K1
        simp only [List.drop_succ_cons, List.drop_zero]
        refine Wops.absA fun V11_12 n11 hV11_12 => ?_
        obtain ⟨q11, hV11_12, s11, kV11_12, f11, r11⟩ := hV11_12
        try simp only [q11] at kV11_12 f11 r11 ⊢
        replace f3 := Ext.fz hV11_12 c3_0 f3
        replace f4 := Ext.fz hV11_12 c4_0 f4
        replace f5 := Ext.fz hV11_12 c5_0 f5
        replace xw := Ext.trans xw hV11_12
        replace c3_0 := Ext.cell hV11_12 c3_0
        replace c3_1 := Ext.cell hV11_12 c3_1
        replace c4_0 := Ext.cell hV11_12 c4_0
        replace c4_1 := Ext.cell hV11_12 c4_1
        replace c4_2 := Ext.cell hV11_12 c4_2
        replace c4_3 := Ext.cell hV11_12 c4_3
        replace c5_0 := Ext.cell hV11_12 c5_0
        replace c5_1 := Ext.cell hV11_12 c5_1
        replace c5_2 := Ext.cell hV11_12 c5_2
        replace c5_3 := Ext.cell hV11_12 c5_3
        have c11_0 := kV11_12 0 _ rfl
        have c11_1 := kV11_12 1 _ rfl
        have c11_2 := kV11_12 2 _ rfl
        have c11_3 := kV11_12 3 _ rfl
        have c11_4 := kV11_12 4 _ rfl
        clear kV11_12 hV11_12
        clear r11
        go_simp
        refine hK _ _ ?_
        clear hK K' gd
        refine Wp.keep [3, 5, 11, 12, 13] fun r24 hkeep => ?_
        obtain ⟨e3_24, e5_24, e11_24, e12_24, e13_24, -⟩ := hkeep
        simp [go_sem, e3_8, e4_8, e5_8, e10_8, e27_8] at e3_24 e5_24 e11_24 e12_24 e13_24
        clear e3_8 e4_8 e5_8 e10_8 e27_8
        refine Wp.seq ?_
        refine Wp.seqRegion (.inl rfl) (by kernel_rfl) fun K' gd hK hg => ?_
        clear hg
        go_simp
        refine hK _ _ ?_
        clear hK K' gd
        refine Wp.keep [3, 5, 11, 12, 13, 37] fun r25 hkeep => ?_
        obtain ⟨e3_25, e5_25, e11_25, e12_25, e13_25, e37_25, -⟩ := hkeep
        simp [go_sem, e3_24, e5_24, e11_24, e12_24, e13_24] at e3_25 e5_25 e11_25 e12_25 e13_25 e37_25
        clear e3_24 e5_24 e11_24 e12_24 e13_24
        refine Wp.condT (by go_simp) ?_
        refine Wp.seqRegion (.inl rfl) (by kernel_rfl) fun K' gd hK hg => ?_
        clear hg
        go_simp
        refine hK _ _ ?_
        clear hK K' gd
        refine Wp.keep [6, 7, 8] fun r26 hkeep => ?_
        obtain ⟨e6_26, e7_26, e8_26, -⟩ := hkeep
        simp [go_sem, e3_25, e5_25, e11_25, e12_25, e13_25, e37_25] at e6_26 e7_26 e8_26
        clear e3_25 e5_25 e11_25 e12_25 e13_25 e37_25
        refine Wp.ret ?_
        refine thenK_ret ?_
        refine endK_tmp3 Try.results47 (by decide) (by decide) (by decide) ?_
        rw [e6_26, e7_26, e8_26]
        have e : befE s c d = begE s c := by unfold befE; rw [if_pos k1, if_pos k2, if_neg k3]
        obtain ⟨e1, e2⟩ := bef_no (s := s) (c := c) (d := d) (by rw [e]; exact k3)
        exact ⟨by rw [e1, e2, e], xw⟩
    · skip
      refine Wp.seqRegion (.inl rfl) (by kernel_rfl) fun K' gd hK hg => ?_
      clear hg
      go_simp
      refine hK _ _ ?_
      clear hK K' gd
      refine Wp.keep [3, 4, 5, 10, 27] fun r27 hkeep => ?_
      obtain ⟨e3_27, e4_27, e5_27, e10_27, e27_27, -⟩ := hkeep
      simp [go_sem, e3_7, e4_7, e5_7, e10_7] at e3_27 e4_27 e5_27 e10_27 e27_27
      clear e3_7 e4_7 e5_7 e10_7
      refine Wp.condT (by go_simp) ?_
      refine Wp.seqRegion (.inl rfl) (by kernel_rfl) fun K' gd hK hg => ?_
      clear hg
      go_simp
      refine hK _ _ ?_
      clear hK K' gd
      refine Wp.keep [6, 7, 8] fun r28 hkeep => ?_
      obtain ⟨e6_28, e7_28, e8_28, -⟩ := hkeep
      simp [go_sem, e3_27, e4_27, e5_27, e10_27, e27_27] at e6_28 e7_28 e8_28
      clear e3_27 e4_27 e5_27 e10_27 e27_27
      refine Wp.ret ?_
      refine thenK_ret ?_
      refine endK_tmp3 Try.results47 (by decide) (by decide) (by decide) ?_
      rw [e6_28, e7_28, e8_28]
      have e : befE s c d = copyS s d := by unfold befE; rw [if_pos k1, if_neg k2]
      obtain ⟨e1, e2⟩ := bef_no (s := s) (c := c) (d := d) (by rw [e]; exact k2)
      exact ⟨by rw [e1, e2, e], xw⟩
  · skip
    refine Wp.seqRegion (.inl rfl) (by kernel_rfl) fun K' gd hK hg => ?_
    clear hg
    go_simp
    refine hK _ _ ?_
    clear hK K' gd
    refine Wp.keep [3, 4, 5, 9, 21] fun r29 hkeep => ?_
    obtain ⟨e3_29, e4_29, e5_29, e9_29, e21_29, -⟩ := hkeep
    simp [go_sem, e3_4, e4_4, e5_4, e9_4] at e3_29 e4_29 e5_29 e9_29 e21_29
    clear e3_4 e4_4 e5_4 e9_4
    refine Wp.condT (by go_simp) ?_
    refine Wp.seqRegion (.inl rfl) (by kernel_rfl) fun K' gd hK hg => ?_
    clear hg
    go_simp
    refine hK _ _ ?_
    clear hK K' gd
    refine Wp.keep [6, 7, 8] fun r30 hkeep => ?_
    obtain ⟨e6_30, e7_30, e8_30, -⟩ := hkeep
    simp [go_sem, e3_29, e4_29, e5_29, e9_29, e21_29] at e6_30 e7_30 e8_30
    clear e3_29 e4_29 e5_29 e9_29 e21_29
    refine Wp.ret ?_
    refine thenK_ret ?_
    refine endK_tmp3 Try.results47 (by decide) (by decide) (by decide) ?_
    rw [e6_30, e7_30, e8_30]
    have e : befE s c d = copyS s c := by unfold befE; rw [if_neg k1]
    obtain ⟨e1, e2⟩ := bef_no (s := s) (c := c) (d := d) (by rw [e]; exact k1)
    exact ⟨by rw [e1, e2, e], xw⟩
end Go.Proofs.Ytnjajbkkgfohaaa
namespace Go.Proofs.Ytnjajbkkgfohaaa

theorem id_inj : ∀ {l : List Alt}, (l.map Alt.id).Nodup → ∀ a ∈ l, ∀ b ∈ l, a.id = b.id → a = b
  | [], _, a, ha, _, _, _ => by cases ha
  | x :: l, h, a, ha, b, hb, e => by
    rw [List.map_cons, List.nodup_cons] at h
    rcases List.mem_cons.1 ha with ha1 | ha1 <;> rcases List.mem_cons.1 hb with hb1 | hb1
    · rw [ha1, hb1]
    · exact absurd (List.mem_map.2 ⟨b, hb1, by rw [← e, ha1]⟩) h.1
    · exact absurd (List.mem_map.2 ⟨a, ha1, by rw [e, hb1]⟩) h.1
    · exact id_inj h.2 a ha1 b hb1 e
theorem ids_mem {s : Sh} (h : (s.alts.map Alt.id).Nodup) {a : Alt} (ha : a ∈ s.alts) (p : Alt → Bool) : a.id ∈ idsS s p ↔ p a = true := by
  unfold idsS
  rw [sortI_mem, List.mem_map]
  constructor
  · rintro ⟨b, hb, e⟩
    rw [List.mem_filter] at hb
    rw [← id_inj h b hb.1 a ha e]; exact hb.2
  · intro hp; exact ⟨a, List.mem_filter.2 ⟨ha, hp⟩, rfl⟩
theorem ids_nil {s : Sh} {p : Alt → Bool} (h : ∀ a ∈ s.alts, p a = false) : idsS s p = [] := by
  unfold idsS
  rw [List.filter_eq_nil_iff.2 fun a ha => by rw [h a ha]; decide]; rfl
def betP (f b : List Int) (a : Alt) : Bool := decide (a.day ≤ gI f a.tu.toNat) && decide (gI b a.tu.toNat < a.day)
theorem betP_true {f b : List Int} {a : Alt} : betP f b a = true ↔ a.day ≤ gI f a.tu.toNat ∧ gI b a.tu.toNat < a.day := by
  unfold betP; rw [Bool.and_eq_true, decide_eq_true_eq, decide_eq_true_eq]
theorem befE_zero {s : Sh} {c d : Cp} : befE s c d = 0 ↔ begE s c = 0 ∧ begE s d = 0 := by
  unfold befE
  constructor
  · intro h
    split at h
    · split at h
      · split at h
        · exact ⟨by assumption, h⟩
        · contradiction
      · contradiction
    · contradiction
  · rintro ⟨h1, h2⟩
    rw [if_pos (begE_zero.1 h1).1, if_pos (begE_zero.1 h2).1, if_pos h1, h2]
/-- what is known of earliest and latest days -/
structure DaysE (s : Sh) (c : Cp) : Prop where
  le : ∀ i, i < s.words.length → gI (s.md c).first i ≤ gI (s.md c).last i
  fm : ∀ i j, i ≤ j → j < s.words.length → gI (s.md c).first i ≤ gI (s.md c).first j
  lm : ∀ i j, i ≤ j → j < s.words.length → gI (s.md c).last i ≤ gI (s.md c).last j
  fit : ∀ ds, (s.md c).Fit ds → ∀ i, i < s.words.length → gI (s.md c).first i ≤ ds i ∧ ds i ≤ gI (s.md c).last i
  tu : ∀ a ∈ s.alts, a.tu.toNat < s.words.length ∧ 0 ≤ a.tu
theorem ends_of {s : Sh} {c : Cp} (h : begE s c = 0) : DaysE s c := by
  obtain ⟨hg, hm, hk, hl1, hl2, hn1, hn2⟩ := beg_know h
  have hn : (s.md c).n = s.words.length := (hm.of_ok hk).1.symm.trans hl1
  obtain ⟨-, -, f3, f4⟩ := hm.of_ok hk
  obtain ⟨-, l2, l3⟩ := hm.last_fit hk
  refine ⟨fun i hi => f4 _ l2 i (by omega), fun i j h1 h2 => f3.mono h1 (by omega), fun i j h1 h2 => l2.mono h1 (by omega), fun ds hd i hi => ⟨f4 ds hd i (by omega), l3 ds hd i (by omega)⟩, fun a ha => ?_⟩
  obtain ⟨q1, q2, q3, q4, -⟩ := hg.rt a ha
  unfold Sh.n at q3 q4
  omega
theorem sure_may {s : Sh} {c d : Cp} (h : befA s c d = true) : befB s c d = true ∧ befA s d c = false ∧ idsS s (betP (s.md c).first (s.md d).last) = [] := by
  have h0 : befE s c d = 0 := by
    unfold befA at h; split at h
    · assumption
    · cases h
  obtain ⟨h1, h2⟩ := befE_zero.1 h0
  obtain ⟨-, ea, eb⟩ := bef_yes h1 h2
  obtain ⟨-, ea2, -⟩ := bef_yes h2 h1
  have c1 := ends_of h1
  have c2 := ends_of h2
  obtain ⟨-, -, -, -, -, hn1, -⟩ := beg_know h1
  rw [ea, decide_eq_true_eq] at h
  have q1 := c1.le (s.words.length - 1) (by omega)
  have q2 := c2.le 0 (by omega)
  have q3 := c2.fm 0 (s.words.length - 1) (by omega) (by omega)
  have q4 := c2.le (s.words.length - 1) (by omega)
  have q5 := c1.fm 0 (s.words.length - 1) (by omega) (by omega)
  refine ⟨by rw [eb]; exact decide_eq_true (by omega), by rw [ea2]; exact decide_eq_false (by omega), ids_nil fun a ha => ?_⟩
  obtain ⟨t1, t2⟩ := c1.tu a ha
  rw [Bool.eq_false_iff]
  intro hb
  obtain ⟨b1, b2⟩ := betP_true.1 hb
  have q6 := c1.fm a.tu.toNat (s.words.length - 1) (by omega) (by omega)
  have q7 := c2.lm 0 a.tu.toNat (by omega) (by omega)
  omega
/-- days that fit two copies of which the first one surely, or not possibly, was before the second one -/
theorem bef_days {s : Sh} {c d : Cp} (h0 : befE s c d = 0) {x y : Nat → Int} (hx : (s.md c).Fit x) (hy : (s.md d).Fit y) :
    (befA s c d = true → x (s.words.length - 1) < y 0) ∧ (x (s.words.length - 1) < y 0 → befB s c d = true) := by
  obtain ⟨h1, h2⟩ := befE_zero.1 h0
  obtain ⟨-, ea, eb⟩ := bef_yes h1 h2
  obtain ⟨-, -, -, -, -, hn1, -⟩ := beg_know h1
  have q1 := (ends_of h1).fit x hx (s.words.length - 1) (by omega)
  have q2 := (ends_of h2).fit y hy 0 (by omega)
  rw [ea, eb]
  simp only [decide_eq_true_eq]
  omega
/-- what lies surely between two copies -/
theorem bet_sure {s : Sh} {c d : Cp} (h1 : begE s c = 0) (h2 : begE s d = 0) {a : Alt} (ha : a ∈ s.alts) (h : betP (s.md d).first (s.md c).last a = true) :
    gI (s.md c).last a.tu.toNat < gI (s.md d).first a.tu.toNat ∧ betP (s.md d).last (s.md c).first a = true ∧ seenP (s.md d).first a = true ∧ seenP (s.md c).first a = false ∧
      ∀ b ∈ s.alts, b.tu = a.tu → betP (s.md c).first (s.md d).last b = false := by
  obtain ⟨b1, b2⟩ := betP_true.1 h
  obtain ⟨t1, t2⟩ := (ends_of h1).tu a ha
  have q1 := (ends_of h1).le a.tu.toNat t1
  have q2 := (ends_of h2).le a.tu.toNat t1
  refine ⟨by omega, betP_true.2 ⟨by omega, by omega⟩, decide_eq_true b1, decide_eq_false (by omega), fun b hb e => ?_⟩
  rw [Bool.eq_false_iff]
  intro hb2
  obtain ⟨b3, b4⟩ := betP_true.1 hb2
  rw [e] at b3 b4
  omega
theorem few_alts {s : Sh} (h : fewS s) (h2 : Good s) : s.alts.length ≤ 12 := by
  have := h2.m2
  have := h.2
  unfold fewN at this
  omega
theorem beg_alts {s : Sh} {c : Cp} (h : fewS s) (h2 : begE s c = 0) : s.alts.length ≤ 12 := few_alts h (beg_know h2).1
theorem ids_len {s : Sh} {p : Alt → Bool} : (idsS s p).length ≤ s.alts.length := by
  unfold idsS; rw [sortI_len, List.length_map]; exact List.length_filter_le ..
end Go.Proofs.Ytnjajbkkgfohaaa
namespace Go.Proofs.Ytnjajbkkgfohaaa

structure TrueI (s : Sh) (p k : Nat) (nw : Int) (ds ws : List Int) : Prop where
  dl : ds.length = k
  wl : ws.length = k
  n0 : 0 ≤ nw
  nb : nw ≤ 299 + 20 * (k : Int)
  le : ∀ j, j < k → gI ds j ≤ nw
  ge : ∀ j, j < k → 0 ≤ gI ds j
  can : ∀ j, j < k → s.can j (gI ds j) (gI ws j) = true
  mono : ∀ j, 0 < j → j < k → gI ds (j - 1) ≤ gI ds j
  per : ∀ j, p ≤ j → j < k → gI ds (j - p) < gI ds j
  w0 : ∀ j, j < k → 0 ≤ gI ws j ∧ gI ws j ≤ 9999
theorem TrueI.nil {s : Sh} {p : Nat} {nw : Int} (h0 : 0 ≤ nw) (h : nw ≤ 299) : TrueI s p 0 nw [] [] :=
  ⟨rfl, rfl, h0, by omega, fun j h => absurd h (Nat.not_lt_zero _), fun j h => absurd h (Nat.not_lt_zero _), fun j h => absurd h (Nat.not_lt_zero _), fun j _ h => absurd h (Nat.not_lt_zero _), fun j _ h => absurd h (Nat.not_lt_zero _), fun j h => absurd h (Nat.not_lt_zero _)⟩
theorem TrueI.step {s : Sh} {p k : Nat} {nw n2 wd : Int} {ds ws : List Int} (h : TrueI s p k nw ds ws) (hp : 1 ≤ p) (h1 : nw ≤ n2) (h2 : n2 ≤ nw + 20) (h3 : p ≤ k → gI ds (k - p) < n2) (hc : s.can k n2 wd = true) (hw : 0 ≤ wd ∧ wd ≤ 9999) :
    TrueI s p (k + 1) n2 (ds ++ [n2]) (ws ++ [wd]) := by
  have hd := h.dl
  have hl := h.wl
  have n0 := h.n0
  have nb := h.nb
  have eD : gI (ds ++ [n2]) k = n2 := by rw [← hd]; exact gI_last
  have eW : gI (ws ++ [wd]) k = wd := by rw [← hl]; exact gI_last
  have oD : ∀ j, j < k → gI (ds ++ [n2]) j = gI ds j := fun j hj => gI_append (by omega)
  have oW : ∀ j, j < k → gI (ws ++ [wd]) j = gI ws j := fun j hj => gI_append (by omega)
  refine ⟨by simp [hd], by simp [hl], by omega, by push_cast; omega, fun j hj => ?_, fun j hj => ?_, fun j hj => ?_, fun j h0 hj => ?_, fun j h0 hj => ?_, fun j hj => ?_⟩ <;> rcases Nat.lt_succ_iff_lt_or_eq.1 hj with q | q
  · rw [oD j q]; have := h.le j q; omega
  · rw [q, eD]; exact Int.le_refl _
  · rw [oD j q]; exact h.ge j q
  · rw [q, eD]; omega
  · rw [oD j q, oW j q]; exact h.can j q
  · rw [q, eD, eW]; exact hc
  · rw [oD j q, oD (j - 1) (by omega)]; exact h.mono j h0 q
  · subst q; rw [eD, oD (j - 1) (by omega)]; have := h.le (j - 1) (by omega); omega
  · rw [oD j q, oD (j - p) (by omega)]; exact h.per j h0 q
  · subst q; rw [eD, oD (j - p) (by omega)]; exact h3 h0
  · rw [oW j q]; exact h.w0 j q
  · rw [q, eW]; exact hw
theorem TrueI.copy {s : Sh} {p : Nat} {nw : Int} {ds ws : List Int} (h : TrueI s p s.n nw ds ws) (hg : Good s) (hn8 : s.n ≤ 8) (hp : 1 ≤ p ∧ p ≤ 40) :
    copyS s ⟨ws, 0, 730, (p : Int)⟩ = 0 ∧ (s.md ⟨ws, 0, 730, (p : Int)⟩).Fit (gI ds) ∧ begE s ⟨ws, 0, 730, (p : Int)⟩ = 0 := by
  have hv : ValidC s ⟨ws, 0, 730, (p : Int)⟩ := by
    refine ⟨h.wl, ?_, ⟨Int.le_refl _, by show (0 : Int) ≤ 730; omega⟩, Int.le_refl _, by show (1 : Int) ≤ (p : Int); omega, by show (p : Int) ≤ 40; omega⟩
    show ws.any badC = false
    rw [Bool.eq_false_iff]
    intro hb
    obtain ⟨x, hx, hbx⟩ := List.any_eq_true.1 hb
    obtain ⟨i, hi, rfl⟩ := List.mem_iff_getElem.1 hx
    have q := h.w0 i (by rw [← h.wl]; exact hi)
    rw [gI_lt hi] at q
    unfold badC at hbx
    simp [q.1, q.2] at hbx
  have h0 : copyS s ⟨ws, 0, 730, (p : Int)⟩ = 0 := copyS_zero.2 ⟨checkS_zero.2 hg, hv⟩
  have hfit : (s.md ⟨ws, 0, 730, (p : Int)⟩).Fit (gI ds) := by
    refine (Sh.fit_iff hg.sorted (Int.le_refl _) (Int.le_refl _) _).2 fun i hi => ?_
    have hi2 : i < s.n := by rw [← h.wl]; exact hi
    have q1 := h.le i hi2
    have q2 := h.nb
    refine ⟨h.ge i hi2, ?_, h.can i hi2, fun z => h.mono i z hi2, fun z => ?_⟩
    · show gI ds i ≤ 730; omega
    · have e : (⟨ws, 0, 730, (p : Int)⟩ : Cp).p.toNat = p := Int.toNat_natCast p
      rw [e] at z ⊢; exact h.per i z hi2
  exact ⟨h0, hfit, begE_zero.2 ⟨h0, (hg.mdOk hv).ok_of hfit⟩⟩
/-- the words on a line are words -/
theorem Good.face {s : Sh} (h : Good s) {i : Nat} (hi : i < s.n) (d : Int) : (0 ≤ (s.on i d).1 ∧ (s.on i d).1 ≤ 9999) ∧ (0 ≤ (s.on i d).2.1 ∧ (s.on i d).2.1 ≤ 9999) := by
  have hw : ∀ a ∈ s.alts, 0 ≤ a.word ∧ a.word ≤ 9999 := fun a ha => by
    obtain ⟨-, -, -, -, hk⟩ := h.rt a ha
    rcases hk with ⟨-, e⟩ | ⟨-, -, e1, e2⟩
    · rw [e]; omega
    · omega
  have key : ∀ (l : List Alt) (f : Face), (∀ a ∈ l, 0 ≤ a.word ∧ a.word ≤ 9999) → ((0 ≤ f.1 ∧ f.1 ≤ 9999) ∧ (0 ≤ f.2.1 ∧ f.2.1 ≤ 9999)) → ((0 ≤ (onF i d l f).1 ∧ (onF i d l f).1 ≤ 9999) ∧ (0 ≤ (onF i d l f).2.1 ∧ (onF i d l f).2.1 ≤ 9999)) := by
    intro l
    induction l with
    | nil => intro f _ hf; exact hf
    | cons a l ih =>
      intro f hl hf
      have ha := hl a List.mem_cons_self
      refine ih _ (fun b hb => hl b (List.mem_cons_of_mem _ hb)) ?_
      show (0 ≤ (if a.day ≤ d then nxt i f a else f).1 ∧ (if a.day ≤ d then nxt i f a else f).1 ≤ 9999) ∧ (0 ≤ (if a.day ≤ d then nxt i f a else f).2.1 ∧ (if a.day ≤ d then nxt i f a else f).2.1 ≤ 9999)
      split
      · unfold nxt
        split
        · unfold aft
          repeat' split
          all_goals first | exact hf | (simp only; omega) | (dsimp only; omega)
        · exact hf
      · exact hf
  refine key s.alts _ hw ⟨?_, by simp⟩
  have : s.words[i]? = some s.words[i] := List.getElem?_eq_getElem hi
  have q := h.ws _ (List.getElem_mem hi)
  show 0 ≤ s.W i ∧ s.W i ≤ 9999
  unfold Sh.W
  rw [this]; simp only [Option.getD_some]; omega
theorem readsL_mem {f : Face} {j : Nat} (h : j < (readsL f).length) : rds f (gI (readsL f) j) = true := (readsL_has f _).1 (.inl (gI_mem h))
theorem readsL_bd {f : Face} (h1 : 0 ≤ f.1 ∧ f.1 ≤ 9999) (h2 : 0 ≤ f.2.1 ∧ f.2.1 ≤ 9999) {j : Nat} (h : j < (readsL f).length) : 0 ≤ gI (readsL f) j ∧ gI (readsL f) j ≤ 9999 := by
  have key : ∀ x ∈ readsL f, 0 ≤ x ∧ x ≤ 9999 := by
    intro x hx
    unfold readsL at hx
    rw [List.mem_append] at hx
    rcases hx with q | q
    · split at q
      · rw [List.mem_singleton.1 q]; exact h1
      · cases q
    · split at q
      · rw [List.mem_singleton.1 q]; exact h2
      · cases q
  exact key _ (gI_mem h)
theorem readsL_none {f : Face} (h : (readsL f).length = 0) : rds f 0 = true := (readsL_has f 0).1 (.inr ⟨rfl, h⟩)
end Go.Proofs.Ytnjajbkkgfohaaa
