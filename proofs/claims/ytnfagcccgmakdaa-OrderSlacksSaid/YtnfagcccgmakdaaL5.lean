/- Scribes alike, and what can be packed. The days on which stints are under way. OrderDays. Slack. OrderSlacks. For every input, in whatever memory: OrderSlacks returns true, and its arguments read as before. No condition. -/
import Derived.Test.YtnfagcccgmakdaaP8
import Derived.Test.YtnfagcccgmakdaaRows
import Derived.ProofKit
import Derived.JoinedOf
import Derived.OpenShut
set_option linter.all false
namespace Go.Proofs.Ytnfagcccgmakdaa
open Go.RowKit Go.Wk Go.Proofs

/-- the sum of the first numbers -/
def sumTo (f : Nat → Int) : Nat → Int
  | 0 => 0
  | n + 1 => sumTo f n + f n
theorem sumTo_congr {f g : Nat → Int} : ∀ {n : Nat}, (∀ k, k < n → f k = g k) → sumTo f n = sumTo g n
  | 0, _ => rfl
  | n + 1, h => by
    unfold sumTo
    rw [sumTo_congr (n := n) (fun k hk => h k (by omega)), h n (by omega)]
/-- one stage of the best that can be packed: pieces below k, weights w -/
def kStep (C T : Nat → Int) (K : Nat → Int) (w : Nat) : Nat → Int
  | 0 => 0
  | k + 1 => if 1 ≤ C k ∧ C k ≤ (w : Int) then max (kStep C T K w k) (K (w - (C k).toNat) + T k) else kStep C T K w k
def kF (C T : Nat → Int) (m : Nat) : Nat → Nat → Int
  | 0, _ => 0
  | f + 1, w => kStep C T (kF C T m f) w m
/-- the most that can be packed into a weight -/
def knap (C T : Nat → Int) (m w : Nat) : Int := kF C T m (w + 1) w
theorem kStep_congr {C T : Nat → Int} {K K' : Nat → Int} {w : Nat} (h : ∀ x, x < w → K x = K' x) : ∀ k, kStep C T K w k = kStep C T K' w k
  | 0 => rfl
  | k + 1 => by
    unfold kStep
    rw [kStep_congr h k]
    split
    · rename_i hc; rw [h (w - (C k).toNat) (by omega)]
    · rfl
theorem kF_stable {C T : Nat → Int} {m : Nat} : ∀ (f g w : Nat), w < f → w < g → kF C T m f w = kF C T m g w
  | 0, _, _, h, _ => by omega
  | _, 0, _, _, h => by omega
  | f + 1, g + 1, w, h1, h2 => by
    unfold kF
    exact kStep_congr (fun x hx => kF_stable f g x (by omega) (by omega)) m
theorem knap_eq (C T : Nat → Int) (m w : Nat) : knap C T m w = kStep C T (knap C T m) w m := by
  unfold knap
  conv => lhs; unfold kF
  exact kStep_congr (fun x hx => kF_stable _ _ x (by omega) (by omega)) m
theorem kStep_nonneg {C T K : Nat → Int} {w : Nat} : ∀ k, 0 ≤ kStep C T K w k
  | 0 => by unfold kStep; exact Int.le_refl _
  | k + 1 => by
    have := kStep_nonneg (C := C) (T := T) (K := K) (w := w) k
    unfold kStep; split <;> omega
theorem kStep_ge {C T K : Nat → Int} {w : Nat} : ∀ {k j : Nat}, j < k → 1 ≤ C j → C j ≤ (w : Int) → K (w - (C j).toNat) + T j ≤ kStep C T K w k
  | 0, _, h, _, _ => by omega
  | k + 1, j, h, h1, h2 => by
    by_cases e : j = k
    · subst e; unfold kStep; rw [if_pos ⟨h1, h2⟩]; omega
    · have := kStep_ge (C := C) (T := T) (K := K) (w := w) (k := k) (j := j) (by omega) h1 h2
      unfold kStep; split <;> omega
theorem kStep_how {C T K : Nat → Int} {w : Nat} : ∀ k, kStep C T K w k = 0 ∨ ∃ j, j < k ∧ 1 ≤ C j ∧ C j ≤ (w : Int) ∧ kStep C T K w k = K (w - (C j).toNat) + T j
  | 0 => .inl rfl
  | k + 1 => by
    have ih := kStep_how (C := C) (T := T) (K := K) (w := w) k
    unfold kStep
    split
    · rename_i hc
      by_cases hle : K (w - (C k).toNat) + T k ≤ kStep C T K w k
      · rw [Int.max_eq_left hle]
        rcases ih with h | ⟨j, h1, h2, h3, h4⟩
        · exact .inl h
        · exact .inr ⟨j, by omega, h2, h3, h4⟩
      · rw [Int.max_eq_right (by omega)]
        exact .inr ⟨k, by omega, hc.1, hc.2, rfl⟩
    · rcases ih with h | ⟨j, h1, h2, h3, h4⟩
      · exact .inl h
      · exact .inr ⟨j, by omega, h2, h3, h4⟩
section
variable {C T : Nat → Int} {m : Nat}
theorem knap_nonneg (w : Nat) : 0 ≤ knap C T m w := by rw [knap_eq]; exact kStep_nonneg m
theorem knap_ge {w j : Nat} (hj : j < m) (h1 : 1 ≤ C j) (h2 : C j ≤ (w : Int)) : knap C T m (w - (C j).toNat) + T j ≤ knap C T m w := by
  rw [knap_eq C T m w]; exact kStep_ge hj h1 h2
theorem knap_how (w : Nat) : knap C T m w = 0 ∨ ∃ j, j < m ∧ 1 ≤ C j ∧ C j ≤ (w : Int) ∧ knap C T m w = knap C T m (w - (C j).toNat) + T j := by
  rw [knap_eq C T m w]; exact kStep_how m
theorem knap_mono1 : ∀ w, knap C T m w ≤ knap C T m (w + 1) := by
  intro w
  induction w using Nat.strongRecOn with
  | ind w ih =>
    rcases knap_how (C := C) (T := T) (m := m) w with h | ⟨j, h1, h2, h3, h4⟩
    · rw [h]; exact knap_nonneg _
    · have a := ih (w - (C j).toNat) (by omega)
      have b := knap_ge (C := C) (T := T) (m := m) (w := w + 1) h1 h2 (by omega)
      rw [show w + 1 - (C j).toNat = w - (C j).toNat + 1 by omega] at b
      omega
theorem knap_mono {a b : Nat} (h : a ≤ b) : knap C T m a ≤ knap C T m b := by
  induction h with
  | refl => exact Int.le_refl _
  | step _ ih => exact Int.le_trans ih (knap_mono1 _)
theorem knap_grow {M : Int} (hM : 0 ≤ M) (hT : ∀ j, j < m → T j ≤ M) (w : Nat) : knap C T m (w + 1) ≤ knap C T m w + M := by
  rcases knap_how (C := C) (T := T) (m := m) (w + 1) with h | ⟨j, h1, h2, h3, h4⟩
  · rw [h]; have := knap_nonneg (C := C) (T := T) (m := m) w; omega
  · have a := knap_mono (C := C) (T := T) (m := m) (a := w + 1 - (C j).toNat) (b := w) (by omega)
    have := hT j h1
    omega
/-- how often each piece is packed -/
theorem knap_counts (hC : ∀ j, j < m → 1 ≤ C j) : ∀ w : Nat, ∃ c : Nat → Nat, sumTo (fun j => (c j : Int) * C j) m ≤ (w : Int) ∧ sumTo (fun j => (c j : Int) * T j) m = knap C T m w := by
  intro w
  induction w using Nat.strongRecOn with
  | ind w ih =>
    rcases knap_how (C := C) (T := T) (m := m) w with h | ⟨j, h1, h2, h3, h4⟩
    · refine ⟨fun _ => 0, ?_, ?_⟩
      · have : ∀ n, sumTo (fun j => ((0 : Nat) : Int) * C j) n = 0 := by
          intro n; induction n with
          | zero => rfl
          | succ n ih => unfold sumTo; rw [ih]; simp
        rw [this]; omega
      · have : ∀ n, sumTo (fun j => ((0 : Nat) : Int) * T j) n = 0 := by
          intro n; induction n with
          | zero => rfl
          | succ n ih => unfold sumTo; rw [ih]; simp
        rw [this, h]
    · obtain ⟨c, hc1, hc2⟩ := ih (w - (C j).toNat) (by omega)
      have key : ∀ (g : Nat → Int) (n : Nat), sumTo (fun k => ((if k = j then c k + 1 else c k : Nat) : Int) * g k) n = sumTo (fun k => (c k : Int) * g k) n + (if j < n then g j else 0) := by
        intro g n
        induction n with
        | zero => rfl
        | succ n ih =>
          unfold sumTo
          rw [ih]
          by_cases e : n = j
          · subst e
            rw [if_neg (Nat.lt_irrefl _), if_pos rfl, if_pos (by omega)]
            have : ((c n + 1 : Nat) : Int) * g n = (c n : Int) * g n + g n := by rw [Int.natCast_add, Int.add_mul]; simp
            omega
          · rw [if_neg e]
            by_cases e2 : j < n
            · rw [if_pos e2, if_pos (by omega)]; omega
            · rw [if_neg e2, if_neg (by omega)]; omega
      refine ⟨fun k => if k = j then c k + 1 else c k, ?_, ?_⟩
      · rw [key, if_pos h1]; omega
      · rw [key, if_pos h1, hc2, h4]
end
section
variable {o : Ord} {k c : Nat}
theorem alike_C (j : Nat) : (alikeO o k c).C j = o.C j := rfl
theorem alike_m : (alikeO o k c).m = o.m := rfl
theorem alike_T {i : Nat} (hi : i < c) (j : Nat) : (alikeO o k c).T i j = o.T k j := by unfold Ord.T; rw [alikeO_run o hi]
theorem alike_A {i : Nat} (hi : i < c) : (alikeO o k c).A i = o.A k := by unfold Ord.A; rw [alikeO_run o hi]
theorem alike_ok (ho : OrdOk o) (hk : k < o.n) (hc : c ≤ 20) : OrdOk (alikeO o k c) :=
  ⟨ho.hm1, ho.hm2, by rw [alikeO_n]; exact hc, ho.vC, fun i hi => by rw [alikeO_n] at hi; rw [alike_A hi]; exact ho.vA k hk, fun i j hi hj => by rw [alikeO_n] at hi; rw [alike_T hi]; exact ho.vT k j hk hj⟩
theorem alike_upper (ho : OrdOk o) (hk : k < o.n) (hc : c ≤ 20) {i j : Nat} (hi : i < c) (hj : j < o.m) : begA (alikeO o k c) i j ≤ o.A k + sumTo (o.T k) j + knap o.C (o.T k) o.m i := by
  have hA := ho.vA k hk
  refine beg_least (alike_ok ho hk hc) (t := fun i j => o.A k + sumTo (o.T k) j + knap o.C (o.T k) o.m i) ⟨fun i hi => ?_, fun i j hi hj => ?_, fun i k' j hi hj hik => ?_⟩ (fun i j hi hj => ?_) _ i j rfl (by rw [alikeO_n]; exact hi) hj
  · rw [alikeO_n] at hi
    rw [alike_A hi]
    have := knap_nonneg (C := o.C) (T := o.T k) (m := o.m) i
    show o.A k ≤ o.A k + 0 + _; omega
  · rw [alikeO_n] at hi
    rw [alike_T hi]
    show _ ≤ o.A k + (sumTo (o.T k) j + o.T k j) + _
    omega
  · rw [alikeO_n] at hi
    have hC := (ho.vC j hj).1
    rw [alike_C] at hik
    rw [alike_T (by omega)]
    have := knap_ge (C := o.C) (T := o.T k) (m := o.m) (w := i) hj hC (by omega)
    rw [show i - (o.C j).toNat = k' by omega] at this
    omega
  · have := knap_nonneg (C := o.C) (T := o.T k) (m := o.m) i
    have h2 : 0 ≤ sumTo (o.T k) j := by
      have : ∀ n, n ≤ o.m → 0 ≤ sumTo (o.T k) n := by
        intro n; induction n with
        | zero => intro _; exact Int.le_refl _
        | succ n ih => intro h; have := ih (by omega); have := (ho.vT k n hk (by omega)).1; unfold sumTo; omega
      exact this j (by rw [alike_m] at hj; omega)
    omega
theorem alike_lower (ho : OrdOk o) (hk : k < o.n) (hc : c ≤ 20) {i : Nat} (hi : i < c) : o.A k + sumTo (o.T k) o.m + knap o.C (o.T k) o.m i ≤ begA (alikeO o k c) i (o.m - 1) + o.T k (o.m - 1) := by
  have hm1 := ho.hm1
  have hkp := beg_keeps (alike_ok ho hk hc)
  obtain ⟨q, hq1, hq2⟩ := knap_counts (C := o.C) (T := o.T k) (m := o.m) (fun j hj => (ho.vC j hj).1) i
  have hw : ∀ n, n ≤ o.m → 0 ≤ sumTo (fun j => (q j : Int) * o.C j) n := by
    intro n; induction n with
    | zero => intro _; exact Int.le_refl _
    | succ n ih =>
      intro h
      have a := ih (by omega)
      have b : 0 ≤ (q n : Int) * o.C n := Int.mul_nonneg (by omega) (by have := (ho.vC n (by omega)).1; omega)
      show 0 ≤ sumTo _ n + (q n : Int) * o.C n
      omega
  have hmono : ∀ n, n ≤ o.m → sumTo (fun j => (q j : Int) * o.C j) n ≤ sumTo (fun j => (q j : Int) * o.C j) o.m := by
    intro n hn
    have : ∀ d n, n + d = o.m → sumTo (fun j => (q j : Int) * o.C j) n ≤ sumTo (fun j => (q j : Int) * o.C j) o.m := by
      intro d; induction d with
      | zero => intro n h; rw [show n = o.m by omega]; exact Int.le_refl _
      | succ d ih =>
        intro n h
        have a := ih (n + 1) (by omega)
        have b : 0 ≤ (q n : Int) * o.C n := Int.mul_nonneg (by omega) (by have := (ho.vC n (by omega)).1; omega)
        have e : sumTo (fun j => (q j : Int) * o.C j) (n + 1) = sumTo (fun j => (q j : Int) * o.C j) n + (q n : Int) * o.C n := rfl
        omega
    exact this (o.m - n) n (by omega)
  -- along the pieces
  have walk : ∀ j, j < o.m → ∀ s : Nat, (s : Int) = (i : Int) - sumTo (fun j => (q j : Int) * o.C j) o.m + sumTo (fun j => (q j : Int) * o.C j) j →
      o.A k + sumTo (o.T k) j + sumTo (fun j => (q j : Int) * o.T k j) j ≤ begA (alikeO o k c) s j →
      ∀ (p : Nat), p ≤ q j → ∀ s' : Nat, (s' : Int) = (s : Int) + (p : Int) * o.C j → o.A k + sumTo (o.T k) j + sumTo (fun j => (q j : Int) * o.T k j) j + (p : Int) * o.T k j ≤ begA (alikeO o k c) s' j := by
    intro j hj s hs h0 p
    induction p with
    | zero => intro _ s' hs'; have : s' = s := by simp at hs'; omega
              subst this; simp; exact h0
    | succ p ih =>
      intro hp s' hs'
      have hC := ho.vC j hj
      have e1 : ((p + 1 : Nat) : Int) * o.C j = (p : Int) * o.C j + o.C j := by rw [Int.natCast_add, Int.add_mul]; simp
      have e2 : ((p + 1 : Nat) : Int) * o.T k j = (p : Int) * o.T k j + o.T k j := by rw [Int.natCast_add, Int.add_mul]; simp
      have e3 : 0 ≤ (p : Int) * o.C j := Int.mul_nonneg (by omega) (by omega)
      have e4 : ((p + 1 : Nat) : Int) * o.C j ≤ (q j : Int) * o.C j := Int.mul_le_mul_of_nonneg_right (by omega) (by omega)
      have h5 := hmono (j + 1) (by omega)
      have e6 : sumTo (fun j => (q j : Int) * o.C j) (j + 1) = sumTo (fun j => (q j : Int) * o.C j) j + (q j : Int) * o.C j := rfl
      have hs2 : s' < c := by omega
      have a := ih (by omega) (s' - (o.C j).toNat) (by omega)
      have b := hkp.copy s' (s' - (o.C j).toNat) j (by rw [alikeO_n]; exact hs2) hj (by rw [alike_C]; omega)
      rw [alike_T (by omega)] at b
      omega
  have main : ∀ j, j < o.m → ∀ s : Nat, (s : Int) = (i : Int) - sumTo (fun j => (q j : Int) * o.C j) o.m + sumTo (fun j => (q j : Int) * o.C j) j →
      o.A k + sumTo (o.T k) j + sumTo (fun j => (q j : Int) * o.T k j) j ≤ begA (alikeO o k c) s j := by
    intro j
    induction j with
    | zero =>
      intro _ s hs
      have h5 := hmono 0 (by omega)
      have h7 := hw o.m (Nat.le_refl _)
      have e0 : sumTo (fun j => (q j : Int) * o.C j) 0 = 0 := rfl
      have a := hkp.arr s (by rw [alikeO_n]; omega)
      rw [alike_A (by omega)] at a
      show o.A k + 0 + 0 ≤ _
      omega
    | succ j ih =>
      intro hj s hs
      have h5 := hmono (j + 1) (by omega)
      have h6 := hw j (by omega)
      have e6 : sumTo (fun j => (q j : Int) * o.C j) (j + 1) = sumTo (fun j => (q j : Int) * o.C j) j + (q j : Int) * o.C j := rfl
      have e7 : 0 ≤ (q j : Int) * o.C j := Int.mul_nonneg (by omega) (by have := (ho.vC j (by omega)).1; omega)
      obtain ⟨s0, hs0⟩ : ∃ s0 : Nat, (s0 : Int) = (i : Int) - sumTo (fun j => (q j : Int) * o.C j) o.m + sumTo (fun j => (q j : Int) * o.C j) j := ⟨((i : Int) - sumTo (fun j => (q j : Int) * o.C j) o.m + sumTo (fun j => (q j : Int) * o.C j) j).toNat, by omega⟩
      have a := walk j (by omega) s0 hs0 (ih (by omega) s0 hs0) (q j) (Nat.le_refl _) s (by omega)
      have b := hkp.piece s j (by rw [alikeO_n]; omega) hj
      rw [alike_T (by omega)] at b
      show o.A k + (sumTo (o.T k) j + o.T k j) + (sumTo (fun j => (q j : Int) * o.T k j) j + (q j : Int) * o.T k j) ≤ _
      omega
  obtain ⟨n, hn⟩ : ∃ n, o.m = n + 1 := ⟨o.m - 1, by omega⟩
  have h6 := hw n (by omega)
  obtain ⟨s0, hs0⟩ : ∃ s0 : Nat, (s0 : Int) = (i : Int) - sumTo (fun j => (q j : Int) * o.C j) o.m + sumTo (fun j => (q j : Int) * o.C j) n := ⟨((i : Int) - sumTo (fun j => (q j : Int) * o.C j) o.m + sumTo (fun j => (q j : Int) * o.C j) n).toNat, by omega⟩
  have e6 : sumTo (fun j => (q j : Int) * o.C j) (n + 1) = sumTo (fun j => (q j : Int) * o.C j) n + (q n : Int) * o.C n := rfl
  have a := walk n (by omega) s0 hs0 (main n (by omega) s0 hs0) (q n) (Nat.le_refl _) i (by rw [hn] at hs0; omega)
  have e7 : sumTo (o.T k) (n + 1) = sumTo (o.T k) n + o.T k n := rfl
  have e8 : sumTo (fun j => (q j : Int) * o.T k j) (n + 1) = sumTo (fun j => (q j : Int) * o.T k j) n + (q n : Int) * o.T k n := rfl
  rw [← hq2]
  simp only [hn, Nat.add_sub_cancel] at *
  omega
theorem alike_end (ho : OrdOk o) (hk : k < o.n) (hc1 : 1 ≤ c) (hc : c ≤ 20) : endS (alikeO o k c) = o.A k + sumTo (o.T k) o.m + knap o.C (o.T k) o.m (c - 1) := by
  have hm1 := ho.hm1
  have hA := ho.vA k hk
  have hT : ∀ n, n ≤ o.m → 0 ≤ sumTo (o.T k) n := by
    intro n; induction n with
    | zero => intro _; exact Int.le_refl _
    | succ n ih => intro h; have := ih (by omega); have := (ho.vT k n hk (by omega)).1; unfold sumTo; omega
  have hmono : ∀ d n, n + d = o.m → sumTo (o.T k) n ≤ sumTo (o.T k) o.m := by
    intro d; induction d with
    | zero => intro n h; rw [show n = o.m by omega]; exact Int.le_refl _
    | succ d ih =>
      intro n h
      have a := ih (n + 1) (by omega)
      have b := (ho.vT k n hk (by omega)).1
      have e : sumTo (o.T k) (n + 1) = sumTo (o.T k) n + o.T k n := rfl
      omega
  apply Int.le_antisymm
  · refine end_le (by have := hT o.m (Nat.le_refl _); have := knap_nonneg (C := o.C) (T := o.T k) (m := o.m) (c - 1); omega) fun i j hi hj => ?_
    rw [alikeO_n] at hi
    rw [alike_m] at hj
    rw [alike_T hi]
    have a := alike_upper ho hk hc hi hj
    have b := knap_mono (C := o.C) (T := o.T k) (m := o.m) (a := i) (b := c - 1) (by omega)
    have d := hmono (o.m - (j + 1)) (j + 1) (by omega)
    have e : sumTo (o.T k) (j + 1) = sumTo (o.T k) j + o.T k j := rfl
    omega
  · have a := alike_lower ho hk hc (i := c - 1) (by omega)
    have b := end_ge (o := alikeO o k c) (i := c - 1) (j := o.m - 1) (by rw [alikeO_n]; omega) (by rw [alike_m]; omega)
    rw [alike_T (by omega)] at b
    omega
end
end Go.Proofs.Ytnfagcccgmakdaa
namespace Go.Proofs.Ytnfagcccgmakdaa
open Go.RowKit Go.Wk Go.Proofs

/-- numbers below a bound, each once, are no more than the bound -/
theorem filter_one {c : Nat} : ∀ {l : List Nat}, l.Nodup → l.length ≤ (l.filter fun x => decide (x ≠ c)).length + 1
  | [], _ => Nat.zero_le _
  | x :: l, h => by
    rw [List.nodup_cons] at h
    by_cases e : x = c
    · subst e
      have : (l.filter fun y => decide (y ≠ x)) = l := List.filter_eq_self.2 fun y hy => by
        simp only [decide_eq_true_eq]; intro e; subst e; exact h.1 hy
      rw [List.filter_cons_of_neg (by simp), this, List.length_cons]; exact Nat.le_refl _
    · have := filter_one (c := c) h.2
      simp only [List.filter_cons, e, ne_eq, not_false_eq_true, decide_true, if_true, List.length_cons] at this ⊢
      omega
theorem nodup_le : ∀ (c : Nat) (l : List Nat), l.Nodup → (∀ x ∈ l, x < c) → l.length ≤ c
  | 0, l, _, h => by
    cases l with
    | nil => exact Nat.le_refl _
    | cons x l => exact absurd (h x List.mem_cons_self) (Nat.not_lt_zero _)
  | c + 1, l, hn, h => by
    have a := filter_one (c := c) hn
    have b := nodup_le c (l.filter fun x => decide (x ≠ c)) (hn.filter _) (fun x hx => by
      rw [List.mem_filter] at hx
      have := h x hx.1
      have h2 := of_decide_eq_true hx.2
      omega)
    omega
theorem nodup_map {α β : Type} {f : α → β} : ∀ {l : List α}, l.Nodup → (∀ x ∈ l, ∀ y ∈ l, f x = f y → x = y) → (l.map f).Nodup
  | [], _, _ => List.nodup_nil
  | x :: l, hn, h => by
    rw [List.nodup_cons] at hn
    rw [List.map_cons, List.nodup_cons]
    refine ⟨fun hx => ?_, nodup_map hn.2 fun a ha b hb => h a (List.mem_cons_of_mem _ ha) b (List.mem_cons_of_mem _ hb)⟩
    obtain ⟨y, hy, e⟩ := List.mem_map.1 hx
    have := h x List.mem_cons_self y (List.mem_cons_of_mem _ hy) e.symm
    subst this
    exact hn.1 hy
theorem stintsL_nodup (n m : Nat) : (stintsL n m).Nodup := by
  unfold stintsL
  refine nodup_map List.nodup_range fun x hx y hy e => ?_
  have e1 := congrArg Prod.fst e
  have e2 := congrArg Prod.snd e
  dsimp only at e1 e2
  have h1 := Nat.div_add_mod x m
  have h2 := Nat.div_add_mod y m
  rw [← h1, ← h2, e1, e2]
section
variable {o : Ord} (ho : OrdOk o)
include ho
theorem piece_chain {i : Nat} (hi : i < o.n) : ∀ (d j : Nat), j + d + 1 < o.m → begA o i j + o.T i j ≤ begA o i (j + d + 1)
  | 0, j, h => (beg_keeps ho).piece i j hi h
  | d + 1, j, h => by
    have a := piece_chain hi d j (by omega)
    have b := (beg_keeps ho).piece i (j + d + 1) hi h
    have c := (ho.vT i (j + d + 1) hi (by omega)).1
    have e : j + (d + 1) + 1 = j + d + 1 + 1 := by omega
    rw [e]; omega
theorem holds_runner {i j j' : Nat} {d : Int} (hi : i < o.n) (hj : j < o.m) (hj' : j' < o.m) (h : holds o d (i, j) = true) (h' : holds o d (i, j') = true) : j = j' := by
  unfold holds at h h'
  have a := of_decide_eq_true h
  have b := of_decide_eq_true h'
  dsimp only at a b
  rcases Nat.lt_trichotomy j j' with e | e | e
  · have := piece_chain ho hi (j' - j - 1) j (by omega)
    rw [show j + (j' - j - 1) + 1 = j' by omega] at this
    omega
  · exact e
  · have := piece_chain ho hi (j - j' - 1) j' (by omega)
    rw [show j' + (j - j' - 1) + 1 = j by omega] at this
    omega
theorem copy_chain {j c : Nat} (hj : j < o.m) (hc : o.C j = (c : Int)) : ∀ (q i : Nat), i + (q + 1) * c < o.n → begA o i j + o.T i j ≤ begA o (i + (q + 1) * c) j
  | 0, i, h => (beg_keeps ho).copy (i + (0 + 1) * c) i j h hj (by rw [hc]; omega)
  | q + 1, i, h => by
    have e : i + (q + 1 + 1) * c = i + (q + 1) * c + c := by rw [Nat.add_mul (q + 1) 1 c]; omega
    have a := copy_chain hj hc q i (by omega)
    have b := (beg_keeps ho).copy (i + (q + 1) * c + c) (i + (q + 1) * c) j (by omega) hj (by rw [hc]; omega)
    have t := (ho.vT (i + (q + 1) * c) j (by omega) hj).1
    rw [e]; omega
theorem holds_piece {i i' j c : Nat} {d : Int} (hi : i < o.n) (hi' : i' < o.n) (hj : j < o.m) (hc : o.C j = (c : Int)) (hmod : i % c = i' % c) (h : holds o d (i, j) = true) (h' : holds o d (i', j) = true) : i = i' := by
  have hcp : 0 < c := by have := (ho.vC j hj).1; omega
  unfold holds at h h'
  have a := of_decide_eq_true h
  have b := of_decide_eq_true h'
  dsimp only at a b
  have far : ∀ x y : Nat, x < y → y < o.n → x % c = y % c → begA o x j + o.T x j ≤ begA o y j := by
    intro x y hxy hy hm
    have h1 := Nat.div_add_mod x c
    have h2 := Nat.div_add_mod y c
    have hq : x / c < y / c := by
      refine Nat.lt_of_not_le fun hle => ?_
      have := Nat.mul_le_mul_left c hle
      omega
    obtain ⟨q, hq⟩ : ∃ q, y / c = x / c + (q + 1) := ⟨y / c - x / c - 1, by omega⟩
    have e : y = x + (q + 1) * c := by
      have : c * (y / c) = c * (x / c) + (q + 1) * c := by rw [hq, Nat.mul_add, Nat.mul_comm c (q + 1)]
      omega
    rw [e]
    exact copy_chain ho hj hc q x (by omega)
  rcases Nat.lt_trichotomy i i' with e | e | e
  · have := far i i' e hi' hmod; omega
  · exact e
  · have := far i' i e hi hmod.symm; omega
theorem holds_copies {j : Nat} (d : Int) (hj : j < o.m) : (((((stintsL o.n o.m).filter (holds o d)).filter fun x => decide (x.2 = j)).length : Nat) : Int) ≤ o.C j := by
  have hC := ho.vC j hj
  obtain ⟨c, hc⟩ : ∃ c : Nat, o.C j = (c : Int) := ⟨(o.C j).toNat, by omega⟩
  have hcp : 0 < c := by omega
  have hmem : ∀ x ∈ ((stintsL o.n o.m).filter (holds o d)).filter fun x => decide (x.2 = j), x.1 < o.n ∧ x.2 = j ∧ holds o d (x.1, j) = true := by
    intro x hx
    rw [List.mem_filter, List.mem_filter] at hx
    obtain ⟨⟨h1, h2⟩, h3⟩ := hx
    have h3 := of_decide_eq_true h3
    refine ⟨(stintsL_mem.1 h1).1, h3, ?_⟩
    rw [← h3]; exact h2
  have := nodup_le c ((((stintsL o.n o.m).filter (holds o d)).filter fun x => decide (x.2 = j)).map fun x => x.1 % c)
    (nodup_map ((((stintsL_nodup o.n o.m).filter _).filter _)) fun x hx y hy e => by
      obtain ⟨a1, a2, a3⟩ := hmem x hx
      obtain ⟨b1, b2, b3⟩ := hmem y hy
      have := holds_piece ho a1 b1 hj hc e a3 b3
      obtain ⟨x1, x2⟩ := x
      obtain ⟨y1, y2⟩ := y
      dsimp only at this a2 b2
      rw [this, a2, b2])
    (fun x hx => by
      obtain ⟨y, -, rfl⟩ := List.mem_map.1 hx
      exact Nat.mod_lt _ hcp)
  rw [List.length_map] at this
  omega
end
/-- of how many of the first days something is so -/
def cntTo (p : Nat → Bool) : Nat → Nat
  | 0 => 0
  | n + 1 => cntTo p n + (if p n then 1 else 0)
theorem cnt_true {p : Nat → Bool} {a : Nat} : ∀ {b : Nat}, (∀ x, a ≤ x → x < a + b → p x = true) → cntTo p (a + b) = cntTo p a + b
  | 0, _ => rfl
  | b + 1, h => by
    have ih := cnt_true (p := p) (a := a) (b := b) (fun x h1 h2 => h x h1 (by omega))
    show cntTo p (a + b) + (if p (a + b) = true then 1 else 0) = _
    rw [h (a + b) (by omega) (by omega), if_pos rfl]; omega
theorem cnt_false {p : Nat → Bool} {a : Nat} : ∀ {b : Nat}, (∀ x, a ≤ x → x < a + b → p x = false) → cntTo p (a + b) = cntTo p a
  | 0, _ => rfl
  | b + 1, h => by
    have ih := cnt_false (p := p) (a := a) (b := b) (fun x h1 h2 => h x h1 (by omega))
    show cntTo p (a + b) + (if p (a + b) = true then 1 else 0) = _
    rw [h (a + b) (by omega) (by omega), if_neg (by decide)]; omega
/-- whether a scribe has a stint under way -/
def underB (o : Ord) (i : Nat) (d : Int) : Bool := (List.range o.m).any fun j => holds o d (i, j)
theorem underB_iff {o : Ord} {i : Nat} {d : Int} : underB o i d = true ↔ ∃ j, j < o.m ∧ holds o d (i, j) = true := by
  unfold underB
  rw [List.any_eq_true]
  exact ⟨fun ⟨j, h1, h2⟩ => ⟨j, List.mem_range.1 h1, h2⟩, fun ⟨j, h1, h2⟩ => ⟨j, List.mem_range.2 h1, h2⟩⟩
theorem idle_count {o : Ord} (ho : OrdOk o) {i : Nat} (hi : i < o.n) : ∀ j, j < o.m → ∀ q : Nat, (q : Int) = begA o i j + o.T i j - o.A i →
    (cntTo (fun x => !underB o i (o.A i + (x : Int))) q : Int) = (q : Int) - sumTo (o.T i) (j + 1) := by
  have hA := ho.vA i hi
  have hm1 := ho.hm1
  have step : ∀ j, j < o.m → ∀ e q : Nat, o.A i + (e : Int) ≤ begA o i j → (∀ j', j' < j → begA o i j' + o.T i j' ≤ o.A i + (e : Int)) → (q : Int) = begA o i j + o.T i j - o.A i →
      (cntTo (fun x => !underB o i (o.A i + (x : Int))) q : Int) = (cntTo (fun x => !underB o i (o.A i + (x : Int))) e : Int) + (begA o i j - o.A i - (e : Int)) := by
    intro j hj e q he hlo hq
    have hT := ho.vT i j hi hj
    obtain ⟨s, hs⟩ : ∃ s : Nat, (s : Int) = begA o i j - o.A i - (e : Int) := ⟨(begA o i j - o.A i - (e : Int)).toNat, by omega⟩
    obtain ⟨t, ht⟩ : ∃ t : Nat, (t : Int) = o.T i j := ⟨(o.T i j).toNat, by omega⟩
    have hqe : q = e + s + t := by omega
    have c1 := cnt_true (p := fun x => !underB o i (o.A i + (x : Int))) (a := e) (b := s) fun x h1 h2 => by
      rw [Bool.not_eq_true', ← Bool.not_eq_true, underB_iff]
      rintro ⟨j', hj', hh⟩
      unfold holds at hh
      have hh := of_decide_eq_true hh
      dsimp only at hh
      rcases Nat.lt_trichotomy j' j with e1 | e1 | e1
      · have := hlo j' e1; omega
      · subst e1; omega
      · have := piece_chain ho hi (j' - j - 1) j (by omega)
        rw [show j + (j' - j - 1) + 1 = j' by omega] at this
        omega
    have c2 := cnt_false (p := fun x => !underB o i (o.A i + (x : Int))) (a := e + s) (b := t) fun x h1 h2 => by
      rw [Bool.not_eq_false', underB_iff]
      exact ⟨j, hj, by unfold holds; refine decide_eq_true ?_; dsimp only; omega⟩
    rw [hqe, c2, c1]; omega
  intro j
  induction j with
  | zero =>
    intro hj q hq
    have a := (beg_keeps ho).arr i hi
    have := step 0 hj 0 q (by omega) (fun j' h => by omega) hq
    have e : sumTo (o.T i) (0 + 1) = 0 + o.T i 0 := rfl
    rw [this]
    show ((0 : Nat) : Int) + _ = _
    omega
  | succ j ih =>
    intro hj q hq
    have hT := ho.vT i j hi (by omega)
    have hb := begA_ok ho hi (show j < o.m by omega)
    have hk := (beg_keeps ho).piece i j hi hj
    have ha : o.A i ≤ begA o i j := by
      have a := (beg_keeps ho).arr i hi
      rcases Nat.eq_zero_or_pos j with e | e
      · subst e; exact a
      · have := piece_chain ho hi (j - 1) 0 (by omega)
        rw [show 0 + (j - 1) + 1 = j by omega] at this
        have := (ho.vT i 0 hi (by omega)).1
        omega
    obtain ⟨e, he⟩ : ∃ e : Nat, (e : Int) = begA o i j + o.T i j - o.A i := ⟨(begA o i j + o.T i j - o.A i).toNat, by omega⟩
    have h1 := ih (by omega) e he
    have h2 := step (j + 1) hj e q (by omega) (fun j' h => by
      rcases Nat.lt_or_ge j' j with e1 | e1
      · have := piece_chain ho hi (j - j' - 1) j' (by omega)
        rw [show j' + (j - j' - 1) + 1 = j by omega] at this
        omega
      · have : j' = j := by omega
        subst this; omega) hq
    have e3 : sumTo (o.T i) (j + 1 + 1) = sumTo (o.T i) (j + 1) + o.T i (j + 1) := rfl
    rw [h2, h1, e3]; omega
theorem sum_sumTo (l : List Int) (f : Nat → Int) (h : ∀ k (h : k < l.length), l[k] = f k) : l.sum = sumTo f l.length := by
  have key : ∀ n, n ≤ l.length → (l.take n).sum = sumTo f n := by
    intro n
    induction n with
    | zero => intro _; rfl
    | succ n ih =>
      intro hn
      rw [sumI_take l n hn, ih (by omega), h n hn]; rfl
  have := key l.length (Nat.le_refl _)
  rwa [List.take_length] at this
theorem takes_sum {o : Ord} (hg : OrdGood o) {i : Nat} (hi : i < o.n) : (takesOf o i).sum = sumTo (o.T i) o.m := by
  have hl : (takesOf o i).length = o.m := hg.takes_len hi
  rw [sum_sumTo (takesOf o i) (o.T i) (fun k hk => by unfold Ord.T; show _ = (takesOf o i)[k]?.getD 0; rw [List.getElem?_eq_getElem hk]; rfl), hl]
end Go.Proofs.Ytnfagcccgmakdaa
namespace Go.Proofs.Ytnfagcccgmakdaa
open Go.RowKit Go.Wk Go.Proofs
attribute [local irreducible] Go.Wk.Wops Go.Wk.Wp Go.Wk.Mtree Go.Wk.Mops
set_option maxHeartbeats 4000000

def holdN (o : Ord) (d : Int) : List (Nat × Nat) := (stintsL o.n o.m).filter (holds o d)
def HoldV (w : World) (v : Value) (H : List (Nat × Nat)) : Prop := ∃ A c, v = .slice A H.length c ∧ ∀ k x, H[k]? = some x → ∃ b ob, A = some ⟨b, ob, none⟩ ∧ w.cell? ⟨b, ob + k * 2, none⟩ = some (.int .i64 (x.1 : Int)) ∧ w.cell? ⟨b, ob + k * 2 + 1, none⟩ = some (.int .i64 (x.2 : Int))
theorem HoldV.of {w : World} {B : Nat} {v : Value} {H : List (Nat × Nat)} (h : StintsV w B v (H.map zS)) : HoldV w v H := by
  obtain ⟨A, c, rfl, hx, -⟩ := h
  refine ⟨A, c, by rw [List.length_map], fun k x hk => ?_⟩
  obtain ⟨hl, he⟩ := List.getElem?_eq_some_iff.1 hk
  obtain ⟨b, ob, h1, h2, h3⟩ := hx (by intro e; rw [List.map_eq_nil_iff] at e; rw [e] at hl; exact absurd hl (Nat.not_lt_zero _))
  obtain ⟨h4, h5⟩ := h3 k (by rw [List.length_map]; exact hl)
  rw [List.getElem_map, he] at h4 h5
  exact ⟨b, ob, h1, h4, h5⟩
theorem HoldV.ext {w w' : World} {v : Value} {H : List (Nat × Nat)} (h : HoldV w v H) (hE : Ext w w') : HoldV w' v H := by
  obtain ⟨A, c, h1, h2⟩ := h
  refine ⟨A, c, h1, fun k x hk => ?_⟩
  obtain ⟨b, ob, h3, h4, h5⟩ := h2 k x hk
  exact ⟨b, ob, h3, hE.cell h4, hE.cell h5⟩
theorem Hold_g (v : Value) (o : Ord) (d : Int) (w : World) (hV : OrderV w w.heap.size v o) (hg : OrdGood o) (hd : 0 ≤ d ∧ d ≤ 1048576) :
    CallsV Try.prog 26 #[v, .int .i64 d] w fun v w' => ∃ A c, v = .tuple #[.slice A (holdN o d).length c, .int .i64 0] ∧ HoldV w' (.slice A (holdN o d).length c) (holdN o d) ∧ Ext w w' := by
  refine (Hold_c v o d w hV hg.fits).mono fun _ _ ⟨t, h1, h2, h3⟩ => ?_
  have ha := askS_good hg (p := okDay d) (by unfold okDay; exact decide_eq_true hd)
  rw [ha] at h1 h2
  rw [if_pos rfl] at h2
  have h4 := HoldV.of (H := holdN o d) h2.stintsV
  obtain ⟨A, c, rfl, h5⟩ := h4
  exact ⟨A, c, h1, ⟨A, c, rfl, h5⟩, h3⟩
theorem Waits_g (v : Value) (o : Ord) (w : World) (hV : OrderV w w.heap.size v o) (hg : OrdGood o) :
    CallsV Try.prog 27 #[v] w fun v w' => ∃ A c, v = .tuple #[.slice A o.n c, .int .i64 0] ∧ IntsV w' w'.heap.size (.slice A o.n c) (waitL o) ∧ Ext w w' := by
  refine (Waits_c v o w hV hg.fits).mono fun _ _ ⟨t, h1, h2, h3⟩ => ?_
  rw [checkS_zero.2 hg] at h1 h2
  rw [if_pos rfl] at h2
  have h4 := h2.intsV
  obtain ⟨A, c, rfl⟩ := h4.slice
  have hl : (waitL o).length = o.n := by unfold waitL; simp
  rw [hl] at h1 h4
  exact ⟨A, c, h1, h4, h3⟩
theorem holdN_mem {o : Ord} {d : Int} {x : Nat × Nat} (h : x ∈ holdN o d) : x.1 < o.n ∧ x.2 < o.m ∧ holds o d x = true := by
  unfold holdN at h
  rw [List.mem_filter] at h
  exact ⟨(stintsL_mem.1 h.1).1, (stintsL_mem.1 h.1).2, h.2⟩
theorem holdN_len {o : Ord} (d : Int) (hn : o.n ≤ 10) (hm : o.m ≤ 8) : (holdN o d).length ≤ 80 := by
  have := List.length_filter_le (holds o d) (stintsL o.n o.m)
  rw [stintsL_len] at this
  have h2 := Nat.mul_le_mul hn hm
  unfold holdN; omega
theorem holdN_one {o : Ord} (ho : OrdOk o) {d : Int} {i k : Nat} {x y : Nat × Nat} (hx : (holdN o d)[i]? = some x) (hy : (holdN o d)[k]? = some y) (h : y.1 = x.1) : k = i := by
  obtain ⟨h1, e1⟩ := List.getElem?_eq_some_iff.1 hx
  obtain ⟨h2, e2⟩ := List.getElem?_eq_some_iff.1 hy
  have a := holdN_mem (List.mem_of_getElem? hx)
  have b := holdN_mem (List.mem_of_getElem? hy)
  have hj := holds_runner ho (i := x.1) (j := y.2) (j' := x.2) a.1 b.2.1 a.2.1 (by rw [← h]; exact b.2.2) a.2.2
  have hxy : y = x := by
    obtain ⟨x1, x2⟩ := x
    obtain ⟨y1, y2⟩ := y
    dsimp only at h hj
    rw [h, hj]
  have hnd : (holdN o d).Nodup := (stintsL_nodup _ _).filter _
  have hp := List.pairwise_iff_getElem.1 hnd
  rcases Nat.lt_trichotomy k i with e | e | e
  · exact absurd (by rw [e1, e2, hxy]) (hp k i h2 h1 e)
  · exact e
  · exact absurd (by rw [e1, e2, hxy]) (hp i k h1 h2 e)
theorem holdN_under {o : Ord} {d : Int} {n : Nat} (hn : n < o.n) : (∃ x ∈ holdN o d, x.1 = n) ↔ underB o n d = true := by
  rw [underB_iff]
  constructor
  · rintro ⟨x, hx, rfl⟩
    have := holdN_mem hx
    exact ⟨x.2, this.2.1, this.2.2⟩
  · rintro ⟨j, hj, hh⟩
    exact ⟨(n, j), List.mem_filter.2 ⟨stintsL_mem.2 ⟨hn, hj⟩, hh⟩, rfl⟩
def sameC (H : List (Nat × Nat)) (j k : Nat) : Nat := ((H.take k).filter fun x => decide (x.2 = j)).length
theorem sameC_succ {H : List (Nat × Nat)} {j k : Nat} {x : Nat × Nat} (h : H[k]? = some x) : sameC H j (k + 1) = sameC H j k + (if x.2 = j then 1 else 0) := by
  unfold sameC
  rw [filter_take _ _ h, List.length_append]
  by_cases e : x.2 = j
  · simp [e]
  · simp [e]
theorem sameC_all {o : Ord} (ho : OrdOk o) {d : Int} {j : Nat} (hj : j < o.m) : ((sameC (holdN o d) j (holdN o d).length : Nat) : Int) ≤ o.C j := by
  unfold sameC
  rw [List.take_length]
  exact holds_copies ho d hj
theorem sameC_le (H : List (Nat × Nat)) (j k : Nat) : sameC H j k ≤ H.length := by
  unfold sameC
  have := List.length_filter_le (fun x : Nat × Nat => decide (x.2 = j)) (H.take k)
  rw [List.length_take] at this
  omega
theorem arr_le {o : Ord} (ho : OrdOk o) {i j : Nat} (hi : i < o.n) (hj : j < o.m) : o.A i ≤ begA o i j := by
  have a := (beg_keeps ho).arr i hi
  rcases Nat.eq_zero_or_pos j with e | e
  · subst e; exact a
  · have h := piece_chain ho hi (j - 1) 0 (by omega)
    rw [show 0 + (j - 1) + 1 = j by omega] at h
    have := (ho.vT i 0 hi (by omega)).1
    omega
theorem days_c (v : Value) (o : Ord) (day a : Int) (w : World) (hV : OrderV w w.heap.size v o) (hf : Fits o) (hd : 0 ≤ day ∧ day ≤ 65535) (ha : 0 ≤ a ∧ a ≤ 255) :
    CallsV Try.prog 6 #[v, .int .u16 day, .int .u8 a] w fun v w' => v = .bool true ∧ Ext w w' := by
  obtain ⟨A1, n1, c1, A2, n2, c2, rfl, hV⟩ := hV.two
  refine Wp.fn Try.func6 rfl Try.ntmps6 (by simp) ?_
  refine Wp.keep [0, 1, 2] fun r1 hkeep => ?_
  obtain ⟨e0_1, e1_1, e2_1, -⟩ := hkeep
  simp [go_sem] at e0_1 e1_1 e2_1
  by_cases hs : SmallP o
  · skip
    refine Wp.seqRegion (.inl rfl) (by kernel_rfl) fun K' gd hK hg => ?_
    clear hg
    go_simp
    refine hK _ _ ?_
    clear hK K' gd
    refine Wp.keep [1, 2, 3] fun r2 hkeep => ?_
    obtain ⟨e1_2, e2_2, e3_2, -⟩ := hkeep
    simp [go_sem, e0_1, e1_1, e2_1] at e1_2 e2_2 e3_2
    clear e0_1 e1_1 e2_1
    refine Wp.seq ?_
    refine Wp.seqRegion (.inl rfl) (by kernel_rfl) fun K' gd hK hg => ?_
    clear hg
    go_simp
    refine Wcall (.inl rfl) (small_T hs _ (hV.ext (by repeat (first | assumption | exact Ext.refl _ | refine Ext.drew ?_ | refine Ext.alloc ?_ _ | refine Ext.trans ?_ (by assumption)))) hf) ?_
    rintro v w2 ⟨rfl, hE⟩
    have hE2 : Ext w w2 := (by repeat (first | assumption | exact Ext.refl _ | refine Ext.drew ?_ | refine Ext.alloc ?_ _ | refine Ext.trans ?_ (by assumption)))
    have x0 : w2.cell? ⟨w.heap.size, 0, none⟩ = some (.slice A1 n1 c1) := hE.cell (by go_simp)
    have x1 : w2.cell? ⟨w.heap.size, 1, none⟩ = some (.slice A2 n2 c2) := hE.cell (by go_simp)
    go_simp
    refine hK _ _ ?_
    clear hK K' gd
    refine Wp.keep [1, 2, 3, 27] fun r3 hkeep => ?_
    obtain ⟨e1_3, e2_3, e3_3, e27_3, -⟩ := hkeep
    simp [go_sem, e1_2, e2_2, e3_2] at e1_3 e2_3 e3_3 e27_3
    clear e1_2 e2_2 e3_2
    refine Wp.condF (by go_simp) ?_
    have hg := hs.good
    have ho := hg.ok
    have hn := hs.n
    have hV2 := hV.ext hE2
    have hm1 := ho.hm1
    have hm8 := hs.m
    obtain ⟨p, hcv, hrv, hO⟩ := hV.ordF2 hg
    simp only [OA.cv, OA.rv] at hcv hrv
    injection hcv with p1 p2 p3
    injection hrv with p4 p5 p6
    subst p1 p2 p3 p5 p6
    have hrA := hO.hr hn.1
    rw [hrA] at p4
    subst p4
    obtain ⟨d, hd1, hd2⟩ := mod_nat (n := 2000) hd.1 (by omega)
    have hwd : IntKind.i64.wrap day = day := IntWalk.i64_in _ (by omega)
    have hd' : day.tmod 2000 = (d : Int) := hd1
    refine Wp.skip ?_
    refine thenK_normal ?_
    refine Wp.seqRegion (.inl rfl) (by kernel_rfl) fun K' gd hK hg => ?_
    clear hg
    go_simp
    refine Wcall (.inl rfl) (Hold_g _ o (d : Int) _ hV2 hg (by omega)) ?_
    rintro v w3 ⟨AH, cH, rfl, hH, hE3⟩
    have x0 := hE3.cell x0
    have x1 := hE3.cell x1
    have hV3 := hV2.ext hE3
    go_simp
    refine hK _ _ ?_
    clear hK K' gd
    refine Wp.keep [2, 3, 7, 8] fun r4 hkeep => ?_
    obtain ⟨e2_4, e3_4, e7_4, e8_4, -⟩ := hkeep
    simp [go_sem, e1_3, e2_3, e3_3, e27_3] at e2_4 e3_4 e7_4 e8_4
    clear e1_3 e2_3 e3_3 e27_3
    refine Wp.seq ?_
    refine Wp.seqRegion (.inl rfl) (by kernel_rfl) fun K' gd hK hg => ?_
    clear hg
    go_simp
    refine hK _ _ ?_
    clear hK K' gd
    refine Wp.keep [2, 3, 7, 38] fun r5 hkeep => ?_
    obtain ⟨e2_5, e3_5, e7_5, e38_5, -⟩ := hkeep
    simp [go_sem, e2_4, e3_4, e7_4, e8_4] at e2_5 e3_5 e7_5 e38_5
    clear e2_4 e3_4 e7_4 e8_4
    refine Wp.condF (by go_simp) ?_
    clear hwd hd' hd1 hd2
    have hHl := holdN_len (o := o) (d : Int) hn.2 hm8
    obtain ⟨H, hHe⟩ : ∃ H, holdN o (d : Int) = H := ⟨_, rfl⟩
    rw [hHe] at hH hHl e7_5
    have hO3 := hO.ext (hE2.trans hE3)
    obtain ⟨_, _, hHv, hHc⟩ := id hH
    injection hHv with hA3 h4 hc3
    subst hA3 hc3
    refine Wp.skip ?_
    refine thenK_normal ?_
    refine Wp.seq ?_
    refine Wp.seqRegion (.inl rfl) (by kernel_rfl) fun K' gd hK hg => ?_
    clear hg
    go_simp
    refine hK _ _ ?_
    clear hK K' gd
    refine Wp.keep [2, 3, 7, 9] fun r6 hkeep => ?_
    obtain ⟨e2_6, e3_6, e7_6, e9_6, -⟩ := hkeep
    simp [go_sem, e2_5, e3_5, e7_5, e38_5] at e2_6 e3_6 e7_6 e9_6
    clear e2_5 e3_5 e7_5 e38_5
    refine Wp.block ?_
    refine Wp.loop (fun i ρ ds wi => AllEq [2, 3, 7] ρ r6 ∧ ds = [] ∧ (ρ 9 = .int .i64 (i : Int) ∧ Ext w3 wi)) (H.length) ?_ ?_
    · refine ⟨AllEq.refl _ _, rfl, ?_⟩
      exact ⟨by rw [e9_6]; rfl, (by repeat (first | assumption | exact Ext.refl _ | refine Ext.drew ?_ | refine Ext.alloc ?_ _ | refine Ext.trans ?_ (by assumption)))⟩
    · rintro i r7 _ wi hi ⟨hA, rfl, ⟨e9, hEi⟩⟩
      obtain ⟨e2_7, e3_7, e7_7, -⟩ := hA
      rw [e2_6] at e2_7
      rw [e3_6] at e3_7
      rw [e7_6] at e7_7
      refine Wp.seq ?_
      refine Wp.seqRegion (.inl rfl) (by kernel_rfl) fun K' gd hK hg => ?_
      clear hg
      go_simp
      refine hK _ _ ?_
      clear hK K' gd
      refine Wp.keep [2, 3, 7, 9, 42] fun r8 hkeep => ?_
      obtain ⟨e2_8, e3_8, e7_8, e9_8, e42_8, -⟩ := hkeep
      simp [go_sem, e2_7, e3_7, e7_7, e9] at e2_8 e3_8 e7_8 e9_8 e42_8
      clear e2_7 e3_7 e7_7 e9
      by_cases h : i < H.length
      · refine Wp.condT (by go_simp) ?_
        obtain ⟨x, hx⟩ : ∃ x, H[i]? = some x := ⟨_, List.getElem?_eq_getElem h⟩
        obtain ⟨b1, o1, rfl, d1, d2⟩ := hHc i x hx
        have b3 : (i : Int) < (H.length : Int) := by omega
        refine Wp.skip ?_
        refine thenK_normal ?_
        refine Wp.seq ?_
        refine Wp.block ?_
        refine Wp.seqRegion (.inl rfl) (by kernel_rfl) fun K' gd hK hg => ?_
        clear hg
        go_simp
        refine hK _ _ ?_
        clear hK K' gd
        refine Wp.keep [2, 3, 7, 9, 10] fun r9 hkeep => ?_
        obtain ⟨e2_9, e3_9, e7_9, e9_9, e10_9, -⟩ := hkeep
        simp [go_sem, e2_8, e3_8, e7_8, e9_8, e42_8] at e2_9 e3_9 e7_9 e9_9 e10_9
        clear e2_8 e3_8 e7_8 e9_8 e42_8
        refine Wp.seq ?_
        refine Wp.seqRegion (.inl rfl) (by kernel_rfl) fun K' gd hK hg => ?_
        clear hg
        go_simp
        refine hK _ _ ?_
        clear hK K' gd
        refine Wp.keep [2, 3, 7, 9, 10, 11] fun r10 hkeep => ?_
        obtain ⟨e2_10, e3_10, e7_10, e9_10, e10_10, e11_10, -⟩ := hkeep
        simp [go_sem, e2_9, e3_9, e7_9, e9_9, e10_9] at e2_10 e3_10 e7_10 e9_10 e10_10 e11_10
        clear e2_9 e3_9 e7_9 e9_9 e10_9
        refine Wp.block ?_
        refine Wp.loop (fun k ρ ds wk => AllEq [2, 3, 7, 9] ρ r10 ∧ ds = [] ∧ (ρ 10 = .int .i64 ((sameC H x.2 k : Nat) : Int) ∧ ρ 11 = .int .i64 (k : Int) ∧ Ext w3 wk)) (H.length) ?_ ?_
        · refine ⟨AllEq.refl _ _, rfl, ?_⟩
          exact ⟨by rw [e10_10]; rfl, by rw [e11_10]; rfl, (by repeat (first | assumption | exact Ext.refl _ | refine Ext.drew ?_ | refine Ext.alloc ?_ _ | refine Ext.trans ?_ (by assumption)))⟩
        · rintro k r11 _ wk hk ⟨hA, rfl, ⟨e10, e11, hEk⟩⟩
          obtain ⟨e2_11, e3_11, e7_11, e9_11, -⟩ := hA
          rw [e2_10] at e2_11
          rw [e3_10] at e3_11
          rw [e7_10] at e7_11
          rw [e9_10] at e9_11
          refine Wp.seq ?_
          refine Wp.seqRegion (.inl rfl) (by kernel_rfl) fun K' gd hK hg => ?_
          clear hg
          go_simp
          refine hK _ _ ?_
          clear hK K' gd
          refine Wp.keep [2, 3, 7, 9, 10, 11, 48] fun r12 hkeep => ?_
          obtain ⟨e2_12, e3_12, e7_12, e9_12, e10_12, e11_12, e48_12, -⟩ := hkeep
          simp [go_sem, e2_11, e3_11, e7_11, e9_11, e10, e11] at e2_12 e3_12 e7_12 e9_12 e10_12 e11_12 e48_12
          clear e2_11 e3_11 e7_11 e9_11 e10 e11
          by_cases h2 : k < H.length
          · refine Wp.condT (by go_simp) ?_
            obtain ⟨y, hy⟩ : ∃ y, H[k]? = some y := ⟨_, List.getElem?_eq_getElem h2⟩
            obtain ⟨b2, o2, hb2, d3, d4⟩ := hHc k y hy
            injection hb2 with hb2
            injection hb2 with hb2 ho2
            subst hb2 ho2
            have d1 := hEk.cell d1
            have d2 := hEk.cell d2
            have d3 := hEk.cell d3
            have d4 := hEk.cell d4
            have b4 : (k : Int) < (H.length : Int) := by omega
            have hsc := sameC_succ (j := x.2) hy
            have hsl := sameC_le H x.2 k
            obtain ⟨sc, hsc2⟩ : ∃ s, sameC H x.2 k = s := ⟨_, rfl⟩
            rw [hsc2] at hsc hsl e10_12
            clear hsc2
            have hone : y.1 = x.1 → k = i := fun e => holdN_one ho (d := (d : Int)) (by rw [hHe]; exact hx) (by rw [hHe]; exact hy) e
            by_cases he : y.1 = x.1
            · skip
              have hk := hone he
              subst hk
              obtain rfl : y = x := by (rw [hx] at hy; exact (Option.some.inj hy).symm)
              have hk2 : ((k : Int) != (k : Int)) = false := by simp
              clear hone he d3 d4
              rw [if_pos rfl] at hsc
              refine Wp.skip ?_
              refine thenK_normal ?_
              refine Wp.seq ?_
              refine Wp.block ?_
              refine Wp.seq ?_
              refine Wp.seqDraw (.inl rfl) mixed [([0, 1, 2, 3, 4], none), ([5, 6, 7, 8, 9], none), ([10, 11], none), ([12, 13, 14, 15], none)] (by kernel_rfl) fun K' gd hK hg => ?_
              have g11 : gd 11 = some 62 := hg 11
              clear hg
              simp only [pick, nth, List.map_cons, List.map_nil, Option.map_none, Option.map_some]
              apply Mops.none
              · intro w' hE'
                have hC' := hE'.cellsS
                go_simp
                with_reducible rfl
              apply Mops.none
              · intro w' hE'
                have hC' := hE'.cellsS
                go_simp
                with_reducible rfl
              apply Mops.none
              · intro w' hE'
                have hC' := hE'.cellsS
                go_simp
                with_reducible rfl
              apply Mops.none
              · intro w' hE'
                have hC' := hE'.cellsS
                go_simp
                with_reducible rfl
              refine Mops.done ?_
              refine hK _ _ ?_
              clear hK K' gd g11
              refine Wp.keep [2, 3, 7, 9, 10, 11, 66] fun r13 hkeep => ?_
              obtain ⟨e2_13, e3_13, e7_13, e9_13, e10_13, e11_13, e66_13, -⟩ := hkeep
              simp [go_sem, e2_12, e3_12, e7_12, e9_12, e10_12, e11_12, e48_12] at e2_13 e3_13 e7_13 e9_13 e10_13 e11_13 e66_13
              clear e2_12 e3_12 e7_12 e9_12 e10_12 e11_12 e48_12
              refine Wp.condF (by go_simp) ?_
              refine Wp.skip ?_
              refine thenK_normal ?_
              refine Wp.seqDraw (.inl rfl) mixed [([0, 1, 2, 3, 4], none), ([5, 6, 7, 8, 9], none), ([10], none)] (by kernel_rfl) fun K' gd hK hg => ?_
              clear hg
              simp only [pick, nth, List.map_cons, List.map_nil, Option.map_none, Option.map_some]
              apply Mops.none
              · intro w' hE'
                have hC' := hE'.cellsS
                go_simp
                with_reducible rfl
              apply Mops.none
              · intro w' hE'
                have hC' := hE'.cellsS
                go_simp
                with_reducible rfl
              apply Mops.none
              · intro w' hE'
                have hC' := hE'.cellsS
                go_simp
                with_reducible rfl
              refine Mops.done ?_
              refine hK _ _ ?_
              clear hK K' gd
              refine Wp.keep [2, 3, 7, 9, 10, 11, 77] fun r14 hkeep => ?_
              obtain ⟨e2_14, e3_14, e7_14, e9_14, e10_14, e11_14, e77_14, -⟩ := hkeep
              simp [go_sem, e2_13, e3_13, e7_13, e9_13, e10_13, e11_13, e66_13] at e2_14 e3_14 e7_14 e9_14 e10_14 e11_14 e77_14
              clear e2_13 e3_13 e7_13 e9_13 e10_13 e11_13 e66_13
              refine Wp.condT (by go_simp) ?_
              refine Wp.loneRegion (.inl rfl) (by kernel_rfl) fun K' gd hK hg => ?_
              clear hg
              go_simp
              refine hK _ _ ?_
              clear hK K' gd
              refine Ends.keep [2, 3, 7, 9, 10, 11] fun r15 hkeep => ?_
              obtain ⟨e2_15, e3_15, e7_15, e9_15, e10_15, e11_15, -⟩ := hkeep
              simp [go_sem, e2_14, e3_14, e7_14, e9_14, e10_14, e11_14, e77_14] at e2_15 e3_15 e7_15 e9_15 e10_15 e11_15
              clear e2_14 e3_14 e7_14 e9_14 e10_14 e11_14 e77_14
              refine Ends.mk ?_
              refine blockK_normal ?_
              refine thenK_normal ?_
              refine Wp.loneRegion (.inl rfl) (by kernel_rfl) fun K' gd hK hg => ?_
              clear hg
              go_simp
              refine hK _ _ ?_
              clear hK K' gd
              refine Ends.keep [2, 3, 7, 9, 10, 11] fun r16 hkeep => ?_
              obtain ⟨e2_16, e3_16, e7_16, e9_16, e10_16, e11_16, -⟩ := hkeep
              simp [go_sem, e2_15, e3_15, e7_15, e9_15, e10_15, e11_15] at e2_16 e3_16 e7_16 e9_16 e10_16 e11_16
              clear e2_15 e3_15 e7_15 e9_15 e10_15 e11_15
              refine Ends.mk ?_
              refine thenK_normal ⟨by omega, ⟨by rw [e2_16, e2_10], by rw [e3_16, e3_10], by rw [e7_16, e7_10], by rw [e9_16, e9_10], trivial⟩, rfl, ?_⟩
              exact ⟨by rw [e10_16, hsc, IntWalk.i64_in _ (by omega)]; rfl, by rw [e11_16, IntWalk.i64_in _ (by omega)]; rfl, (by repeat (first | assumption | exact Ext.refl _ | refine Ext.drew ?_ | refine Ext.alloc ?_ _ | refine Ext.trans ?_ (by assumption)))⟩
            · skip
              have hk1 : (((y.1 : Nat) : Int) == ((x.1 : Nat) : Int)) = false := by rw [beq_eq_false_iff_ne]; omega
              clear hone he
              refine Wp.skip ?_
              refine thenK_normal ?_
              refine Wp.seq ?_
              refine Wp.block ?_
              refine Wp.seq ?_
              refine Wp.seqDraw (.inl rfl) mixed [([0, 1, 2, 3, 4], none), ([5, 6, 7, 8, 9], none), ([10, 11], none), ([12, 13, 14, 15], none)] (by kernel_rfl) fun K' gd hK hg => ?_
              have g11 : gd 11 = some 62 := hg 11
              clear hg
              simp only [pick, nth, List.map_cons, List.map_nil, Option.map_none, Option.map_some]
              apply Mops.none
              · intro w' hE'
                have hC' := hE'.cellsS
                go_simp
                with_reducible rfl
              apply Mops.none
              · intro w' hE'
                have hC' := hE'.cellsS
                go_simp
                with_reducible rfl
              apply Mops.none
              · intro w' hE'
                have hC' := hE'.cellsS
                go_simp
                with_reducible rfl
              apply Mops.none
              · intro w' hE'
                have hC' := hE'.cellsS
                go_simp
                with_reducible rfl
              refine Mops.done ?_
              refine hK _ _ ?_
              clear hK K' gd g11
              refine Wp.keep [2, 3, 7, 9, 10, 11, 66] fun r17 hkeep => ?_
              obtain ⟨e2_17, e3_17, e7_17, e9_17, e10_17, e11_17, e66_17, -⟩ := hkeep
              simp [go_sem, e2_12, e3_12, e7_12, e9_12, e10_12, e11_12, e48_12] at e2_17 e3_17 e7_17 e9_17 e10_17 e11_17 e66_17
              clear e2_12 e3_12 e7_12 e9_12 e10_12 e11_12 e48_12
              refine Wp.condF (by go_simp) ?_
              by_cases hp : y.2 = x.2
              · skip
                have hk3 : (((y.2 : Nat) : Int) == ((x.2 : Nat) : Int)) = true := by rw [hp]; simp
                rw [if_pos hp] at hsc
                clear hp
                refine Wp.skip ?_
                refine thenK_normal ?_
                refine Wp.seqDraw (.inl rfl) mixed [([0, 1, 2, 3, 4], none), ([5, 6, 7, 8, 9], none), ([10], none)] (by kernel_rfl) fun K' gd hK hg => ?_
                clear hg
                simp only [pick, nth, List.map_cons, List.map_nil, Option.map_none, Option.map_some]
                apply Mops.none
                · intro w' hE'
                  have hC' := hE'.cellsS
                  go_simp
                  with_reducible rfl
                apply Mops.none
                · intro w' hE'
                  have hC' := hE'.cellsS
                  go_simp
                  with_reducible rfl
                apply Mops.none
                · intro w' hE'
                  have hC' := hE'.cellsS
                  go_simp
                  with_reducible rfl
                refine Mops.done ?_
                refine hK _ _ ?_
                clear hK K' gd
                refine Wp.keep [2, 3, 7, 9, 10, 11, 77] fun r18 hkeep => ?_
                obtain ⟨e2_18, e3_18, e7_18, e9_18, e10_18, e11_18, e77_18, -⟩ := hkeep
                simp [go_sem, e2_17, e3_17, e7_17, e9_17, e10_17, e11_17, e66_17] at e2_18 e3_18 e7_18 e9_18 e10_18 e11_18 e77_18
                clear e2_17 e3_17 e7_17 e9_17 e10_17 e11_17 e66_17
                refine Wp.condT (by go_simp) ?_
                refine Wp.loneRegion (.inl rfl) (by kernel_rfl) fun K' gd hK hg => ?_
                clear hg
                go_simp
                refine hK _ _ ?_
                clear hK K' gd
                refine Ends.keep [2, 3, 7, 9, 10, 11] fun r19 hkeep => ?_
                obtain ⟨e2_19, e3_19, e7_19, e9_19, e10_19, e11_19, -⟩ := hkeep
                simp [go_sem, e2_18, e3_18, e7_18, e9_18, e10_18, e11_18, e77_18] at e2_19 e3_19 e7_19 e9_19 e10_19 e11_19
                clear e2_18 e3_18 e7_18 e9_18 e10_18 e11_18 e77_18
                refine Ends.mk ?_
                refine blockK_normal ?_
                refine thenK_normal ?_
                refine Wp.loneRegion (.inl rfl) (by kernel_rfl) fun K' gd hK hg => ?_
                clear hg
                go_simp
                refine hK _ _ ?_
                clear hK K' gd
                refine Ends.keep [2, 3, 7, 9, 10, 11] fun r20 hkeep => ?_
                obtain ⟨e2_20, e3_20, e7_20, e9_20, e10_20, e11_20, -⟩ := hkeep
                simp [go_sem, e2_19, e3_19, e7_19, e9_19, e10_19, e11_19] at e2_20 e3_20 e7_20 e9_20 e10_20 e11_20
                clear e2_19 e3_19 e7_19 e9_19 e10_19 e11_19
                refine Ends.mk ?_
                refine thenK_normal ⟨by omega, ⟨by rw [e2_20, e2_10], by rw [e3_20, e3_10], by rw [e7_20, e7_10], by rw [e9_20, e9_10], trivial⟩, rfl, ?_⟩
                exact ⟨by rw [e10_20, hsc, IntWalk.i64_in _ (by omega)]; rfl, by rw [e11_20, IntWalk.i64_in _ (by omega)]; rfl, (by repeat (first | assumption | exact Ext.refl _ | refine Ext.drew ?_ | refine Ext.alloc ?_ _ | refine Ext.trans ?_ (by assumption)))⟩
              · skip
                have hk3 : (((y.2 : Nat) : Int) == ((x.2 : Nat) : Int)) = false := by rw [beq_eq_false_iff_ne]; omega
                rw [if_neg hp] at hsc
                clear hp
                refine Wp.skip ?_
                refine thenK_normal ?_
                refine Wp.seqDraw (.inl rfl) mixed [([0, 1, 2, 3, 4], none), ([5, 6, 7, 8, 9], none), ([10], none)] (by kernel_rfl) fun K' gd hK hg => ?_
                clear hg
                simp only [pick, nth, List.map_cons, List.map_nil, Option.map_none, Option.map_some]
                apply Mops.none
                · intro w' hE'
                  have hC' := hE'.cellsS
                  go_simp
                  with_reducible rfl
                apply Mops.none
                · intro w' hE'
                  have hC' := hE'.cellsS
                  go_simp
                  with_reducible rfl
                apply Mops.none
                · intro w' hE'
                  have hC' := hE'.cellsS
                  go_simp
                  with_reducible rfl
                refine Mops.done ?_
                refine hK _ _ ?_
                clear hK K' gd
                refine Wp.keep [2, 3, 7, 9, 10, 11, 77] fun r21 hkeep => ?_
                obtain ⟨e2_21, e3_21, e7_21, e9_21, e10_21, e11_21, e77_21, -⟩ := hkeep
                simp [go_sem, e2_17, e3_17, e7_17, e9_17, e10_17, e11_17, e66_17] at e2_21 e3_21 e7_21 e9_21 e10_21 e11_21 e77_21
                clear e2_17 e3_17 e7_17 e9_17 e10_17 e11_17 e66_17
                refine Wp.condF (by go_simp) ?_
                refine Wp.skip ?_
                refine blockK_normal ?_
                refine thenK_normal ?_
                refine Wp.loneRegion (.inl rfl) (by kernel_rfl) fun K' gd hK hg => ?_
                clear hg
                go_simp
                refine hK _ _ ?_
                clear hK K' gd
                refine Ends.keep [2, 3, 7, 9, 10, 11] fun r22 hkeep => ?_
                obtain ⟨e2_22, e3_22, e7_22, e9_22, e10_22, e11_22, -⟩ := hkeep
                simp [go_sem, e2_21, e3_21, e7_21, e9_21, e10_21, e11_21, e77_21] at e2_22 e3_22 e7_22 e9_22 e10_22 e11_22
                clear e2_21 e3_21 e7_21 e9_21 e10_21 e11_21 e77_21
                refine Ends.mk ?_
                refine thenK_normal ⟨by omega, ⟨by rw [e2_22, e2_10], by rw [e3_22, e3_10], by rw [e7_22, e7_10], by rw [e9_22, e9_10], trivial⟩, rfl, ?_⟩
                exact ⟨by rw [e10_22, hsc]; rfl, by rw [e11_22, IntWalk.i64_in _ (by omega)]; rfl, (by repeat (first | assumption | exact Ext.refl _ | refine Ext.drew ?_ | refine Ext.alloc ?_ _ | refine Ext.trans ?_ (by assumption)))⟩
          · refine Wp.condF (by go_simp) ?_
            obtain rfl : k = H.length := by omega
            have hxm := holdN_mem (o := o) (d := (d : Int)) (x := x) (by rw [hHe]; exact List.mem_of_getElem? hx)
            have hsa := sameC_all ho (d := (d : Int)) hxm.2.1
            rw [hHe] at hsa
            obtain ⟨sc, hsc2⟩ : ∃ s, sameC H x.2 H.length = s := ⟨_, rfl⟩
            rw [hsc2] at hsa e10_12
            clear hsc2
            have d1 := hEk.cell d1
            have d2 := hEk.cell d2
            have x0 := hEk.cell x0
            have g1 := (hO3.ext hEk).hC x.2 hxm.2.1
            have b4 : ((x.2 : Nat) : Int) < (o.m : Int) := by omega
            have b5 : ¬ (o.m : Int) ≤ ((x.2 : Nat) : Int) := by omega
            have b6 : ¬ ((x.2 : Nat) : Int) < 0 := by omega
            obtain ⟨cx, hcx⟩ : ∃ c, o.C x.2 = c := ⟨_, rfl⟩
            rw [hcx] at hsa g1
            have b7 : ¬ cx < (sc : Int) := by omega
            have b8 : ¬ o.m ≤ x.2 := by omega
            clear hcx
            refine Wp.exit ?_
            refine thenK_exit ?_
            refine thenK_exit ?_
            refine blockK_here ?_
            refine thenK_normal ?_
            refine Wp.seqDraw (.inl rfl) mixed [([0, 1, 2, 3, 4], none), ([5, 6], none), ([7, 8, 9, 10, 11], none), ([12, 13, 14, 15, 16], none), ([17], none), ([18, 19, 20, 21, 22], none), ([23, 24, 25, 26, 27], none), ([28, 29], none)] (by kernel_rfl) fun K' gd hK hg => ?_
            have g6 : gd 6 = some 86 := hg 6
            have g17 : gd 17 = some 97 := hg 17
            clear hg
            simp only [pick, nth, List.map_cons, List.map_nil, Option.map_none, Option.map_some]
            apply Mops.none
            · intro w' hE'
              have hC' := hE'.cellsS
              go_simp
              with_reducible rfl
            apply Mops.none
            · intro w' hE'
              have hC' := hE'.cellsS
              go_simp
              with_reducible rfl
            apply Mops.none
            · intro w' hE'
              have hC' := hE'.cellsS
              go_simp
              with_reducible rfl
            apply Mops.none
            · intro w' hE'
              have hC' := hE'.cellsS
              go_simp
              with_reducible rfl
            apply Mops.none
            · intro w' hE'
              have hC' := hE'.cellsS
              go_simp
              with_reducible rfl
            apply Mops.none
            · intro w' hE'
              have hC' := hE'.cellsS
              go_simp
              with_reducible rfl
            apply Mops.none
            · intro w' hE'
              have hC' := hE'.cellsS
              go_simp
              with_reducible rfl
            apply Mops.none
            · intro w' hE'
              have hC' := hE'.cellsS
              go_simp
              with_reducible rfl
            refine Mops.done ?_
            refine hK _ _ ?_
            clear hK K' gd g6 g17
            refine Wp.keep [2, 3, 7, 9, 109] fun r23 hkeep => ?_
            obtain ⟨e2_23, e3_23, e7_23, e9_23, e109_23, -⟩ := hkeep
            simp [go_sem, e2_12, e3_12, e7_12, e9_12, e10_12, e11_12, e48_12] at e2_23 e3_23 e7_23 e9_23 e109_23
            clear e2_12 e3_12 e7_12 e9_12 e10_12 e11_12 e48_12
            refine Wp.condF (by go_simp) ?_
            refine Wp.skip ?_
            refine blockK_normal ?_
            refine thenK_normal ?_
            refine Wp.loneRegion (.inl rfl) (by kernel_rfl) fun K' gd hK hg => ?_
            clear hg
            go_simp
            refine hK _ _ ?_
            clear hK K' gd
            refine Ends.keep [2, 3, 7, 9] fun r24 hkeep => ?_
            obtain ⟨e2_24, e3_24, e7_24, e9_24, -⟩ := hkeep
            simp [go_sem, e2_23, e3_23, e7_23, e9_23, e109_23] at e2_24 e3_24 e7_24 e9_24
            clear e2_23 e3_23 e7_23 e9_23 e109_23
            refine Ends.mk ?_
            refine thenK_normal ⟨by omega, ⟨by rw [e2_24, e2_6], by rw [e3_24, e3_6], by rw [e7_24, e7_6], trivial⟩, rfl, ?_⟩
            exact ⟨by rw [e9_24, IntWalk.i64_in _ (by omega)]; rfl, (by repeat (first | assumption | exact Ext.refl _ | refine Ext.drew ?_ | refine Ext.alloc ?_ _ | refine Ext.trans ?_ (by assumption)))⟩
      · refine Wp.condF (by go_simp) ?_
        have x0 := hEi.cell x0
        have x1 := hEi.cell x1
        have hV4 := hV3.ext hEi
        have hO4 := hO3.ext hEi
        clear hHe hHc hH hHl
        obtain ⟨n, hn1, hn2⟩ := mod_nat (n := o.n) ha.1 hn.1
        have hwa : IntKind.i64.wrap a = a := IntWalk.i64_in _ (by omega)
        have hn0 : ¬ o.n = 0 := by omega
        refine Wp.exit ?_
        refine thenK_exit ?_
        refine thenK_exit ?_
        refine blockK_here ?_
        refine thenK_normal ?_
        refine Wp.seqRegion (.inl rfl) (by kernel_rfl) fun K' gd hK hg => ?_
        clear hg
        go_simp
        refine hK _ _ ?_
        clear hK K' gd
        refine Wp.keep [3, 12] fun r25 hkeep => ?_
        obtain ⟨e3_25, e12_25, -⟩ := hkeep
        simp [go_sem, e2_8, e3_8, e7_8, e9_8, e42_8] at e3_25 e12_25
        clear e2_8 e3_8 e7_8 e9_8 e42_8
        clear hwa hn1 hn0
        refine Wp.seqRegion (.inl rfl) (by kernel_rfl) fun K' gd hK hg => ?_
        clear hg
        go_simp
        refine Wcall (.inl rfl) (Times_g _ o _ hV4 hg hn.1) ?_
        rintro v w5 ⟨t1, rfl, hT1, hE5⟩
        have x0 := hE5.cell x0
        have x1 := hE5.cell x1
        have hV5 := hV4.ext hE5
        go_simp
        refine hK _ _ ?_
        clear hK K' gd
        refine Wp.keep [3, 12, 13, 14] fun r26 hkeep => ?_
        obtain ⟨e3_26, e12_26, e13_26, e14_26, -⟩ := hkeep
        simp [go_sem, e3_25, e12_25] at e3_26 e12_26 e13_26 e14_26
        clear e3_25 e12_25
        refine Wp.seqRegion (.inl rfl) (by kernel_rfl) fun K' gd hK hg => ?_
        clear hg
        go_simp
        refine Wcall (.inl rfl) (Waits_g _ o _ hV5 hg) ?_
        rintro v w6 ⟨AW, cW, rfl, hW, hE6⟩
        have x0 := hE6.cell x0
        have x1 := hE6.cell x1
        have hV6 := hV5.ext hE6
        go_simp
        refine hK _ _ ?_
        clear hK K' gd
        refine Wp.keep [3, 12, 13, 14, 15, 16] fun r27 hkeep => ?_
        obtain ⟨e3_27, e12_27, e13_27, e14_27, e15_27, e16_27, -⟩ := hkeep
        simp [go_sem, e3_26, e12_26, e13_26, e14_26] at e3_27 e12_27 e13_27 e14_27 e15_27 e16_27
        clear e3_26 e12_26 e13_26 e14_26
        refine Wp.seq ?_
        refine Wp.seqRegion (.inl rfl) (by kernel_rfl) fun K' gd hK hg => ?_
        have g2 : gd 2 = some 128 := hg 2
        have g6 : gd 6 = some 132 := hg 6
        have g12 : gd 12 = some 138 := hg 12
        clear hg
        go_simp
        refine Wcall (.inl rfl) (wide_g _ _ o _ _ hV6 (hT1.ext (by repeat (first | assumption | exact Ext.refl _ | refine Ext.drew ?_ | refine Ext.alloc ?_ _ | refine Ext.trans ?_ (by assumption)))) (by omega)) ?_
        rintro v w7 ⟨rfl, hE7⟩
        have x0 := hE7.cell x0
        have x1 := hE7.cell x1
        have hV7 := hV6.ext hE7
        go_simp
        refine hK _ _ ?_
        clear hK K' gd g2 g6 g12
        refine Wp.keep [3, 12, 13, 15, 145] fun r28 hkeep => ?_
        obtain ⟨e3_28, e12_28, e13_28, e15_28, e145_28, -⟩ := hkeep
        simp [go_sem, e3_27, e12_27, e13_27, e14_27, e15_27, e16_27] at e3_28 e12_28 e13_28 e15_28 e145_28
        clear e3_27 e12_27 e13_27 e14_27 e15_27 e16_27
        refine Wp.condF (by go_simp) ?_
        have hTG := hT1.ext (show Ext w5 w7 from (by repeat (first | assumption | exact Ext.refl _ | refine Ext.drew ?_ | refine Ext.alloc ?_ _ | refine Ext.trans ?_ (by assumption))))
        obtain ⟨-, b1, ob1, cc1, rb1, ro1, rc1, rfl, hG⟩ := hTG
        have hW := hW.ext (show Ext w6 w7 from (by repeat (first | assumption | exact Ext.refl _ | refine Ext.drew ?_ | refine Ext.alloc ?_ _ | refine Ext.trans ?_ (by assumption))))
        have hE47 : Ext wi w7 := (by repeat (first | assumption | exact Ext.refl _ | refine Ext.drew ?_ | refine Ext.alloc ?_ _ | refine Ext.trans ?_ (by assumption)))
        have hO7 := hO4.ext hE47
        have hwm : IntKind.i64.wrap ((o.m : Int) - 1) = ((o.m - 1 : Nat) : Int) := by rw [IntWalk.i64_in _ (by omega)]; omega
        refine Wp.skip ?_
        refine thenK_normal ?_
        refine Wp.seqRegion (.inl rfl) (by kernel_rfl) fun K' gd hK hg => ?_
        clear hg
        go_simp
        refine hK _ _ ?_
        clear hK K' gd
        refine Wp.keep [3, 12, 13, 15, 17] fun r29 hkeep => ?_
        obtain ⟨e3_29, e12_29, e13_29, e15_29, e17_29, -⟩ := hkeep
        simp [go_sem, e3_28, e12_28, e13_28, e15_28, e145_28] at e3_29 e12_29 e13_29 e15_29 e17_29
        clear e3_28 e12_28 e13_28 e15_28 e145_28
        clear hwm
        obtain ⟨ml, hml⟩ : ∃ ml, o.m = ml + 1 := ⟨o.m - 1, by omega⟩
        have hml2 : o.m - 1 = ml := by omega
        rw [hml2] at e17_29
        have hmlm : ml < o.m := by omega
        have g1 := hG.row n hn2
        have g2 := hG.cell n ml hn2 hmlm
        have g3 := hO7.hT n hn2
        have g4 := hO7.hTT n ml hn2 hmlm
        have g5 := hO7.hA n hn2
        have b1 : (n : Int) < (o.n : Int) := by omega
        have b2 : (ml : Int) < (o.m : Int) := by omega
        have hAn := ho.vA n hn2
        have hTn := ho.vT n ml hn2 hmlm
        have hBn := begA_ok ho hn2 hmlm
        have hic := idle_count ho hn2 ml hmlm
        have hwv : waitV o n = begA o n ml + o.T n ml - o.A n - sumTo (o.T n) (ml + 1) := by unfold waitV; rw [takes_sum hg hn2, hml2, ← hml]
        have hAb : o.A n ≤ begA o n ml := arr_le ho hn2 hmlm
        obtain ⟨Ak, hAk⟩ : ∃ t, o.A n = t := ⟨_, rfl⟩
        obtain ⟨E, hEe⟩ : ∃ t, begA o n ml + o.T n ml = t := ⟨_, rfl⟩
        have hAE : Ak ≤ E ∧ E ≤ 2900 ∧ 0 ≤ Ak := by omega
        have hwE : IntKind.i64.wrap (begA o n ml + o.T n ml) = E := by rw [hEe]; exact IntWalk.i64_in _ (by omega)
        rw [hAk] at g5 hic hwv
        rw [hEe] at hic hwv
        obtain ⟨Q, hQ⟩ : ∃ Q : Nat, (Q : Int) = E - Ak := ⟨(E - Ak).toNat, by omega⟩
        have hic2 := hic Q hQ
        obtain ⟨q0, hq0⟩ : ∃ f, (fun x : Nat => !underB o n (Ak + (x : Int))) = f := ⟨_, rfl⟩
        have hq1 : ∀ x : Nat, q0 x = !underB o n (Ak + (x : Int)) := fun x => by rw [← hq0]
        rw [hq0] at hic2
        have hidle : ∃ _u : Unit, ((cntTo q0 Q : Nat) : Int) = waitV o n := ⟨(), by omega⟩
        have hQ2 : ∃ _u : Unit, (Q : Int) = E - Ak := ⟨(), hQ⟩
        have hAk2 : ∃ _u : Unit, o.A n = Ak := ⟨(), hAk⟩
        clear hic hic2 hq0 hwv hAk hEe hml2 hml hQ hAb
        refine Wp.seqDraw (.inl rfl) mixed [([0, 1, 2, 3, 4], none), ([5, 6, 7, 8, 9], none), ([10, 11, 12, 13, 14], none), ([15, 16, 17], none)] (by kernel_rfl) fun K' gd hK hg => ?_
        clear hg
        simp only [pick, nth, List.map_cons, List.map_nil, Option.map_none, Option.map_some]
        apply Mops.none
        · intro w' hE'
          have hC' := hE'.cellsS
          go_simp
          with_reducible rfl
        apply Mops.none
        · intro w' hE'
          have hC' := hE'.cellsS
          go_simp
          with_reducible rfl
        apply Mops.none
        · intro w' hE'
          have hC' := hE'.cellsS
          go_simp
          with_reducible rfl
        apply Mops.none
        · intro w' hE'
          have hC' := hE'.cellsS
          go_simp
          with_reducible rfl
        refine Mops.done ?_
        refine hK _ _ ?_
        clear hK K' gd
        refine Wp.keep [3, 12, 15, 18] fun r30 hkeep => ?_
        obtain ⟨e3_30, e12_30, e15_30, e18_30, -⟩ := hkeep
        simp [go_sem, e3_29, e12_29, e13_29, e15_29, e17_29] at e3_30 e12_30 e15_30 e18_30
        clear e3_29 e12_29 e13_29 e15_29 e17_29
        have hE37 : Ext w3 w7 := (by repeat (first | assumption | exact Ext.refl _ | refine Ext.drew ?_ | refine Ext.alloc ?_ _ | refine Ext.trans ?_ (by assumption)))
        have hEw7 : Ext w w7 := (by repeat (first | assumption | exact Ext.refl _ | refine Ext.drew ?_ | refine Ext.alloc ?_ _ | refine Ext.trans ?_ (by assumption)))
        clear g1 g2 g3 g4 hwE hE2 hE3 hE5 hE6 hE7 hE47 hV2 hV3 hV4 hV5 hV6 hT1 hEi hE37
        refine Wp.seqRegion (.inl rfl) (by kernel_rfl) fun K' gd hK hg => ?_
        clear hg
        go_simp
        refine hK _ _ ?_
        clear hK K' gd
        refine Wp.keep [3, 12, 15, 18, 19] fun r31 hkeep => ?_
        obtain ⟨e3_31, e12_31, e15_31, e18_31, e19_31, -⟩ := hkeep
        simp [go_sem, e3_30, e12_30, e15_30, e18_30] at e3_31 e12_31 e15_31 e18_31 e19_31
        clear e3_30 e12_30 e15_30 e18_30
        refine Wp.seq ?_
        refine Wp.seqRegion (.inl rfl) (by kernel_rfl) fun K' gd hK hg => ?_
        clear hg
        go_simp
        refine hK _ _ ?_
        clear hK K' gd
        refine Wp.keep [3, 12, 15, 18, 19, 20] fun r32 hkeep => ?_
        obtain ⟨e3_32, e12_32, e15_32, e18_32, e19_32, e20_32, -⟩ := hkeep
        simp [go_sem, e3_31, e12_31, e15_31, e18_31, e19_31] at e3_32 e12_32 e15_32 e18_32 e19_32 e20_32
        clear e3_31 e12_31 e15_31 e18_31 e19_31
        refine Wp.block ?_
        refine Wp.loop (fun q ρ ds wq => AllEq [3, 12, 15, 18] ρ r32 ∧ ds = [] ∧ (ρ 19 = .int .i64 ((cntTo q0 q : Nat) : Int) ∧ ρ 20 = .int .i64 (Ak + (q : Int)) ∧ Ext w7 wq)) (Q) ?_ ?_
        · refine ⟨AllEq.refl _ _, rfl, ?_⟩
          exact ⟨by rw [e19_32]; rfl, by rw [e20_32]; simp, (by repeat (first | assumption | exact Ext.refl _ | refine Ext.drew ?_ | refine Ext.alloc ?_ _ | refine Ext.trans ?_ (by assumption)))⟩
        · rintro q r33 _ wq hq ⟨hA, rfl, ⟨e19, e20, hEq⟩⟩
          obtain ⟨e3_33, e12_33, e15_33, e18_33, -⟩ := hA
          rw [e3_32] at e3_33
          rw [e12_32] at e12_33
          rw [e15_32] at e15_33
          rw [e18_32] at e18_33
          have z0 := hEq.cell x0
          have z1 := hEq.cell x1
          refine Wp.seq ?_
          refine Wp.seqRegion (.inl rfl) (by kernel_rfl) fun K' gd hK hg => ?_
          clear hg
          go_simp
          refine hK _ _ ?_
          clear hK K' gd
          refine Wp.keep [3, 12, 15, 18, 19, 20, 175] fun r34 hkeep => ?_
          obtain ⟨e3_34, e12_34, e15_34, e18_34, e19_34, e20_34, e175_34, -⟩ := hkeep
          simp [go_sem, e3_33, e12_33, e15_33, e18_33, e19, e20] at e3_34 e12_34 e15_34 e18_34 e19_34 e20_34 e175_34
          clear e3_33 e12_33 e15_33 e18_33 e19 e20
          by_cases h : Ak + (q : Int) < E
          · refine Wp.condT (by go_simp) ?_
            have hdq : 0 ≤ Ak + (q : Int) ∧ Ak + (q : Int) ≤ 1048576 := by omega
            have hqQ : q < Q := by (obtain ⟨-, hQ⟩ := hQ2; omega)
            refine Wp.skip ?_
            refine thenK_normal ?_
            refine Wp.seq ?_
            refine Wp.block ?_
            refine Wp.seqRegion (.inl rfl) (by kernel_rfl) fun K' gd hK hg => ?_
            clear hg
            go_simp
            refine Wcall (.inl rfl) (Hold_g _ o (Ak + (q : Int)) _ (hV7.ext (by repeat (first | assumption | exact Ext.refl _ | refine Ext.drew ?_ | refine Ext.alloc ?_ _ | refine Ext.trans ?_ (by assumption)))) hg hdq) ?_
            rintro v w8 ⟨AD, cD, rfl, hH, hE8⟩
            have z0 := hE8.cell z0
            have z1 := hE8.cell z1
            go_simp
            refine hK _ _ ?_
            clear hK K' gd
            refine Wp.keep [3, 12, 15, 18, 19, 20, 21, 22] fun r35 hkeep => ?_
            obtain ⟨e3_35, e12_35, e15_35, e18_35, e19_35, e20_35, e21_35, e22_35, -⟩ := hkeep
            simp [go_sem, e3_34, e12_34, e15_34, e18_34, e19_34, e20_34, e175_34] at e3_35 e12_35 e15_35 e18_35 e19_35 e20_35 e21_35 e22_35
            clear e3_34 e12_34 e15_34 e18_34 e19_34 e20_34 e175_34
            refine Wp.seq ?_
            refine Wp.seqRegion (.inl rfl) (by kernel_rfl) fun K' gd hK hg => ?_
            clear hg
            go_simp
            refine hK _ _ ?_
            clear hK K' gd
            refine Wp.keep [3, 12, 15, 18, 19, 20, 21, 185] fun r36 hkeep => ?_
            obtain ⟨e3_36, e12_36, e15_36, e18_36, e19_36, e20_36, e21_36, e185_36, -⟩ := hkeep
            simp [go_sem, e3_35, e12_35, e15_35, e18_35, e19_35, e20_35, e21_35, e22_35] at e3_36 e12_36 e15_36 e18_36 e19_36 e20_36 e21_36 e185_36
            clear e3_35 e12_35 e15_35 e18_35 e19_35 e20_35 e21_35 e22_35
            refine Wp.condF (by go_simp) ?_
            have hHl := holdN_len (o := o) (Ak + (q : Int)) hn.2 hm8
            have hun : (∃ x ∈ holdN o (Ak + (q : Int)), x.1 = n) ↔ underB o n (Ak + (q : Int)) = true := holdN_under hn2
            obtain ⟨H2, hHe⟩ : ∃ H, holdN o (Ak + (q : Int)) = H := ⟨_, rfl⟩
            rw [hHe] at hH hHl hun e21_36
            clear hHe
            obtain ⟨_, _, hHv, hHc⟩ := id hH
            injection hHv with hA3 h4 hc3
            subst hA3 hc3
            refine Wp.skip ?_
            refine thenK_normal ?_
            refine Wp.seqRegion (.inl rfl) (by kernel_rfl) fun K' gd hK hg => ?_
            clear hg
            go_simp
            refine hK _ _ ?_
            clear hK K' gd
            refine Wp.keep [3, 12, 15, 18, 19, 20, 21, 23] fun r37 hkeep => ?_
            obtain ⟨e3_37, e12_37, e15_37, e18_37, e19_37, e20_37, e21_37, e23_37, -⟩ := hkeep
            simp [go_sem, e3_36, e12_36, e15_36, e18_36, e19_36, e20_36, e21_36, e185_36] at e3_37 e12_37 e15_37 e18_37 e19_37 e20_37 e21_37 e23_37
            clear e3_36 e12_36 e15_36 e18_36 e19_36 e20_36 e21_36 e185_36
            refine Wp.seq ?_
            refine Wp.seqRegion (.inl rfl) (by kernel_rfl) fun K' gd hK hg => ?_
            clear hg
            go_simp
            refine hK _ _ ?_
            clear hK K' gd
            refine Wp.keep [3, 12, 15, 18, 19, 20, 21, 23, 24] fun r38 hkeep => ?_
            obtain ⟨e3_38, e12_38, e15_38, e18_38, e19_38, e20_38, e21_38, e23_38, e24_38, -⟩ := hkeep
            simp [go_sem, e3_37, e12_37, e15_37, e18_37, e19_37, e20_37, e21_37, e23_37] at e3_38 e12_38 e15_38 e18_38 e19_38 e20_38 e21_38 e23_38 e24_38
            clear e3_37 e12_37 e15_37 e18_37 e19_37 e20_37 e21_37 e23_37
            refine Wp.block ?_
            refine Wp.loop (fun k ρ ds wk => AllEq [3, 12, 15, 18, 19, 20, 21] ρ r38 ∧ ds = [] ∧ (∃ un, ρ 23 = .bool un ∧ ρ 24 = .int .i64 (k : Int) ∧ (un = true ↔ ∃ k' x, k' < k ∧ H2[k']? = some x ∧ x.1 = n) ∧ Ext w8 wk)) (H2.length) ?_ ?_
            · refine ⟨AllEq.refl _ _, rfl, ?_⟩
              exact ⟨false, by rw [e23_38], by rw [e24_38]; rfl, ⟨(fun e => by cases e), fun ⟨k', x, h1, _⟩ => absurd h1 (Nat.not_lt_zero _)⟩, (by repeat (first | assumption | exact Ext.refl _ | refine Ext.drew ?_ | refine Ext.alloc ?_ _ | refine Ext.trans ?_ (by assumption)))⟩
            · rintro k r39 _ wk hk ⟨hA, rfl, ⟨un, e23, e24, hu, hEk⟩⟩
              obtain ⟨e3_39, e12_39, e15_39, e18_39, e19_39, e20_39, e21_39, -⟩ := hA
              rw [e3_38] at e3_39
              rw [e12_38] at e12_39
              rw [e15_38] at e15_39
              rw [e18_38] at e18_39
              rw [e19_38] at e19_39
              rw [e20_38] at e20_39
              rw [e21_38] at e21_39
              refine Wp.seq ?_
              refine Wp.seqRegion (.inl rfl) (by kernel_rfl) fun K' gd hK hg => ?_
              clear hg
              go_simp
              refine hK _ _ ?_
              clear hK K' gd
              refine Wp.keep [3, 12, 15, 18, 19, 20, 21, 23, 24, 189] fun r40 hkeep => ?_
              obtain ⟨e3_40, e12_40, e15_40, e18_40, e19_40, e20_40, e21_40, e23_40, e24_40, e189_40, -⟩ := hkeep
              simp [go_sem, e3_39, e12_39, e15_39, e18_39, e19_39, e20_39, e21_39, e23, e24] at e3_40 e12_40 e15_40 e18_40 e19_40 e20_40 e21_40 e23_40 e24_40 e189_40
              clear e3_39 e12_39 e15_39 e18_39 e19_39 e20_39 e21_39 e23 e24
              by_cases h2 : k < H2.length
              · refine Wp.condT (by go_simp) ?_
                obtain ⟨y, hy⟩ : ∃ y, H2[k]? = some y := ⟨_, List.getElem?_eq_getElem h2⟩
                obtain ⟨b2, o2, rfl, d3, d4⟩ := hHc k y hy
                have d3 := hEk.cell d3
                have d4 := hEk.cell d4
                have b4 : (k : Int) < (H2.length : Int) := by omega
                by_cases hue : un = true
                · skip
                  subst hue
                  refine Wp.skip ?_
                  refine thenK_normal ?_
                  refine Wp.seq ?_
                  refine Wp.block ?_
                  refine Wp.loneRegion (.inl rfl) (by kernel_rfl) fun K' gd hK hg => ?_
                  have g1 : gd 1 = some 193 := hg 1
                  clear hg
                  go_simp
                  refine hK _ _ ?_
                  clear hK K' gd g1
                  refine Ends.keep [3, 12, 15, 18, 19, 20, 21, 23, 24] fun r41 hkeep => ?_
                  obtain ⟨e3_41, e12_41, e15_41, e18_41, e19_41, e20_41, e21_41, e23_41, e24_41, -⟩ := hkeep
                  simp [go_sem, e3_40, e12_40, e15_40, e18_40, e19_40, e20_40, e21_40, e23_40, e24_40, e189_40] at e3_41 e12_41 e15_41 e18_41 e19_41 e20_41 e21_41 e23_41 e24_41
                  clear e3_40 e12_40 e15_40 e18_40 e19_40 e20_40 e21_40 e23_40 e24_40 e189_40
                  refine Ends.mk ?_
                  refine blockK_normal ?_
                  refine thenK_normal ?_
                  refine Wp.loneRegion (.inl rfl) (by kernel_rfl) fun K' gd hK hg => ?_
                  clear hg
                  go_simp
                  refine hK _ _ ?_
                  clear hK K' gd
                  refine Ends.keep [3, 12, 15, 18, 19, 20, 21, 23, 24] fun r42 hkeep => ?_
                  obtain ⟨e3_42, e12_42, e15_42, e18_42, e19_42, e20_42, e21_42, e23_42, e24_42, -⟩ := hkeep
                  simp [go_sem, e3_41, e12_41, e15_41, e18_41, e19_41, e20_41, e21_41, e23_41, e24_41] at e3_42 e12_42 e15_42 e18_42 e19_42 e20_42 e21_42 e23_42 e24_42
                  clear e3_41 e12_41 e15_41 e18_41 e19_41 e20_41 e21_41 e23_41 e24_41
                  refine Ends.mk ?_
                  refine thenK_normal ⟨by omega, ⟨by rw [e3_42, e3_38], by rw [e12_42, e12_38], by rw [e15_42, e15_38], by rw [e18_42, e18_38], by rw [e19_42, e19_38], by rw [e20_42, e20_38], by rw [e21_42, e21_38], trivial⟩, rfl, ?_⟩
                  exact ⟨true, e23_42, by rw [e24_42, IntWalk.i64_in _ (by omega)]; rfl, ⟨fun _ => (by obtain ⟨k', x, h3, h4, h5⟩ := hu.1 rfl; exact ⟨k', x, by omega, h4, h5⟩), fun _ => rfl⟩, (by repeat (first | assumption | exact Ext.refl _ | refine Ext.drew ?_ | refine Ext.alloc ?_ _ | refine Ext.trans ?_ (by assumption)))⟩
                · skip
                  have hue2 : un = false := by cases un <;> simp_all
                  subst hue2
                  have hu2 : ∃ _u : Unit, ¬ ∃ k' x, k' < k ∧ H2[k']? = some x ∧ x.1 = n := ⟨(), fun h => by cases hu.2 h⟩
                  clear hu hue
                  by_cases hyn : y.1 = n
                  · skip
                    have hk1 : (((y.1 : Nat) : Int) == ((n : Nat) : Int)) = true := by rw [hyn]; simp
                    have hyn2 : ∃ _u : Unit, y.1 = n := ⟨(), hyn⟩
                    clear hyn
                    refine Wp.skip ?_
                    refine thenK_normal ?_
                    refine Wp.seq ?_
                    refine Wp.block ?_
                    refine Wp.loneRegion (.inl rfl) (by kernel_rfl) fun K' gd hK hg => ?_
                    have g1 : gd 1 = some 193 := hg 1
                    clear hg
                    go_simp
                    refine hK _ _ ?_
                    clear hK K' gd g1
                    refine Ends.keep [3, 12, 15, 18, 19, 20, 21, 23, 24] fun r43 hkeep => ?_
                    obtain ⟨e3_43, e12_43, e15_43, e18_43, e19_43, e20_43, e21_43, e23_43, e24_43, -⟩ := hkeep
                    simp [go_sem, e3_40, e12_40, e15_40, e18_40, e19_40, e20_40, e21_40, e23_40, e24_40, e189_40] at e3_43 e12_43 e15_43 e18_43 e19_43 e20_43 e21_43 e23_43 e24_43
                    clear e3_40 e12_40 e15_40 e18_40 e19_40 e20_40 e21_40 e23_40 e24_40 e189_40
                    refine Ends.mk ?_
                    refine blockK_normal ?_
                    refine thenK_normal ?_
                    refine Wp.loneRegion (.inl rfl) (by kernel_rfl) fun K' gd hK hg => ?_
                    clear hg
                    go_simp
                    refine hK _ _ ?_
                    clear hK K' gd
                    refine Ends.keep [3, 12, 15, 18, 19, 20, 21, 23, 24] fun r44 hkeep => ?_
                    obtain ⟨e3_44, e12_44, e15_44, e18_44, e19_44, e20_44, e21_44, e23_44, e24_44, -⟩ := hkeep
                    simp [go_sem, e3_43, e12_43, e15_43, e18_43, e19_43, e20_43, e21_43, e23_43, e24_43] at e3_44 e12_44 e15_44 e18_44 e19_44 e20_44 e21_44 e23_44 e24_44
                    clear e3_43 e12_43 e15_43 e18_43 e19_43 e20_43 e21_43 e23_43 e24_43
                    refine Ends.mk ?_
                    refine thenK_normal ⟨by omega, ⟨by rw [e3_44, e3_38], by rw [e12_44, e12_38], by rw [e15_44, e15_38], by rw [e18_44, e18_38], by rw [e19_44, e19_38], by rw [e20_44, e20_38], by rw [e21_44, e21_38], trivial⟩, rfl, ?_⟩
                    exact ⟨true, e23_44, by rw [e24_44, IntWalk.i64_in _ (by omega)]; rfl, ⟨fun _ => ⟨k, y, by omega, hy, hyn2.elim fun _ h => h⟩, fun _ => rfl⟩, (by repeat (first | assumption | exact Ext.refl _ | refine Ext.drew ?_ | refine Ext.alloc ?_ _ | refine Ext.trans ?_ (by assumption)))⟩
                  · skip
                    have hk1 : (((y.1 : Nat) : Int) == ((n : Nat) : Int)) = false := by rw [beq_eq_false_iff_ne]; omega
                    refine Wp.skip ?_
                    refine thenK_normal ?_
                    refine Wp.seq ?_
                    refine Wp.block ?_
                    refine Wp.loneRegion (.inl rfl) (by kernel_rfl) fun K' gd hK hg => ?_
                    have g1 : gd 1 = some 193 := hg 1
                    clear hg
                    go_simp
                    refine hK _ _ ?_
                    clear hK K' gd g1
                    refine Ends.keep [3, 12, 15, 18, 19, 20, 21, 23, 24] fun r45 hkeep => ?_
                    obtain ⟨e3_45, e12_45, e15_45, e18_45, e19_45, e20_45, e21_45, e23_45, e24_45, -⟩ := hkeep
                    simp [go_sem, e3_40, e12_40, e15_40, e18_40, e19_40, e20_40, e21_40, e23_40, e24_40, e189_40] at e3_45 e12_45 e15_45 e18_45 e19_45 e20_45 e21_45 e23_45 e24_45
                    clear e3_40 e12_40 e15_40 e18_40 e19_40 e20_40 e21_40 e23_40 e24_40 e189_40
                    refine Ends.mk ?_
                    refine blockK_normal ?_
                    refine thenK_normal ?_
                    refine Wp.loneRegion (.inl rfl) (by kernel_rfl) fun K' gd hK hg => ?_
                    clear hg
                    go_simp
                    refine hK _ _ ?_
                    clear hK K' gd
                    refine Ends.keep [3, 12, 15, 18, 19, 20, 21, 23, 24] fun r46 hkeep => ?_
                    obtain ⟨e3_46, e12_46, e15_46, e18_46, e19_46, e20_46, e21_46, e23_46, e24_46, -⟩ := hkeep
                    simp [go_sem, e3_45, e12_45, e15_45, e18_45, e19_45, e20_45, e21_45, e23_45, e24_45] at e3_46 e12_46 e15_46 e18_46 e19_46 e20_46 e21_46 e23_46 e24_46
                    clear e3_45 e12_45 e15_45 e18_45 e19_45 e20_45 e21_45 e23_45 e24_45
                    refine Ends.mk ?_
                    refine thenK_normal ⟨by omega, ⟨by rw [e3_46, e3_38], by rw [e12_46, e12_38], by rw [e15_46, e15_38], by rw [e18_46, e18_38], by rw [e19_46, e19_38], by rw [e20_46, e20_38], by rw [e21_46, e21_38], trivial⟩, rfl, ?_⟩
                    refine ⟨false, e23_46, by rw [e24_46, IntWalk.i64_in _ (by omega)]; rfl, ⟨(fun e => by cases e), fun ⟨k', x, h3, h4, h5⟩ => ?_⟩, (by repeat (first | assumption | exact Ext.refl _ | refine Ext.drew ?_ | refine Ext.alloc ?_ _ | refine Ext.trans ?_ (by assumption)))⟩
                    obtain ⟨-, hu3⟩ := hu2
                    by_cases e : k' = k
                    · subst e; rw [hy] at h4; have h4 := Option.some.inj h4; subst h4; exact absurd h5 hyn
                    · exact absurd ⟨k', x, by omega, h4, h5⟩ hu3
              · refine Wp.condF (by go_simp) ?_
                obtain rfl : k = H2.length := by omega
                have hub : un = underB o n (Ak + (q : Int)) := by (rw [Bool.eq_iff_iff, hu, ← hun]; exact ⟨fun ⟨k', x, h1, h3, h4⟩ => ⟨x, List.mem_of_getElem? h3, h4⟩, fun ⟨x, h1, h3⟩ => (by obtain ⟨k', h4⟩ := List.getElem?_of_mem h1; exact ⟨k', x, (List.getElem?_eq_some_iff.1 h4).1, h4, h3⟩)⟩)
                have hcs : ∃ _u : Unit, cntTo q0 (q + 1) = cntTo q0 q + (if q0 q = true then 1 else 0) := ⟨(), rfl⟩
                have hq2 : ∃ _u : Unit, q0 q = !un := ⟨(), by rw [hub]; exact hq1 q⟩
                have hcl : cntTo q0 q ≤ q := (by have : ∀ k, cntTo q0 k ≤ k := (fun k => by induction k with | zero => exact Nat.le_refl _ | succ k ih => (show cntTo q0 k + (if q0 k = true then 1 else 0) ≤ k + 1; split <;> omega)); exact this q)
                clear hu hun hub
                by_cases hue : un = true
                · skip
                  subst hue
                  refine Wp.exit ?_
                  refine thenK_exit ?_
                  refine thenK_exit ?_
                  refine blockK_here ?_
                  refine thenK_normal ?_
                  refine Wp.seqRegion (.inl rfl) (by kernel_rfl) fun K' gd hK hg => ?_
                  clear hg
                  go_simp
                  refine hK _ _ ?_
                  clear hK K' gd
                  refine Wp.keep [3, 12, 15, 18, 19, 20, 203] fun r47 hkeep => ?_
                  obtain ⟨e3_47, e12_47, e15_47, e18_47, e19_47, e20_47, e203_47, -⟩ := hkeep
                  simp [go_sem, e3_40, e12_40, e15_40, e18_40, e19_40, e20_40, e21_40, e23_40, e24_40, e189_40] at e3_47 e12_47 e15_47 e18_47 e19_47 e20_47 e203_47
                  clear e3_40 e12_40 e15_40 e18_40 e19_40 e20_40 e21_40 e23_40 e24_40 e189_40
                  refine Wp.condF (by go_simp) ?_
                  refine Wp.skip ?_
                  refine blockK_normal ?_
                  refine thenK_normal ?_
                  refine Wp.loneRegion (.inl rfl) (by kernel_rfl) fun K' gd hK hg => ?_
                  clear hg
                  go_simp
                  refine hK _ _ ?_
                  clear hK K' gd
                  refine Ends.keep [3, 12, 15, 18, 19, 20] fun r48 hkeep => ?_
                  obtain ⟨e3_48, e12_48, e15_48, e18_48, e19_48, e20_48, -⟩ := hkeep
                  simp [go_sem, e3_47, e12_47, e15_47, e18_47, e19_47, e20_47, e203_47] at e3_48 e12_48 e15_48 e18_48 e19_48 e20_48
                  clear e3_47 e12_47 e15_47 e18_47 e19_47 e20_47 e203_47
                  refine Ends.mk ?_
                  refine thenK_normal ⟨by omega, ⟨by rw [e3_48, e3_32], by rw [e12_48, e12_32], by rw [e15_48, e15_32], by rw [e18_48, e18_32], trivial⟩, rfl, ?_⟩
                  obtain ⟨-, hq2⟩ := hq2
                  obtain ⟨-, hcs⟩ := hcs
                  rw [hq2] at hcs
                  exact ⟨by rw [e19_48, hcs]; rfl, by rw [e20_48, IntWalk.i64_in _ (by omega)]; congr 1; omega, (by repeat (first | assumption | exact Ext.refl _ | refine Ext.drew ?_ | refine Ext.alloc ?_ _ | refine Ext.trans ?_ (by assumption)))⟩
                · skip
                  have hue2 : un = false := by cases un <;> simp_all
                  subst hue2
                  clear hue
                  refine Wp.exit ?_
                  refine thenK_exit ?_
                  refine thenK_exit ?_
                  refine blockK_here ?_
                  refine thenK_normal ?_
                  refine Wp.seqRegion (.inl rfl) (by kernel_rfl) fun K' gd hK hg => ?_
                  clear hg
                  go_simp
                  refine hK _ _ ?_
                  clear hK K' gd
                  refine Wp.keep [3, 12, 15, 18, 19, 20, 203] fun r49 hkeep => ?_
                  obtain ⟨e3_49, e12_49, e15_49, e18_49, e19_49, e20_49, e203_49, -⟩ := hkeep
                  simp [go_sem, e3_40, e12_40, e15_40, e18_40, e19_40, e20_40, e21_40, e23_40, e24_40, e189_40] at e3_49 e12_49 e15_49 e18_49 e19_49 e20_49 e203_49
                  clear e3_40 e12_40 e15_40 e18_40 e19_40 e20_40 e21_40 e23_40 e24_40 e189_40
                  refine Wp.condT (by go_simp) ?_
                  refine Wp.loneRegion (.inl rfl) (by kernel_rfl) fun K' gd hK hg => ?_
                  clear hg
                  go_simp
                  refine hK _ _ ?_
                  clear hK K' gd
                  refine Ends.keep [3, 12, 15, 18, 19, 20] fun r50 hkeep => ?_
                  obtain ⟨e3_50, e12_50, e15_50, e18_50, e19_50, e20_50, -⟩ := hkeep
                  simp [go_sem, e3_49, e12_49, e15_49, e18_49, e19_49, e20_49, e203_49] at e3_50 e12_50 e15_50 e18_50 e19_50 e20_50
                  clear e3_49 e12_49 e15_49 e18_49 e19_49 e20_49 e203_49
                  refine Ends.mk ?_
                  refine blockK_normal ?_
                  refine thenK_normal ?_
                  refine Wp.loneRegion (.inl rfl) (by kernel_rfl) fun K' gd hK hg => ?_
                  clear hg
                  go_simp
                  refine hK _ _ ?_
                  clear hK K' gd
                  refine Ends.keep [3, 12, 15, 18, 19, 20] fun r51 hkeep => ?_
                  obtain ⟨e3_51, e12_51, e15_51, e18_51, e19_51, e20_51, -⟩ := hkeep
                  simp [go_sem, e3_50, e12_50, e15_50, e18_50, e19_50, e20_50] at e3_51 e12_51 e15_51 e18_51 e19_51 e20_51
                  clear e3_50 e12_50 e15_50 e18_50 e19_50 e20_50
                  refine Ends.mk ?_
                  refine thenK_normal ⟨by omega, ⟨by rw [e3_51, e3_32], by rw [e12_51, e12_32], by rw [e15_51, e15_32], by rw [e18_51, e18_32], trivial⟩, rfl, ?_⟩
                  obtain ⟨-, hq2⟩ := hq2
                  obtain ⟨-, hcs⟩ := hcs
                  rw [hq2] at hcs
                  exact ⟨by rw [e19_51, hcs, IntWalk.i64_in _ (by omega)]; rfl, by rw [e20_51, IntWalk.i64_in _ (by omega)]; congr 1; omega, (by repeat (first | assumption | exact Ext.refl _ | refine Ext.drew ?_ | refine Ext.alloc ?_ _ | refine Ext.trans ?_ (by assumption)))⟩
          · refine Wp.condF (by go_simp) ?_
            have hqQ : q = Q := by (obtain ⟨-, hQ⟩ := hQ2; omega)
            subst hqQ
            have hwl : n < (waitL o).length := by (unfold waitL; simpa using hn2)
            obtain ⟨bw, ow, rfl, d5⟩ := IntsV.at hW hwl
            have hwn : (waitL o)[n] = waitV o n := by simp only [waitL, List.getElem_map, List.getElem_range]
            rw [hwn] at d5
            obtain ⟨-, hid⟩ := hidle
            rw [← hid] at d5
            clear hid hwn hwl
            have d5 := hEq.cell d5
            refine Wp.exit ?_
            refine thenK_exit ?_
            refine thenK_exit ?_
            refine blockK_here ?_
            refine thenK_normal ?_
            refine Wp.seqRegion (.inl rfl) (by kernel_rfl) fun K' gd hK hg => ?_
            have g1 : gd 1 = some 207 := hg 1
            clear hg
            go_simp
            refine Wcall (.inl rfl) (sanity_c _) ?_
            rintro v w9 ⟨rfl, hE9⟩
            have d5 := hE9.cell d5
            go_simp
            refine hK _ _ ?_
            clear hK K' gd g1
            refine Wp.keep [6] fun r52 hkeep => ?_
            obtain ⟨e6_52, -⟩ := hkeep
            simp [go_sem, e3_34, e12_34, e15_34, e18_34, e19_34, e20_34, e175_34] at e6_52
            clear e3_34 e12_34 e15_34 e18_34 e19_34 e20_34 e175_34
            refine Wp.ret ?_
            refine endK_tmp Try.results6 (by decide) ?_
            rw [e6_52]
            exact ⟨by simp, (by repeat (first | assumption | exact Ext.refl _ | refine Ext.drew ?_ | refine Ext.alloc ?_ _ | refine Ext.trans ?_ (by assumption)))⟩
  · skip
    refine Wp.seqRegion (.inl rfl) (by kernel_rfl) fun K' gd hK hg => ?_
    clear hg
    go_simp
    refine hK _ _ ?_
    clear hK K' gd
    refine Wp.keep [1, 2, 3] fun r53 hkeep => ?_
    obtain ⟨e1_53, e2_53, e3_53, -⟩ := hkeep
    simp [go_sem, e0_1, e1_1, e2_1] at e1_53 e2_53 e3_53
    clear e0_1 e1_1 e2_1
    refine Wp.seq ?_
    refine Wp.seqRegion (.inl rfl) (by kernel_rfl) fun K' gd hK hg => ?_
    clear hg
    go_simp
    refine Wcall (.inl rfl) (small_F hs _ (hV.ext (by repeat (first | assumption | exact Ext.refl _ | refine Ext.drew ?_ | refine Ext.alloc ?_ _ | refine Ext.trans ?_ (by assumption)))) hf) ?_
    rintro v w2 ⟨rfl, hE⟩
    go_simp
    refine hK _ _ ?_
    clear hK K' gd
    refine Wp.keep [1, 2, 3, 27] fun r54 hkeep => ?_
    obtain ⟨e1_54, e2_54, e3_54, e27_54, -⟩ := hkeep
    simp [go_sem, e1_53, e2_53, e3_53] at e1_54 e2_54 e3_54 e27_54
    clear e1_53 e2_53 e3_53
    refine Wp.condT (by go_simp) ?_
    refine Wp.seqRegion (.inl rfl) (by kernel_rfl) fun K' gd hK hg => ?_
    clear hg
    go_simp
    refine Wcall (.inl rfl) (sanity_c _) ?_
    rintro v w3 ⟨rfl, hE3⟩
    go_simp
    refine hK _ _ ?_
    clear hK K' gd
    refine Wp.keep [6] fun r55 hkeep => ?_
    obtain ⟨e6_55, -⟩ := hkeep
    simp [go_sem, e1_54, e2_54, e3_54, e27_54] at e6_55
    clear e1_54 e2_54 e3_54 e27_54
    refine Wp.ret ?_
    refine thenK_ret ?_
    refine endK_tmp Try.results6 (by decide) ?_
    rw [e6_55]
    exact ⟨rfl, (by repeat (first | assumption | exact Ext.refl _ | refine Ext.drew ?_ | refine Ext.alloc ?_ _ | refine Ext.trans ?_ (by assumption)))⟩
end Go.Proofs.Ytnfagcccgmakdaa
namespace Go.Proofs.Ytnfagcccgmakdaa
open Go.RowKit Go.Wk Go.Proofs
set_option maxHeartbeats 1000000

section
variable {o o' : Ord} {si sj : Nat} {d : Int}
theorem slack_nonneg (ho : OrdOk o) {i j : Nat} (hi : i < o.n) (hj : j < o.m) : 0 ≤ slackV o i j := by
  have := beg_le_lst ho (Int.le_refl (endS o)) hi hj
  unfold slackV; omega
theorem slack_le (ho : OrdOk o) {i j : Nat} (hi : i < o.n) (hj : j < o.m) : slackV o i j ≤ 2830 := by
  have h1 := lst_end ho (endS o) hi hj
  have h2 := (begA_ok ho hi hj).1
  have h3 := (endS_ok ho).2
  have h4 := (ho.vT i j hi hj).1
  unfold slackV; omega
theorem More1.slack_upper (h : More1 o o' si sj d) (ho : OrdOk o) (ho' : OrdOk o') (hsi : si < o.n) (hsj : sj < o.m) : endS o' ≤ endS o + max 0 (d - slackV o si sj) := by
  have hd := h.d0
  have hn := h.n
  have hm := h.m
  have hk := beg_keeps ho
  have hsl : slackV o si sj = lstA o (endS o) si sj - begA o si sj := rfl
  have hE0 := end_nonneg (o := o)
  have key : ∀ i j, i < o.n → j < o.m → begA o' i j ≤ (if i * o.m + j ≤ si * o.m + sj then begA o i j else lstA o (endS o) i j + max 0 (d - slackV o si sj)) := by
    intro i j hi hj
    refine beg_least ho' (t := fun i j => if i * o.m + j ≤ si * o.m + sj then begA o i j else lstA o (endS o) i j + max 0 (d - slackV o si sj)) ⟨fun i hi => ?_, fun i j hi hj => ?_, fun i k j hi hj hc => ?_⟩ (fun i j hi hj => ?_) _ i j rfl (by omega) (by omega)
    · have a := hk.arr i (by omega)
      have b := beg_le_lst ho (Int.le_refl (endS o)) (i := i) (j := 0) (by omega) (by have := ho.hm1; omega)
      rw [h.A]; split <;> omega
    · have a := hk.piece i j (by omega) (by omega)
      have b := lst_piece ho (endS o) (i := i) (j := j) (by omega) (by omega)
      have c := beg_le_lst ho (Int.le_refl (endS o)) (i := i) (j := j + 1) (by omega) (by omega)
      rw [h.T]
      by_cases e : i = si ∧ j = sj
      · obtain ⟨rfl, rfl⟩ := e
        rw [if_pos (Nat.le_refl _), if_pos ⟨rfl, rfl⟩, if_neg (by omega)]; omega
      · rw [if_neg e]; split <;> split <;> omega
    · have hik : k < i := by have := (ho'.vC j hj).1; omega
      have hcc : (k : Int) + o.C j = i := by rw [← h.C]; exact hc
      have a := hk.copy i k j (by omega) (by omega) hcc
      have b := lst_copy ho (endS o) (i := i) (k := k) (j := j) (by omega) (by omega) hcc
      have c := beg_le_lst ho (Int.le_refl (endS o)) (i := i) (j := j) (by omega) (by omega)
      have hx : k * o.m + j < i * o.m + j := by
        have := Nat.mul_lt_mul_of_pos_right hik (show 0 < o.m by omega)
        omega
      rw [h.T]
      by_cases e : k = si ∧ j = sj
      · obtain ⟨rfl, rfl⟩ := e
        rw [if_pos (Nat.le_refl _), if_pos ⟨rfl, rfl⟩, if_neg (by omega)]; omega
      · rw [if_neg e]; split <;> split <;> omega
    · have a := (begA_ok ho (i := i) (j := j) (by omega) (by omega)).1
      have c := beg_le_lst ho (Int.le_refl (endS o)) (i := i) (j := j) (by omega) (by omega)
      split <;> omega
  refine _root_.Go.Proofs.Ytnfagcccgmakdaa.end_le (by omega) fun i j hi hj => ?_
  have a := key i j (by omega) (by omega)
  have b := end_ge (o := o) (i := i) (j := j) (by omega) (by omega)
  have c := lst_end ho (endS o) (i := i) (j := j) (by omega) (by omega)
  rw [h.T]
  by_cases e : i = si ∧ j = sj
  · obtain ⟨rfl, rfl⟩ := e
    rw [if_pos ⟨rfl, rfl⟩]
    rw [if_pos (Nat.le_refl _)] at a; omega
  · rw [if_neg e]; split at a <;> omega
theorem More1.slack_lower (h : More1 o o' si sj d) (ho : OrdOk o) (ho' : OrdOk o') (hsi : si < o.n) (hsj : sj < o.m) : endS o + max 0 (d - slackV o si sj) ≤ endS o' := by
  have hd := h.d0
  have hn := h.n
  have hm := h.m
  have h0 := (h.end_le ho ho' ⟨hsi, hsj⟩).1
  have h1 := h.lower ho ho' hsi hsj
  have h2 := beg_le_lst ho' (Int.le_refl (endS o')) (i := si) (j := sj) (by omega) (by omega)
  have h3 := lst_most ho (endS o) (t := fun i j => lstA o' (endS o') i j - (endS o' - endS o) + (if i = si ∧ j = sj then d else 0)) (fun i j hi hj => by
      have a := lst_piece ho' (endS o') (i := i) (j := j) (by omega) (by omega)
      rw [h.T] at a
      by_cases e : i = si ∧ j = sj
      · obtain ⟨rfl, rfl⟩ := e
        rw [if_pos ⟨rfl, rfl⟩] at a
        rw [if_pos ⟨rfl, rfl⟩]; split <;> omega
      · rw [if_neg e] at a
        rw [if_neg e]; split <;> omega) (fun i k j hi hj hc => by
      have a := lst_copy ho' (endS o') (i := i) (k := k) (j := j) (by omega) (by omega) (by rw [h.C]; exact hc)
      rw [h.T] at a
      by_cases e : k = si ∧ j = sj
      · obtain ⟨rfl, rfl⟩ := e
        rw [if_pos ⟨rfl, rfl⟩] at a
        rw [if_pos ⟨rfl, rfl⟩]; split <;> omega
      · rw [if_neg e] at a
        rw [if_neg e]; split <;> omega) (fun i j hi hj => by
      have a := lst_end ho' (endS o') (i := i) (j := j) (by omega) (by omega)
      rw [h.T] at a
      by_cases e : i = si ∧ j = sj
      · obtain ⟨rfl, rfl⟩ := e
        rw [if_pos ⟨rfl, rfl⟩] at a
        rw [if_pos ⟨rfl, rfl⟩]; omega
      · rw [if_neg e] at a
        rw [if_neg e]; omega) _ si sj rfl hsi hsj
  rw [if_pos ⟨rfl, rfl⟩] at h3
  unfold slackV; omega
theorem More1.slack_end (h : More1 o o' si sj d) (ho : OrdOk o) (ho' : OrdOk o') (hsi : si < o.n) (hsj : sj < o.m) : endS o' = endS o + max 0 (d - slackV o si sj) :=
  Int.le_antisymm (h.slack_upper ho ho' hsi hsj) (h.slack_lower ho ho' hsi hsj)
end
theorem slack_before {o : Ord} (ho : OrdOk o) {s x : Nat × Nat} (hs1 : s.1 < o.n) (hs2 : s.2 < o.m) (hx : nextS o s = some x) (h0 : slackV o s.1 s.2 = 0) : x.1 < o.n ∧ x.2 < o.m ∧ slackV o x.1 x.2 = 0 := by
  obtain ⟨hm, hlt⟩ := nextS_lt ho hs2 hx
  have hC := (ho.vC s.2 hs2).1
  have hb := beforeL_mem (i := s.1) (j := s.2) hC hm
  have hmt : matchB o s x = true := by
    unfold nextS at hx
    exact List.find?_some hx
  unfold matchB at hmt
  have hmt := of_decide_eq_true hmt
  obtain ⟨x1, x2⟩ := x
  obtain ⟨s1, s2⟩ := s
  dsimp only at *
  unfold slackV at h0
  rcases hb with ⟨h1, h2⟩ | ⟨h1, h2⟩
  · subst h2; subst h1
    have a := lst_piece ho (endS o) (i := x1) (j := x2) hs1 hs2
    have b := beg_le_lst ho (Int.le_refl (endS o)) (i := x1) (j := x2) hs1 (by omega)
    exact ⟨hs1, by omega, by unfold slackV; omega⟩
  · subst h1
    have a := lst_copy ho (endS o) (i := s1) (k := x1) (j := x2) hs1 hs2 h2
    have b := beg_le_lst ho (Int.le_refl (endS o)) (i := x1) (j := x2) (by omega) hs2
    exact ⟨by omega, hs2, by unfold slackV; omega⟩
theorem back_slack {o : Ord} (ho : OrdOk o) : ∀ (f : Nat) (s : Nat × Nat), s.1 < o.n → s.2 < o.m → slackV o s.1 s.2 = 0 → ∀ x ∈ backF o f s, x.1 < o.n ∧ x.2 < o.m ∧ slackV o x.1 x.2 = 0
  | 0, s, h1, h2, h3, x, hx => by
    have : x = s := by simpa [backF] using hx
    subst this; exact ⟨h1, h2, h3⟩
  | f + 1, s, h1, h2, h3, x, hx => by
    unfold backF at hx
    rcases List.mem_cons.1 hx with e | hx
    · subst e; exact ⟨h1, h2, h3⟩
    · cases hn : nextS o s with
      | none => rw [hn] at hx; cases hx
      | some y =>
        rw [hn] at hx
        obtain ⟨a, b, c⟩ := slack_before ho h1 h2 hn h3
        exact back_slack ho f y a b c x hx
theorem last_slack {o : Ord} (ho : OrdOk o) {i j : Nat} (hi : i < o.n) (hj : j < o.m) (h : begA o i j + o.T i j = endS o) : slackV o i j = 0 := by
  have a := lst_end ho (endS o) hi hj
  have b := beg_le_lst ho (Int.le_refl (endS o)) hi hj
  unfold slackV; omega
theorem path_slack {o : Ord} (ho : OrdOk o) {i j : Nat} (hi : i < o.n) (hj : j < o.m) (h : slackV o i j = 0) : ∀ x ∈ pathL o (i, j), x.1 < o.n ∧ x.2 < o.m ∧ slackV o x.1 x.2 = 0 := by
  intro x hx
  unfold pathL at hx
  exact back_slack ho _ (i, j) hi hj h x (List.mem_reverse.1 hx)
theorem backF_len (o : Ord) : ∀ (f : Nat) (s : Nat × Nat), (backF o f s).length ≤ f + 1
  | 0, _ => Nat.le_refl _
  | f + 1, s => by
    unfold backF
    rw [List.length_cons]
    cases nextS o s with
    | none => exact Nat.succ_le_succ (Nat.zero_le _)
    | some x => exact Nat.succ_le_succ (backF_len o f x)
theorem pathL_len (o : Ord) (s : Nat × Nat) : (pathL o s).length ≤ s.1 + s.2 + 1 := by
  unfold pathL; rw [List.length_reverse]; exact backF_len o _ s
end Go.Proofs.Ytnfagcccgmakdaa
namespace Go.Proofs.Ytnfagcccgmakdaa
open Go.RowKit Go.Wk Go.Proofs
attribute [local irreducible] Go.Wk.Wops Go.Wk.Wp Go.Wk.Mtree Go.Wk.Mops
set_option maxHeartbeats 4000000

theorem Slack_g (v : Value) (o : Ord) (i j : Nat) (w : World) (hV : OrderV w w.heap.size v o) (hg : OrdGood o) (hi : i < o.n) (hj : j < o.m) :
    CallsV Try.prog 31 #[v, .agg #[.int .i64 (i : Int), .int .i64 (j : Int)]] w fun v w' => v = .tuple #[.int .i64 (slackV o i j), .int .i64 0] ∧ Ext w w' :=
  (Slack_c v o i j w hV hg.fits).mono fun _ _ ⟨h1, h3⟩ => by
    rw [askS_good hg (stint_nat hi hj), if_pos rfl, Int.toNat_natCast, Int.toNat_natCast] at h1; exact ⟨h1, h3⟩
theorem Critical_g (v : Value) (o : Ord) (w : World) (hV : OrderV w w.heap.size v o) (hg : OrdGood o) :
    CallsV Try.prog 32 #[v] w fun v w' => ∃ t, v = .tuple #[t, .int .i64 0] ∧ StintsV w' w'.heap.size t (((stintsL o.n o.m).filter fun x => decide (slackV o x.1 x.2 = 0)).map zS) ∧ Ext w w' :=
  (Critical_c v o w hV hg.fits).mono fun _ _ ⟨t, h1, h2, h3⟩ => by
    rw [checkS_zero.2 hg] at h1 h2; rw [if_pos rfl] at h2; exact ⟨t, h1, h2.stintsV, h3⟩
theorem Path_g (v : Value) (o : Ord) (i j : Nat) (w : World) (hV : OrderV w w.heap.size v o) (hg : OrdGood o) (hi : i < o.n) (hj : j < o.m) :
    CallsV Try.prog 33 #[v, .agg #[.int .i64 (i : Int), .int .i64 (j : Int)]] w fun v w' => ∃ A c, v = .tuple #[.slice A (pathL o (i, j)).length c, .int .i64 0] ∧ StintsV w' w'.heap.size (.slice A (pathL o (i, j)).length c) (pathZ o (i, j)) ∧ Ext w w' :=
  (Path_c v o i j w hV hg.fits).mono fun _ _ ⟨t, h1, h2, h3⟩ => by
    rw [askS_good hg (stint_nat hi hj)] at h1 h2; rw [if_pos rfl, Int.toNat_natCast, Int.toNat_natCast] at h2
    have h4 := h2.stintsV
    obtain ⟨A, c, rfl, h5⟩ := id h4
    have hl : (pathZ o (i, j)).length = (pathL o (i, j)).length := by unfold pathZ; rw [List.length_map]
    rw [hl] at h1 h4
    exact ⟨A, c, h1, h4, h3⟩
theorem slacks_c (v : Value) (o : Ord) (a b more : Int) (w : World) (hV : OrderV w w.heap.size v o) (hf : Fits o) (ha : 0 ≤ a ∧ a ≤ 255) (hb : 0 ≤ b ∧ b ≤ 255) (hm : 0 ≤ more ∧ more ≤ 255) :
    CallsV Try.prog 8 #[v, .int .u8 a, .int .u8 b, .int .u8 more] w fun v w' => v = .bool true ∧ Ext w w' := by
  obtain ⟨A1, n1, c1, A2, n2, c2, rfl, hV⟩ := hV.two
  refine Wp.fn Try.func8 rfl Try.ntmps8 (by simp) ?_
  refine Wp.keep [0, 1, 2, 3] fun r1 hkeep => ?_
  obtain ⟨e0_1, e1_1, e2_1, e3_1, -⟩ := hkeep
  simp [go_sem] at e0_1 e1_1 e2_1 e3_1
  by_cases hs : SmallP o
  · skip
    refine Wp.seqRegion (.inl rfl) (by kernel_rfl) fun K' gd hK hg => ?_
    clear hg
    go_simp
    refine hK _ _ ?_
    clear hK K' gd
    refine Wp.keep [1, 2, 3, 4] fun r2 hkeep => ?_
    obtain ⟨e1_2, e2_2, e3_2, e4_2, -⟩ := hkeep
    simp [go_sem, e0_1, e1_1, e2_1, e3_1] at e1_2 e2_2 e3_2 e4_2
    clear e0_1 e1_1 e2_1 e3_1
    refine Wp.seq ?_
    refine Wp.seqRegion (.inl rfl) (by kernel_rfl) fun K' gd hK hg => ?_
    clear hg
    go_simp
    refine Wcall (.inl rfl) (small_T hs _ (hV.ext (by repeat (first | assumption | exact Ext.refl _ | refine Ext.drew ?_ | refine Ext.alloc ?_ _ | refine Ext.trans ?_ (by assumption)))) hf) ?_
    rintro v w2 ⟨rfl, hE⟩
    have hE2 : Ext w w2 := (by repeat (first | assumption | exact Ext.refl _ | refine Ext.drew ?_ | refine Ext.alloc ?_ _ | refine Ext.trans ?_ (by assumption)))
    have x0 : w2.cell? ⟨w.heap.size, 0, none⟩ = some (.slice A1 n1 c1) := hE.cell (by go_simp)
    have x1 : w2.cell? ⟨w.heap.size, 1, none⟩ = some (.slice A2 n2 c2) := hE.cell (by go_simp)
    go_simp
    refine hK _ _ ?_
    clear hK K' gd
    refine Wp.keep [1, 2, 3, 4, 30] fun r3 hkeep => ?_
    obtain ⟨e1_3, e2_3, e3_3, e4_3, e30_3, -⟩ := hkeep
    simp [go_sem, e1_2, e2_2, e3_2, e4_2] at e1_3 e2_3 e3_3 e4_3 e30_3
    clear e1_2 e2_2 e3_2 e4_2
    refine Wp.condF (by go_simp) ?_
    have hg := hs.good
    have ho := hg.ok
    have hn := hs.n
    have hV2 := hV.ext hE2
    have hend := endS_ok ho
    have hm1 := ho.hm1
    have hm8 := hs.m
    obtain ⟨p, hcv, hrv, hO⟩ := hV.ordF2 hg
    simp only [OA.cv, OA.rv] at hcv hrv
    injection hcv with p1 p2 p3
    injection hrv with p4 p5 p6
    subst p1 p2 p3 p5 p6
    have hrA := hO.hr hn.1
    rw [hrA] at p4
    subst p4
    obtain ⟨si, hsi, hsn⟩ := mod_nat ha.1 hn.1
    obtain ⟨sj, hsj, hsm⟩ := mod_nat (n := o.m) hb.1 (by omega)
    have hwa : IntKind.i64.wrap a = a := IntWalk.i64_in _ (by omega)
    have hwb : IntKind.i64.wrap b = b := IntWalk.i64_in _ (by omega)
    have hn0 : ¬ o.n = 0 := by omega
    have hm0 : ¬ o.m = 0 := by omega
    refine Wp.skip ?_
    refine thenK_normal ?_
    refine Wp.seqDrawT (.inl rfl) mixed (.rd [0, 1, 2, 3, 4, 5, 6, 7, 8, 9, 10, 11] (.both (.act 12 false (.act 13 false (.act 14 true .done))) (.act 13 false (.act 12 false (.act 14 true .done))))) (by kernel_rfl) (fun ρ W => AllEq [3, 4] ρ r3 ∧ (∃ sb, ρ 9 = .pointer (some ⟨sb, 0, none⟩) ∧ W.cell? ⟨sb, 0, none⟩ = some (.int .i64 (si : Int)) ∧ W.cell? ⟨sb, 1, none⟩ = some (.int .i64 (sj : Int)) ∧ Ext w2 W)) (fun K' gd hK hg => ?_) ?_
    · skip
      clear hg
      simp only [pickT, nth, List.map_cons, List.map_nil]
      apply Mtree.reads
      · intro w' hE'
        have hC' := hE'.cellsS
        go_simp
        with_reducible rfl
      refine Mtree.two ?_ ?_
      · skip
        refine Mtree.step fun K1 hK1 => ?_
        go_simp
        refine Wcall (.inl rfl) (at_c (si : Int) (sj : Int) _) ?_
        rintro v w3 ⟨rfl, hE3⟩
        go_simp
        refine hK1 _ _ (by assumption) ?_
        clear hK1 K1
        refine Mtree.step fun K1 hK1 => ?_
        go_simp
        refine hK1 _ _ (by first | exact (Ext.refl _).alloc _ | exact Ext.refl _) ?_
        clear hK1 K1
        first | refine Mtree.abs fun V4 hV4 sV4 hVc hVf => ?_ | refine Mtree.absD fun V4 hV4 sV4 hVc hVf => ?_
        have cV4_0 := hVc 0 _ rfl
        have fV4_0 := hVf 0
        have cV4_1 := hVc 1 _ rfl
        have fV4_1 := hVf 1
        clear hVc hVf
        refine Mtree.stepT fun K1 hK1 => ?_
        go_simp
        refine hK1 _ _ ?_
        clear hK1 K1
        refine Mtree.fin ?_
        refine hK _ _ ⟨by simp [AllEq, go_sem], ?_⟩
        have hsz : w2.heap.size ≤ w3.heap.size := (Below.size hE3 : w2.drew.heap.size ≤ w3.heap.size)
        exact ⟨_, rfl, by go_simp, by go_simp, (by repeat (first | assumption | exact Ext.refl _ | refine Ext.drew ?_ | refine Ext.alloc ?_ _ | refine Ext.setC ?_ (by omega) _ | refine Ext.trans ?_ (by assumption)))⟩
      · skip
        refine Mtree.step fun K1 hK1 => ?_
        go_simp
        refine hK1 _ _ (by first | exact (Ext.refl _).alloc _ | exact Ext.refl _) ?_
        clear hK1 K1
        first | refine Mtree.abs fun V5 hV5 sV5 hVc hVf => ?_ | refine Mtree.absD fun V5 hV5 sV5 hVc hVf => ?_
        have cV5_0 := hVc 0 _ rfl
        have fV5_0 := hVf 0
        have cV5_1 := hVc 1 _ rfl
        have fV5_1 := hVf 1
        clear hVc hVf
        refine Mtree.step fun K1 hK1 => ?_
        go_simp
        refine Wcall (.inl rfl) (at_c (si : Int) (sj : Int) _) ?_
        rintro v w3 ⟨rfl, hE3⟩
        go_simp
        refine hK1 _ _ (by assumption) ?_
        clear hK1 K1
        have fc6 := (Ext.frozen hE3 cV5_0).trans fV5_0
        have c6 := Ext.cell hE3 cV5_0
        have fc7 := (Ext.frozen hE3 cV5_1).trans fV5_1
        have c7 := Ext.cell hE3 cV5_1
        refine Mtree.stepT fun K1 hK1 => ?_
        go_simp
        refine hK1 _ _ ?_
        clear hK1 K1
        refine Mtree.fin ?_
        refine hK _ _ ⟨by simp [AllEq, go_sem], ?_⟩
        exact ⟨_, rfl, by go_simp, by go_simp, (by repeat (first | assumption | exact Ext.refl _ | refine Ext.drew ?_ | refine Ext.alloc ?_ _ | refine Ext.setC ?_ (by omega) _ | refine Ext.trans ?_ (by assumption)))⟩
    · rintro r8 W ⟨hA, sb, e9, s0, s1, hE3⟩
      obtain ⟨e3_8, e4_8, -⟩ := hA
      rw [e3_3] at e3_8
      rw [e4_3] at e4_8
      clear e1_3 e2_3 e3_3 e4_3 e30_3
      have x0 := hE3.cell x0
      have x1 := hE3.cell x1
      have hV3 := hV2.ext hE3
      clear hE hwa hwb hsi hsj
      refine Wp.seqRegion (.inl rfl) (by kernel_rfl) fun K' gd hK hg => ?_
      clear hg
      go_simp
      refine Wcall (.inl rfl) (Slack_g _ o si sj _ hV3 hg hsn hsm) ?_
      rintro v w4 ⟨rfl, hE4⟩
      have x0 := hE4.cell x0
      have x1 := hE4.cell x1
      have s0 := hE4.cell s0
      have s1 := hE4.cell s1
      have hV4 := hV3.ext hE4
      go_simp
      refine hK _ _ ?_
      clear hK K' gd
      refine Wp.keep [3, 4, 9, 10, 11] fun r9 hkeep => ?_
      obtain ⟨e3_9, e4_9, e9_9, e10_9, e11_9, -⟩ := hkeep
      simp [go_sem, e3_8, e4_8, e9] at e3_9 e4_9 e9_9 e10_9 e11_9
      clear e3_8 e4_8 e9
      refine Wp.seqRegion (.inl rfl) (by kernel_rfl) fun K' gd hK hg => ?_
      clear hg
      go_simp
      refine Wcall (.inl rfl) (Critical_g _ o _ hV4 hg) ?_
      rintro v w5 ⟨tc, rfl, hC, hE5⟩
      have x0 := hE5.cell x0
      have x1 := hE5.cell x1
      have s0 := hE5.cell s0
      have s1 := hE5.cell s1
      have hV5 := hV4.ext hE5
      go_simp
      refine hK _ _ ?_
      clear hK K' gd
      refine Wp.keep [3, 4, 9, 10, 11, 12, 13] fun r10 hkeep => ?_
      obtain ⟨e3_10, e4_10, e9_10, e10_10, e11_10, e12_10, e13_10, -⟩ := hkeep
      simp [go_sem, e3_9, e4_9, e9_9, e10_9, e11_9] at e3_10 e4_10 e9_10 e10_10 e11_10 e12_10 e13_10
      clear e3_9 e4_9 e9_9 e10_9 e11_9
      refine Wp.seqRegion (.inl rfl) (by kernel_rfl) fun K' gd hK hg => ?_
      clear hg
      go_simp
      refine Wcall (.inl rfl) (End_g _ o _ hV5 hg) ?_
      rintro v w6 ⟨rfl, hE6⟩
      have x0 := hE6.cell x0
      have x1 := hE6.cell x1
      have s0 := hE6.cell s0
      have s1 := hE6.cell s1
      have hV6 := hV5.ext hE6
      go_simp
      refine hK _ _ ?_
      clear hK K' gd
      refine Wp.keep [3, 4, 9, 10, 11, 12, 13, 14, 15] fun r11 hkeep => ?_
      obtain ⟨e3_11, e4_11, e9_11, e10_11, e11_11, e12_11, e13_11, e14_11, e15_11, -⟩ := hkeep
      simp [go_sem, e3_10, e4_10, e9_10, e10_10, e11_10, e12_10, e13_10] at e3_11 e4_11 e9_11 e10_11 e11_11 e12_11 e13_11 e14_11 e15_11
      clear e3_10 e4_10 e9_10 e10_10 e11_10 e12_10 e13_10
      refine Wp.seqRegion (.inl rfl) (by kernel_rfl) fun K' gd hK hg => ?_
      clear hg
      go_simp
      refine Wcall (.inl rfl) (Times_g _ o _ hV6 hg hn.1) ?_
      rintro v w7 ⟨t1, rfl, hT1, hE7⟩
      have x0 := hE7.cell x0
      have x1 := hE7.cell x1
      have s0 := hE7.cell s0
      have s1 := hE7.cell s1
      have hV7 := hV6.ext hE7
      go_simp
      refine hK _ _ ?_
      clear hK K' gd
      refine Wp.keep [3, 4, 9, 10, 11, 12, 13, 14, 15, 16, 17] fun r12 hkeep => ?_
      obtain ⟨e3_12, e4_12, e9_12, e10_12, e11_12, e12_12, e13_12, e14_12, e15_12, e16_12, e17_12, -⟩ := hkeep
      simp [go_sem, e3_11, e4_11, e9_11, e10_11, e11_11, e12_11, e13_11, e14_11, e15_11] at e3_12 e4_12 e9_12 e10_12 e11_12 e12_12 e13_12 e14_12 e15_12 e16_12 e17_12
      clear e3_11 e4_11 e9_11 e10_11 e11_11 e12_11 e13_11 e14_11 e15_11
      refine Wp.seq ?_
      have hsl0 := slack_nonneg ho hsn hsm
      have hsl1 := slack_le ho hsn hsm
      obtain ⟨sl, hsle⟩ : ∃ sl, slackV o si sj = sl := ⟨_, rfl⟩
      rw [hsle] at e10_12 hsl0 hsl1
      have b5 : ¬ sl < 0 := by omega
      obtain ⟨q, hq⟩ : ∃ q, decide (sl = 0) = q := ⟨_, rfl⟩
      have hq' : (sl == 0) = q := by rw [← hq]; rfl
      refine Wp.seqRegion (.inl rfl) (by kernel_rfl) fun K' gd hK hg => ?_
      have g2 : gd 2 = some 68 := hg 2
      have g6 : gd 6 = some 72 := hg 6
      have g10 : gd 10 = some 76 := hg 10
      have g14 : gd 14 = some 80 := hg 14
      have g18 : gd 18 = some 84 := hg 18
      have g26 : gd 26 = some 92 := hg 26
      clear hg
      go_simp
      refine Wcall (.inl rfl) (has_p _ o.n o.m _ si sj _ (hC.ext (by repeat (first | assumption | exact Ext.refl _ | refine Ext.drew ?_ | refine Ext.alloc ?_ _ | refine Ext.trans ?_ (by assumption)))) hsn hsm (by omega) (by omega)) ?_
      rintro v w8 ⟨rfl, hE8⟩
      dsimp only
      rw [hsle]
      have x0 := hE8.cell x0
      have x1 := hE8.cell x1
      have s0 := hE8.cell s0
      have s1 := hE8.cell s1
      have hV8 := hV7.ext hE8
      go_simp
      refine Wcall (.inl rfl) (wide_g _ _ o _ _ hV8 (hT1.ext (by repeat (first | assumption | exact Ext.refl _ | refine Ext.drew ?_ | refine Ext.alloc ?_ _ | refine Ext.trans ?_ (by assumption)))) (by omega)) ?_
      rintro v w9 ⟨rfl, hE9⟩
      have x0 := hE9.cell x0
      have x1 := hE9.cell x1
      have s0 := hE9.cell s0
      have s1 := hE9.cell s1
      have hV9 := hV8.ext hE9
      go_simp
      refine hK _ _ ?_
      clear hK K' gd g2 g6 g10 g14 g18 g26
      refine Wp.keep [3, 4, 9, 10, 12, 14, 16, 97] fun r13 hkeep => ?_
      obtain ⟨e3_13, e4_13, e9_13, e10_13, e12_13, e14_13, e16_13, e97_13, -⟩ := hkeep
      simp [go_sem, e3_12, e4_12, e9_12, e10_12, e11_12, e12_12, e13_12, e14_12, e15_12, e16_12, e17_12] at e3_13 e4_13 e9_13 e10_13 e12_13 e14_13 e16_13 e97_13
      clear e3_12 e4_12 e9_12 e10_12 e11_12 e12_12 e13_12 e14_12 e15_12 e16_12 e17_12
      refine Wp.condF (by go_simp) ?_
      clear hq hq' b5
      obtain ⟨d, hd, hd2⟩ := mod_nat (n := 30) hm.1 (by omega)
      have hwm : IntKind.i64.wrap more = more := IntWalk.i64_in _ (by omega)
      have hd' : more.tmod 30 = (d : Int) := hd
      refine Wp.skip ?_
      refine thenK_normal ?_
      refine Wp.seqRegion (.inl rfl) (by kernel_rfl) fun K' gd hK hg => ?_
      clear hg
      go_simp
      refine hK _ _ ?_
      clear hK K' gd
      refine Wp.keep [4, 9, 10, 12, 14, 16, 18] fun r14 hkeep => ?_
      obtain ⟨e4_14, e9_14, e10_14, e12_14, e14_14, e16_14, e18_14, -⟩ := hkeep
      simp [go_sem, e3_13, e4_13, e9_13, e10_13, e12_13, e14_13, e16_13, e97_13] at e4_14 e9_14 e10_14 e12_14 e14_14 e16_14 e18_14
      clear e3_13 e4_13 e9_13 e10_13 e12_13 e14_13 e16_13 e97_13
      clear hd hd' hwm
      have hTs := ho.vT si sj hsn hsm
      have hT1 := hT1.ext (show Ext w7 w9 from (by repeat (first | assumption | exact Ext.refl _ | refine Ext.drew ?_ | refine Ext.alloc ?_ _ | refine Ext.trans ?_ (by assumption))))
      have hC := hC.ext (show Ext w5 w9 from (by repeat (first | assumption | exact Ext.refl _ | refine Ext.drew ?_ | refine Ext.alloc ?_ _ | refine Ext.trans ?_ (by assumption))))
      have hEw9 : Ext w w9 := (by repeat (first | assumption | exact Ext.refl _ | refine Ext.drew ?_ | refine Ext.alloc ?_ _ | refine Ext.trans ?_ (by assumption)))
      clear hE2 hE3 hE4 hE5 hE6 hE7 hE8 hE9 hV2 hV3 hV4 hV5 hV6 hV7 hV8
      by_cases hx : o.T si sj + (d : Int) ≤ 60
      · skip
        refine Wp.seqRegion (.inl rfl) (by kernel_rfl) fun K' gd hK hg => ?_
        clear hg
        go_simp
        refine Wcall (.inl rfl) (Delayed_g _ o si sj d _ hV9 hg hsn hsm ⟨by omega, hx⟩) ?_
        rintro v w10 ⟨v0, rfl, hVd, hE10⟩
        obtain ⟨B1, k1, q1, B2, k2, q2, rfl, hVd⟩ := hVd.two
        go_simp
        refine hK _ _ ?_
        clear hK K' gd
        refine Wp.keep [4, 10, 12, 14, 16, 18, 19, 20] fun r15 hkeep => ?_
        obtain ⟨e4_15, e10_15, e12_15, e14_15, e16_15, e18_15, e19_15, e20_15, -⟩ := hkeep
        simp [go_sem, e4_14, e9_14, e10_14, e12_14, e14_14, e16_14, e18_14] at e4_15 e10_15 e12_15 e14_15 e16_15 e18_15 e19_15 e20_15
        clear e4_14 e9_14 e10_14 e12_14 e14_14 e16_14 e18_14
        refine Wp.seq ?_
        have y0 := cell_nn w10 #[.slice B1 k1 q1, .slice B2 k2 q2] 25 0 rfl (v := .slice B1 k1 q1) rfl
        have y1 := cell_nn w10 #[.slice B1 k1 q1, .slice B2 k2 q2] 25 1 rfl (v := .slice B2 k2 q2) rfl
        have hE11 : Ext w10 (w10.alloc (.cells #[.slice B1 k1 q1, .slice B2 k2 q2] 25)) := (by repeat (first | assumption | exact Ext.refl _ | refine Ext.drew ?_ | refine Ext.alloc ?_ _ | refine Ext.trans ?_ (by assumption)))
        generalize w10.alloc (.cells #[.slice B1 k1 q1, .slice B2 k2 q2] 25) = W11 at *
        have hVd := hVd.ext hE11
        obtain ⟨od, hod⟩ : ∃ od, o.setT si sj (o.T si sj + (d : Int)) = od := ⟨_, rfl⟩
        have hM : More1 o od si sj d := by rw [← hod]; exact delay_more hg hsn hsm (by omega)
        have hgd : OrdGood od := by rw [← hod]; exact hg.setT sj hsn (by omega)
        rw [hod] at hVd
        clear hod
        have hse := hM.slack_end ho hgd.ok hsn hsm
        rw [hsle] at hse
        have hse2 : ∃ _u : Unit, endS od = endS o + max 0 ((d : Int) - sl) := ⟨(), hse⟩
        clear hse
        refine Wp.seqRegion (.inl rfl) (by kernel_rfl) fun K' gd hK hg => ?_
        clear hg
        go_simp
        refine hK _ _ ?_
        clear hK K' gd
        refine Wp.keep [4, 10, 12, 14, 16, 18, 19, 20, 109] fun r16 hkeep => ?_
        obtain ⟨e4_16, e10_16, e12_16, e14_16, e16_16, e18_16, e19_16, e20_16, e109_16, -⟩ := hkeep
        simp [go_sem, e4_15, e10_15, e12_15, e14_15, e16_15, e18_15, e19_15, e20_15] at e4_16 e10_16 e12_16 e14_16 e16_16 e18_16 e19_16 e20_16 e109_16
        clear e4_15 e10_15 e12_15 e14_15 e16_15 e18_15 e19_15 e20_15
        refine Wp.condT (by go_simp) ?_
        refine Wp.seqRegion (.inl rfl) (by kernel_rfl) fun K' gd hK hg => ?_
        clear hg
        go_simp
        refine Wcall (.inl rfl) (End_g _ od _ hVd hgd) ?_
        rintro v w12 ⟨rfl, hE12⟩
        go_simp
        refine hK _ _ ?_
        clear hK K' gd
        refine Wp.keep [4, 10, 12, 14, 16, 18, 21, 22] fun r17 hkeep => ?_
        obtain ⟨e4_17, e10_17, e12_17, e14_17, e16_17, e18_17, e21_17, e22_17, -⟩ := hkeep
        simp [go_sem, e4_16, e10_16, e12_16, e14_16, e16_16, e18_16, e19_16, e20_16, e109_16] at e4_17 e10_17 e12_17 e14_17 e16_17 e18_17 e21_17 e22_17
        clear e4_16 e10_16 e12_16 e14_16 e16_16 e18_16 e19_16 e20_16 e109_16
        obtain ⟨-, hse⟩ := hse2
        obtain ⟨E, hEe⟩ : ∃ E, endS o = E := ⟨_, rfl⟩
        obtain ⟨E2, hE2e⟩ : ∃ E, endS od = E := ⟨_, rfl⟩
        rw [hEe] at hse hend e14_17
        rw [hE2e] at hse e21_17
        obtain ⟨mx, hmx⟩ : ∃ mx, max 0 ((d : Int) - sl) = mx := ⟨_, rfl⟩
        rw [hmx] at hse
        have hmx2 : 0 ≤ mx ∧ mx ≤ 60 := by omega
        have hw1 : IntKind.i64.wrap ((d : Int) - sl) = (d : Int) - sl := IntWalk.i64_in _ (by omega)
        have hw2 : IntKind.i64.wrap (E + mx) = E2 := by rw [hse]; exact IntWalk.i64_in _ (by omega)
        have hmi : (if sl < (d : Int) then (d : Int) - sl else 0) = mx := by rw [← hmx]; omega
        have hEe2 : ∃ _u : Unit, endS o = E := ⟨(), hEe⟩
        clear hse hmx hEe hE2e
        refine Wp.seqRegion (.inl rfl) (by kernel_rfl) fun K' gd hK hg => ?_
        have g2 : gd 2 = some 117 := hg 2
        clear hg
        go_simp
        refine hK _ _ ?_
        clear hK K' gd g2
        refine Wp.keep [4, 12, 14, 16, 126] fun r18 hkeep => ?_
        obtain ⟨e4_18, e12_18, e14_18, e16_18, e126_18, -⟩ := hkeep
        simp [go_sem, e4_17, e10_17, e12_17, e14_17, e16_17, e18_17, e21_17, e22_17] at e4_18 e12_18 e14_18 e16_18 e126_18
        clear e4_17 e10_17 e12_17 e14_17 e16_17 e18_17 e21_17 e22_17
        refine Wp.condF (by go_simp) ?_
        obtain ⟨-, hEe⟩ := hEe2
        rw [← hEe] at e14_18
        rw [← hEe] at hend
        clear hEe hw1 hw2 hmi hmx2
        have hE913 : Ext w9 w12 := (by repeat (first | assumption | exact Ext.refl _ | refine Ext.drew ?_ | refine Ext.alloc ?_ _ | refine Ext.trans ?_ (by assumption)))
        obtain ⟨w13, hw13⟩ : ∃ x, x = w12 := ⟨_, rfl⟩
        subst hw13
        clear hE12 hE11 hVd y0 y1
        have hV13 := hV9.ext hE913
        have x0 := hE913.cell x0
        have x1 := hE913.cell x1
        have hO13 := hO.ext (hEw9.trans hE913)
        have hC13 := hC.ext hE913
        obtain ⟨-, b1, ob1, cc1, rb1, ro1, rc1, rfl, hG⟩ := hT1.ext hE913
        have hEw13 : Ext w _ := hEw9.trans hE913
        clear hsle hx hTs hsl0 hsl1 s0 s1 hV9
        obtain ⟨ml, hml⟩ : ∃ ml, o.m = ml + 1 := ⟨o.m - 1, by omega⟩
        have hmlm : ml < o.m := by omega
        have hwm : IntKind.i64.wrap ((o.m : Int) - 1) = (ml : Int) := by rw [IntWalk.i64_in _ (by omega)]; omega
        clear hml
        refine Wp.skip ?_
        refine thenK_normal ?_
        refine Wp.seq ?_
        refine Wp.seqRegion (.inl rfl) (by kernel_rfl) fun K' gd hK hg => ?_
        clear hg
        go_simp
        refine hK _ _ ?_
        clear hK K' gd
        refine Wp.keep [4, 12, 14, 16, 23] fun r19 hkeep => ?_
        obtain ⟨e4_19, e12_19, e14_19, e16_19, e23_19, -⟩ := hkeep
        simp [go_sem, e4_18, e12_18, e14_18, e16_18, e126_18] at e4_19 e12_19 e14_19 e16_19 e23_19
        clear e4_18 e12_18 e14_18 e16_18 e126_18
        refine Wp.block ?_
        refine Wp.loop (fun k ρ ds wk => AllEq [4, 12, 14, 16] ρ r19 ∧ ds = [] ∧ (ρ 23 = .int .i64 (k : Int) ∧ Ext w13 wk)) (o.n) ?_ ?_
        · refine ⟨AllEq.refl _ _, rfl, ?_⟩
          exact ⟨by rw [e23_19]; rfl, (by repeat (first | assumption | exact Ext.refl _ | refine Ext.drew ?_ | refine Ext.alloc ?_ _ | refine Ext.trans ?_ (by assumption)))⟩
        · rintro k r20 _ wk hk ⟨hA, rfl, ⟨e23, hEk⟩⟩
          obtain ⟨e4_20, e12_20, e14_20, e16_20, -⟩ := hA
          rw [e4_19] at e4_20
          rw [e12_19] at e12_20
          rw [e14_19] at e14_20
          rw [e16_19] at e16_20
          have z0 := hEk.cell x0
          have z1 := hEk.cell x1
          refine Wp.seq ?_
          refine Wp.seqRegion (.inl rfl) (by kernel_rfl) fun K' gd hK hg => ?_
          clear hg
          go_simp
          refine hK _ _ ?_
          clear hK K' gd
          refine Wp.keep [4, 12, 14, 16, 23, 133] fun r21 hkeep => ?_
          obtain ⟨e4_21, e12_21, e14_21, e16_21, e23_21, e133_21, -⟩ := hkeep
          simp [go_sem, e4_20, e12_20, e14_20, e16_20, e23] at e4_21 e12_21 e14_21 e16_21 e23_21 e133_21
          clear e4_20 e12_20 e14_20 e16_20 e23
          by_cases h : k < o.n
          · refine Wp.condT (by go_simp) ?_
            have hOk := hO13.ext hEk
            have g1 := (hG.ext hEk).row k h
            have g2 := (hG.ext hEk).cell k ml h hmlm
            have g3 := hOk.hT k h
            have g4 := hOk.hTT k ml h hmlm
            have b3 : (k : Int) < (o.n : Int) := by omega
            have b4 : (ml : Int) < (o.m : Int) := by omega
            have hTk := ho.vT k ml h hmlm
            have hBk := begA_ok ho h hmlm
            obtain ⟨e, hee⟩ : ∃ e, begA o k ml + o.T k ml = e := ⟨_, rfl⟩
            have hws : IntKind.i64.wrap (begA o k ml + o.T k ml) = e := by rw [hee]; exact IntWalk.i64_in _ (by omega)
            have hee2 : ∃ _u : Unit, begA o k ml + o.T k ml = e := ⟨(), hee⟩
            clear hee
            by_cases he : e = endS o
            · skip
              have hps := last_slack ho h hmlm (by (obtain ⟨-, hee⟩ := hee2; rw [hee, he]))
              have hpx := path_slack ho h hmlm hps
              have hpl := pathL_len o (k, ml)
              dsimp only at hpl
              clear hps hee2
              have he1 : (e != endS o) = false := by rw [he]; simp
              clear he
              refine Wp.skip ?_
              refine thenK_normal ?_
              refine Wp.seq ?_
              refine Wp.block ?_
              refine Wp.seqRegion (.inl rfl) (by kernel_rfl) fun K' gd hK hg => ?_
              clear hg
              go_simp
              refine hK _ _ ?_
              clear hK K' gd
              refine Wp.keep [4, 12, 14, 16, 23, 24] fun r22 hkeep => ?_
              obtain ⟨e4_22, e12_22, e14_22, e16_22, e23_22, e24_22, -⟩ := hkeep
              simp [go_sem, e4_21, e12_21, e14_21, e16_21, e23_21, e133_21] at e4_22 e12_22 e14_22 e16_22 e23_22 e24_22
              clear e4_21 e12_21 e14_21 e16_21 e23_21 e133_21
              refine Wp.seq ?_
              refine Wp.seqDraw (.inl rfl) mixed [([0, 1, 2, 3, 4], none), ([5, 6, 7, 8, 9], none), ([10, 11, 12, 13, 14], none), ([15, 16, 17, 18], none)] (by kernel_rfl) fun K' gd hK hg => ?_
              clear hg
              simp only [pick, nth, List.map_cons, List.map_nil, Option.map_none, Option.map_some]
              apply Mops.none
              · intro w' hE'
                have hC' := hE'.cellsS
                go_simp
                with_reducible rfl
              apply Mops.none
              · intro w' hE'
                have hC' := hE'.cellsS
                go_simp
                with_reducible rfl
              apply Mops.none
              · intro w' hE'
                have hC' := hE'.cellsS
                go_simp
                with_reducible rfl
              apply Mops.none
              · intro w' hE'
                have hC' := hE'.cellsS
                go_simp
                with_reducible rfl
              refine Mops.done ?_
              refine hK _ _ ?_
              clear hK K' gd
              refine Wp.keep [4, 12, 14, 16, 23, 24, 158] fun r23 hkeep => ?_
              obtain ⟨e4_23, e12_23, e14_23, e16_23, e23_23, e24_23, e158_23, -⟩ := hkeep
              simp [go_sem, e4_22, e12_22, e14_22, e16_22, e23_22, e24_22] at e4_23 e12_23 e14_23 e16_23 e23_23 e24_23 e158_23
              clear e4_22 e12_22 e14_22 e16_22 e23_22 e24_22
              refine Wp.condF (by go_simp) ?_
              refine Wp.skip ?_
              refine thenK_normal ?_
              refine Wp.seqDraw (.inl rfl) mixed [([0, 1, 2], some (3, false)), ([], some (4, false)), ([5, 6, 7, 8, 9], none)] (by kernel_rfl) fun K' gd hK hg => ?_
              clear hg
              simp only [pick, nth, List.map_cons, List.map_nil, Option.map_none, Option.map_some]
              apply Mops.act
              · intro w' hE'
                have hC' := hE'.cellsS
                go_simp
                with_reducible rfl
              intro K1 hK1
              go_simp
              refine Wcall (.inl rfl) (at_c (k : Int) (ml : Int) _) ?_
              rintro v w14 ⟨rfl, hE14⟩
              have z0 := hE14.cell z0
              have z1 := hE14.cell z1
              go_simp
              refine hK1 _ _ (by first | assumption | exact Ext.refl _) ?_
              clear hK1 K1
              apply Mops.act
              · exact fun _ _ => Rops_done
              intro K1 hK1
              go_simp
              refine Wcall (.inl rfl) (Path_g _ o k ml _ (hV13.ext (by repeat (first | assumption | exact Ext.refl _ | refine Ext.drew ?_ | refine Ext.alloc ?_ _ | refine Ext.trans ?_ (by assumption)))) hg h hmlm) ?_
              rintro v w15 ⟨AP, cP, rfl, hP, hE15⟩
              go_simp
              refine hK1 _ _ (by first | assumption | exact Ext.refl _) ?_
              clear hK1 K1
              apply Mops.none
              · intro w' hE'
                have hC' := hE'.cellsS
                go_simp
                with_reducible rfl
              refine Mops.done ?_
              refine hK _ _ ?_
              clear hK K' gd
              refine Wp.keep [4, 12, 14, 16, 23, 25, 26] fun r24 hkeep => ?_
              obtain ⟨e4_24, e12_24, e14_24, e16_24, e23_24, e25_24, e26_24, -⟩ := hkeep
              simp [go_sem, e4_23, e12_23, e14_23, e16_23, e23_23, e24_23, e158_23] at e4_24 e12_24 e14_24 e16_24 e23_24 e25_24 e26_24
              clear e4_23 e12_23 e14_23 e16_23 e23_23 e24_23 e158_23
              refine Wp.seq ?_
              refine Wp.seqRegion (.inl rfl) (by kernel_rfl) fun K' gd hK hg => ?_
              clear hg
              go_simp
              refine hK _ _ ?_
              clear hK K' gd
              refine Wp.keep [4, 12, 14, 16, 23, 25, 168] fun r25 hkeep => ?_
              obtain ⟨e4_25, e12_25, e14_25, e16_25, e23_25, e25_25, e168_25, -⟩ := hkeep
              simp [go_sem, e4_24, e12_24, e14_24, e16_24, e23_24, e25_24, e26_24] at e4_25 e12_25 e14_25 e16_25 e23_25 e25_25 e168_25
              clear e4_24 e12_24 e14_24 e16_24 e23_24 e25_24 e26_24
              refine Wp.condF (by go_simp) ?_
              obtain ⟨P, hPe⟩ : ∃ P, pathL o (k, ml) = P := ⟨_, rfl⟩
              unfold pathZ at hP
              rw [hPe] at hP hpx hpl e25_25
              have hHV := HoldV.of hP
              have hE1315 : Ext w13 w15 := (by repeat (first | assumption | exact Ext.refl _ | refine Ext.drew ?_ | refine Ext.alloc ?_ _ | refine Ext.trans ?_ (by assumption)))
              obtain ⟨_, _, hHv, hHc⟩ := id hHV
              injection hHv with hA3 h4 hc3
              subst hA3 hc3
              clear hPe
              refine Wp.skip ?_
              refine thenK_normal ?_
              refine Wp.seqRegion (.inl rfl) (by kernel_rfl) fun K' gd hK hg => ?_
              clear hg
              go_simp
              refine hK _ _ ?_
              clear hK K' gd
              refine Wp.keep [4, 12, 14, 16, 23, 25, 27] fun r26 hkeep => ?_
              obtain ⟨e4_26, e12_26, e14_26, e16_26, e23_26, e25_26, e27_26, -⟩ := hkeep
              simp [go_sem, e4_25, e12_25, e14_25, e16_25, e23_25, e25_25, e168_25] at e4_26 e12_26 e14_26 e16_26 e23_26 e25_26 e27_26
              clear e4_25 e12_25 e14_25 e16_25 e23_25 e25_25 e168_25
              refine Wp.block ?_
              refine Wp.loop (fun q ρ ds wq => AllEq [4, 12, 14, 16, 23, 25] ρ r26 ∧ ds = [] ∧ (ρ 27 = .int .i64 (q : Int) ∧ Ext w15 wq)) (P.length) ?_ ?_
              · refine ⟨AllEq.refl _ _, rfl, ?_⟩
                exact ⟨by rw [e27_26]; rfl, (by repeat (first | assumption | exact Ext.refl _ | refine Ext.drew ?_ | refine Ext.alloc ?_ _ | refine Ext.trans ?_ (by assumption)))⟩
              · rintro q r27 _ wq hq ⟨hA, rfl, ⟨e27, hEq⟩⟩
                obtain ⟨e4_27, e12_27, e14_27, e16_27, e23_27, e25_27, -⟩ := hA
                rw [e4_26] at e4_27
                rw [e12_26] at e12_27
                rw [e14_26] at e14_27
                rw [e16_26] at e16_27
                rw [e23_26] at e23_27
                rw [e25_26] at e25_27
                refine Wp.seq ?_
                refine Wp.seqRegion (.inl rfl) (by kernel_rfl) fun K' gd hK hg => ?_
                clear hg
                go_simp
                refine hK _ _ ?_
                clear hK K' gd
                refine Wp.keep [4, 12, 14, 16, 23, 25, 27, 172] fun r28 hkeep => ?_
                obtain ⟨e4_28, e12_28, e14_28, e16_28, e23_28, e25_28, e27_28, e172_28, -⟩ := hkeep
                simp [go_sem, e4_27, e12_27, e14_27, e16_27, e23_27, e25_27, e27] at e4_28 e12_28 e14_28 e16_28 e23_28 e25_28 e27_28 e172_28
                clear e4_27 e12_27 e14_27 e16_27 e23_27 e25_27 e27
                by_cases h2 : q < P.length
                · refine Wp.condT (by go_simp) ?_
                  obtain ⟨y, hy⟩ : ∃ y, P[q]? = some y := ⟨_, List.getElem?_eq_getElem h2⟩
                  obtain ⟨b2, o2, rfl, d3, d4⟩ := hHc q y hy
                  have d3 := hEq.cell d3
                  have d4 := hEq.cell d4
                  have b5 : (q : Int) < (P.length : Int) := by omega
                  obtain ⟨hy1, hy2, hy3⟩ := hpx y (List.mem_of_getElem? hy)
                  refine Wp.skip ?_
                  refine thenK_normal ?_
                  refine Wp.seq ?_
                  refine Wp.block ?_
                  refine Wp.seqRegion (.inl rfl) (by kernel_rfl) fun K' gd hK hg => ?_
                  clear hg
                  go_simp
                  refine Wcall (.inl rfl) (has_p _ o.n o.m _ y.1 y.2 _ (hC13.ext (by repeat (first | assumption | exact Ext.refl _ | refine Ext.drew ?_ | refine Ext.alloc ?_ _ | refine Ext.trans ?_ (by assumption)))) hy1 hy2 (by omega) (by omega)) ?_
                  rintro v w16 ⟨rfl, hE16⟩
                  dsimp only
                  rw [hy3]
                  go_simp
                  refine hK _ _ ?_
                  clear hK K' gd
                  refine Wp.keep [4, 12, 14, 16, 23, 25, 27, 181] fun r29 hkeep => ?_
                  obtain ⟨e4_29, e12_29, e14_29, e16_29, e23_29, e25_29, e27_29, e181_29, -⟩ := hkeep
                  simp [go_sem, e4_28, e12_28, e14_28, e16_28, e23_28, e25_28, e27_28, e172_28] at e4_29 e12_29 e14_29 e16_29 e23_29 e25_29 e27_29 e181_29
                  clear e4_28 e12_28 e14_28 e16_28 e23_28 e25_28 e27_28 e172_28
                  refine Wp.condF (by go_simp) ?_
                  refine Wp.skip ?_
                  refine blockK_normal ?_
                  refine thenK_normal ?_
                  refine Wp.loneRegion (.inl rfl) (by kernel_rfl) fun K' gd hK hg => ?_
                  clear hg
                  go_simp
                  refine hK _ _ ?_
                  clear hK K' gd
                  refine Ends.keep [4, 12, 14, 16, 23, 25, 27] fun r30 hkeep => ?_
                  obtain ⟨e4_30, e12_30, e14_30, e16_30, e23_30, e25_30, e27_30, -⟩ := hkeep
                  simp [go_sem, e4_29, e12_29, e14_29, e16_29, e23_29, e25_29, e27_29, e181_29] at e4_30 e12_30 e14_30 e16_30 e23_30 e25_30 e27_30
                  clear e4_29 e12_29 e14_29 e16_29 e23_29 e25_29 e27_29 e181_29
                  refine Ends.mk ?_
                  refine thenK_normal ⟨by omega, ⟨by rw [e4_30, e4_26], by rw [e12_30, e12_26], by rw [e14_30, e14_26], by rw [e16_30, e16_26], by rw [e23_30, e23_26], by rw [e25_30, e25_26], trivial⟩, rfl, ?_⟩
                  exact ⟨by rw [e27_30, IntWalk.i64_in _ (by omega)]; rfl, (by repeat (first | assumption | exact Ext.refl _ | refine Ext.drew ?_ | refine Ext.alloc ?_ _ | refine Ext.trans ?_ (by assumption)))⟩
                · refine Wp.condF (by go_simp) ?_
                  refine Wp.exit ?_
                  refine thenK_exit ?_
                  refine thenK_exit ?_
                  refine blockK_here ?_
                  refine blockK_normal ?_
                  refine thenK_normal ?_
                  refine Wp.loneRegion (.inl rfl) (by kernel_rfl) fun K' gd hK hg => ?_
                  clear hg
                  go_simp
                  refine hK _ _ ?_
                  clear hK K' gd
                  refine Ends.keep [4, 12, 14, 16, 23] fun r31 hkeep => ?_
                  obtain ⟨e4_31, e12_31, e14_31, e16_31, e23_31, -⟩ := hkeep
                  simp [go_sem, e4_28, e12_28, e14_28, e16_28, e23_28, e25_28, e27_28, e172_28] at e4_31 e12_31 e14_31 e16_31 e23_31
                  clear e4_28 e12_28 e14_28 e16_28 e23_28 e25_28 e27_28 e172_28
                  refine Ends.mk ?_
                  refine thenK_normal ⟨by omega, ⟨by rw [e4_31, e4_19], by rw [e12_31, e12_19], by rw [e14_31, e14_19], by rw [e16_31, e16_19], trivial⟩, rfl, ?_⟩
                  exact ⟨by rw [e23_31, IntWalk.i64_in _ (by omega)]; rfl, (by repeat (first | assumption | exact Ext.refl _ | refine Ext.drew ?_ | refine Ext.alloc ?_ _ | refine Ext.trans ?_ (by assumption)))⟩
            · skip
              have he1 : (e != endS o) = true := by simpa using he
              refine Wp.skip ?_
              refine thenK_normal ?_
              refine Wp.seq ?_
              refine Wp.block ?_
              refine Wp.seqRegion (.inl rfl) (by kernel_rfl) fun K' gd hK hg => ?_
              clear hg
              go_simp
              refine hK _ _ ?_
              clear hK K' gd
              refine Wp.keep [4, 12, 14, 16, 23, 24] fun r32 hkeep => ?_
              obtain ⟨e4_32, e12_32, e14_32, e16_32, e23_32, e24_32, -⟩ := hkeep
              simp [go_sem, e4_21, e12_21, e14_21, e16_21, e23_21, e133_21] at e4_32 e12_32 e14_32 e16_32 e23_32 e24_32
              clear e4_21 e12_21 e14_21 e16_21 e23_21 e133_21
              refine Wp.seq ?_
              refine Wp.seqDraw (.inl rfl) mixed [([0, 1, 2, 3, 4], none), ([5, 6, 7, 8, 9], none), ([10, 11, 12, 13, 14], none), ([15, 16, 17, 18], none)] (by kernel_rfl) fun K' gd hK hg => ?_
              clear hg
              simp only [pick, nth, List.map_cons, List.map_nil, Option.map_none, Option.map_some]
              apply Mops.none
              · intro w' hE'
                have hC' := hE'.cellsS
                go_simp
                with_reducible rfl
              apply Mops.none
              · intro w' hE'
                have hC' := hE'.cellsS
                go_simp
                with_reducible rfl
              apply Mops.none
              · intro w' hE'
                have hC' := hE'.cellsS
                go_simp
                with_reducible rfl
              apply Mops.none
              · intro w' hE'
                have hC' := hE'.cellsS
                go_simp
                with_reducible rfl
              refine Mops.done ?_
              refine hK _ _ ?_
              clear hK K' gd
              refine Wp.keep [4, 12, 14, 16, 23, 24, 158] fun r33 hkeep => ?_
              obtain ⟨e4_33, e12_33, e14_33, e16_33, e23_33, e24_33, e158_33, -⟩ := hkeep
              simp [go_sem, e4_32, e12_32, e14_32, e16_32, e23_32, e24_32] at e4_33 e12_33 e14_33 e16_33 e23_33 e24_33 e158_33
              clear e4_32 e12_32 e14_32 e16_32 e23_32 e24_32
              refine Wp.condT (by go_simp) ?_
              refine Wp.exit ?_
              refine thenK_exit ?_
              refine blockK_here ?_
              refine thenK_normal ?_
              refine Wp.loneRegion (.inl rfl) (by kernel_rfl) fun K' gd hK hg => ?_
              clear hg
              go_simp
              refine hK _ _ ?_
              clear hK K' gd
              refine Ends.keep [4, 12, 14, 16, 23] fun r34 hkeep => ?_
              obtain ⟨e4_34, e12_34, e14_34, e16_34, e23_34, -⟩ := hkeep
              simp [go_sem, e4_33, e12_33, e14_33, e16_33, e23_33, e24_33, e158_33] at e4_34 e12_34 e14_34 e16_34 e23_34
              clear e4_33 e12_33 e14_33 e16_33 e23_33 e24_33 e158_33
              refine Ends.mk ?_
              refine thenK_normal ⟨by omega, ⟨by rw [e4_34, e4_19], by rw [e12_34, e12_19], by rw [e14_34, e14_19], by rw [e16_34, e16_19], trivial⟩, rfl, ?_⟩
              exact ⟨by rw [e23_34, IntWalk.i64_in _ (by omega)]; rfl, (by repeat (first | assumption | exact Ext.refl _ | refine Ext.drew ?_ | refine Ext.alloc ?_ _ | refine Ext.trans ?_ (by assumption)))⟩
          · refine Wp.condF (by go_simp) ?_
            refine Wp.exit ?_
            refine thenK_exit ?_
            refine thenK_exit ?_
            refine blockK_here ?_
            refine thenK_normal ?_
            refine Wp.seqRegion (.inl rfl) (by kernel_rfl) fun K' gd hK hg => ?_
            clear hg
            go_simp
            refine Wcall (.inl rfl) (sanity_c _) ?_
            rintro v w14 ⟨rfl, hE14⟩
            go_simp
            refine hK _ _ ?_
            clear hK K' gd
            refine Wp.keep [8] fun r35 hkeep => ?_
            obtain ⟨e8_35, -⟩ := hkeep
            simp [go_sem, e4_21, e12_21, e14_21, e16_21, e23_21, e133_21] at e8_35
            clear e4_21 e12_21 e14_21 e16_21 e23_21 e133_21
            refine Wp.ret ?_
            refine endK_tmp Try.results8 (by decide) ?_
            rw [e8_35]
            exact ⟨rfl, (by repeat (first | assumption | exact Ext.refl _ | refine Ext.drew ?_ | refine Ext.alloc ?_ _ | refine Ext.trans ?_ (by assumption)))⟩
      · skip
        refine Wp.seqRegion (.inl rfl) (by kernel_rfl) fun K' gd hK hg => ?_
        clear hg
        go_simp
        refine Wcall (.inl rfl) (Delayed_x _ o si sj d _ hV9 hg hsn hsm (by omega) (by omega)) ?_
        rintro v w10 ⟨B1, k1, q1, B2, k2, q2, rfl, hE10⟩
        go_simp
        refine hK _ _ ?_
        clear hK K' gd
        refine Wp.keep [4, 10, 12, 14, 16, 18, 19, 20] fun r36 hkeep => ?_
        obtain ⟨e4_36, e10_36, e12_36, e14_36, e16_36, e18_36, e19_36, e20_36, -⟩ := hkeep
        simp [go_sem, e4_14, e9_14, e10_14, e12_14, e14_14, e16_14, e18_14] at e4_36 e10_36 e12_36 e14_36 e16_36 e18_36 e19_36 e20_36
        clear e4_14 e9_14 e10_14 e12_14 e14_14 e16_14 e18_14
        refine Wp.seq ?_
        refine Wp.seqRegion (.inl rfl) (by kernel_rfl) fun K' gd hK hg => ?_
        clear hg
        go_simp
        refine hK _ _ ?_
        clear hK K' gd
        refine Wp.keep [4, 10, 12, 14, 16, 18, 19, 20, 109] fun r37 hkeep => ?_
        obtain ⟨e4_37, e10_37, e12_37, e14_37, e16_37, e18_37, e19_37, e20_37, e109_37, -⟩ := hkeep
        simp [go_sem, e4_36, e10_36, e12_36, e14_36, e16_36, e18_36, e19_36, e20_36] at e4_37 e10_37 e12_37 e14_37 e16_37 e18_37 e19_37 e20_37 e109_37
        clear e4_36 e10_36 e12_36 e14_36 e16_36 e18_36 e19_36 e20_36
        refine Wp.condF (by go_simp) ?_
        refine Wp.seqRegion (.inl rfl) (by kernel_rfl) fun K' gd hK hg => ?_
        clear hg
        go_simp
        refine hK _ _ ?_
        clear hK K' gd
        refine Wp.keep [4, 12, 14, 16, 128] fun r38 hkeep => ?_
        obtain ⟨e4_38, e12_38, e14_38, e16_38, e128_38, -⟩ := hkeep
        simp [go_sem, e4_37, e10_37, e12_37, e14_37, e16_37, e18_37, e19_37, e20_37, e109_37] at e4_38 e12_38 e14_38 e16_38 e128_38
        clear e4_37 e10_37 e12_37 e14_37 e16_37 e18_37 e19_37 e20_37 e109_37
        refine Wp.condF (by go_simp) ?_
        have hE913 : Ext w9 w10 := (by repeat (first | assumption | exact Ext.refl _ | refine Ext.drew ?_ | refine Ext.alloc ?_ _ | refine Ext.trans ?_ (by assumption)))
        obtain ⟨w13, hw13⟩ : ∃ x, x = w10 := ⟨_, rfl⟩
        subst hw13
        have hV13 := hV9.ext hE913
        have x0 := hE913.cell x0
        have x1 := hE913.cell x1
        have hO13 := hO.ext (hEw9.trans hE913)
        have hC13 := hC.ext hE913
        obtain ⟨-, b1, ob1, cc1, rb1, ro1, rc1, rfl, hG⟩ := hT1.ext hE913
        have hEw13 : Ext w _ := hEw9.trans hE913
        clear hsle hx hTs hsl0 hsl1 s0 s1 hV9
        obtain ⟨ml, hml⟩ : ∃ ml, o.m = ml + 1 := ⟨o.m - 1, by omega⟩
        have hmlm : ml < o.m := by omega
        have hwm : IntKind.i64.wrap ((o.m : Int) - 1) = (ml : Int) := by rw [IntWalk.i64_in _ (by omega)]; omega
        clear hml
        refine Wp.skip ?_
        refine thenK_normal ?_
        refine Wp.seq ?_
        refine Wp.seqRegion (.inl rfl) (by kernel_rfl) fun K' gd hK hg => ?_
        clear hg
        go_simp
        refine hK _ _ ?_
        clear hK K' gd
        refine Wp.keep [4, 12, 14, 16, 23] fun r39 hkeep => ?_
        obtain ⟨e4_39, e12_39, e14_39, e16_39, e23_39, -⟩ := hkeep
        simp [go_sem, e4_38, e12_38, e14_38, e16_38, e128_38] at e4_39 e12_39 e14_39 e16_39 e23_39
        clear e4_38 e12_38 e14_38 e16_38 e128_38
        refine Wp.block ?_
        refine Wp.loop (fun k ρ ds wk => AllEq [4, 12, 14, 16] ρ r39 ∧ ds = [] ∧ (ρ 23 = .int .i64 (k : Int) ∧ Ext w13 wk)) (o.n) ?_ ?_
        · refine ⟨AllEq.refl _ _, rfl, ?_⟩
          exact ⟨by rw [e23_39]; rfl, (by repeat (first | assumption | exact Ext.refl _ | refine Ext.drew ?_ | refine Ext.alloc ?_ _ | refine Ext.trans ?_ (by assumption)))⟩
        · rintro k r40 _ wk hk ⟨hA, rfl, ⟨e23, hEk⟩⟩
          obtain ⟨e4_40, e12_40, e14_40, e16_40, -⟩ := hA
          rw [e4_39] at e4_40
          rw [e12_39] at e12_40
          rw [e14_39] at e14_40
          rw [e16_39] at e16_40
          have z0 := hEk.cell x0
          have z1 := hEk.cell x1
          refine Wp.seq ?_
          refine Wp.seqRegion (.inl rfl) (by kernel_rfl) fun K' gd hK hg => ?_
          clear hg
          go_simp
          refine hK _ _ ?_
          clear hK K' gd
          refine Wp.keep [4, 12, 14, 16, 23, 133] fun r41 hkeep => ?_
          obtain ⟨e4_41, e12_41, e14_41, e16_41, e23_41, e133_41, -⟩ := hkeep
          simp [go_sem, e4_40, e12_40, e14_40, e16_40, e23] at e4_41 e12_41 e14_41 e16_41 e23_41 e133_41
          clear e4_40 e12_40 e14_40 e16_40 e23
          by_cases h : k < o.n
          · refine Wp.condT (by go_simp) ?_
            have hOk := hO13.ext hEk
            have g1 := (hG.ext hEk).row k h
            have g2 := (hG.ext hEk).cell k ml h hmlm
            have g3 := hOk.hT k h
            have g4 := hOk.hTT k ml h hmlm
            have b3 : (k : Int) < (o.n : Int) := by omega
            have b4 : (ml : Int) < (o.m : Int) := by omega
            have hTk := ho.vT k ml h hmlm
            have hBk := begA_ok ho h hmlm
            obtain ⟨e, hee⟩ : ∃ e, begA o k ml + o.T k ml = e := ⟨_, rfl⟩
            have hws : IntKind.i64.wrap (begA o k ml + o.T k ml) = e := by rw [hee]; exact IntWalk.i64_in _ (by omega)
            have hee2 : ∃ _u : Unit, begA o k ml + o.T k ml = e := ⟨(), hee⟩
            clear hee
            by_cases he : e = endS o
            · skip
              have hps := last_slack ho h hmlm (by (obtain ⟨-, hee⟩ := hee2; rw [hee, he]))
              have hpx := path_slack ho h hmlm hps
              have hpl := pathL_len o (k, ml)
              dsimp only at hpl
              clear hps hee2
              have he1 : (e != endS o) = false := by rw [he]; simp
              clear he
              refine Wp.skip ?_
              refine thenK_normal ?_
              refine Wp.seq ?_
              refine Wp.block ?_
              refine Wp.seqRegion (.inl rfl) (by kernel_rfl) fun K' gd hK hg => ?_
              clear hg
              go_simp
              refine hK _ _ ?_
              clear hK K' gd
              refine Wp.keep [4, 12, 14, 16, 23, 24] fun r42 hkeep => ?_
              obtain ⟨e4_42, e12_42, e14_42, e16_42, e23_42, e24_42, -⟩ := hkeep
              simp [go_sem, e4_41, e12_41, e14_41, e16_41, e23_41, e133_41] at e4_42 e12_42 e14_42 e16_42 e23_42 e24_42
              clear e4_41 e12_41 e14_41 e16_41 e23_41 e133_41
              refine Wp.seq ?_
              refine Wp.seqDraw (.inl rfl) mixed [([0, 1, 2, 3, 4], none), ([5, 6, 7, 8, 9], none), ([10, 11, 12, 13, 14], none), ([15, 16, 17, 18], none)] (by kernel_rfl) fun K' gd hK hg => ?_
              clear hg
              simp only [pick, nth, List.map_cons, List.map_nil, Option.map_none, Option.map_some]
              apply Mops.none
              · intro w' hE'
                have hC' := hE'.cellsS
                go_simp
                with_reducible rfl
              apply Mops.none
              · intro w' hE'
                have hC' := hE'.cellsS
                go_simp
                with_reducible rfl
              apply Mops.none
              · intro w' hE'
                have hC' := hE'.cellsS
                go_simp
                with_reducible rfl
              apply Mops.none
              · intro w' hE'
                have hC' := hE'.cellsS
                go_simp
                with_reducible rfl
              refine Mops.done ?_
              refine hK _ _ ?_
              clear hK K' gd
              refine Wp.keep [4, 12, 14, 16, 23, 24, 158] fun r43 hkeep => ?_
              obtain ⟨e4_43, e12_43, e14_43, e16_43, e23_43, e24_43, e158_43, -⟩ := hkeep
              simp [go_sem, e4_42, e12_42, e14_42, e16_42, e23_42, e24_42] at e4_43 e12_43 e14_43 e16_43 e23_43 e24_43 e158_43
              clear e4_42 e12_42 e14_42 e16_42 e23_42 e24_42
              refine Wp.condF (by go_simp) ?_
              refine Wp.skip ?_
              refine thenK_normal ?_
              refine Wp.seqDraw (.inl rfl) mixed [([0, 1, 2], some (3, false)), ([], some (4, false)), ([5, 6, 7, 8, 9], none)] (by kernel_rfl) fun K' gd hK hg => ?_
              clear hg
              simp only [pick, nth, List.map_cons, List.map_nil, Option.map_none, Option.map_some]
              apply Mops.act
              · intro w' hE'
                have hC' := hE'.cellsS
                go_simp
                with_reducible rfl
              intro K1 hK1
              go_simp
              refine Wcall (.inl rfl) (at_c (k : Int) (ml : Int) _) ?_
              rintro v w14 ⟨rfl, hE14⟩
              have z0 := hE14.cell z0
              have z1 := hE14.cell z1
              go_simp
              refine hK1 _ _ (by first | assumption | exact Ext.refl _) ?_
              clear hK1 K1
              apply Mops.act
              · exact fun _ _ => Rops_done
              intro K1 hK1
              go_simp
              refine Wcall (.inl rfl) (Path_g _ o k ml _ (hV13.ext (by repeat (first | assumption | exact Ext.refl _ | refine Ext.drew ?_ | refine Ext.alloc ?_ _ | refine Ext.trans ?_ (by assumption)))) hg h hmlm) ?_
              rintro v w15 ⟨AP, cP, rfl, hP, hE15⟩
              go_simp
              refine hK1 _ _ (by first | assumption | exact Ext.refl _) ?_
              clear hK1 K1
              apply Mops.none
              · intro w' hE'
                have hC' := hE'.cellsS
                go_simp
                with_reducible rfl
              refine Mops.done ?_
              refine hK _ _ ?_
              clear hK K' gd
              refine Wp.keep [4, 12, 14, 16, 23, 25, 26] fun r44 hkeep => ?_
              obtain ⟨e4_44, e12_44, e14_44, e16_44, e23_44, e25_44, e26_44, -⟩ := hkeep
              simp [go_sem, e4_43, e12_43, e14_43, e16_43, e23_43, e24_43, e158_43] at e4_44 e12_44 e14_44 e16_44 e23_44 e25_44 e26_44
              clear e4_43 e12_43 e14_43 e16_43 e23_43 e24_43 e158_43
              refine Wp.seq ?_
              refine Wp.seqRegion (.inl rfl) (by kernel_rfl) fun K' gd hK hg => ?_
              clear hg
              go_simp
              refine hK _ _ ?_
              clear hK K' gd
              refine Wp.keep [4, 12, 14, 16, 23, 25, 168] fun r45 hkeep => ?_
              obtain ⟨e4_45, e12_45, e14_45, e16_45, e23_45, e25_45, e168_45, -⟩ := hkeep
              simp [go_sem, e4_44, e12_44, e14_44, e16_44, e23_44, e25_44, e26_44] at e4_45 e12_45 e14_45 e16_45 e23_45 e25_45 e168_45
              clear e4_44 e12_44 e14_44 e16_44 e23_44 e25_44 e26_44
              refine Wp.condF (by go_simp) ?_
              obtain ⟨P, hPe⟩ : ∃ P, pathL o (k, ml) = P := ⟨_, rfl⟩
              unfold pathZ at hP
              rw [hPe] at hP hpx hpl e25_45
              have hHV := HoldV.of hP
              have hE1315 : Ext w13 w15 := (by repeat (first | assumption | exact Ext.refl _ | refine Ext.drew ?_ | refine Ext.alloc ?_ _ | refine Ext.trans ?_ (by assumption)))
              obtain ⟨_, _, hHv, hHc⟩ := id hHV
              injection hHv with hA3 h4 hc3
              subst hA3 hc3
              clear hPe
              refine Wp.skip ?_
              refine thenK_normal ?_
              refine Wp.seqRegion (.inl rfl) (by kernel_rfl) fun K' gd hK hg => ?_
              clear hg
              go_simp
              refine hK _ _ ?_
              clear hK K' gd
              refine Wp.keep [4, 12, 14, 16, 23, 25, 27] fun r46 hkeep => ?_
              obtain ⟨e4_46, e12_46, e14_46, e16_46, e23_46, e25_46, e27_46, -⟩ := hkeep
              simp [go_sem, e4_45, e12_45, e14_45, e16_45, e23_45, e25_45, e168_45] at e4_46 e12_46 e14_46 e16_46 e23_46 e25_46 e27_46
              clear e4_45 e12_45 e14_45 e16_45 e23_45 e25_45 e168_45
              refine Wp.block ?_
              refine Wp.loop (fun q ρ ds wq => AllEq [4, 12, 14, 16, 23, 25] ρ r46 ∧ ds = [] ∧ (ρ 27 = .int .i64 (q : Int) ∧ Ext w15 wq)) (P.length) ?_ ?_
              · refine ⟨AllEq.refl _ _, rfl, ?_⟩
                exact ⟨by rw [e27_46]; rfl, (by repeat (first | assumption | exact Ext.refl _ | refine Ext.drew ?_ | refine Ext.alloc ?_ _ | refine Ext.trans ?_ (by assumption)))⟩
              · rintro q r47 _ wq hq ⟨hA, rfl, ⟨e27, hEq⟩⟩
                obtain ⟨e4_47, e12_47, e14_47, e16_47, e23_47, e25_47, -⟩ := hA
                rw [e4_46] at e4_47
                rw [e12_46] at e12_47
                rw [e14_46] at e14_47
                rw [e16_46] at e16_47
                rw [e23_46] at e23_47
                rw [e25_46] at e25_47
                refine Wp.seq ?_
                refine Wp.seqRegion (.inl rfl) (by kernel_rfl) fun K' gd hK hg => ?_
                clear hg
                go_simp
                refine hK _ _ ?_
                clear hK K' gd
                refine Wp.keep [4, 12, 14, 16, 23, 25, 27, 172] fun r48 hkeep => ?_
                obtain ⟨e4_48, e12_48, e14_48, e16_48, e23_48, e25_48, e27_48, e172_48, -⟩ := hkeep
                simp [go_sem, e4_47, e12_47, e14_47, e16_47, e23_47, e25_47, e27] at e4_48 e12_48 e14_48 e16_48 e23_48 e25_48 e27_48 e172_48
                clear e4_47 e12_47 e14_47 e16_47 e23_47 e25_47 e27
                by_cases h2 : q < P.length
                · refine Wp.condT (by go_simp) ?_
                  obtain ⟨y, hy⟩ : ∃ y, P[q]? = some y := ⟨_, List.getElem?_eq_getElem h2⟩
                  obtain ⟨b2, o2, rfl, d3, d4⟩ := hHc q y hy
                  have d3 := hEq.cell d3
                  have d4 := hEq.cell d4
                  have b5 : (q : Int) < (P.length : Int) := by omega
                  obtain ⟨hy1, hy2, hy3⟩ := hpx y (List.mem_of_getElem? hy)
                  refine Wp.skip ?_
                  refine thenK_normal ?_
                  refine Wp.seq ?_
                  refine Wp.block ?_
                  refine Wp.seqRegion (.inl rfl) (by kernel_rfl) fun K' gd hK hg => ?_
                  clear hg
                  go_simp
                  refine Wcall (.inl rfl) (has_p _ o.n o.m _ y.1 y.2 _ (hC13.ext (by repeat (first | assumption | exact Ext.refl _ | refine Ext.drew ?_ | refine Ext.alloc ?_ _ | refine Ext.trans ?_ (by assumption)))) hy1 hy2 (by omega) (by omega)) ?_
                  rintro v w16 ⟨rfl, hE16⟩
                  dsimp only
                  rw [hy3]
                  go_simp
                  refine hK _ _ ?_
                  clear hK K' gd
                  refine Wp.keep [4, 12, 14, 16, 23, 25, 27, 181] fun r49 hkeep => ?_
                  obtain ⟨e4_49, e12_49, e14_49, e16_49, e23_49, e25_49, e27_49, e181_49, -⟩ := hkeep
                  simp [go_sem, e4_48, e12_48, e14_48, e16_48, e23_48, e25_48, e27_48, e172_48] at e4_49 e12_49 e14_49 e16_49 e23_49 e25_49 e27_49 e181_49
                  clear e4_48 e12_48 e14_48 e16_48 e23_48 e25_48 e27_48 e172_48
                  refine Wp.condF (by go_simp) ?_
                  refine Wp.skip ?_
                  refine blockK_normal ?_
                  refine thenK_normal ?_
                  refine Wp.loneRegion (.inl rfl) (by kernel_rfl) fun K' gd hK hg => ?_
                  clear hg
                  go_simp
                  refine hK _ _ ?_
                  clear hK K' gd
                  refine Ends.keep [4, 12, 14, 16, 23, 25, 27] fun r50 hkeep => ?_
                  obtain ⟨e4_50, e12_50, e14_50, e16_50, e23_50, e25_50, e27_50, -⟩ := hkeep
                  simp [go_sem, e4_49, e12_49, e14_49, e16_49, e23_49, e25_49, e27_49, e181_49] at e4_50 e12_50 e14_50 e16_50 e23_50 e25_50 e27_50
                  clear e4_49 e12_49 e14_49 e16_49 e23_49 e25_49 e27_49 e181_49
                  refine Ends.mk ?_
                  refine thenK_normal ⟨by omega, ⟨by rw [e4_50, e4_46], by rw [e12_50, e12_46], by rw [e14_50, e14_46], by rw [e16_50, e16_46], by rw [e23_50, e23_46], by rw [e25_50, e25_46], trivial⟩, rfl, ?_⟩
                  exact ⟨by rw [e27_50, IntWalk.i64_in _ (by omega)]; rfl, (by repeat (first | assumption | exact Ext.refl _ | refine Ext.drew ?_ | refine Ext.alloc ?_ _ | refine Ext.trans ?_ (by assumption)))⟩
                · refine Wp.condF (by go_simp) ?_
                  refine Wp.exit ?_
                  refine thenK_exit ?_
                  refine thenK_exit ?_
                  refine blockK_here ?_
                  refine blockK_normal ?_
                  refine thenK_normal ?_
                  refine Wp.loneRegion (.inl rfl) (by kernel_rfl) fun K' gd hK hg => ?_
                  clear hg
                  go_simp
                  refine hK _ _ ?_
                  clear hK K' gd
                  refine Ends.keep [4, 12, 14, 16, 23] fun r51 hkeep => ?_
                  obtain ⟨e4_51, e12_51, e14_51, e16_51, e23_51, -⟩ := hkeep
                  simp [go_sem, e4_48, e12_48, e14_48, e16_48, e23_48, e25_48, e27_48, e172_48] at e4_51 e12_51 e14_51 e16_51 e23_51
                  clear e4_48 e12_48 e14_48 e16_48 e23_48 e25_48 e27_48 e172_48
                  refine Ends.mk ?_
                  refine thenK_normal ⟨by omega, ⟨by rw [e4_51, e4_39], by rw [e12_51, e12_39], by rw [e14_51, e14_39], by rw [e16_51, e16_39], trivial⟩, rfl, ?_⟩
                  exact ⟨by rw [e23_51, IntWalk.i64_in _ (by omega)]; rfl, (by repeat (first | assumption | exact Ext.refl _ | refine Ext.drew ?_ | refine Ext.alloc ?_ _ | refine Ext.trans ?_ (by assumption)))⟩
            · skip
              have he1 : (e != endS o) = true := by simpa using he
              refine Wp.skip ?_
              refine thenK_normal ?_
              refine Wp.seq ?_
              refine Wp.block ?_
              refine Wp.seqRegion (.inl rfl) (by kernel_rfl) fun K' gd hK hg => ?_
              clear hg
              go_simp
              refine hK _ _ ?_
              clear hK K' gd
              refine Wp.keep [4, 12, 14, 16, 23, 24] fun r52 hkeep => ?_
              obtain ⟨e4_52, e12_52, e14_52, e16_52, e23_52, e24_52, -⟩ := hkeep
              simp [go_sem, e4_41, e12_41, e14_41, e16_41, e23_41, e133_41] at e4_52 e12_52 e14_52 e16_52 e23_52 e24_52
              clear e4_41 e12_41 e14_41 e16_41 e23_41 e133_41
              refine Wp.seq ?_
              refine Wp.seqDraw (.inl rfl) mixed [([0, 1, 2, 3, 4], none), ([5, 6, 7, 8, 9], none), ([10, 11, 12, 13, 14], none), ([15, 16, 17, 18], none)] (by kernel_rfl) fun K' gd hK hg => ?_
              clear hg
              simp only [pick, nth, List.map_cons, List.map_nil, Option.map_none, Option.map_some]
              apply Mops.none
              · intro w' hE'
                have hC' := hE'.cellsS
                go_simp
                with_reducible rfl
              apply Mops.none
              · intro w' hE'
                have hC' := hE'.cellsS
                go_simp
                with_reducible rfl
              apply Mops.none
              · intro w' hE'
                have hC' := hE'.cellsS
                go_simp
                with_reducible rfl
              apply Mops.none
              · intro w' hE'
                have hC' := hE'.cellsS
                go_simp
                with_reducible rfl
              refine Mops.done ?_
              refine hK _ _ ?_
              clear hK K' gd
              refine Wp.keep [4, 12, 14, 16, 23, 24, 158] fun r53 hkeep => ?_
              obtain ⟨e4_53, e12_53, e14_53, e16_53, e23_53, e24_53, e158_53, -⟩ := hkeep
              simp [go_sem, e4_52, e12_52, e14_52, e16_52, e23_52, e24_52] at e4_53 e12_53 e14_53 e16_53 e23_53 e24_53 e158_53
              clear e4_52 e12_52 e14_52 e16_52 e23_52 e24_52
              refine Wp.condT (by go_simp) ?_
              refine Wp.exit ?_
              refine thenK_exit ?_
              refine blockK_here ?_
              refine thenK_normal ?_
              refine Wp.loneRegion (.inl rfl) (by kernel_rfl) fun K' gd hK hg => ?_
              clear hg
              go_simp
              refine hK _ _ ?_
              clear hK K' gd
              refine Ends.keep [4, 12, 14, 16, 23] fun r54 hkeep => ?_
              obtain ⟨e4_54, e12_54, e14_54, e16_54, e23_54, -⟩ := hkeep
              simp [go_sem, e4_53, e12_53, e14_53, e16_53, e23_53, e24_53, e158_53] at e4_54 e12_54 e14_54 e16_54 e23_54
              clear e4_53 e12_53 e14_53 e16_53 e23_53 e24_53 e158_53
              refine Ends.mk ?_
              refine thenK_normal ⟨by omega, ⟨by rw [e4_54, e4_39], by rw [e12_54, e12_39], by rw [e14_54, e14_39], by rw [e16_54, e16_39], trivial⟩, rfl, ?_⟩
              exact ⟨by rw [e23_54, IntWalk.i64_in _ (by omega)]; rfl, (by repeat (first | assumption | exact Ext.refl _ | refine Ext.drew ?_ | refine Ext.alloc ?_ _ | refine Ext.trans ?_ (by assumption)))⟩
          · refine Wp.condF (by go_simp) ?_
            refine Wp.exit ?_
            refine thenK_exit ?_
            refine thenK_exit ?_
            refine blockK_here ?_
            refine thenK_normal ?_
            refine Wp.seqRegion (.inl rfl) (by kernel_rfl) fun K' gd hK hg => ?_
            clear hg
            go_simp
            refine Wcall (.inl rfl) (sanity_c _) ?_
            rintro v w14 ⟨rfl, hE14⟩
            go_simp
            refine hK _ _ ?_
            clear hK K' gd
            refine Wp.keep [8] fun r55 hkeep => ?_
            obtain ⟨e8_55, -⟩ := hkeep
            simp [go_sem, e4_41, e12_41, e14_41, e16_41, e23_41, e133_41] at e8_55
            clear e4_41 e12_41 e14_41 e16_41 e23_41 e133_41
            refine Wp.ret ?_
            refine endK_tmp Try.results8 (by decide) ?_
            rw [e8_55]
            exact ⟨rfl, (by repeat (first | assumption | exact Ext.refl _ | refine Ext.drew ?_ | refine Ext.alloc ?_ _ | refine Ext.trans ?_ (by assumption)))⟩
  · skip
    refine Wp.seqRegion (.inl rfl) (by kernel_rfl) fun K' gd hK hg => ?_
    clear hg
    go_simp
    refine hK _ _ ?_
    clear hK K' gd
    refine Wp.keep [1, 2, 3, 4] fun r56 hkeep => ?_
    obtain ⟨e1_56, e2_56, e3_56, e4_56, -⟩ := hkeep
    simp [go_sem, e0_1, e1_1, e2_1, e3_1] at e1_56 e2_56 e3_56 e4_56
    clear e0_1 e1_1 e2_1 e3_1
    refine Wp.seq ?_
    refine Wp.seqRegion (.inl rfl) (by kernel_rfl) fun K' gd hK hg => ?_
    clear hg
    go_simp
    refine Wcall (.inl rfl) (small_F hs _ (hV.ext (by repeat (first | assumption | exact Ext.refl _ | refine Ext.drew ?_ | refine Ext.alloc ?_ _ | refine Ext.trans ?_ (by assumption)))) hf) ?_
    rintro v w2 ⟨rfl, hE⟩
    go_simp
    refine hK _ _ ?_
    clear hK K' gd
    refine Wp.keep [1, 2, 3, 4, 30] fun r57 hkeep => ?_
    obtain ⟨e1_57, e2_57, e3_57, e4_57, e30_57, -⟩ := hkeep
    simp [go_sem, e1_56, e2_56, e3_56, e4_56] at e1_57 e2_57 e3_57 e4_57 e30_57
    clear e1_56 e2_56 e3_56 e4_56
    refine Wp.condT (by go_simp) ?_
    refine Wp.seqRegion (.inl rfl) (by kernel_rfl) fun K' gd hK hg => ?_
    clear hg
    go_simp
    refine Wcall (.inl rfl) (sanity_c _) ?_
    rintro v w3 ⟨rfl, hE3⟩
    go_simp
    refine hK _ _ ?_
    clear hK K' gd
    refine Wp.keep [8] fun r58 hkeep => ?_
    obtain ⟨e8_58, -⟩ := hkeep
    simp [go_sem, e1_57, e2_57, e3_57, e4_57, e30_57] at e8_58
    clear e1_57 e2_57 e3_57 e4_57 e30_57
    refine Wp.ret ?_
    refine thenK_ret ?_
    refine endK_tmp Try.results8 (by decide) ?_
    rw [e8_58]
    exact ⟨rfl, (by repeat (first | assumption | exact Ext.refl _ | refine Ext.drew ?_ | refine Ext.alloc ?_ _ | refine Ext.trans ?_ (by assumption)))⟩
end Go.Proofs.Ytnfagcccgmakdaa
namespace Go.Proofs.Ytnfagcccgmakdaa
open Go.ChangeShapes Go.WideShapes Go.RowKit Go.Wk Go.Proofs

theorem own : ownKnob Try.prog.godebug = none := by kernel_rfl
theorem laidOut : laidOutB Try.prog = true := by kernel_rfl
set_option maxRecDepth 100000 in
theorem orderSlacks_lifted (os : Os) (started : os.Started) (H : Type) (enc : TypeId × Value → H) :
    ReturnsInHanded {} Try.checked os 8 .any (Rows.orderSlacksSpec.pre6 enc Try.prog Try.f8 Rows.orderSlacksRow.domain false) (Rows.orderSlacksSpec.post enc Try.prog Try.f8 false true false false) := by
  refine returnsInHanded_of_change_sized (C := Try.checked) own started (by kernel_rfl) Try.func8
    (ChangeSpec.witness6 (enc := enc) (C := Try.checked) false ⟨#[], #[.agg #[.slice none 0 0, .slice none 0 0], .int .u8 0, .int .u8 0, .int .u8 0], []⟩ 8 (by kernel_rfl) (by kernel_rfl) (by kernel_rfl) (by kernel_rfl)) ?_
  intro W base args ds gs before hval0 hW0 _ hsz0 _
  have hval : ∀ (j : Nat) t v, Try.f8.params[j]? = some t → args[j]? = some v → Value.okWide Try.prog W .any base t v := hval0
  have hW : DataW.Whole enc Try.prog Try.f8.params.toList [] false W args.toList ds gs before := hW0
  have hsz : (DataW.weightsEach Try.prog (Try.f8.params.toList ++ []) (ds ++ gs)).all (· ≤ reachBytes) = true := hsz0
  clear hval0 hsz0
  obtain ⟨p, q, hA, hV, -, -, -⟩ := hW
  obtain ⟨rfl, -⟩ := trodVars_none hV
  rw [List.append_nil, List.append_nil] at hsz
  rw [Try.params8] at hA hsz hval
  obtain ⟨hlen, hR⟩ := Rd.of_args hA hsz
  obtain ⟨v0, v1, v2, v3, d0, d1, d2, d3, p0, p1, p2, p3, rfl, rfl, -, -, -, -, -⟩ := trodAll_four hA
  have r0 := hR 0 _ v0 rfl rfl
  have r1 := hR 1 _ v1 rfl rfl
  have r2 := hR 2 _ v2 rfl rfl
  have r3 := hR 3 _ v3 rfl rfl
  obtain ⟨cs0, rfl, -⟩ := okWide_struct Try.underlying25 (hval 0 _ v0 rfl rfl)
  obtain ⟨m1, rfl⟩ := okWide_int Try.underlying5 (hval 1 _ v1 rfl rfl)
  obtain ⟨m2, rfl⟩ := okWide_int Try.underlying5 (hval 2 _ v2 rfl rfl)
  obtain ⟨m3, rfl⟩ := okWide_int Try.underlying5 (hval 3 _ v3 rfl rfl)
  obtain ⟨x0, h0, f0⟩ := openO ⟨cs0, rfl⟩ r0
  obtain ⟨x1, hm1, f1⟩ := r1.int Try.underlying5
  have e1 : x1 = m1 := by
    have e : [Value.int .u8 m1] = [Value.int .u8 x1] := hm1
    injection e with e _
    injection e with _ e
    exact e.symm
  subst e1
  obtain ⟨x2, hm2, f2⟩ := r2.int Try.underlying5
  have e2 : x2 = m2 := by
    have e : [Value.int .u8 m2] = [Value.int .u8 x2] := hm2
    injection e with e _
    injection e with _ e
    exact e.symm
  subst e2
  obtain ⟨x3, hm3, f3⟩ := r3.int Try.underlying5
  have e3 : x3 = m3 := by
    have e : [Value.int .u8 m3] = [Value.int .u8 x3] := hm3
    injection e with e _
    injection e with _ e
    exact e.symm
  subst e3
  refine (slacks_c _ x0 x1 x2 x3 W h0 f0 (Go.bounds_u8 f1) (Go.bounds_u8 f2) (Go.bounds_u8 f3)).calls.mono fun e W' ⟨v, he, hv, hE⟩ => ?_
  subst he; subst hv
  exact ⟨_, rfl, law_post hW0 laidOut rfl (by rw [Try.params8]; intro t ht; simp at ht; rcases ht with rfl | rfl | rfl | rfl <;> exact ⟨by kernel_rfl, of_decide_eq_true (by kernel_rfl)⟩) rfl Try.underlying4 rfl rfl rfl hE⟩
theorem orderSlacks_holds : Rows.OrderSlacksSaid :=
  OpenClaim.holds_of_wide 8 Try.f8 rfl rfl rfl rfl rfl rfl rfl ⟨rfl, rfl, rfl, rfl, rfl⟩ rfl rfl rfl rfl rfl (by kernel_rfl) Try.func8 (by kernel_rfl)
    (of_decide_eq_true (by kernel_rfl)) (by unfold Func.isWrapper; first | (rw [if_pos (by decide +kernel)]; kernel_rfl) | (rw [if_neg (by decide +kernel)]; exact ⟨rfl, rfl⟩))
    (fun os started H enc _ => orderSlacks_lifted os started H enc)
#print axioms orderSlacks_holds
end Go.Proofs.Ytnfagcccgmakdaa
