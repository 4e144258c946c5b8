/- Scribes alike, and what can be packed. packed. OrderPacked. OrderPacked. For every input, in whatever memory: OrderPacked returns true, and its arguments read as before. No condition. -/
import Derived.Test.YtnfagcccgmakdaaP8
import Derived.Test.YtnfagcccgmakdaaRows
import Derived.ProofKit
import Derived.JoinedOf
import Derived.OpenShut
set_option linter.all false
namespace Go.Proofs.Ytnfagcccgmakdaa
open Go.RowKit Go.Wk Go.Proofs

/-- the sum of the first numbers -/
def sumTo (f : Nat → Int) : Nat → Int
  | 0 => 0
  | n + 1 => sumTo f n + f n
theorem sumTo_congr {f g : Nat → Int} : ∀ {n : Nat}, (∀ k, k < n → f k = g k) → sumTo f n = sumTo g n
  | 0, _ => rfl
  | n + 1, h => by
    unfold sumTo
    rw [sumTo_congr (n := n) (fun k hk => h k (by omega)), h n (by omega)]
/-- one stage of the best that can be packed: pieces below k, weights w -/
def kStep (C T : Nat → Int) (K : Nat → Int) (w : Nat) : Nat → Int
  | 0 => 0
  | k + 1 => if 1 ≤ C k ∧ C k ≤ (w : Int) then max (kStep C T K w k) (K (w - (C k).toNat) + T k) else kStep C T K w k
def kF (C T : Nat → Int) (m : Nat) : Nat → Nat → Int
  | 0, _ => 0
  | f + 1, w => kStep C T (kF C T m f) w m
/-- the most that can be packed into a weight -/
def knap (C T : Nat → Int) (m w : Nat) : Int := kF C T m (w + 1) w
theorem kStep_congr {C T : Nat → Int} {K K' : Nat → Int} {w : Nat} (h : ∀ x, x < w → K x = K' x) : ∀ k, kStep C T K w k = kStep C T K' w k
  | 0 => rfl
  | k + 1 => by
    unfold kStep
    rw [kStep_congr h k]
    split
    · rename_i hc; rw [h (w - (C k).toNat) (by omega)]
    · rfl
theorem kF_stable {C T : Nat → Int} {m : Nat} : ∀ (f g w : Nat), w < f → w < g → kF C T m f w = kF C T m g w
  | 0, _, _, h, _ => by omega
  | _, 0, _, _, h => by omega
  | f + 1, g + 1, w, h1, h2 => by
    unfold kF
    exact kStep_congr (fun x hx => kF_stable f g x (by omega) (by omega)) m
theorem knap_eq (C T : Nat → Int) (m w : Nat) : knap C T m w = kStep C T (knap C T m) w m := by
  unfold knap
  conv => lhs; unfold kF
  exact kStep_congr (fun x hx => kF_stable _ _ x (by omega) (by omega)) m
theorem kStep_nonneg {C T K : Nat → Int} {w : Nat} : ∀ k, 0 ≤ kStep C T K w k
  | 0 => by unfold kStep; exact Int.le_refl _
  | k + 1 => by
    have := kStep_nonneg (C := C) (T := T) (K := K) (w := w) k
    unfold kStep; split <;> omega
theorem kStep_ge {C T K : Nat → Int} {w : Nat} : ∀ {k j : Nat}, j < k → 1 ≤ C j → C j ≤ (w : Int) → K (w - (C j).toNat) + T j ≤ kStep C T K w k
  | 0, _, h, _, _ => by omega
  | k + 1, j, h, h1, h2 => by
    by_cases e : j = k
    · subst e; unfold kStep; rw [if_pos ⟨h1, h2⟩]; omega
    · have := kStep_ge (C := C) (T := T) (K := K) (w := w) (k := k) (j := j) (by omega) h1 h2
      unfold kStep; split <;> omega
theorem kStep_how {C T K : Nat → Int} {w : Nat} : ∀ k, kStep C T K w k = 0 ∨ ∃ j, j < k ∧ 1 ≤ C j ∧ C j ≤ (w : Int) ∧ kStep C T K w k = K (w - (C j).toNat) + T j
  | 0 => .inl rfl
  | k + 1 => by
    have ih := kStep_how (C := C) (T := T) (K := K) (w := w) k
    unfold kStep
    split
    · rename_i hc
      by_cases hle : K (w - (C k).toNat) + T k ≤ kStep C T K w k
      · rw [Int.max_eq_left hle]
        rcases ih with h | ⟨j, h1, h2, h3, h4⟩
        · exact .inl h
        · exact .inr ⟨j, by omega, h2, h3, h4⟩
      · rw [Int.max_eq_right (by omega)]
        exact .inr ⟨k, by omega, hc.1, hc.2, rfl⟩
    · rcases ih with h | ⟨j, h1, h2, h3, h4⟩
      · exact .inl h
      · exact .inr ⟨j, by omega, h2, h3, h4⟩
section
variable {C T : Nat → Int} {m : Nat}
theorem knap_nonneg (w : Nat) : 0 ≤ knap C T m w := by rw [knap_eq]; exact kStep_nonneg m
theorem knap_ge {w j : Nat} (hj : j < m) (h1 : 1 ≤ C j) (h2 : C j ≤ (w : Int)) : knap C T m (w - (C j).toNat) + T j ≤ knap C T m w := by
  rw [knap_eq C T m w]; exact kStep_ge hj h1 h2
theorem knap_how (w : Nat) : knap C T m w = 0 ∨ ∃ j, j < m ∧ 1 ≤ C j ∧ C j ≤ (w : Int) ∧ knap C T m w = knap C T m (w - (C j).toNat) + T j := by
  rw [knap_eq C T m w]; exact kStep_how m
theorem knap_mono1 : ∀ w, knap C T m w ≤ knap C T m (w + 1) := by
  intro w
  induction w using Nat.strongRecOn with
  | ind w ih =>
    rcases knap_how (C := C) (T := T) (m := m) w with h | ⟨j, h1, h2, h3, h4⟩
    · rw [h]; exact knap_nonneg _
    · have a := ih (w - (C j).toNat) (by omega)
      have b := knap_ge (C := C) (T := T) (m := m) (w := w + 1) h1 h2 (by omega)
      rw [show w + 1 - (C j).toNat = w - (C j).toNat + 1 by omega] at b
      omega
theorem knap_mono {a b : Nat} (h : a ≤ b) : knap C T m a ≤ knap C T m b := by
  induction h with
  | refl => exact Int.le_refl _
  | step _ ih => exact Int.le_trans ih (knap_mono1 _)
theorem knap_grow {M : Int} (hM : 0 ≤ M) (hT : ∀ j, j < m → T j ≤ M) (w : Nat) : knap C T m (w + 1) ≤ knap C T m w + M := by
  rcases knap_how (C := C) (T := T) (m := m) (w + 1) with h | ⟨j, h1, h2, h3, h4⟩
  · rw [h]; have := knap_nonneg (C := C) (T := T) (m := m) w; omega
  · have a := knap_mono (C := C) (T := T) (m := m) (a := w + 1 - (C j).toNat) (b := w) (by omega)
    have := hT j h1
    omega
/-- how often each piece is packed -/
theorem knap_counts (hC : ∀ j, j < m → 1 ≤ C j) : ∀ w : Nat, ∃ c : Nat → Nat, sumTo (fun j => (c j : Int) * C j) m ≤ (w : Int) ∧ sumTo (fun j => (c j : Int) * T j) m = knap C T m w := by
  intro w
  induction w using Nat.strongRecOn with
  | ind w ih =>
    rcases knap_how (C := C) (T := T) (m := m) w with h | ⟨j, h1, h2, h3, h4⟩
    · refine ⟨fun _ => 0, ?_, ?_⟩
      · have : ∀ n, sumTo (fun j => ((0 : Nat) : Int) * C j) n = 0 := by
          intro n; induction n with
          | zero => rfl
          | succ n ih => unfold sumTo; rw [ih]; simp
        rw [this]; omega
      · have : ∀ n, sumTo (fun j => ((0 : Nat) : Int) * T j) n = 0 := by
          intro n; induction n with
          | zero => rfl
          | succ n ih => unfold sumTo; rw [ih]; simp
        rw [this, h]
    · obtain ⟨c, hc1, hc2⟩ := ih (w - (C j).toNat) (by omega)
      have key : ∀ (g : Nat → Int) (n : Nat), sumTo (fun k => ((if k = j then c k + 1 else c k : Nat) : Int) * g k) n = sumTo (fun k => (c k : Int) * g k) n + (if j < n then g j else 0) := by
        intro g n
        induction n with
        | zero => rfl
        | succ n ih =>
          unfold sumTo
          rw [ih]
          by_cases e : n = j
          · subst e
            rw [if_neg (Nat.lt_irrefl _), if_pos rfl, if_pos (by omega)]
            have : ((c n + 1 : Nat) : Int) * g n = (c n : Int) * g n + g n := by rw [Int.natCast_add, Int.add_mul]; simp
            omega
          · rw [if_neg e]
            by_cases e2 : j < n
            · rw [if_pos e2, if_pos (by omega)]; omega
            · rw [if_neg e2, if_neg (by omega)]; omega
      refine ⟨fun k => if k = j then c k + 1 else c k, ?_, ?_⟩
      · rw [key, if_pos h1]; omega
      · rw [key, if_pos h1, hc2, h4]
end
section
variable {o : Ord} {k c : Nat}
theorem alike_C (j : Nat) : (alikeO o k c).C j = o.C j := rfl
theorem alike_m : (alikeO o k c).m = o.m := rfl
theorem alike_T {i : Nat} (hi : i < c) (j : Nat) : (alikeO o k c).T i j = o.T k j := by unfold Ord.T; rw [alikeO_run o hi]
theorem alike_A {i : Nat} (hi : i < c) : (alikeO o k c).A i = o.A k := by unfold Ord.A; rw [alikeO_run o hi]
theorem alike_ok (ho : OrdOk o) (hk : k < o.n) (hc : c ≤ 20) : OrdOk (alikeO o k c) :=
  ⟨ho.hm1, ho.hm2, by rw [alikeO_n]; exact hc, ho.vC, fun i hi => by rw [alikeO_n] at hi; rw [alike_A hi]; exact ho.vA k hk, fun i j hi hj => by rw [alikeO_n] at hi; rw [alike_T hi]; exact ho.vT k j hk hj⟩
theorem alike_upper (ho : OrdOk o) (hk : k < o.n) (hc : c ≤ 20) {i j : Nat} (hi : i < c) (hj : j < o.m) : begA (alikeO o k c) i j ≤ o.A k + sumTo (o.T k) j + knap o.C (o.T k) o.m i := by
  have hA := ho.vA k hk
  refine beg_least (alike_ok ho hk hc) (t := fun i j => o.A k + sumTo (o.T k) j + knap o.C (o.T k) o.m i) ⟨fun i hi => ?_, fun i j hi hj => ?_, fun i k' j hi hj hik => ?_⟩ (fun i j hi hj => ?_) _ i j rfl (by rw [alikeO_n]; exact hi) hj
  · rw [alikeO_n] at hi
    rw [alike_A hi]
    have := knap_nonneg (C := o.C) (T := o.T k) (m := o.m) i
    show o.A k ≤ o.A k + 0 + _; omega
  · rw [alikeO_n] at hi
    rw [alike_T hi]
    show _ ≤ o.A k + (sumTo (o.T k) j + o.T k j) + _
    omega
  · rw [alikeO_n] at hi
    have hC := (ho.vC j hj).1
    rw [alike_C] at hik
    rw [alike_T (by omega)]
    have := knap_ge (C := o.C) (T := o.T k) (m := o.m) (w := i) hj hC (by omega)
    rw [show i - (o.C j).toNat = k' by omega] at this
    omega
  · have := knap_nonneg (C := o.C) (T := o.T k) (m := o.m) i
    have h2 : 0 ≤ sumTo (o.T k) j := by
      have : ∀ n, n ≤ o.m → 0 ≤ sumTo (o.T k) n := by
        intro n; induction n with
        | zero => intro _; exact Int.le_refl _
        | succ n ih => intro h; have := ih (by omega); have := (ho.vT k n hk (by omega)).1; unfold sumTo; omega
      exact this j (by rw [alike_m] at hj; omega)
    omega
theorem alike_lower (ho : OrdOk o) (hk : k < o.n) (hc : c ≤ 20) {i : Nat} (hi : i < c) : o.A k + sumTo (o.T k) o.m + knap o.C (o.T k) o.m i ≤ begA (alikeO o k c) i (o.m - 1) + o.T k (o.m - 1) := by
  have hm1 := ho.hm1
  have hkp := beg_keeps (alike_ok ho hk hc)
  obtain ⟨q, hq1, hq2⟩ := knap_counts (C := o.C) (T := o.T k) (m := o.m) (fun j hj => (ho.vC j hj).1) i
  have hw : ∀ n, n ≤ o.m → 0 ≤ sumTo (fun j => (q j : Int) * o.C j) n := by
    intro n; induction n with
    | zero => intro _; exact Int.le_refl _
    | succ n ih =>
      intro h
      have a := ih (by omega)
      have b : 0 ≤ (q n : Int) * o.C n := Int.mul_nonneg (by omega) (by have := (ho.vC n (by omega)).1; omega)
      show 0 ≤ sumTo _ n + (q n : Int) * o.C n
      omega
  have hmono : ∀ n, n ≤ o.m → sumTo (fun j => (q j : Int) * o.C j) n ≤ sumTo (fun j => (q j : Int) * o.C j) o.m := by
    intro n hn
    have : ∀ d n, n + d = o.m → sumTo (fun j => (q j : Int) * o.C j) n ≤ sumTo (fun j => (q j : Int) * o.C j) o.m := by
      intro d; induction d with
      | zero => intro n h; rw [show n = o.m by omega]; exact Int.le_refl _
      | succ d ih =>
        intro n h
        have a := ih (n + 1) (by omega)
        have b : 0 ≤ (q n : Int) * o.C n := Int.mul_nonneg (by omega) (by have := (ho.vC n (by omega)).1; omega)
        have e : sumTo (fun j => (q j : Int) * o.C j) (n + 1) = sumTo (fun j => (q j : Int) * o.C j) n + (q n : Int) * o.C n := rfl
        omega
    exact this (o.m - n) n (by omega)
  -- along the pieces
  have walk : ∀ j, j < o.m → ∀ s : Nat, (s : Int) = (i : Int) - sumTo (fun j => (q j : Int) * o.C j) o.m + sumTo (fun j => (q j : Int) * o.C j) j →
      o.A k + sumTo (o.T k) j + sumTo (fun j => (q j : Int) * o.T k j) j ≤ begA (alikeO o k c) s j →
      ∀ (p : Nat), p ≤ q j → ∀ s' : Nat, (s' : Int) = (s : Int) + (p : Int) * o.C j → o.A k + sumTo (o.T k) j + sumTo (fun j => (q j : Int) * o.T k j) j + (p : Int) * o.T k j ≤ begA (alikeO o k c) s' j := by
    intro j hj s hs h0 p
    induction p with
    | zero => intro _ s' hs'; have : s' = s := by simp at hs'; omega
              subst this; simp; exact h0
    | succ p ih =>
      intro hp s' hs'
      have hC := ho.vC j hj
      have e1 : ((p + 1 : Nat) : Int) * o.C j = (p : Int) * o.C j + o.C j := by rw [Int.natCast_add, Int.add_mul]; simp
      have e2 : ((p + 1 : Nat) : Int) * o.T k j = (p : Int) * o.T k j + o.T k j := by rw [Int.natCast_add, Int.add_mul]; simp
      have e3 : 0 ≤ (p : Int) * o.C j := Int.mul_nonneg (by omega) (by omega)
      have e4 : ((p + 1 : Nat) : Int) * o.C j ≤ (q j : Int) * o.C j := Int.mul_le_mul_of_nonneg_right (by omega) (by omega)
      have h5 := hmono (j + 1) (by omega)
      have e6 : sumTo (fun j => (q j : Int) * o.C j) (j + 1) = sumTo (fun j => (q j : Int) * o.C j) j + (q j : Int) * o.C j := rfl
      have hs2 : s' < c := by omega
      have a := ih (by omega) (s' - (o.C j).toNat) (by omega)
      have b := hkp.copy s' (s' - (o.C j).toNat) j (by rw [alikeO_n]; exact hs2) hj (by rw [alike_C]; omega)
      rw [alike_T (by omega)] at b
      omega
  have main : ∀ j, j < o.m → ∀ s : Nat, (s : Int) = (i : Int) - sumTo (fun j => (q j : Int) * o.C j) o.m + sumTo (fun j => (q j : Int) * o.C j) j →
      o.A k + sumTo (o.T k) j + sumTo (fun j => (q j : Int) * o.T k j) j ≤ begA (alikeO o k c) s j := by
    intro j
    induction j with
    | zero =>
      intro _ s hs
      have h5 := hmono 0 (by omega)
      have h7 := hw o.m (Nat.le_refl _)
      have e0 : sumTo (fun j => (q j : Int) * o.C j) 0 = 0 := rfl
      have a := hkp.arr s (by rw [alikeO_n]; omega)
      rw [alike_A (by omega)] at a
      show o.A k + 0 + 0 ≤ _
      omega
    | succ j ih =>
      intro hj s hs
      have h5 := hmono (j + 1) (by omega)
      have h6 := hw j (by omega)
      have e6 : sumTo (fun j => (q j : Int) * o.C j) (j + 1) = sumTo (fun j => (q j : Int) * o.C j) j + (q j : Int) * o.C j := rfl
      have e7 : 0 ≤ (q j : Int) * o.C j := Int.mul_nonneg (by omega) (by have := (ho.vC j (by omega)).1; omega)
      obtain ⟨s0, hs0⟩ : ∃ s0 : Nat, (s0 : Int) = (i : Int) - sumTo (fun j => (q j : Int) * o.C j) o.m + sumTo (fun j => (q j : Int) * o.C j) j := ⟨((i : Int) - sumTo (fun j => (q j : Int) * o.C j) o.m + sumTo (fun j => (q j : Int) * o.C j) j).toNat, by omega⟩
      have a := walk j (by omega) s0 hs0 (ih (by omega) s0 hs0) (q j) (Nat.le_refl _) s (by omega)
      have b := hkp.piece s j (by rw [alikeO_n]; omega) hj
      rw [alike_T (by omega)] at b
      show o.A k + (sumTo (o.T k) j + o.T k j) + (sumTo (fun j => (q j : Int) * o.T k j) j + (q j : Int) * o.T k j) ≤ _
      omega
  obtain ⟨n, hn⟩ : ∃ n, o.m = n + 1 := ⟨o.m - 1, by omega⟩
  have h6 := hw n (by omega)
  obtain ⟨s0, hs0⟩ : ∃ s0 : Nat, (s0 : Int) = (i : Int) - sumTo (fun j => (q j : Int) * o.C j) o.m + sumTo (fun j => (q j : Int) * o.C j) n := ⟨((i : Int) - sumTo (fun j => (q j : Int) * o.C j) o.m + sumTo (fun j => (q j : Int) * o.C j) n).toNat, by omega⟩
  have e6 : sumTo (fun j => (q j : Int) * o.C j) (n + 1) = sumTo (fun j => (q j : Int) * o.C j) n + (q n : Int) * o.C n := rfl
  have a := walk n (by omega) s0 hs0 (main n (by omega) s0 hs0) (q n) (Nat.le_refl _) i (by rw [hn] at hs0; omega)
  have e7 : sumTo (o.T k) (n + 1) = sumTo (o.T k) n + o.T k n := rfl
  have e8 : sumTo (fun j => (q j : Int) * o.T k j) (n + 1) = sumTo (fun j => (q j : Int) * o.T k j) n + (q n : Int) * o.T k n := rfl
  rw [← hq2]
  simp only [hn, Nat.add_sub_cancel] at *
  omega
theorem alike_end (ho : OrdOk o) (hk : k < o.n) (hc1 : 1 ≤ c) (hc : c ≤ 20) : endS (alikeO o k c) = o.A k + sumTo (o.T k) o.m + knap o.C (o.T k) o.m (c - 1) := by
  have hm1 := ho.hm1
  have hA := ho.vA k hk
  have hT : ∀ n, n ≤ o.m → 0 ≤ sumTo (o.T k) n := by
    intro n; induction n with
    | zero => intro _; exact Int.le_refl _
    | succ n ih => intro h; have := ih (by omega); have := (ho.vT k n hk (by omega)).1; unfold sumTo; omega
  have hmono : ∀ d n, n + d = o.m → sumTo (o.T k) n ≤ sumTo (o.T k) o.m := by
    intro d; induction d with
    | zero => intro n h; rw [show n = o.m by omega]; exact Int.le_refl _
    | succ d ih =>
      intro n h
      have a := ih (n + 1) (by omega)
      have b := (ho.vT k n hk (by omega)).1
      have e : sumTo (o.T k) (n + 1) = sumTo (o.T k) n + o.T k n := rfl
      omega
  apply Int.le_antisymm
  · refine end_le (by have := hT o.m (Nat.le_refl _); have := knap_nonneg (C := o.C) (T := o.T k) (m := o.m) (c - 1); omega) fun i j hi hj => ?_
    rw [alikeO_n] at hi
    rw [alike_m] at hj
    rw [alike_T hi]
    have a := alike_upper ho hk hc hi hj
    have b := knap_mono (C := o.C) (T := o.T k) (m := o.m) (a := i) (b := c - 1) (by omega)
    have d := hmono (o.m - (j + 1)) (j + 1) (by omega)
    have e : sumTo (o.T k) (j + 1) = sumTo (o.T k) j + o.T k j := rfl
    omega
  · have a := alike_lower ho hk hc (i := c - 1) (by omega)
    have b := end_ge (o := alikeO o k c) (i := c - 1) (j := o.m - 1) (by rw [alikeO_n]; omega) (by rw [alike_m]; omega)
    rw [alike_T (by omega)] at b
    omega
end
end Go.Proofs.Ytnfagcccgmakdaa
namespace Go.Proofs.Ytnfagcccgmakdaa
open Go.RowKit Go.Wk Go.Proofs
attribute [local irreducible] Go.Wk.Wops Go.Wk.Wp Go.Wk.Mtree Go.Wk.Mops
set_option maxHeartbeats 4000000

/-- block g: n numbers -/
structure IntF (W : World) (g n : Nat) (f : Nat → Int) : Prop where
  row : RowB W g 3 n
  cell : ∀ k, k < n → W.cell? ⟨g, k, none⟩ = some (.int .i64 (f k))
theorem IntF.ext {w w' : World} {g n : Nat} {f : Nat → Int} (h : IntF w g n f) (hE : Ext w w') : IntF w' g n f := ⟨h.row.ext hE, fun k hk => hE.cell (h.cell k hk)⟩
theorem IntF.set {w : World} {g n : Nat} {f : Nat → Int} (h : IntF w g n f) {p : Nat} (hp : p < n) (x : Int) : IntF (w.setCell ⟨g, p, none⟩ (.int .i64 x)) g n (fun k => if k = p then x else f k) := by
  refine ⟨h.row.set _ rfl _, fun k hk => ?_⟩
  by_cases e : k = p
  · subst e
    rw [if_pos rfl]
    exact World.cell?_setCell_same' _ _ _ (by rw [h.cell k hk]; rfl)
  · rw [if_neg e, setCell_off (Ne.symm e)]; exact h.cell k hk
theorem IntF.drew {w : World} {g n : Nat} {f : Nat → Int} (h : IntF w g n f) : IntF w.drew g n f := ⟨by obtain ⟨cur, h1, h2⟩ := h.row; exact ⟨cur, h1, h2⟩, h.cell⟩
theorem knap_le {C T : Nat → Int} {m : Nat} (hT : ∀ j, j < m → T j ≤ 60) : ∀ w : Nat, knap C T m w ≤ 60 * (w : Int) := by
  intro w
  induction w using Nat.strongRecOn with
  | ind w ih =>
    rcases knap_how (C := C) (T := T) (m := m) w with h | ⟨j, h1, h2, h3, h4⟩
    · omega
    · have := ih (w - (C j).toNat) (by omega)
      have := hT j h1
      omega
theorem kStep_le {C T K : Nat → Int} {w : Nat} (hK : ∀ x, x < w → K x ≤ 60 * (x : Int)) (hT : ∀ j, T j ≤ 60 ∨ True) : ∀ k, (∀ j, j < k → T j ≤ 60) → kStep C T K w k ≤ 60 * (w : Int)
  | 0, _ => by unfold kStep; omega
  | k + 1, h => by
    have a := kStep_le hK hT k (fun j hj => h j (by omega)) (C := C)
    unfold kStep
    split
    · rename_i hc
      have := hK (w - (C k).toNat) (by omega)
      have := h k (by omega)
      omega
    · exact a
theorem kStep_via {C T K f : Nat → Int} {w k : Nat} {c t : Int} (hc : C k = c) (ht : T k = t) (hw : f w = kStep C T K w k) (hf : ∀ i, i < w → f i = K i) :
    kStep C T K w (k + 1) = if 1 ≤ c ∧ c ≤ (w : Int) then max (f w) (f (w - c.toNat) + t) else f w := by
  subst hc ht
  rw [hw]
  show (if 1 ≤ C k ∧ C k ≤ (w : Int) then max (kStep C T K w k) (K (w - (C k).toNat) + T k) else kStep C T K w k) = _
  split
  · rw [hf _ (by omega)]
  · rfl
theorem maxI (x y : Int) : (if x < y then y else x) = max x y := by omega
theorem packed_c (p : OA) (o : Ord) (k n : Nat) (w : World) (hO : OrdF w w.heap.size p o) (hk : k < o.n) (hn : n ≤ 100) :
    CallsV Try.prog 25 #[.slice (some ⟨p.cb, p.co, none⟩) o.m p.cc, .slice (some ⟨p.tb k, p.to_ k, none⟩) o.m (p.tc k), .int .i64 (n : Int)] w fun v w' => v = .int .i64 (knap o.C (o.T k) o.m n) ∧ Ext w w' := by
  have ho := hO.ok
  have hm := hO.hm2
  have hm1 := hO.hm1
  obtain ⟨c, hc⟩ : ∃ c, c = n + 1 := ⟨_, rfl⟩
  have hc9 : c ≤ 1000000000 := by omega
  have hw1 : IntKind.i64.wrap ((n : Int) + 1) = (c : Int) := by rw [IntWalk.i64_in _ (by omega)]; omega
  have hn' : ∃ _u : Unit, c = n + 1 := ⟨(), hc⟩
  clear hc
  refine Wp.fn Try.func25 rfl Try.ntmps25 (by simp) ?_
  refine Wp.keep [0, 1, 2] fun r1 hkeep => ?_
  obtain ⟨e0_1, e1_1, e2_1, -⟩ := hkeep
  simp [go_sem] at e0_1 e1_1 e2_1
  refine Wp.seqRegion (.inl rfl) (by kernel_rfl) fun K' gd hK hg => ?_
  clear hg
  go_simp
  refine hK _ _ ?_
  clear hK K' gd
  refine Wp.keep [0, 1, 2] fun r2 hkeep => ?_
  obtain ⟨e0_2, e1_2, e2_2, -⟩ := hkeep
  simp [go_sem, e0_1, e1_1, e2_1] at e0_2 e1_2 e2_2
  clear e0_1 e1_1 e2_1
  refine Wp.seqRegion (.inl rfl) (by kernel_rfl) fun K' gd hK hg => ?_
  clear hg
  go_simp
  refine hK _ _ ?_
  clear hK K' gd
  refine Wp.keep [0, 1, 2, 7] fun r3 hkeep => ?_
  obtain ⟨e0_3, e1_3, e2_3, e7_3, -⟩ := hkeep
  simp [go_sem, e0_2, e1_2, e2_2] at e0_3 e1_3 e2_3 e7_3
  clear e0_2 e1_2 e2_2
  refine Wp.seq ?_
  have hF0 : IntF (w.alloc (.cells (madeC Try.prog 3 c) 3)) w.heap.size c (fun _ => 0) := ⟨⟨_, World.alloc_heap_new w _, by rw [madeC_size ints_T, Nat.mul_one]⟩, fun k hk => cell_nn _ _ _ _ rfl (madeI c k hk)⟩
  have hE0 : Ext w (w.alloc (.cells (madeC Try.prog 3 c) 3)) := (by repeat (first | assumption | exact Ext.refl _ | refine Ext.drew ?_ | refine Ext.alloc ?_ _ | refine Ext.trans ?_ (by assumption)))
  generalize w.alloc (.cells (madeC Try.prog 3 c) 3) = V at *
  clear hw1 hc9
  refine Wp.seqRegion (.inl rfl) (by kernel_rfl) fun K' gd hK hg => ?_
  clear hg
  go_simp
  refine hK _ _ ?_
  clear hK K' gd
  refine Wp.keep [0, 1, 2, 7, 8] fun r4 hkeep => ?_
  obtain ⟨e0_4, e1_4, e2_4, e7_4, e8_4, -⟩ := hkeep
  simp [go_sem, e0_3, e1_3, e2_3, e7_3] at e0_4 e1_4 e2_4 e7_4 e8_4
  clear e0_3 e1_3 e2_3 e7_3
  refine Wp.block ?_
  refine Wp.loop (fun x ρ ds wx => AllEq [0, 1, 2, 7] ρ r4 ∧ ds = [] ∧ (∃ f, ρ 8 = .int .i64 (x : Int) ∧ IntF wx w.heap.size c f ∧ (∀ i, i < x → f i = knap o.C (o.T k) o.m i) ∧ (∀ i, x ≤ i → f i = 0) ∧ Ext w wx)) (c) ?_ ?_
  · refine ⟨AllEq.refl _ _, rfl, ?_⟩
    exact ⟨fun _ => 0, by rw [e8_4]; rfl, hF0, fun i h => absurd h (Nat.not_lt_zero _), fun _ _ => rfl, hE0⟩
  · rintro x r5 _ wx hx ⟨hA, rfl, ⟨f, e8, hF, hlo, hhi, hEx⟩⟩
    obtain ⟨e0_5, e1_5, e2_5, e7_5, -⟩ := hA
    rw [e0_4] at e0_5
    rw [e1_4] at e1_5
    rw [e2_4] at e2_5
    rw [e7_4] at e7_5
    refine Wp.seq ?_
    refine Wp.seqRegion (.inl rfl) (by kernel_rfl) fun K' gd hK hg => ?_
    clear hg
    go_simp
    refine hK _ _ ?_
    clear hK K' gd
    refine Wp.keep [0, 1, 2, 7, 8, 15] fun r6 hkeep => ?_
    obtain ⟨e0_6, e1_6, e2_6, e7_6, e8_6, e15_6, -⟩ := hkeep
    simp [go_sem, e0_5, e1_5, e2_5, e7_5, e8] at e0_6 e1_6 e2_6 e7_6 e8_6 e15_6
    clear e0_5 e1_5 e2_5 e7_5 e8
    by_cases h : x ≤ n
    · refine Wp.condT (by go_simp) ?_
      refine Wp.skip ?_
      refine thenK_normal ?_
      refine Wp.seq ?_
      refine Wp.block ?_
      refine Wp.seqRegion (.inl rfl) (by kernel_rfl) fun K' gd hK hg => ?_
      clear hg
      go_simp
      refine hK _ _ ?_
      clear hK K' gd
      refine Wp.keep [0, 1, 2, 7, 8, 9] fun r7 hkeep => ?_
      obtain ⟨e0_7, e1_7, e2_7, e7_7, e8_7, e9_7, -⟩ := hkeep
      simp [go_sem, e0_6, e1_6, e2_6, e7_6, e8_6, e15_6] at e0_7 e1_7 e2_7 e7_7 e8_7 e9_7
      clear e0_6 e1_6 e2_6 e7_6 e8_6 e15_6
      refine Wp.block ?_
      refine Wp.loop (fun j ρ ds wj => AllEq [0, 1, 2, 7, 8] ρ r7 ∧ ds = [] ∧ (∃ f, ρ 9 = .int .i64 (j : Int) ∧ IntF wj w.heap.size c f ∧ (∀ i, i < x → f i = knap o.C (o.T k) o.m i) ∧ f x = kStep o.C (o.T k) (knap o.C (o.T k) o.m) x j ∧ (∀ i, x < i → f i = 0) ∧ Ext w wj)) (o.m) ?_ ?_
      · refine ⟨AllEq.refl _ _, rfl, ?_⟩
        exact ⟨f, by rw [e9_7]; rfl, hF, hlo, hhi x (Nat.le_refl _), fun i hi => hhi i (by omega), hEx⟩
      · rintro j r8 _ wj hj ⟨hA, rfl, ⟨f, e9, hF, hlo, hx, hhi, hEj⟩⟩
        obtain ⟨e0_8, e1_8, e2_8, e7_8, e8_8, -⟩ := hA
        rw [e0_7] at e0_8
        rw [e1_7] at e1_8
        rw [e2_7] at e2_8
        rw [e7_7] at e7_8
        rw [e8_7] at e8_8
        refine Wp.seq ?_
        refine Wp.seqRegion (.inl rfl) (by kernel_rfl) fun K' gd hK hg => ?_
        clear hg
        go_simp
        refine hK _ _ ?_
        clear hK K' gd
        refine Wp.keep [0, 1, 2, 7, 8, 9, 21] fun r9 hkeep => ?_
        obtain ⟨e0_9, e1_9, e2_9, e7_9, e8_9, e9_9, e21_9, -⟩ := hkeep
        simp [go_sem, e0_8, e1_8, e2_8, e7_8, e8_8, e9] at e0_9 e1_9 e2_9 e7_9 e8_9 e9_9 e21_9
        clear e0_8 e1_8 e2_8 e7_8 e8_8 e9
        by_cases h2 : j < o.m
        · refine Wp.condT (by go_simp) ?_
          have hOj := hO.ext hEj
          have g1 := hOj.hC j h2
          have g2 := hOj.hTT k j hk h2
          have hCj := ho.vC j h2
          have hTj := ho.vT k j hk h2
          have b4 : (j : Int) < (o.m : Int) := by omega
          obtain ⟨cj, hcj⟩ : ∃ cj, o.C j = cj := ⟨_, rfl⟩
          obtain ⟨tj, htj⟩ : ∃ tj, o.T k j = tj := ⟨_, rfl⟩
          rw [hcj] at g1 hCj
          rw [htj] at g2 hTj
          have hst : ∃ _u : Unit, kStep o.C (o.T k) (knap o.C (o.T k) o.m) x (j + 1) = if 1 ≤ cj ∧ cj ≤ (x : Int) then max (f x) (f (x - cj.toNat) + tj) else f x := ⟨(), kStep_via hcj htj hx hlo⟩
          have hfx : 0 ≤ f x ∧ f x ≤ 60 * (x : Int) := by rw [hx]; exact ⟨kStep_nonneg j, kStep_le (fun i hi => knap_le (fun q hq => (ho.vT k q hk hq).2) i) (fun _ => .inr trivial) j (fun q hq => (ho.vT k q hk (by omega)).2)⟩
          clear hcj htj hx
          have hlt : x < c := by (obtain ⟨-, hc⟩ := hn'; omega)
          have d1 := hF.cell x hlt
          have b1 : (x : Int) < (c : Int) := by omega
          have b5 : 1 ≤ cj := hCj.1
          by_cases hc : cj ≤ (x : Int)
          · skip
            obtain ⟨y, hy⟩ : ∃ y : Nat, (y : Int) = (x : Int) - cj := ⟨((x : Int) - cj).toNat, by omega⟩
            have hwy : IntKind.i64.wrap ((x : Int) - cj) = (y : Int) := by rw [IntWalk.i64_in _ (by omega)]; exact hy.symm
            have hyn : x - cj.toNat = y := by omega
            have hyx : y < x := by omega
            have d2 := hF.cell y (by omega)
            have b6 : (y : Int) < (c : Int) := by omega
            have hfy : 0 ≤ f y ∧ f y ≤ 60 * (y : Int) := by rw [hlo y hyx]; exact ⟨knap_nonneg y, knap_le (fun q hq => (ho.vT k q hk hq).2) y⟩
            have hws : IntKind.i64.wrap (f y + tj) = f y + tj := IntWalk.i64_in _ (by omega)
            have hst2 : ∃ _u : Unit, kStep o.C (o.T k) (knap o.C (o.T k) o.m) x (j + 1) = max (f x) (f y + tj) := by obtain ⟨-, hst⟩ := hst; exact ⟨(), by rw [hst, if_pos ⟨hCj.1, hc⟩, hyn]⟩
            have hlo2 : ∃ _u : Unit, ∀ i, i < x → f i = knap o.C (o.T k) o.m i := ⟨(), hlo⟩
            have hhi2 : ∃ _u : Unit, ∀ i, x < i → f i = 0 := ⟨(), hhi⟩
            clear hst hyn hy hlo hhi
            have hF' := hF.set hlt (max (f x) (f y + tj))
            have fz := hF.row.frozen x
            refine Wp.skip ?_
            refine thenK_normal ?_
            refine Wp.seq ?_
            refine Wp.block ?_
            refine Wp.seqRegion (.inl rfl) (by kernel_rfl) fun K' gd hK hg => ?_
            have g5 : gd 5 = some 29 := hg 5
            clear hg
            go_simp
            refine hK _ _ ?_
            clear hK K' gd g5
            refine Wp.keep [0, 1, 2, 7, 8, 9, 36] fun r10 hkeep => ?_
            obtain ⟨e0_10, e1_10, e2_10, e7_10, e8_10, e9_10, e36_10, -⟩ := hkeep
            simp [go_sem, e0_9, e1_9, e2_9, e7_9, e8_9, e9_9, e21_9] at e0_10 e1_10 e2_10 e7_10 e8_10 e9_10 e36_10
            clear e0_9 e1_9 e2_9 e7_9 e8_9 e9_9 e21_9
            refine Wp.condT (by go_simp) ?_
            refine Wp.loneDraw (.inl rfl) mixed [([0, 1, 2, 3, 4], none), ([5, 6, 7, 8, 9], none), ([10, 11, 12, 13, 14], none), ([15, 16, 17, 18, 19], none), ([20, 21], some (22, true))] (by kernel_rfl) fun K' gd hK hg => ?_
            clear hg
            simp only [pick, nth, List.map_cons, List.map_nil, Option.map_none, Option.map_some]
            apply Mops.none
            · intro w' hE'
              have hC' := hE'.cellsS
              go_simp
              with_reducible rfl
            apply Mops.none
            · intro w' hE'
              have hC' := hE'.cellsS
              go_simp
              with_reducible rfl
            apply Mops.none
            · intro w' hE'
              have hC' := hE'.cellsS
              go_simp
              with_reducible rfl
            apply Mops.none
            · intro w' hE'
              have hC' := hE'.cellsS
              go_simp
              with_reducible rfl
            apply Mops.last
            · intro w' hE'
              have hC' := hE'.cellsS
              go_simp
              with_reducible rfl
            intro K1 hK1
            go_simp
            refine hK1 _ _ ?_
            clear hK1 K1
            refine Mops.done ?_
            refine hK _ _ ?_
            clear hK K' gd
            refine Ends.keep [0, 1, 2, 7, 8, 9] fun r11 hkeep => ?_
            obtain ⟨e0_11, e1_11, e2_11, e7_11, e8_11, e9_11, -⟩ := hkeep
            simp [go_sem, e0_10, e1_10, e2_10, e7_10, e8_10, e9_10, e36_10] at e0_11 e1_11 e2_11 e7_11 e8_11 e9_11
            clear e0_10 e1_10 e2_10 e7_10 e8_10 e9_10 e36_10
            refine Ends.mk ?_
            refine blockK_normal ?_
            refine thenK_normal ?_
            rw [maxI]
            refine Wp.loneRegion (.inl rfl) (by kernel_rfl) fun K' gd hK hg => ?_
            clear hg
            go_simp
            refine hK _ _ ?_
            clear hK K' gd
            refine Ends.keep [0, 1, 2, 7, 8, 9] fun r12 hkeep => ?_
            obtain ⟨e0_12, e1_12, e2_12, e7_12, e8_12, e9_12, -⟩ := hkeep
            simp [go_sem, e0_11, e1_11, e2_11, e7_11, e8_11, e9_11] at e0_12 e1_12 e2_12 e7_12 e8_12 e9_12
            clear e0_11 e1_11 e2_11 e7_11 e8_11 e9_11
            refine Ends.mk ?_
            refine thenK_normal ⟨by omega, ⟨by rw [e0_12, e0_7], by rw [e1_12, e1_7], by rw [e2_12, e2_7], by rw [e7_12, e7_7], by rw [e8_12, e8_7], trivial⟩, rfl, ?_⟩
            obtain ⟨-, hlo⟩ := hlo2
            obtain ⟨-, hhi⟩ := hhi2
            obtain ⟨-, hst⟩ := hst2
            refine ⟨_, by rw [e9_12, IntWalk.i64_in _ (by omega)]; rfl, hF'.drew, fun i hi => ?_, ?_, fun i hi => ?_, (by repeat (first | assumption | exact Ext.refl _ | refine Ext.drew ?_ | refine Ext.alloc ?_ _ | refine Ext.setC ?_ (by omega) _ | refine Ext.trans ?_ (by assumption)))⟩
            · rw [if_neg (by omega)]; exact hlo i hi
            · rw [if_pos rfl, hst]
            · rw [if_neg (by omega)]; exact hhi i hi
          · skip
            refine Wp.skip ?_
            refine thenK_normal ?_
            refine Wp.seq ?_
            refine Wp.block ?_
            refine Wp.seqRegion (.inl rfl) (by kernel_rfl) fun K' gd hK hg => ?_
            have g5 : gd 5 = some 29 := hg 5
            clear hg
            go_simp
            refine hK _ _ ?_
            clear hK K' gd g5
            refine Wp.keep [0, 1, 2, 7, 8, 9, 36] fun r13 hkeep => ?_
            obtain ⟨e0_13, e1_13, e2_13, e7_13, e8_13, e9_13, e36_13, -⟩ := hkeep
            simp [go_sem, e0_9, e1_9, e2_9, e7_9, e8_9, e9_9, e21_9] at e0_13 e1_13 e2_13 e7_13 e8_13 e9_13 e36_13
            clear e0_9 e1_9 e2_9 e7_9 e8_9 e9_9 e21_9
            refine Wp.condF (by go_simp) ?_
            refine Wp.skip ?_
            refine blockK_normal ?_
            refine thenK_normal ?_
            refine Wp.loneRegion (.inl rfl) (by kernel_rfl) fun K' gd hK hg => ?_
            clear hg
            go_simp
            refine hK _ _ ?_
            clear hK K' gd
            refine Ends.keep [0, 1, 2, 7, 8, 9] fun r14 hkeep => ?_
            obtain ⟨e0_14, e1_14, e2_14, e7_14, e8_14, e9_14, -⟩ := hkeep
            simp [go_sem, e0_13, e1_13, e2_13, e7_13, e8_13, e9_13, e36_13] at e0_14 e1_14 e2_14 e7_14 e8_14 e9_14
            clear e0_13 e1_13 e2_13 e7_13 e8_13 e9_13 e36_13
            refine Ends.mk ?_
            refine thenK_normal ⟨by omega, ⟨by rw [e0_14, e0_7], by rw [e1_14, e1_7], by rw [e2_14, e2_7], by rw [e7_14, e7_7], by rw [e8_14, e8_7], trivial⟩, rfl, ?_⟩
            obtain ⟨-, hst⟩ := hst
            exact ⟨f, by rw [e9_14, IntWalk.i64_in _ (by omega)]; rfl, hF, hlo, by rw [hst, if_neg (fun h => hc h.2)], hhi, (by repeat (first | assumption | exact Ext.refl _ | refine Ext.drew ?_ | refine Ext.alloc ?_ _ | refine Ext.trans ?_ (by assumption)))⟩
        · refine Wp.condF (by go_simp) ?_
          obtain rfl : j = o.m := by omega
          refine Wp.exit ?_
          refine thenK_exit ?_
          refine thenK_exit ?_
          refine blockK_here ?_
          refine blockK_normal ?_
          refine thenK_normal ?_
          refine Wp.loneRegion (.inl rfl) (by kernel_rfl) fun K' gd hK hg => ?_
          clear hg
          go_simp
          refine hK _ _ ?_
          clear hK K' gd
          refine Ends.keep [0, 1, 2, 7, 8] fun r15 hkeep => ?_
          obtain ⟨e0_15, e1_15, e2_15, e7_15, e8_15, -⟩ := hkeep
          simp [go_sem, e0_9, e1_9, e2_9, e7_9, e8_9, e9_9, e21_9] at e0_15 e1_15 e2_15 e7_15 e8_15
          clear e0_9 e1_9 e2_9 e7_9 e8_9 e9_9 e21_9
          refine Ends.mk ?_
          refine thenK_normal ⟨by omega, ⟨by rw [e0_15, e0_4], by rw [e1_15, e1_4], by rw [e2_15, e2_4], by rw [e7_15, e7_4], trivial⟩, rfl, ?_⟩
          refine ⟨f, by rw [e8_15, IntWalk.i64_in _ (by omega)]; rfl, hF, fun i hi => ?_, fun i hi => hhi i (by omega), hEj⟩
          by_cases e : i = x
          · subst e; rw [hx, ← knap_eq]
          · exact hlo i (by omega)
    · refine Wp.condF (by go_simp) ?_
      have hnc : n < c := by (obtain ⟨-, hc⟩ := hn'; omega)
      have hnx : n < x := by (obtain ⟨-, hc⟩ := hn'; omega)
      have d1 := hF.cell n hnc
      have b1 : (n : Int) < (c : Int) := by omega
      refine Wp.exit ?_
      refine thenK_exit ?_
      refine thenK_exit ?_
      refine blockK_here ?_
      refine thenK_normal ?_
      refine Wp.seqRegion (.inl rfl) (by kernel_rfl) fun K' gd hK hg => ?_
      clear hg
      go_simp
      refine hK _ _ ?_
      clear hK K' gd
      refine Wp.keep [6] fun r16 hkeep => ?_
      obtain ⟨e6_16, -⟩ := hkeep
      simp [go_sem, e0_6, e1_6, e2_6, e7_6, e8_6, e15_6] at e6_16
      clear e0_6 e1_6 e2_6 e7_6 e8_6 e15_6
      refine Wp.ret ?_
      refine endK_tmp Try.results25 (by decide) ?_
      rw [e6_16]
      exact ⟨rfl, hEx⟩
end Go.Proofs.Ytnfagcccgmakdaa
namespace Go.Proofs.Ytnfagcccgmakdaa
open Go.RowKit Go.Wk Go.Proofs
attribute [local irreducible] Go.Wk.Wops Go.Wk.Wp Go.Wk.Mtree Go.Wk.Mops
set_option maxHeartbeats 4000000

theorem runner_nat {o : Ord} {k : Nat} (hk : k < o.n) : okRunner o (k : Int) = true := by
  unfold okRunner; exact decide_eq_true ⟨by omega, by omega⟩
def alikeV (o : Ord) (k c : Nat) : Int := o.A k + sumTo (o.T k) o.m + knap o.C (o.T k) o.m (c - 1)
theorem Alike_g (v : Value) (o : Ord) (k : Nat) (c : Int) (c' : Nat) (w : World) (hV : OrderV w w.heap.size v o) (hg : OrdGood o) (hk : k < o.n) (hc : c = (c' : Int)) (hc1 : 1 ≤ c' ∧ c' ≤ 20) :
    CallsV Try.prog 23 #[v, .int .i64 (k : Int), .int .i64 c] w fun v w' => v = .tuple #[.int .i64 (alikeV o k c'), .int .i64 0] ∧ Ext w w' := by
  subst hc
  refine (Alike_c v o k c' w hV hg.fits).mono fun _ _ ⟨h1, h3⟩ => ?_
  have ha := askS_good hg (runner_nat hk)
  unfold alikeN alikeE at h1
  rw [if_pos ha, if_pos ha, if_pos (by omega), if_pos (by omega), Int.toNat_natCast, Int.toNat_natCast, alike_end hg.ok hk hc1.1 hc1.2] at h1
  exact ⟨h1, h3⟩
theorem bestA_best {o : Ord} (ho : OrdOk o) {i : Nat} (hi : i < o.n) : ∀ k, k ≤ o.m → ∀ j, j < k → o.T i j * o.C (bestA o i k) ≤ o.T i (bestA o i k) * o.C j
  | 0, _, _, h => by omega
  | k + 1, hk, j, hj => by
    have hb := bestA_m (o := o) i (k := k) ho.hm1 (by omega)
    have hCb := (ho.vC _ hb).1
    have hCk := (ho.vC k (by omega)).1
    have hCj := (ho.vC j (by omega)).1
    have ih := bestA_best ho hi k (by omega)
    rw [bestA_succ]; unfold bestF
    split
    · rename_i hgt
      by_cases e : j = k
      · subst e; exact Int.le_refl _
      · have h1 := ih j (by omega)
        -- T j * C b ≤ T b * C j, T b * C k < T k * C b
        have h2 : o.T i j * o.C (bestA o i k) * o.C k ≤ o.T i (bestA o i k) * o.C j * o.C k := Int.mul_le_mul_of_nonneg_right h1 (by omega)
        have h3 : o.T i (bestA o i k) * o.C k * o.C j ≤ o.T i k * o.C (bestA o i k) * o.C j := Int.mul_le_mul_of_nonneg_right (by omega) (by omega)
        have e1 : o.T i (bestA o i k) * o.C j * o.C k = o.T i (bestA o i k) * o.C k * o.C j := by rw [Int.mul_assoc, Int.mul_comm (o.C j), ← Int.mul_assoc]
        have h4 : (o.T i j * o.C k) * o.C (bestA o i k) ≤ (o.T i k * o.C j) * o.C (bestA o i k) := by
          have e2 : o.T i j * o.C k * o.C (bestA o i k) = o.T i j * o.C (bestA o i k) * o.C k := by rw [Int.mul_assoc, Int.mul_comm (o.C k), ← Int.mul_assoc]
          have e3 : o.T i k * o.C j * o.C (bestA o i k) = o.T i k * o.C (bestA o i k) * o.C j := by rw [Int.mul_assoc, Int.mul_comm (o.C j), ← Int.mul_assoc]
          rw [e2, e3]; omega
        exact Int.le_of_mul_le_mul_right h4 (by omega)
    · rename_i hle
      by_cases e : j = k
      · subst e; omega
      · exact ih j (by omega)
/-- what Rate tells -/
structure RateP (o : Ord) (k : Nat) (N D : Int) (b : Nat) : Prop where
  hb : b < o.m
  d1 : 1 ≤ D
  d2 : D ≤ 20
  n0 : 0 ≤ N
  n1 : N ≤ 60
  eq : N * o.C b = o.T k b * D
  le : ∀ j, j < o.m → o.T k j * D ≤ N * o.C j
theorem rate_p {o : Ord} (ho : OrdOk o) {k : Nat} (hk : k < o.n) : RateP o k (rateN o k) (rateD o k) (bestA o k o.m) := by
  have hb := bestA_m (o := o) k (k := o.m) ho.hm1 (Nat.le_refl _)
  have hT := ho.vT k _ hk hb
  have hC := ho.vC _ hb
  obtain ⟨t, ht⟩ : ∃ t : Nat, o.T k (bestA o k o.m) = (t : Int) := ⟨(o.T k (bestA o k o.m)).toNat, by omega⟩
  obtain ⟨c, hc⟩ : ∃ c : Nat, o.C (bestA o k o.m) = (c : Int) := ⟨(o.C (bestA o k o.m)).toNat, by omega⟩
  have hg : rateG o k = Nat.gcd t c := by unfold rateG; rw [ht, hc, Int.toNat_natCast, Int.toNat_natCast]
  have hN : rateN o k = ((t / Nat.gcd t c : Nat) : Int) := by unfold rateN; rw [hg, ht, Int.toNat_natCast]
  have hD : rateD o k = ((c / Nat.gcd t c : Nat) : Int) := by unfold rateD; rw [hg, hc, Int.toNat_natCast]
  rw [hN, hD]
  obtain ⟨x, hx⟩ := Nat.gcd_dvd_left t c
  obtain ⟨y, hy⟩ := Nat.gcd_dvd_right t c
  have hgp : 0 < Nat.gcd t c := Nat.gcd_pos_of_pos_left _ (by omega)
  obtain ⟨g, hg2⟩ : ∃ g, Nat.gcd t c = g := ⟨_, rfl⟩
  rw [hg2] at hx hy hgp
  rw [hg2]
  clear hg2 hg hN hD
  have ex : t / g = x := by rw [hx]; exact Nat.mul_div_cancel_left x hgp
  have ey : c / g = y := by rw [hy]; exact Nat.mul_div_cancel_left y hgp
  rw [ex, ey]
  have hxt : x ≤ t := by rw [hx]; exact Nat.le_mul_of_pos_left x hgp
  have hyc : y ≤ c := by rw [hy]; exact Nat.le_mul_of_pos_left y hgp
  have hy0 : 0 < y := by
    rcases Nat.eq_zero_or_pos y with e | e
    · subst e; simp at hy; omega
    · exact e
  refine ⟨hb, by omega, by omega, by omega, by omega, ?_, fun j hj => ?_⟩
  · rw [hc, ht, hx, hy]
    have : x * (g * y) = g * x * y := by rw [← Nat.mul_assoc, Nat.mul_comm x g]
    exact_mod_cast this
  · have h1 := bestA_best ho hk o.m (Nat.le_refl _) j hj
    rw [hc, ht, hx, hy] at h1
    have e1 : o.T k j * ((g * y : Nat) : Int) = (o.T k j * (y : Int)) * (g : Int) := by rw [Int.natCast_mul, Int.mul_comm (g : Int), ← Int.mul_assoc]
    have e2 : ((g * x : Nat) : Int) * o.C j = ((x : Int) * o.C j) * (g : Int) := by rw [Int.natCast_mul, Int.mul_comm (g : Int), Int.mul_assoc, Int.mul_comm (g : Int), ← Int.mul_assoc]
    rw [e1, e2] at h1
    exact Int.le_of_mul_le_mul_right h1 (by omega)
theorem Rate_g (v : Value) (o : Ord) (k : Nat) (w : World) (hV : OrderV w w.heap.size v o) (hg : OrdGood o) (hk : k < o.n) :
    CallsV Try.prog 24 #[v, .int .i64 (k : Int)] w fun v w' => ∃ (N D : Int) (b : Nat), v = .tuple #[.agg #[.int .i64 N, .int .i64 D], .int .i64 (b : Int), .int .i64 0] ∧ RateP o k N D b ∧ Ext w w' := by
  refine (Rate_c v o k w hV hg.fits).mono fun _ _ ⟨h1, h3⟩ => ?_
  rw [if_pos (askS_good hg (runner_nat hk)), Int.toNat_natCast] at h1
  exact ⟨_, _, _, h1, rate_p hg.ok hk, h3⟩
end Go.Proofs.Ytnfagcccgmakdaa
namespace Go.Proofs.Ytnfagcccgmakdaa
open Go.RowKit Go.Wk Go.Proofs
attribute [local irreducible] Go.Wk.Wops Go.Wk.Wp Go.Wk.Mtree Go.Wk.Mops
set_option maxHeartbeats 4000000

theorem sumT_ok {o : Ord} (ho : OrdOk o) {k : Nat} (hk : k < o.n) : ∀ n, n ≤ o.m → 0 ≤ sumTo (o.T k) n ∧ sumTo (o.T k) n ≤ 60 * (n : Int)
  | 0, _ => ⟨Int.le_refl _, Int.le_refl _⟩
  | n + 1, h => by
    have a := sumT_ok ho hk n (by omega)
    have b := ho.vT k n hk (by omega)
    unfold sumTo; omega
def maxTo (f : Nat → Int) : Nat → Int
  | 0 => 0
  | n + 1 => max (maxTo f n) (f n)
theorem maxTo_ge {f : Nat → Int} : ∀ {n j : Nat}, j < n → f j ≤ maxTo f n
  | 0, _, h => by omega
  | n + 1, j, h => by
    unfold maxTo
    by_cases e : j = n
    · subst e; omega
    · have := maxTo_ge (f := f) (n := n) (j := j) (by omega); omega
theorem maxTo_ok {o : Ord} (ho : OrdOk o) {k : Nat} (hk : k < o.n) : ∀ n, n ≤ o.m → 0 ≤ maxTo (o.T k) n ∧ maxTo (o.T k) n ≤ 60
  | 0, _ => ⟨Int.le_refl _, by unfold maxTo; omega⟩
  | n + 1, h => by
    have a := maxTo_ok ho hk n (by omega)
    have b := ho.vT k n hk (by omega)
    unfold maxTo; omega
theorem alikeV_ok {o : Ord} (ho : OrdOk o) {k c : Nat} (hk : k < o.n) (hc : c ≤ 20) : 0 ≤ alikeV o k c ∧ alikeV o k c ≤ 10000 := by
  have a := ho.vA k hk
  have b := sumT_ok ho hk o.m (Nat.le_refl _)
  have d := knap_nonneg (C := o.C) (T := o.T k) (m := o.m) (c - 1)
  have e := knap_le (C := o.C) (T := o.T k) (m := o.m) (fun j hj => (ho.vT k j hk hj).2) (c - 1)
  have hm := ho.hm2
  unfold alikeV; omega
theorem packed_law (v : Value) (o : Ord) (a b : Int) (w : World) (hV : OrderV w w.heap.size v o) (hf : Fits o) (ha : 0 ≤ a ∧ a ≤ 255) (hb : 0 ≤ b ∧ b ≤ 255) :
    CallsV Try.prog 5 #[v, .int .u8 a, .int .u8 b] w fun v w' => v = .bool true ∧ Ext w w' := by
  obtain ⟨A1, n1, c1, A2, n2, c2, rfl, hV⟩ := hV.two
  refine Wp.fn Try.func5 rfl Try.ntmps5 (by simp) ?_
  refine Wp.keep [0, 1, 2] fun r1 hkeep => ?_
  obtain ⟨e0_1, e1_1, e2_1, -⟩ := hkeep
  simp [go_sem] at e0_1 e1_1 e2_1
  by_cases hs : SmallP o
  · skip
    refine Wp.seqRegion (.inl rfl) (by kernel_rfl) fun K' gd hK hg => ?_
    clear hg
    go_simp
    refine hK _ _ ?_
    clear hK K' gd
    refine Wp.keep [1, 2, 3] fun r2 hkeep => ?_
    obtain ⟨e1_2, e2_2, e3_2, -⟩ := hkeep
    simp [go_sem, e0_1, e1_1, e2_1] at e1_2 e2_2 e3_2
    clear e0_1 e1_1 e2_1
    refine Wp.seq ?_
    refine Wp.seqRegion (.inl rfl) (by kernel_rfl) fun K' gd hK hg => ?_
    clear hg
    go_simp
    refine Wcall (.inl rfl) (small_T hs _ (hV.ext (by repeat (first | assumption | exact Ext.refl _ | refine Ext.drew ?_ | refine Ext.alloc ?_ _ | refine Ext.trans ?_ (by assumption)))) hf) ?_
    rintro v w2 ⟨rfl, hE⟩
    have hE2 : Ext w w2 := (by repeat (first | assumption | exact Ext.refl _ | refine Ext.drew ?_ | refine Ext.alloc ?_ _ | refine Ext.trans ?_ (by assumption)))
    have x0 : w2.cell? ⟨w.heap.size, 0, none⟩ = some (.slice A1 n1 c1) := hE.cell (by go_simp)
    have x1 : w2.cell? ⟨w.heap.size, 1, none⟩ = some (.slice A2 n2 c2) := hE.cell (by go_simp)
    go_simp
    refine hK _ _ ?_
    clear hK K' gd
    refine Wp.keep [1, 2, 3, 24] fun r3 hkeep => ?_
    obtain ⟨e1_3, e2_3, e3_3, e24_3, -⟩ := hkeep
    simp [go_sem, e1_2, e2_2, e3_2] at e1_3 e2_3 e3_3 e24_3
    clear e1_2 e2_2 e3_2
    refine Wp.condF (by go_simp) ?_
    have hg := hs.good
    have ho := hg.ok
    have hn := hs.n
    have hV2 := hV.ext hE2
    have hm1 := ho.hm1
    have hm8 := hs.m
    obtain ⟨p, hcv, hrv, hO⟩ := hV.ordF2 hg
    simp only [OA.cv, OA.rv] at hcv hrv
    injection hcv with p1 p2 p3
    injection hrv with p4 p5 p6
    subst p1 p2 p3 p5 p6
    have hrA := hO.hr hn.1
    rw [hrA] at p4
    subst p4
    obtain ⟨k, hk, hkn⟩ := mod_nat ha.1 hn.1
    have hwa : IntKind.i64.wrap a = a := IntWalk.i64_in _ (by omega)
    have hn0 : ¬ o.n = 0 := by omega
    refine Wp.skip ?_
    refine thenK_normal ?_
    refine Wp.seqRegion (.inl rfl) (by kernel_rfl) fun K' gd hK hg => ?_
    clear hg
    go_simp
    refine hK _ _ ?_
    clear hK K' gd
    refine Wp.keep [2, 3, 7] fun r4 hkeep => ?_
    obtain ⟨e2_4, e3_4, e7_4, -⟩ := hkeep
    simp [go_sem, e1_3, e2_3, e3_3, e24_3] at e2_4 e3_4 e7_4
    clear e1_3 e2_3 e3_3 e24_3
    clear hwa hk
    obtain ⟨e, he, he2⟩ := mod_nat (n := 20) hb.1 (by omega)
    have hwb : IntKind.i64.wrap b = b := IntWalk.i64_in _ (by omega)
    have he' : b.tmod 20 = (e : Int) := he
    obtain ⟨c, hc⟩ : ∃ c, c = e + 1 := ⟨_, rfl⟩
    have hwc : IntKind.i64.wrap (1 + (e : Int)) = (c : Int) := by rw [IntWalk.i64_in _ (by omega)]; omega
    refine Wp.seqRegion (.inl rfl) (by kernel_rfl) fun K' gd hK hg => ?_
    clear hg
    go_simp
    refine hK _ _ ?_
    clear hK K' gd
    refine Wp.keep [3, 7, 8] fun r5 hkeep => ?_
    obtain ⟨e3_5, e7_5, e8_5, -⟩ := hkeep
    simp [go_sem, e2_4, e3_4, e7_4] at e3_5 e7_5 e8_5
    clear e2_4 e3_4 e7_4
    have hce : (e : Int) + 1 = (c : Int) := by omega
    rw [hce] at e8_5
    clear hce hwb he he' hwc
    have hc1 : 1 ≤ c ∧ c ≤ 20 := by omega
    clear hc he2
    have hO2 := hO.ext hE2
    have g0 := hO2.hI k hkn
    have g1 := hO2.hA k hkn
    have g2 := hO2.hT k hkn
    have b1 : (k : Int) < (o.n : Int) := by omega
    refine Wp.seqRegion (.inl rfl) (by kernel_rfl) fun K' gd hK hg => ?_
    clear hg
    go_simp
    refine hK _ _ ?_
    clear hK K' gd
    refine Wp.keep [3, 7, 8, 9] fun r6 hkeep => ?_
    obtain ⟨e3_6, e7_6, e8_6, e9_6, -⟩ := hkeep
    simp [go_sem, e3_5, e7_5, e8_5] at e3_6 e7_6 e8_6 e9_6
    clear e3_5 e7_5 e8_5
    have y1 := cell_nn w2 #[.int .i64 (o.ID k), .int .i64 (o.A k), .slice (some ⟨p.tb k, p.to_ k, none⟩) o.m (p.tc k)] 37 1 rfl (v := .int .i64 (o.A k)) rfl
    have y2 := cell_nn w2 #[.int .i64 (o.ID k), .int .i64 (o.A k), .slice (some ⟨p.tb k, p.to_ k, none⟩) o.m (p.tc k)] 37 2 rfl (v := .slice (some ⟨p.tb k, p.to_ k, none⟩) o.m (p.tc k)) rfl
    have hE3 : Ext w2 (w2.alloc (.cells #[.int .i64 (o.ID k), .int .i64 (o.A k), .slice (some ⟨p.tb k, p.to_ k, none⟩) o.m (p.tc k)] 37)) := (by repeat (first | assumption | exact Ext.refl _ | refine Ext.drew ?_ | refine Ext.alloc ?_ _ | refine Ext.trans ?_ (by assumption)))
    generalize w2.alloc (.cells #[.int .i64 (o.ID k), .int .i64 (o.A k), .slice (some ⟨p.tb k, p.to_ k, none⟩) o.m (p.tc k)] 37) = W3 at *
    have x0 := hE3.cell x0
    have x1 := hE3.cell x1
    have hV3 := hV2.ext hE3
    clear g0 g1 g2 hO2
    refine Wp.seqRegion (.inl rfl) (by kernel_rfl) fun K' gd hK hg => ?_
    clear hg
    go_simp
    refine Wcall (.inl rfl) (Alike_g _ o k c c _ hV3 hg hkn rfl hc1) ?_
    rintro v w4 ⟨rfl, hE4⟩
    have x0 := hE4.cell x0
    have x1 := hE4.cell x1
    have y1 := hE4.cell y1
    have y2 := hE4.cell y2
    have hV4 := hV3.ext hE4
    go_simp
    refine hK _ _ ?_
    clear hK K' gd
    refine Wp.keep [3, 7, 8, 9, 10, 11] fun r7 hkeep => ?_
    obtain ⟨e3_7, e7_7, e8_7, e9_7, e10_7, e11_7, -⟩ := hkeep
    simp [go_sem, e3_6, e7_6, e8_6, e9_6] at e3_7 e7_7 e8_7 e9_7 e10_7 e11_7
    clear e3_6 e7_6 e8_6 e9_6
    refine Wp.seqRegion (.inl rfl) (by kernel_rfl) fun K' gd hK hg => ?_
    clear hg
    go_simp
    refine Wcall (.inl rfl) (Rate_g _ o k _ hV4 hg hkn) ?_
    rintro v w5 ⟨N, D, bb, rfl, hR, hE5⟩
    have x0 := hE5.cell x0
    have x1 := hE5.cell x1
    have y1 := hE5.cell y1
    have y2 := hE5.cell y2
    have hV5 := hV4.ext hE5
    go_simp
    refine hK _ _ ?_
    clear hK K' gd
    refine Wp.keep [3, 7, 8, 9, 10, 11, 12, 13, 14] fun r8 hkeep => ?_
    obtain ⟨e3_8, e7_8, e8_8, e9_8, e10_8, e11_8, e12_8, e13_8, e14_8, -⟩ := hkeep
    simp [go_sem, e3_7, e7_7, e8_7, e9_7, e10_7, e11_7] at e3_8 e7_8 e8_8 e9_8 e10_8 e11_8 e12_8 e13_8 e14_8
    clear e3_7 e7_7 e8_7 e9_7 e10_7 e11_7
    refine Wp.seq ?_
    have z0 := cell_nn w5 #[.int .i64 N, .int .i64 D] 51 0 rfl (v := .int .i64 N) rfl
    have z1 := cell_nn w5 #[.int .i64 N, .int .i64 D] 51 1 rfl (v := .int .i64 D) rfl
    have hE6 : Ext w5 (w5.alloc (.cells #[.int .i64 N, .int .i64 D] 51)) := (by repeat (first | assumption | exact Ext.refl _ | refine Ext.drew ?_ | refine Ext.alloc ?_ _ | refine Ext.trans ?_ (by assumption)))
    generalize w5.alloc (.cells #[.int .i64 N, .int .i64 D] 51) = W6 at *
    have x0 := hE6.cell x0
    have x1 := hE6.cell x1
    have y1 := hE6.cell y1
    have y2 := hE6.cell y2
    have hV6 := hV5.ext hE6
    have hEw : Ext w W6 := (by repeat (first | assumption | exact Ext.refl _ | refine Ext.drew ?_ | refine Ext.alloc ?_ _ | refine Ext.trans ?_ (by assumption)))
    clear hE hE2 hE3 hE4 hE5 hE6 hV2 hV3 hV4 hV5
    have hO6 := hO.ext hEw
    obtain ⟨hbm, hd1, hd2, hN0, hN1, heq, hle⟩ := hR
    have g1 := hO6.hC bb hbm
    have g2 := hO6.hTT k bb hkn hbm
    have hCb := ho.vC bb hbm
    have hTb := ho.vT k bb hkn hbm
    have b2 : (bb : Int) < (o.m : Int) := by omega
    have b3 : ¬ (o.m : Int) ≤ (bb : Int) := by omega
    have b4 : ¬ (bb : Int) < 0 := by omega
    have b5 : ¬ D < 1 := by omega
    obtain ⟨q, hq⟩ : ∃ q, N * o.C bb = q := ⟨_, rfl⟩
    have hq2 : 0 ≤ q ∧ q ≤ 60 * 60 := by rw [← hq]; exact ⟨Int.mul_nonneg hN0 (by omega), Int.mul_le_mul hN1 (by omega) (by omega) (by omega)⟩
    have hw1 : IntKind.i64.wrap (N * o.C bb) = q := by rw [hq]; exact IntWalk.i64_in _ (by omega)
    have hw2 : IntKind.i64.wrap (o.T k bb * D) = q := by rw [← heq, hq]; exact IntWalk.i64_in _ (by omega)
    clear heq hq hq2
    refine Wp.seqDraw (.inl rfl) mixed [([0, 1, 2], none), ([3, 4, 5, 6], none), ([7, 8, 9, 10], none), ([11, 12, 13, 14, 15], none), ([16, 17], none), ([18, 19, 20, 21, 22], none), ([23, 24, 25, 26, 27], none), ([28, 29, 30, 31, 32], none), ([33, 34, 35, 36, 37], none), ([38, 39, 40], none)] (by kernel_rfl) fun K' gd hK hg => ?_
    have g2 : gd 2 = some 57 := hg 2
    have g6 : gd 6 = some 61 := hg 6
    have g10 : gd 10 = some 65 := hg 10
    have g17 : gd 17 = some 72 := hg 17
    have g22 : gd 22 = some 77 := hg 22
    clear hg
    simp only [pick, nth, List.map_cons, List.map_nil, Option.map_none, Option.map_some]
    apply Mops.none
    · intro w' hE'
      have hC' := hE'.cellsS
      go_simp
      with_reducible rfl
    apply Mops.none
    · intro w' hE'
      have hC' := hE'.cellsS
      go_simp
      with_reducible rfl
    apply Mops.none
    · intro w' hE'
      have hC' := hE'.cellsS
      go_simp
      with_reducible rfl
    apply Mops.none
    · intro w' hE'
      have hC' := hE'.cellsS
      go_simp
      with_reducible rfl
    apply Mops.none
    · intro w' hE'
      have hC' := hE'.cellsS
      go_simp
      with_reducible rfl
    apply Mops.none
    · intro w' hE'
      have hC' := hE'.cellsS
      go_simp
      with_reducible rfl
    apply Mops.none
    · intro w' hE'
      have hC' := hE'.cellsS
      go_simp
      with_reducible rfl
    apply Mops.none
    · intro w' hE'
      have hC' := hE'.cellsS
      go_simp
      with_reducible rfl
    apply Mops.none
    · intro w' hE'
      have hC' := hE'.cellsS
      go_simp
      with_reducible rfl
    apply Mops.none
    · intro w' hE'
      have hC' := hE'.cellsS
      go_simp
      with_reducible rfl
    refine Mops.done ?_
    refine hK _ _ ?_
    clear hK K' gd g2 g6 g10 g17 g22
    refine Wp.keep [3, 7, 8, 9, 10, 12, 13, 95] fun r9 hkeep => ?_
    obtain ⟨e3_9, e7_9, e8_9, e9_9, e10_9, e12_9, e13_9, e95_9, -⟩ := hkeep
    simp [go_sem, e3_8, e7_8, e8_8, e9_8, e10_8, e11_8, e12_8, e13_8, e14_8] at e3_9 e7_9 e8_9 e9_9 e10_9 e12_9 e13_9 e95_9
    clear e3_8 e7_8 e8_8 e9_8 e10_8 e11_8 e12_8 e13_8 e14_8
    refine Wp.condF (by go_simp) ?_
    clear hw1 hw2 b3 b4 b5
    refine Wp.skip ?_
    refine thenK_normal ?_
    refine Wp.seqRegion (.inl rfl) (by kernel_rfl) fun K' gd hK hg => ?_
    clear hg
    go_simp
    refine hK _ _ ?_
    clear hK K' gd
    refine Wp.keep [3, 7, 8, 9, 10, 12, 13, 15] fun r10 hkeep => ?_
    obtain ⟨e3_10, e7_10, e8_10, e9_10, e10_10, e12_10, e13_10, e15_10, -⟩ := hkeep
    simp [go_sem, e3_9, e7_9, e8_9, e9_9, e10_9, e12_9, e13_9, e95_9] at e3_10 e7_10 e8_10 e9_10 e10_10 e12_10 e13_10 e15_10
    clear e3_9 e7_9 e8_9 e9_9 e10_9 e12_9 e13_9 e95_9
    refine Wp.seqRegion (.inl rfl) (by kernel_rfl) fun K' gd hK hg => ?_
    clear hg
    go_simp
    refine hK _ _ ?_
    clear hK K' gd
    refine Wp.keep [3, 7, 8, 9, 10, 12, 13, 15, 16] fun r11 hkeep => ?_
    obtain ⟨e3_11, e7_11, e8_11, e9_11, e10_11, e12_11, e13_11, e15_11, e16_11, -⟩ := hkeep
    simp [go_sem, e3_10, e7_10, e8_10, e9_10, e10_10, e12_10, e13_10, e15_10] at e3_11 e7_11 e8_11 e9_11 e10_11 e12_11 e13_11 e15_11 e16_11
    clear e3_10 e7_10 e8_10 e9_10 e10_10 e12_10 e13_10 e15_10
    refine Wp.seq ?_
    refine Wp.seqRegion (.inl rfl) (by kernel_rfl) fun K' gd hK hg => ?_
    clear hg
    go_simp
    refine hK _ _ ?_
    clear hK K' gd
    refine Wp.keep [3, 7, 8, 9, 10, 12, 13, 15, 16, 17] fun r12 hkeep => ?_
    obtain ⟨e3_12, e7_12, e8_12, e9_12, e10_12, e12_12, e13_12, e15_12, e16_12, e17_12, -⟩ := hkeep
    simp [go_sem, e3_11, e7_11, e8_11, e9_11, e10_11, e12_11, e13_11, e15_11, e16_11] at e3_12 e7_12 e8_12 e9_12 e10_12 e12_12 e13_12 e15_12 e16_12 e17_12
    clear e3_11 e7_11 e8_11 e9_11 e10_11 e12_11 e13_11 e15_11 e16_11
    refine Wp.block ?_
    refine Wp.loop (fun i ρ ds wi => AllEq [3, 7, 8, 9, 10, 12, 13] ρ r12 ∧ ds = [] ∧ (ρ 15 = .int .i64 (sumTo (o.T k) i) ∧ ρ 16 = .int .i64 (maxTo (o.T k) i) ∧ ρ 17 = .int .i64 (i : Int) ∧ Ext W6 wi)) (o.m) ?_ ?_
    · refine ⟨AllEq.refl _ _, rfl, ?_⟩
      exact ⟨by rw [e15_12]; rfl, by rw [e16_12]; rfl, by rw [e17_12]; rfl, (by repeat (first | assumption | exact Ext.refl _ | refine Ext.drew ?_ | refine Ext.alloc ?_ _ | refine Ext.trans ?_ (by assumption)))⟩
    · rintro i r13 _ wi hi ⟨hA, rfl, ⟨e15, e16, e17, hEi⟩⟩
      obtain ⟨e3_13, e7_13, e8_13, e9_13, e10_13, e12_13, e13_13, -⟩ := hA
      rw [e3_12] at e3_13
      rw [e7_12] at e7_13
      rw [e8_12] at e8_13
      rw [e9_12] at e9_13
      rw [e10_12] at e10_13
      rw [e12_12] at e12_13
      rw [e13_12] at e13_13
      have u0 := hEi.cell x0
      have u1 := hEi.cell x1
      have u2 := hEi.cell y2
      have u3 := hEi.cell z0
      have u4 := hEi.cell z1
      refine Wp.seq ?_
      refine Wp.seqRegion (.inl rfl) (by kernel_rfl) fun K' gd hK hg => ?_
      clear hg
      go_simp
      refine hK _ _ ?_
      clear hK K' gd
      refine Wp.keep [3, 7, 8, 9, 10, 12, 13, 15, 16, 17, 100] fun r14 hkeep => ?_
      obtain ⟨e3_14, e7_14, e8_14, e9_14, e10_14, e12_14, e13_14, e15_14, e16_14, e17_14, e100_14, -⟩ := hkeep
      simp [go_sem, e3_13, e7_13, e8_13, e9_13, e10_13, e12_13, e13_13, e15, e16, e17] at e3_14 e7_14 e8_14 e9_14 e10_14 e12_14 e13_14 e15_14 e16_14 e17_14 e100_14
      clear e3_13 e7_13 e8_13 e9_13 e10_13 e12_13 e13_13 e15 e16 e17
      by_cases h : i < o.m
      · refine Wp.condT (by go_simp) ?_
        have hOi := hO6.ext hEi
        have f1 := hOi.hC i h
        have f2 := hOi.hTT k i hkn h
        have hCi := ho.vC i h
        have hTi := ho.vT k i hkn h
        have b3 : (i : Int) < (o.m : Int) := by omega
        have hsi := sumT_ok ho hkn i (by omega)
        have hmi := maxTo_ok ho hkn i (by omega)
        have hli := hle i h
        obtain ⟨ti, hti⟩ : ∃ t, o.T k i = t := ⟨_, rfl⟩
        obtain ⟨ci, hci⟩ : ∃ t, o.C i = t := ⟨_, rfl⟩
        obtain ⟨si, hsi2⟩ : ∃ t, sumTo (o.T k) i = t := ⟨_, rfl⟩
        obtain ⟨mi, hmi2⟩ : ∃ t, maxTo (o.T k) i = t := ⟨_, rfl⟩
        rw [hti] at f2 hTi hli
        rw [hci] at f1 hCi hli
        rw [hsi2] at e15_14 hsi
        rw [hmi2] at e16_14 hmi
        have hS1 : ∃ _u : Unit, sumTo (o.T k) (i + 1) = si + ti := ⟨(), by show sumTo (o.T k) i + o.T k i = _; rw [hsi2, hti]⟩
        have hM1 : ∃ _u : Unit, maxTo (o.T k) (i + 1) = max mi ti := ⟨(), by show max (maxTo (o.T k) i) (o.T k i) = _; rw [hmi2, hti]⟩
        clear hti hci hsi2 hmi2
        have hws : IntKind.i64.wrap (si + ti) = si + ti := IntWalk.i64_in _ (by omega)
        obtain ⟨u, hu⟩ : ∃ u, ti * D = u := ⟨_, rfl⟩
        obtain ⟨v, hv⟩ : ∃ u, N * ci = u := ⟨_, rfl⟩
        have hu2 : 0 ≤ u ∧ u ≤ 60 * 20 := by rw [← hu]; exact ⟨Int.mul_nonneg (by omega) (by omega), Int.mul_le_mul (by omega) (by omega) (by omega) (by omega)⟩
        have hv2 : 0 ≤ v ∧ v ≤ 60 * 20 := by rw [← hv]; exact ⟨Int.mul_nonneg (by omega) (by omega), Int.mul_le_mul (by omega) (by omega) (by omega) (by omega)⟩
        have hw1 : IntKind.i64.wrap (ti * D) = u := by rw [hu]; exact IntWalk.i64_in _ (by omega)
        have hw2 : IntKind.i64.wrap (N * ci) = v := by rw [hv]; exact IntWalk.i64_in _ (by omega)
        rw [hu, hv] at hli
        have b4 : ¬ v < u := by omega
        clear hu hv hli hu2 hv2
        refine Wp.skip ?_
        refine thenK_normal ?_
        refine Wp.seq ?_
        refine Wp.block ?_
        refine Wp.seqRegion (.inl rfl) (by kernel_rfl) fun K' gd hK hg => ?_
        clear hg
        go_simp
        refine hK _ _ ?_
        clear hK K' gd
        refine Wp.keep [3, 7, 8, 9, 10, 12, 13, 15, 16, 17] fun r15 hkeep => ?_
        obtain ⟨e3_15, e7_15, e8_15, e9_15, e10_15, e12_15, e13_15, e15_15, e16_15, e17_15, -⟩ := hkeep
        simp [go_sem, e3_14, e7_14, e8_14, e9_14, e10_14, e12_14, e13_14, e15_14, e16_14, e17_14, e100_14] at e3_15 e7_15 e8_15 e9_15 e10_15 e12_15 e13_15 e15_15 e16_15 e17_15
        clear e3_14 e7_14 e8_14 e9_14 e10_14 e12_14 e13_14 e15_14 e16_14 e17_14 e100_14
        refine Wp.seqRegion (.inl rfl) (by kernel_rfl) fun K' gd hK hg => ?_
        clear hg
        go_simp
        refine hK _ _ ?_
        clear hK K' gd
        refine Wp.keep [3, 7, 8, 9, 10, 12, 13, 15, 16, 17] fun r16 hkeep => ?_
        obtain ⟨e3_16, e7_16, e8_16, e9_16, e10_16, e12_16, e13_16, e15_16, e16_16, e17_16, -⟩ := hkeep
        simp [go_sem, e3_15, e7_15, e8_15, e9_15, e10_15, e12_15, e13_15, e15_15, e16_15, e17_15] at e3_16 e7_16 e8_16 e9_16 e10_16 e12_16 e13_16 e15_16 e16_16 e17_16
        clear e3_15 e7_15 e8_15 e9_15 e10_15 e12_15 e13_15 e15_15 e16_15 e17_15
        refine Wp.seqDraw (.inl rfl) mixed [([0, 1, 2, 3, 4], none), ([5, 6, 7, 8, 9], none), ([10, 11, 12, 13, 14], none), ([15, 16], none)] (by kernel_rfl) fun K' gd hK hg => ?_
        clear hg
        simp only [pick, nth, List.map_cons, List.map_nil, Option.map_none, Option.map_some]
        apply Mops.none
        · intro w' hE'
          have hC' := hE'.cellsS
          go_simp
          with_reducible rfl
        apply Mops.none
        · intro w' hE'
          have hC' := hE'.cellsS
          go_simp
          with_reducible rfl
        apply Mops.none
        · intro w' hE'
          have hC' := hE'.cellsS
          go_simp
          with_reducible rfl
        apply Mops.none
        · intro w' hE'
          have hC' := hE'.cellsS
          go_simp
          with_reducible rfl
        refine Mops.done ?_
        refine hK _ _ ?_
        clear hK K' gd
        refine Wp.keep [3, 7, 8, 9, 10, 12, 13, 15, 16, 17, 133] fun r17 hkeep => ?_
        obtain ⟨e3_17, e7_17, e8_17, e9_17, e10_17, e12_17, e13_17, e15_17, e16_17, e17_17, e133_17, -⟩ := hkeep
        simp [go_sem, e3_16, e7_16, e8_16, e9_16, e10_16, e12_16, e13_16, e15_16, e16_16, e17_16] at e3_17 e7_17 e8_17 e9_17 e10_17 e12_17 e13_17 e15_17 e16_17 e17_17 e133_17
        clear e3_16 e7_16 e8_16 e9_16 e10_16 e12_16 e13_16 e15_16 e16_16 e17_16
        refine Wp.condF (by go_simp) ?_
        refine Wp.skip ?_
        refine blockK_normal ?_
        refine thenK_normal ?_
        refine Wp.loneRegion (.inl rfl) (by kernel_rfl) fun K' gd hK hg => ?_
        clear hg
        go_simp
        refine hK _ _ ?_
        clear hK K' gd
        refine Ends.keep [3, 7, 8, 9, 10, 12, 13, 15, 16, 17] fun r18 hkeep => ?_
        obtain ⟨e3_18, e7_18, e8_18, e9_18, e10_18, e12_18, e13_18, e15_18, e16_18, e17_18, -⟩ := hkeep
        simp [go_sem, e3_17, e7_17, e8_17, e9_17, e10_17, e12_17, e13_17, e15_17, e16_17, e17_17, e133_17] at e3_18 e7_18 e8_18 e9_18 e10_18 e12_18 e13_18 e15_18 e16_18 e17_18
        clear e3_17 e7_17 e8_17 e9_17 e10_17 e12_17 e13_17 e15_17 e16_17 e17_17 e133_17
        refine Ends.mk ?_
        refine thenK_normal ⟨by omega, ⟨by rw [e3_18, e3_12], by rw [e7_18, e7_12], by rw [e8_18, e8_12], by rw [e9_18, e9_12], by rw [e10_18, e10_12], by rw [e12_18, e12_12], by rw [e13_18, e13_12], trivial⟩, rfl, ?_⟩
        obtain ⟨-, hS1⟩ := hS1
        obtain ⟨-, hM1⟩ := hM1
        exact ⟨by rw [e15_18, hS1], by rw [e16_18, hM1, maxI], by rw [e17_18, IntWalk.i64_in _ (by omega)]; rfl, (by repeat (first | assumption | exact Ext.refl _ | refine Ext.drew ?_ | refine Ext.alloc ?_ _ | refine Ext.trans ?_ (by assumption)))⟩
      · refine Wp.condF (by go_simp) ?_
        obtain rfl : i = o.m := by omega
        have u5 := hEi.cell y1
        have hV7 := hV6.ext hEi
        have hO7 := hO6.ext hEi
        have hsm := sumT_ok ho hkn o.m (Nat.le_refl _)
        have hmm := maxTo_ok ho hkn o.m (Nat.le_refl _)
        have hAk := ho.vA k hkn
        have hk1 := knap_nonneg (C := o.C) (T := o.T k) (m := o.m) (c - 1)
        have hk2 := knap_le (C := o.C) (T := o.T k) (m := o.m) (fun j hj => (ho.vT k j hkn hj).2) (c - 1)
        have hAV : ∃ _u : Unit, alikeV o k c = o.A k + sumTo (o.T k) o.m + knap o.C (o.T k) o.m (c - 1) := ⟨(), rfl⟩
        have hAg : ∃ _u : Unit, (c ≤ 19 → alikeV o k c ≤ alikeV o k (c + 1) ∧ alikeV o k (c + 1) ≤ alikeV o k c + maxTo (o.T k) o.m) := ⟨(), fun _ => by have a1 := knap_mono1 (C := o.C) (T := o.T k) (m := o.m) (c - 1); have a2 := knap_grow (C := o.C) (T := o.T k) (m := o.m) hmm.1 (fun j hj => maxTo_ge hj) (c - 1); rw [show c - 1 + 1 = c by omega] at a1 a2; unfold alikeV; rw [show c + 1 - 1 = c by omega]; omega⟩
        have hAf : ∃ _u : Unit, alikeV o k c + o.T k bb ≤ alikeV o k (c + (o.C bb).toNat) := ⟨(), by have a1 := knap_ge (C := o.C) (T := o.T k) (m := o.m) (w := c + (o.C bb).toNat - 1) hbm hCb.1 (by omega); rw [show c + (o.C bb).toNat - 1 - (o.C bb).toNat = c - 1 by omega] at a1; unfold alikeV; omega⟩
        have hvc := alikeV_ok ho (k := k) (c := c) hkn hc1.2
        obtain ⟨S, hS⟩ : ∃ t, sumTo (o.T k) o.m = t := ⟨_, rfl⟩
        obtain ⟨M, hM⟩ : ∃ t, maxTo (o.T k) o.m = t := ⟨_, rfl⟩
        obtain ⟨Q, hQ⟩ : ∃ t, knap o.C (o.T k) o.m (c - 1) = t := ⟨_, rfl⟩
        obtain ⟨AV, hAVe⟩ : ∃ t, alikeV o k c = t := ⟨_, rfl⟩
        obtain ⟨tb, htb⟩ : ∃ t, o.T k bb = t := ⟨_, rfl⟩
        obtain ⟨Ak, hAke⟩ : ∃ t, o.A k = t := ⟨_, rfl⟩
        rw [hS] at e15_14 hsm hAV
        rw [hM] at e16_14 hmm hAg
        rw [hQ] at hk1 hk2 hAV
        rw [hAVe] at e10_14 hAV hAg hAf hvc
        rw [htb] at hTb hAf
        rw [hAke] at hAV hAk u5
        have hpk : ∃ _u : Unit, knap o.C (o.T k) o.m (c - 1) = Q := ⟨(), hQ⟩
        have hAV2 : AV = Ak + S + Q := by obtain ⟨-, e⟩ := hAV; exact e
        have g3 := (hO7.hTT k bb hkn hbm)
        have htb' : ∃ _u : Unit, o.T k bb = tb := ⟨(), htb⟩
        rw [htb] at g3
        have g4 := hO7.hC bb hbm
        clear hAV hS hM hQ hAVe htb hAke g1 g2
        have hwc : IntKind.i64.wrap ((c : Int) - 1) = ((c - 1 : Nat) : Int) := by rw [IntWalk.i64_in _ (by omega)]; omega
        have hwS : IntKind.i64.wrap (Ak + S) = Ak + S := IntWalk.i64_in _ (by omega)
        have hwQ : IntKind.i64.wrap (Ak + S + Q) = AV := by rw [IntWalk.i64_in _ (by omega)]; exact hAV2.symm
        clear hAV2
        refine Wp.exit ?_
        refine thenK_exit ?_
        refine thenK_exit ?_
        refine blockK_here ?_
        refine thenK_normal ?_
        refine Wp.seq ?_
        refine Wp.seqDraw (.inl rfl) mixed [([0, 1, 2, 3, 4], none), ([5, 6, 7, 8, 9], none), ([10], some (11, false)), ([12, 13], none)] (by kernel_rfl) fun K' gd hK hg => ?_
        clear hg
        simp only [pick, nth, List.map_cons, List.map_nil, Option.map_none, Option.map_some]
        apply Mops.none
        · intro w' hE'
          have hC' := hE'.cellsS
          go_simp
          with_reducible rfl
        apply Mops.none
        · intro w' hE'
          have hC' := hE'.cellsS
          go_simp
          with_reducible rfl
        apply Mops.act
        · intro w' hE'
          have hC' := hE'.cellsS
          go_simp
          with_reducible rfl
        intro K1 hK1
        go_simp
        refine Wcall (.inl rfl) (packed_c p o k (c - 1) _ (hO7.ext (by repeat (first | assumption | exact Ext.refl _ | refine Ext.drew ?_ | refine Ext.alloc ?_ _ | refine Ext.trans ?_ (by assumption)))) hkn (by omega)) ?_
        rintro v w8 ⟨rfl, hE8⟩
        obtain ⟨-, hpk⟩ := hpk
        rw [hpk]
        clear hpk
        go_simp
        refine hK1 _ _ (by first | assumption | exact Ext.refl _) ?_
        clear hK1 K1
        apply Mops.none
        · intro w' hE'
          have hC' := hE'.cellsS
          go_simp
          with_reducible rfl
        refine Mops.done ?_
        refine hK _ _ ?_
        clear hK K' gd
        refine Wp.keep [3, 7, 8, 9, 10, 13, 16, 147] fun r19 hkeep => ?_
        obtain ⟨e3_19, e7_19, e8_19, e9_19, e10_19, e13_19, e16_19, e147_19, -⟩ := hkeep
        simp [go_sem, e3_14, e7_14, e8_14, e9_14, e10_14, e12_14, e13_14, e15_14, e16_14, e17_14, e100_14] at e3_19 e7_19 e8_19 e9_19 e10_19 e13_19 e16_19 e147_19
        clear e3_14 e7_14 e8_14 e9_14 e10_14 e12_14 e13_14 e15_14 e16_14 e17_14 e100_14
        refine Wp.condF (by go_simp) ?_
        have u0 := hE8.cell u0
        have u1 := hE8.cell u1
        have u2 := hE8.cell u2
        have hV8 : OrderV w8 w8.heap.size _ o := hV7.ext (by repeat (first | assumption | exact Ext.refl _ | refine Ext.drew ?_ | refine Ext.alloc ?_ _ | refine Ext.trans ?_ (by assumption)))
        have hE68 : Ext W6 w8 := (by repeat (first | assumption | exact Ext.refl _ | refine Ext.drew ?_ | refine Ext.alloc ?_ _ | refine Ext.trans ?_ (by assumption)))
        clear hE8 hEi hwS hwQ hwc hV7 hO7 u3 u4 u5
        by_cases h20 : (c : Int) < 20
        · skip
          refine Wp.skip ?_
          refine thenK_normal ?_
          refine Wp.seq ?_
          refine Wp.seqRegion (.inl rfl) (by kernel_rfl) fun K' gd hK hg => ?_
          clear hg
          go_simp
          refine hK _ _ ?_
          clear hK K' gd
          refine Wp.keep [3, 7, 8, 9, 10, 13, 16, 149] fun r20 hkeep => ?_
          obtain ⟨e3_20, e7_20, e8_20, e9_20, e10_20, e13_20, e16_20, e149_20, -⟩ := hkeep
          simp [go_sem, e3_19, e7_19, e8_19, e9_19, e10_19, e13_19, e16_19, e147_19] at e3_20 e7_20 e8_20 e9_20 e10_20 e13_20 e16_20 e149_20
          clear e3_19 e7_19 e8_19 e9_19 e10_19 e13_19 e16_19 e147_19
          refine Wp.condT (by go_simp) ?_
          obtain ⟨-, hAg2⟩ := hAg
          obtain ⟨c3, hc3⟩ : ∃ c3, c + 1 = c3 := ⟨_, rfl⟩
          rw [hc3] at hAg2
          have hc4 : 1 ≤ c3 ∧ c3 ≤ 20 := by omega
          have hwc3 : IntKind.i64.wrap ((c : Int) + 1) = (c3 : Int) := by rw [IntWalk.i64_in _ (by omega)]; omega
          clear hc3
          obtain ⟨AV1, hAV1⟩ : ∃ t, alikeV o k c3 = t := ⟨_, rfl⟩
          have hg2 := hAg2 (by omega)
          rw [hAV1] at hg2
          have hwm : IntKind.i64.wrap (AV + M) = AV + M := IntWalk.i64_in _ (by omega)
          have hl1 : ¬ AV1 < AV := by omega
          have hl2 : ¬ AV + M < AV1 := by omega
          have hAV1' : ∃ _u : Unit, alikeV o k c3 = AV1 := ⟨(), hAV1⟩
          clear hAV1 hAg2 hg2
          refine Wp.seqRegion (.inl rfl) (by kernel_rfl) fun K' gd hK hg => ?_
          clear hg
          go_simp
          refine Wcall (.inl rfl) (Alike_g _ o k (c3 : Int) c3 _ hV8 hg hkn rfl hc4) ?_
          rintro v w9 ⟨rfl, hE9⟩
          obtain ⟨-, hAV1⟩ := hAV1'
          rw [hAV1]
          clear hAV1
          have u0 := hE9.cell u0
          have u1 := hE9.cell u1
          have u2 := hE9.cell u2
          have hV9 := hV8.ext hE9
          go_simp
          refine hK _ _ ?_
          clear hK K' gd
          refine Wp.keep [3, 7, 8, 9, 10, 13, 16, 18, 19] fun r21 hkeep => ?_
          obtain ⟨e3_21, e7_21, e8_21, e9_21, e10_21, e13_21, e16_21, e18_21, e19_21, -⟩ := hkeep
          simp [go_sem, e3_20, e7_20, e8_20, e9_20, e10_20, e13_20, e16_20, e149_20] at e3_21 e7_21 e8_21 e9_21 e10_21 e13_21 e16_21 e18_21 e19_21
          clear e3_20 e7_20 e8_20 e9_20 e10_20 e13_20 e16_20 e149_20
          refine Wp.seqRegion (.inl rfl) (by kernel_rfl) fun K' gd hK hg => ?_
          have g2 : gd 2 = some 160 := hg 2
          have g7 : gd 7 = some 165 := hg 7
          clear hg
          go_simp
          refine hK _ _ ?_
          clear hK K' gd g2 g7
          refine Wp.keep [3, 7, 8, 9, 10, 13, 171] fun r22 hkeep => ?_
          obtain ⟨e3_22, e7_22, e8_22, e9_22, e10_22, e13_22, e171_22, -⟩ := hkeep
          simp [go_sem, e3_21, e7_21, e8_21, e9_21, e10_21, e13_21, e16_21, e18_21, e19_21] at e3_22 e7_22 e8_22 e9_22 e10_22 e13_22 e171_22
          clear e3_21 e7_21 e8_21 e9_21 e10_21 e13_21 e16_21 e18_21 e19_21
          refine Wp.condF (by go_simp) ?_
          clear hwm hl1 hl2 hV8 hwc3
          have hE69 : Ext W6 w9 := (by repeat (first | assumption | exact Ext.refl _ | refine Ext.drew ?_ | refine Ext.alloc ?_ _ | refine Ext.trans ?_ (by assumption)))
          have g5 := (hO6.ext hE69).hC bb hbm
          have g6 := (hO6.ext hE69).hTT k bb hkn hbm
          have htb2 := ho.vT k bb hkn hbm
          obtain ⟨cb, hcb⟩ : ∃ t, o.C bb = t := ⟨_, rfl⟩
          rw [hcb] at g5 hCb hAf
          have hwf : IntKind.i64.wrap ((c : Int) + cb) = (c : Int) + cb := IntWalk.i64_in _ (by omega)
          clear hcb g3 g4
          by_cases hfar : (c : Int) + cb ≤ 20
          · skip
            refine Wp.skip ?_
            refine thenK_normal ?_
            refine Wp.seq ?_
            refine Wp.seqRegion (.inl rfl) (by kernel_rfl) fun K' gd hK hg => ?_
            clear hg
            go_simp
            refine hK _ _ ?_
            clear hK K' gd
            refine Wp.keep [3, 7, 8, 9, 10, 13, 179] fun r23 hkeep => ?_
            obtain ⟨e3_23, e7_23, e8_23, e9_23, e10_23, e13_23, e179_23, -⟩ := hkeep
            simp [go_sem, e3_22, e7_22, e8_22, e9_22, e10_22, e13_22, e171_22] at e3_23 e7_23 e8_23 e9_23 e10_23 e13_23 e179_23
            clear e3_22 e7_22 e8_22 e9_22 e10_22 e13_22 e171_22
            refine Wp.condT (by go_simp) ?_
            obtain ⟨-, hAf⟩ := hAf
            obtain ⟨AV2, hAV2⟩ : ∃ t, alikeV o k (c + cb.toNat) = t := ⟨_, rfl⟩
            rw [hAV2] at hAf
            have hAV2' : ∃ _u : Unit, alikeV o k (c + cb.toNat) = AV2 := ⟨(), hAV2⟩
            clear hAV2
            refine Wp.seqDraw (.inl rfl) mixed [([0, 1, 2, 3, 4], none), ([5, 6, 7, 8], some (9, false)), ([10, 11, 12, 13, 14], none)] (by kernel_rfl) fun K' gd hK hg => ?_
            clear hg
            simp only [pick, nth, List.map_cons, List.map_nil, Option.map_none, Option.map_some]
            apply Mops.none
            · intro w' hE'
              have hC' := hE'.cellsS
              go_simp
              with_reducible rfl
            apply Mops.act
            · intro w' hE'
              have hC' := hE'.cellsS
              go_simp
              with_reducible rfl
            intro K1 hK1
            go_simp
            refine Wcall (.inl rfl) (Alike_g _ o k ((c : Int) + cb) (c + cb.toNat) _ (hV9.ext (by repeat (first | assumption | exact Ext.refl _ | refine Ext.drew ?_ | refine Ext.alloc ?_ _ | refine Ext.trans ?_ (by assumption)))) hg hkn (by omega) (by omega)) ?_
            rintro v w10 ⟨rfl, hE10⟩
            obtain ⟨-, hAV2⟩ := hAV2'
            rw [hAV2]
            clear hAV2
            have u2 := hE10.cell u2
            go_simp
            refine hK1 _ _ (by first | assumption | exact Ext.refl _) ?_
            clear hK1 K1
            apply Mops.none
            · intro w' hE'
              have hC' := hE'.cellsS
              go_simp
              with_reducible rfl
            refine Mops.done ?_
            refine hK _ _ ?_
            clear hK K' gd
            refine Wp.keep [9, 10, 13, 20, 21] fun r24 hkeep => ?_
            obtain ⟨e9_24, e10_24, e13_24, e20_24, e21_24, -⟩ := hkeep
            simp [go_sem, e3_23, e7_23, e8_23, e9_23, e10_23, e13_23, e179_23] at e9_24 e10_24 e13_24 e20_24 e21_24
            clear e3_23 e7_23 e8_23 e9_23 e10_23 e13_23 e179_23
            obtain ⟨-, htb⟩ := htb'
            rw [htb] at g6
            clear htb
            have g7 := hE10.cell g6
            have hwz : IntKind.i64.wrap (AV + tb) = AV + tb := IntWalk.i64_in _ (by omega)
            have hl3 : ¬ AV2 < AV + tb := by omega
            refine Wp.seqRegion (.inl rfl) (by kernel_rfl) fun K' gd hK hg => ?_
            have g2 : gd 2 = some 195 := hg 2
            clear hg
            go_simp
            refine hK _ _ ?_
            clear hK K' gd g2
            refine Wp.keep [205] fun r25 hkeep => ?_
            obtain ⟨e205_25, -⟩ := hkeep
            simp [go_sem, e9_24, e10_24, e13_24, e20_24, e21_24] at e205_25
            clear e9_24 e10_24 e13_24 e20_24 e21_24
            refine Wp.condF (by go_simp) ?_
            refine Wp.skip ?_
            refine thenK_normal ?_
            refine Wp.seqRegion (.inl rfl) (by kernel_rfl) fun K' gd hK hg => ?_
            clear hg
            go_simp
            refine Wcall (.inl rfl) (sanity_c _) ?_
            rintro v w11 ⟨rfl, hE11⟩
            go_simp
            refine hK _ _ ?_
            clear hK K' gd
            refine Wp.keep [6] fun r26 hkeep => ?_
            obtain ⟨e6_26, -⟩ := hkeep
            simp [go_sem, e205_25] at e6_26
            clear e205_25
            refine Wp.ret ?_
            refine endK_tmp Try.results5 (by decide) ?_
            rw [e6_26]
            exact ⟨rfl, (by repeat (first | assumption | exact Ext.refl _ | refine Ext.drew ?_ | refine Ext.alloc ?_ _ | refine Ext.trans ?_ (by assumption)))⟩
          · skip
            refine Wp.skip ?_
            refine thenK_normal ?_
            refine Wp.seq ?_
            refine Wp.seqRegion (.inl rfl) (by kernel_rfl) fun K' gd hK hg => ?_
            clear hg
            go_simp
            refine hK _ _ ?_
            clear hK K' gd
            refine Wp.keep [3, 7, 8, 9, 10, 13, 179] fun r27 hkeep => ?_
            obtain ⟨e3_27, e7_27, e8_27, e9_27, e10_27, e13_27, e179_27, -⟩ := hkeep
            simp [go_sem, e3_22, e7_22, e8_22, e9_22, e10_22, e13_22, e171_22] at e3_27 e7_27 e8_27 e9_27 e10_27 e13_27 e179_27
            clear e3_22 e7_22 e8_22 e9_22 e10_22 e13_22 e171_22
            refine Wp.condF (by go_simp) ?_
            refine Wp.skip ?_
            refine thenK_normal ?_
            refine Wp.seqRegion (.inl rfl) (by kernel_rfl) fun K' gd hK hg => ?_
            clear hg
            go_simp
            refine Wcall (.inl rfl) (sanity_c _) ?_
            rintro v w11 ⟨rfl, hE11⟩
            go_simp
            refine hK _ _ ?_
            clear hK K' gd
            refine Wp.keep [6] fun r28 hkeep => ?_
            obtain ⟨e6_28, -⟩ := hkeep
            simp [go_sem, e3_27, e7_27, e8_27, e9_27, e10_27, e13_27, e179_27] at e6_28
            clear e3_27 e7_27 e8_27 e9_27 e10_27 e13_27 e179_27
            refine Wp.ret ?_
            refine endK_tmp Try.results5 (by decide) ?_
            rw [e6_28]
            exact ⟨rfl, (by repeat (first | assumption | exact Ext.refl _ | refine Ext.drew ?_ | refine Ext.alloc ?_ _ | refine Ext.trans ?_ (by assumption)))⟩
        · skip
          refine Wp.skip ?_
          refine thenK_normal ?_
          refine Wp.seq ?_
          refine Wp.seqRegion (.inl rfl) (by kernel_rfl) fun K' gd hK hg => ?_
          clear hg
          go_simp
          refine hK _ _ ?_
          clear hK K' gd
          refine Wp.keep [3, 7, 8, 9, 10, 13, 16, 149] fun r29 hkeep => ?_
          obtain ⟨e3_29, e7_29, e8_29, e9_29, e10_29, e13_29, e16_29, e149_29, -⟩ := hkeep
          simp [go_sem, e3_19, e7_19, e8_19, e9_19, e10_19, e13_19, e16_19, e147_19] at e3_29 e7_29 e8_29 e9_29 e10_29 e13_29 e16_29 e149_29
          clear e3_19 e7_19 e8_19 e9_19 e10_19 e13_19 e16_19 e147_19
          refine Wp.condF (by go_simp) ?_
          obtain ⟨w9, hw9⟩ : ∃ x, x = w8 := ⟨_, rfl⟩
          subst hw9
          have hV9 := hV8
          clear hAg hV8
          have hE69 : Ext W6 w9 := (by repeat (first | assumption | exact Ext.refl _ | refine Ext.drew ?_ | refine Ext.alloc ?_ _ | refine Ext.trans ?_ (by assumption)))
          have g5 := (hO6.ext hE69).hC bb hbm
          have g6 := (hO6.ext hE69).hTT k bb hkn hbm
          have htb2 := ho.vT k bb hkn hbm
          obtain ⟨cb, hcb⟩ : ∃ t, o.C bb = t := ⟨_, rfl⟩
          rw [hcb] at g5 hCb hAf
          have hwf : IntKind.i64.wrap ((c : Int) + cb) = (c : Int) + cb := IntWalk.i64_in _ (by omega)
          clear hcb g3 g4
          by_cases hfar : (c : Int) + cb ≤ 20
          · skip
            refine Wp.skip ?_
            refine thenK_normal ?_
            refine Wp.seq ?_
            refine Wp.seqRegion (.inl rfl) (by kernel_rfl) fun K' gd hK hg => ?_
            clear hg
            go_simp
            refine hK _ _ ?_
            clear hK K' gd
            refine Wp.keep [3, 7, 8, 9, 10, 13, 179] fun r30 hkeep => ?_
            obtain ⟨e3_30, e7_30, e8_30, e9_30, e10_30, e13_30, e179_30, -⟩ := hkeep
            simp [go_sem, e3_29, e7_29, e8_29, e9_29, e10_29, e13_29, e16_29, e149_29] at e3_30 e7_30 e8_30 e9_30 e10_30 e13_30 e179_30
            clear e3_29 e7_29 e8_29 e9_29 e10_29 e13_29 e16_29 e149_29
            refine Wp.condT (by go_simp) ?_
            obtain ⟨-, hAf⟩ := hAf
            obtain ⟨AV2, hAV2⟩ : ∃ t, alikeV o k (c + cb.toNat) = t := ⟨_, rfl⟩
            rw [hAV2] at hAf
            have hAV2' : ∃ _u : Unit, alikeV o k (c + cb.toNat) = AV2 := ⟨(), hAV2⟩
            clear hAV2
            refine Wp.seqDraw (.inl rfl) mixed [([0, 1, 2, 3, 4], none), ([5, 6, 7, 8], some (9, false)), ([10, 11, 12, 13, 14], none)] (by kernel_rfl) fun K' gd hK hg => ?_
            clear hg
            simp only [pick, nth, List.map_cons, List.map_nil, Option.map_none, Option.map_some]
            apply Mops.none
            · intro w' hE'
              have hC' := hE'.cellsS
              go_simp
              with_reducible rfl
            apply Mops.act
            · intro w' hE'
              have hC' := hE'.cellsS
              go_simp
              with_reducible rfl
            intro K1 hK1
            go_simp
            refine Wcall (.inl rfl) (Alike_g _ o k ((c : Int) + cb) (c + cb.toNat) _ (hV9.ext (by repeat (first | assumption | exact Ext.refl _ | refine Ext.drew ?_ | refine Ext.alloc ?_ _ | refine Ext.trans ?_ (by assumption)))) hg hkn (by omega) (by omega)) ?_
            rintro v w10 ⟨rfl, hE10⟩
            obtain ⟨-, hAV2⟩ := hAV2'
            rw [hAV2]
            clear hAV2
            have u2 := hE10.cell u2
            go_simp
            refine hK1 _ _ (by first | assumption | exact Ext.refl _) ?_
            clear hK1 K1
            apply Mops.none
            · intro w' hE'
              have hC' := hE'.cellsS
              go_simp
              with_reducible rfl
            refine Mops.done ?_
            refine hK _ _ ?_
            clear hK K' gd
            refine Wp.keep [9, 10, 13, 20, 21] fun r31 hkeep => ?_
            obtain ⟨e9_31, e10_31, e13_31, e20_31, e21_31, -⟩ := hkeep
            simp [go_sem, e3_30, e7_30, e8_30, e9_30, e10_30, e13_30, e179_30] at e9_31 e10_31 e13_31 e20_31 e21_31
            clear e3_30 e7_30 e8_30 e9_30 e10_30 e13_30 e179_30
            obtain ⟨-, htb⟩ := htb'
            rw [htb] at g6
            clear htb
            have g7 := hE10.cell g6
            have hwz : IntKind.i64.wrap (AV + tb) = AV + tb := IntWalk.i64_in _ (by omega)
            have hl3 : ¬ AV2 < AV + tb := by omega
            refine Wp.seqRegion (.inl rfl) (by kernel_rfl) fun K' gd hK hg => ?_
            have g2 : gd 2 = some 195 := hg 2
            clear hg
            go_simp
            refine hK _ _ ?_
            clear hK K' gd g2
            refine Wp.keep [205] fun r32 hkeep => ?_
            obtain ⟨e205_32, -⟩ := hkeep
            simp [go_sem, e9_31, e10_31, e13_31, e20_31, e21_31] at e205_32
            clear e9_31 e10_31 e13_31 e20_31 e21_31
            refine Wp.condF (by go_simp) ?_
            refine Wp.skip ?_
            refine thenK_normal ?_
            refine Wp.seqRegion (.inl rfl) (by kernel_rfl) fun K' gd hK hg => ?_
            clear hg
            go_simp
            refine Wcall (.inl rfl) (sanity_c _) ?_
            rintro v w11 ⟨rfl, hE11⟩
            go_simp
            refine hK _ _ ?_
            clear hK K' gd
            refine Wp.keep [6] fun r33 hkeep => ?_
            obtain ⟨e6_33, -⟩ := hkeep
            simp [go_sem, e205_32] at e6_33
            clear e205_32
            refine Wp.ret ?_
            refine endK_tmp Try.results5 (by decide) ?_
            rw [e6_33]
            exact ⟨rfl, (by repeat (first | assumption | exact Ext.refl _ | refine Ext.drew ?_ | refine Ext.alloc ?_ _ | refine Ext.trans ?_ (by assumption)))⟩
          · skip
            refine Wp.skip ?_
            refine thenK_normal ?_
            refine Wp.seq ?_
            refine Wp.seqRegion (.inl rfl) (by kernel_rfl) fun K' gd hK hg => ?_
            clear hg
            go_simp
            refine hK _ _ ?_
            clear hK K' gd
            refine Wp.keep [3, 7, 8, 9, 10, 13, 179] fun r34 hkeep => ?_
            obtain ⟨e3_34, e7_34, e8_34, e9_34, e10_34, e13_34, e179_34, -⟩ := hkeep
            simp [go_sem, e3_29, e7_29, e8_29, e9_29, e10_29, e13_29, e16_29, e149_29] at e3_34 e7_34 e8_34 e9_34 e10_34 e13_34 e179_34
            clear e3_29 e7_29 e8_29 e9_29 e10_29 e13_29 e16_29 e149_29
            refine Wp.condF (by go_simp) ?_
            refine Wp.skip ?_
            refine thenK_normal ?_
            refine Wp.seqRegion (.inl rfl) (by kernel_rfl) fun K' gd hK hg => ?_
            clear hg
            go_simp
            refine Wcall (.inl rfl) (sanity_c _) ?_
            rintro v w11 ⟨rfl, hE11⟩
            go_simp
            refine hK _ _ ?_
            clear hK K' gd
            refine Wp.keep [6] fun r35 hkeep => ?_
            obtain ⟨e6_35, -⟩ := hkeep
            simp [go_sem, e3_34, e7_34, e8_34, e9_34, e10_34, e13_34, e179_34] at e6_35
            clear e3_34 e7_34 e8_34 e9_34 e10_34 e13_34 e179_34
            refine Wp.ret ?_
            refine endK_tmp Try.results5 (by decide) ?_
            rw [e6_35]
            exact ⟨rfl, (by repeat (first | assumption | exact Ext.refl _ | refine Ext.drew ?_ | refine Ext.alloc ?_ _ | refine Ext.trans ?_ (by assumption)))⟩
  · skip
    refine Wp.seqRegion (.inl rfl) (by kernel_rfl) fun K' gd hK hg => ?_
    clear hg
    go_simp
    refine hK _ _ ?_
    clear hK K' gd
    refine Wp.keep [1, 2, 3] fun r36 hkeep => ?_
    obtain ⟨e1_36, e2_36, e3_36, -⟩ := hkeep
    simp [go_sem, e0_1, e1_1, e2_1] at e1_36 e2_36 e3_36
    clear e0_1 e1_1 e2_1
    refine Wp.seq ?_
    refine Wp.seqRegion (.inl rfl) (by kernel_rfl) fun K' gd hK hg => ?_
    clear hg
    go_simp
    refine Wcall (.inl rfl) (small_F hs _ (hV.ext (by repeat (first | assumption | exact Ext.refl _ | refine Ext.drew ?_ | refine Ext.alloc ?_ _ | refine Ext.trans ?_ (by assumption)))) hf) ?_
    rintro v w2 ⟨rfl, hE⟩
    go_simp
    refine hK _ _ ?_
    clear hK K' gd
    refine Wp.keep [1, 2, 3, 24] fun r37 hkeep => ?_
    obtain ⟨e1_37, e2_37, e3_37, e24_37, -⟩ := hkeep
    simp [go_sem, e1_36, e2_36, e3_36] at e1_37 e2_37 e3_37 e24_37
    clear e1_36 e2_36 e3_36
    refine Wp.condT (by go_simp) ?_
    refine Wp.seqRegion (.inl rfl) (by kernel_rfl) fun K' gd hK hg => ?_
    clear hg
    go_simp
    refine Wcall (.inl rfl) (sanity_c _) ?_
    rintro v w3 ⟨rfl, hE3⟩
    go_simp
    refine hK _ _ ?_
    clear hK K' gd
    refine Wp.keep [6] fun r38 hkeep => ?_
    obtain ⟨e6_38, -⟩ := hkeep
    simp [go_sem, e1_37, e2_37, e3_37, e24_37] at e6_38
    clear e1_37 e2_37 e3_37 e24_37
    refine Wp.ret ?_
    refine thenK_ret ?_
    refine endK_tmp Try.results5 (by decide) ?_
    rw [e6_38]
    exact ⟨rfl, (by repeat (first | assumption | exact Ext.refl _ | refine Ext.drew ?_ | refine Ext.alloc ?_ _ | refine Ext.trans ?_ (by assumption)))⟩
end Go.Proofs.Ytnfagcccgmakdaa
namespace Go.Proofs.Ytnfagcccgmakdaa
open Go.ChangeShapes Go.WideShapes Go.RowKit Go.Wk Go.Proofs

theorem own : ownKnob Try.prog.godebug = none := by kernel_rfl
theorem laidOut : laidOutB Try.prog = true := by kernel_rfl
set_option maxRecDepth 100000 in
theorem orderPacked_lifted (os : Os) (started : os.Started) (H : Type) (enc : TypeId × Value → H) :
    ReturnsInHanded {} Try.checked os 5 .any (Rows.orderPackedSpec.pre6 enc Try.prog Try.f5 Rows.orderPackedRow.domain false) (Rows.orderPackedSpec.post enc Try.prog Try.f5 false true false false) := by
  refine returnsInHanded_of_change_sized (C := Try.checked) own started (by kernel_rfl) Try.func5
    (ChangeSpec.witness6 (enc := enc) (C := Try.checked) false ⟨#[], #[.agg #[.slice none 0 0, .slice none 0 0], .int .u8 0, .int .u8 0], []⟩ 8 (by kernel_rfl) (by kernel_rfl) (by kernel_rfl) (by kernel_rfl)) ?_
  intro W base args ds gs before hval0 hW0 _ hsz0 _
  have hval : ∀ (j : Nat) t v, Try.f5.params[j]? = some t → args[j]? = some v → Value.okWide Try.prog W .any base t v := hval0
  have hW : DataW.Whole enc Try.prog Try.f5.params.toList [] false W args.toList ds gs before := hW0
  have hsz : (DataW.weightsEach Try.prog (Try.f5.params.toList ++ []) (ds ++ gs)).all (· ≤ reachBytes) = true := hsz0
  clear hval0 hsz0
  obtain ⟨p, q, hA, hV, -, -, -⟩ := hW
  obtain ⟨rfl, -⟩ := trodVars_none hV
  rw [List.append_nil, List.append_nil] at hsz
  rw [Try.params5] at hA hsz hval
  obtain ⟨hlen, hR⟩ := Rd.of_args hA hsz
  obtain ⟨v0, v1, v2, d0, d1, d2, p0, p1, p2, rfl, rfl, -, -, -, -⟩ := trodAll_three hA
  have r0 := hR 0 _ v0 rfl rfl
  have r1 := hR 1 _ v1 rfl rfl
  have r2 := hR 2 _ v2 rfl rfl
  obtain ⟨cs0, rfl, -⟩ := okWide_struct Try.underlying25 (hval 0 _ v0 rfl rfl)
  obtain ⟨m1, rfl⟩ := okWide_int Try.underlying5 (hval 1 _ v1 rfl rfl)
  obtain ⟨m2, rfl⟩ := okWide_int Try.underlying5 (hval 2 _ v2 rfl rfl)
  obtain ⟨x0, h0, f0⟩ := openO ⟨cs0, rfl⟩ r0
  obtain ⟨x1, hm1, f1⟩ := r1.int Try.underlying5
  have e1 : x1 = m1 := by
    have e : [Value.int .u8 m1] = [Value.int .u8 x1] := hm1
    injection e with e _
    injection e with _ e
    exact e.symm
  subst e1
  obtain ⟨x2, hm2, f2⟩ := r2.int Try.underlying5
  have e2 : x2 = m2 := by
    have e : [Value.int .u8 m2] = [Value.int .u8 x2] := hm2
    injection e with e _
    injection e with _ e
    exact e.symm
  subst e2
  refine (packed_law _ x0 x1 x2 W h0 f0 (Go.bounds_u8 f1) (Go.bounds_u8 f2)).calls.mono fun e W' ⟨v, he, hv, hE⟩ => ?_
  subst he; subst hv
  exact ⟨_, rfl, law_post hW0 laidOut rfl (by rw [Try.params5]; intro t ht; simp at ht; rcases ht with rfl | rfl | rfl <;> exact ⟨by kernel_rfl, of_decide_eq_true (by kernel_rfl)⟩) rfl Try.underlying4 rfl rfl rfl hE⟩
theorem orderPacked_holds : Rows.OrderPackedSaid :=
  OpenClaim.holds_of_wide 5 Try.f5 rfl rfl rfl rfl rfl rfl rfl ⟨rfl, rfl, rfl, rfl, rfl⟩ rfl rfl rfl rfl rfl (by kernel_rfl) Try.func5 (by kernel_rfl)
    (of_decide_eq_true (by kernel_rfl)) (by unfold Func.isWrapper; first | (rw [if_pos (by decide +kernel)]; kernel_rfl) | (rw [if_neg (by decide +kernel)]; exact ⟨rfl, rfl⟩))
    (fun os started H enc _ => orderPacked_lifted os started H enc)
#print axioms orderPacked_holds
end Go.Proofs.Ytnfagcccgmakdaa
