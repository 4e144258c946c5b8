/- The laws' own functions: small, wide, keeps. The functions at a right order. -/
import Derived.Test.YtnfagcccgmakdaaGreatP6
import Derived.Test.YtnfagcccgmakdaaGreatP1
set_option linter.all false
namespace Go.Proofs.YtnfagcccgmakdaaGreat
open Go.RowKit Go.Wk Go.Proofs
attribute [local irreducible] Go.Wk.Wops Go.Wk.Wp Go.Wk.Mtree Go.Wk.Mops
set_option maxHeartbeats 4000000
def SmallP (o : Ord) : Prop := o.cop.length ≤ 8 ∧ o.runs.length ≤ 10 ∧ 0 < o.runs.length ∧ checkS o = 0
instance (o : Ord) : Decidable (SmallP o) := inferInstanceAs (Decidable (_ ∧ _))
def WideP (o : Ord) (t : List (List Int)) : Prop := t.length = o.runs.length ∧ ∀ x ∈ t, x.length = o.cop.length
instance (o : Ord) (t : List (List Int)) : Decidable (WideP o t) := inferInstanceAs (Decidable (_ ∧ _))
structure TabG (w : World) (b ob : Nat) (rb ro rc : Nat → Nat) (n m : Nat) (t : Nat → Nat → Int) : Prop where
  row : ∀ i, i < n → w.cell? ⟨b, ob + i, none⟩ = some (.slice (some ⟨rb i, ro i, none⟩) m (rc i))
  cell : ∀ i j, i < n → j < m → w.cell? ⟨rb i, ro i + j, none⟩ = some (.int .i64 (t i j))
theorem TabG.ext {w w' : World} {b ob n m : Nat} {rb ro rc : Nat → Nat} {t : Nat → Nat → Int} (h : TabG w b ob rb ro rc n m t) (hE : Ext w w') : TabG w' b ob rb ro rc n m t :=
  ⟨fun i hi => hE.cell (h.row i hi), fun i j hi hj => hE.cell (h.cell i j hi hj)⟩
theorem tabG_of {w : World} {B : Nat} {v : Value} {o : Ord} {t : Nat → Nat → Int} (h : TabV w B v (tabL o t)) (hn : 0 < o.n) (hm : 0 < o.m) : ∃ b ob c rb ro rc, v = .slice (some ⟨b, ob, none⟩) o.n c ∧ TabG w b ob rb ro rc o.n o.m t := by
  obtain ⟨b, ob, c, -, -, -, rfl, -, -⟩ := tab_at h hn hm
  obtain ⟨f, hf⟩ := Go.Deep.choose_lt (α := Nat × Nat × Nat) (p := fun i z => w.cell? ⟨b, ob + i, none⟩ = some (.slice (some ⟨z.1, z.2.1, none⟩) o.m z.2.2) ∧ ∀ j, j < o.m → w.cell? ⟨z.1, z.2.1 + j, none⟩ = some (.int .i64 (t i j))) fun i hi => by
    obtain ⟨b', ob', c', b2, o2, c2, hv, h1, h2⟩ := tab_at h hi hm
    injection hv with e1 e2 e3
    injection e1 with e1
    injection e1 with e1 e4
    subst e1; subst e4; refine ⟨(b2, o2, c2), h1, fun j hj => ?_⟩; obtain ⟨b', ob', c', b3, o3, c3, hv, h3, h4⟩ := tab_at h hi hj
    injection hv with e1 e2 e3
    injection e1 with e1
    injection e1 with e1 e4
    subst e1; subst e4; rw [h1] at h3
    injection h3 with h3
    injection h3 with e1 e2 e3
    injection e1 with e1
    injection e1 with e1 e4
    subst e1; subst e4; exact h4
  exact ⟨b, ob, c, fun i => (f i).1, fun i => (f i).2.1, fun i => (f i).2.2, rfl, fun i hi => (hf i hi).1, fun i j hi hj => (hf i hi).2 j hj⟩
end Go.Proofs.YtnfagcccgmakdaaGreat
namespace Go.Proofs.YtnfagcccgmakdaaGreat
open Go.RowKit Go.Wk Go.Proofs
theorem SmallP.n {o : Ord} (h : SmallP o) : 0 < o.n ∧ o.n ≤ 10 := ⟨h.2.2.1, h.2.1⟩
theorem SmallP.m {o : Ord} (h : SmallP o) : o.m ≤ 8 := h.1
def TabH (w : World) (v : Value) (o : Ord) (t : Nat → Nat → Int) : Prop := TabV w w.heap.size v (tabL o t) ∧ ∃ b ob c rb ro rc, v = .slice (some ⟨b, ob, none⟩) o.n c ∧ TabG w b ob rb ro rc o.n o.m t
theorem TabH.of {w : World} {v : Value} {o : Ord} {t : Nat → Nat → Int} (h : TabV w w.heap.size v (tabL o t)) (hn : 0 < o.n) (hm : 0 < o.m) : TabH w v o t := ⟨h, tabG_of h hn hm⟩
theorem TabH.ext {w w' : World} {v : Value} {o : Ord} {t : Nat → Nat → Int} (h : TabH w v o t) (hE : Ext w w') : TabH w' v o t := by
  obtain ⟨h1, b, ob, c, rb, ro, rc, rfl, h2⟩ := h; exact ⟨h1.ext hE, b, ob, c, rb, ro, rc, rfl, h2.ext hE⟩
end Go.Proofs.YtnfagcccgmakdaaGreat
