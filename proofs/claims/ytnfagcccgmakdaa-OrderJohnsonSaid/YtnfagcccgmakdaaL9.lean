/- Swap. Without: slices.Delete on a copied order. Merge. Beginnings of merged orders. Johnson's order is best: the plain law. Small numbers: lists of bytes, and of pairs of bytes. OrderJohnson: its orders. OrderJohnson. For every input, in whatever memory: OrderJohnson returns true, and its arguments read as before. No condition. -/
import Derived.Test.YtnfagcccgmakdaaP1
import Derived.Test.YtnfagcccgmakdaaP4
import Derived.Lib.SliceRun
import Derived.Test.YtnfagcccgmakdaaP6
import Derived.OpenShut
import Derived.Test.YtnfagcccgmakdaaP7
import Derived.Test.YtnfagcccgmakdaaRows
import Derived.ProofKit
import Derived.JoinedOf
set_option linter.all false
namespace Go.Wk
open Go.RowKit
set_option linter.unusedVariables false
structure Chg (L : List Nat) (w V : World) : Prop where
  os : V.os = w.os
  tape : V.tape = w.tape
  output : V.output = w.output
  size : w.heap.size ≤ V.heap.size
  block : ∀ k, k < w.heap.size → k ∉ L → V.heap[k]? = w.heap[k]?
theorem Chg.refl (L : List Nat) (w : World) : Chg L w w := ⟨rfl, rfl, rfl, Nat.le_refl _, fun _ _ _ => rfl⟩
theorem Chg.ext {L : List Nat} {w V V' : World} (h : Chg L w V) (hE : Ext V V') : Chg L w V' :=
  ⟨hE.os.trans h.os, hE.tape.trans h.tape, hE.output.trans h.output, Nat.le_trans h.size hE.size, fun k hk hn => (hE.block k (Nat.lt_of_lt_of_le hk h.size)).trans (h.block k hk hn)⟩
theorem Chg.drew {L : List Nat} {w V : World} (h : Chg L w V) : Chg L w V.drew := h.ext (Ext.refl V).drew
theorem Chg.alloc {L : List Nat} {w V : World} (h : Chg L w V) (o : Obj) : Chg L w (V.alloc o) := h.ext ((Ext.refl V).alloc o)
theorem Chg.setC {L : List Nat} {w V : World} (h : Chg L w V) {b k : Nat} {v : Value} (hb : b ∈ L) : Chg L w (V.setCell ⟨b, k, Option.none⟩ v) :=
  ⟨h.os, h.tape, h.output, by simpa using h.size, fun i hi hn => (Below.heap_setCell _ _ _ _ (fun e => hn (by rw [e]; exact hb))).trans (h.block i hi hn)⟩
theorem Chg.lt {w : World} {a : Addr} {v : Value} (h : w.cell? a = some v) : a.block < w.heap.size := cell_lt h
theorem Chg.cell {L : List Nat} {w V : World} (h : Chg L w V) {b i : Nat} {v : Value} (c : w.cell? ⟨b, i, none⟩ = some v) (hb : b ∉ L) : V.cell? ⟨b, i, none⟩ = some v :=
  (World.cell?_of_block (a := ⟨b, i, none⟩) (h.block b (cell_lt c) hb)).trans c
theorem Chg.fz {L : List Nat} {w V : World} (h : Chg L w V) {b i : Nat} {v : Value} (c : w.cell? ⟨b, i, none⟩ = some v) (f : ∀ k, w.frozen? ⟨b, k, none⟩ = false) (hb : b ∉ L) : ∀ k, V.frozen? ⟨b, k, none⟩ = false := fun k =>
  (World.frozen?_of_block (a := ⟨b, k, none⟩) (h.block b (cell_lt c) hb)).trans (f k)
theorem Chg.to {L : List Nat} {X w V : World} (x : Ext X w) (h : Chg L w V) (hL : ∀ b ∈ L, X.heap.size ≤ b) : Ext X V :=
  ⟨h.os.trans x.os, h.tape.trans x.tape, h.output.trans x.output, Nat.le_trans x.size h.size, fun k hk => (h.block k (Nat.lt_of_lt_of_le hk x.size) (fun hm => by have := hL k hm; omega)).trans (x.block k hk)⟩
theorem Chg.more {L L' : List Nat} {X w V : World} (x : Chg L' X w) (h : Chg L w V) (hL : ∀ b ∈ L, X.heap.size ≤ b ∨ b ∈ L') : Chg L' X V :=
  ⟨h.os.trans x.os, h.tape.trans x.tape, h.output.trans x.output, Nat.le_trans x.size h.size, fun k hk hn => (h.block k (Nat.lt_of_lt_of_le hk x.size) (fun hm => by rcases hL k hm with h1 | h1; omega; exact hn h1)).trans (x.block k hk hn)⟩
theorem Ext.fz {w V : World} (h : Ext w V) {b i : Nat} {v : Value} (c : w.cell? ⟨b, i, none⟩ = some v) (f : ∀ k, w.frozen? ⟨b, k, none⟩ = false) : ∀ k, V.frozen? ⟨b, k, none⟩ = false := fun k =>
  (World.frozen?_of_block (a := ⟨b, k, none⟩) (Below.block h b (cell_lt c))).trans (f k)
def nthV : List Value → Nat → Option Value
  | [], _ => none
  | v :: _, 0 => some v
  | _ :: l, i + 1 => nthV l i
theorem nthV_eq : ∀ (l : List Value) (i : Nat), nthV l i = l[i]?
  | [], i => by simp [nthV]
  | v :: l, 0 => rfl
  | v :: l, i + 1 => by rw [nthV, nthV_eq l i]; simp
theorem _root_.Go.World.ownsRow.ext {w w' : World} {base e size n : Nat} {v : Value} {xs : List Value} (h : w.ownsRow base e size v n xs) (hE : Ext w w') : w'.ownsRow base e size v n xs := by
  refine ⟨h.1, ?_⟩
  rcases h.2 with hn | ⟨g, cap, cur, rfl, hb, hg, rest⟩
  · exact .inl hn
  · exact .inr ⟨g, cap, cur, rfl, hb, (Below.block hE g (Array.getElem?_eq_some_iff.1 hg).1).trans hg, rest⟩
def RowC (w : World) (b : Nat) (e : TypeId) (cs : List Value) : Prop := w.heap[b]? = some (.cells cs.toArray e (0, 0))
theorem RowC.lt {w : World} {b : Nat} {e : TypeId} {cs : List Value} (h : RowC w b e cs) : b < w.heap.size := (Array.getElem?_eq_some_iff.1 h).1
theorem RowC.ext {w w' : World} {b : Nat} {e : TypeId} {cs : List Value} (h : RowC w b e cs) (hE : Ext w w') : RowC w' b e cs := (Below.block hE b h.lt).trans h
theorem RowC.cell {w : World} {b : Nat} {e : TypeId} {cs : List Value} (h : RowC w b e cs) (j : Nat) : w.cell? ⟨b, j, none⟩ = cs[j]? := by
  have := cell_of_row w b j cs.toArray e (0, 0) h
  simpa using this
theorem RowC.frozen {w : World} {b : Nat} {e : TypeId} {cs : List Value} (h : RowC w b e cs) (j : Nat) : w.frozen? ⟨b, j, none⟩ = false := by
  unfold World.frozen?; rw [h]; simp
theorem RowC.own {w : World} {b : Nat} {e : TypeId} {cs : List Value} (h : RowC w b e cs) {base size k c : Nat} (hb : base ≤ b) (hk : k ≤ c) (hc : c ≤ maxLen) (hl : cs.length = c * size) :
    w.ownsRow base e size (.slice (some ⟨b, 0, none⟩) k c) k (cs.take (k * size)) :=
  ⟨by have := Nat.mul_le_mul_right size hk; rw [List.length_take]; omega, .inr ⟨b, c, cs.toArray, rfl, hb, h, hk, hc, by simpa using hl, by simp⟩⟩
def setL (w : World) (b i : Nat) : List Value → World
  | [] => w
  | v :: vs => setL (w.setCell ⟨b, i, none⟩ v) b (i + 1) vs
theorem setL_size (b : Nat) : ∀ (vs : List Value) (w : World) (i : Nat), (setL w b i vs).heap.size = w.heap.size
  | [], _, _ => rfl
  | v :: vs, w, i => by rw [setL, setL_size b vs]; simp
theorem setL_heap (b : Nat) : ∀ (vs : List Value) (w : World) (i k : Nat), k ≠ b → (setL w b i vs).heap[k]? = w.heap[k]?
  | [], _, _, _, _ => rfl
  | v :: vs, w, i, k, h => by rw [setL, setL_heap b vs _ _ k h]; exact Below.heap_setCell _ _ _ _ h
theorem setL_frozen (b : Nat) : ∀ (vs : List Value) (w : World) (i : Nat) (a : Addr), (setL w b i vs).frozen? a = w.frozen? a
  | [], _, _, _ => rfl
  | v :: vs, w, i, a => by rw [setL, setL_frozen b vs]; exact World.frozen?_setCell ..
theorem setL_off (b : Nat) : ∀ (vs : List Value) (w : World) (i j : Nat), j < i ∨ i + vs.length ≤ j → (setL w b i vs).cell? ⟨b, j, none⟩ = w.cell? ⟨b, j, none⟩
  | [], _, _, _, _ => rfl
  | v :: vs, w, i, j, h => by
    rw [setL, setL_off b vs _ _ _ (by simp at h; omega)]; exact World.cell?_setCell_other _ _ _ _ (by intro e; injection e with _ e; simp at h; omega)
theorem setL_on (b : Nat) : ∀ (vs : List Value) (w : World) (i : Nat), (∀ j, j < vs.length → (w.cell? ⟨b, i + j, none⟩).isSome = true) → ∀ j v, vs[j]? = some v → (setL w b i vs).cell? ⟨b, i + j, none⟩ = some v
  | [], _, _, _, j, v, h => by simp at h
  | u :: vs, w, i, hs, j, v, h => by
    have h0 := hs 0 (by simp); rw [setL]
    cases j with
    | zero =>
      simp at h; subst h; rw [Nat.add_zero, setL_off b vs _ _ _ (by omega)]; exact World.cell?_setCell_same' _ _ _ (by simpa using h0)
    | succ j =>
      have := setL_on b vs (w.setCell ⟨b, i, none⟩ u) (i + 1) (fun k hk => ?_) j v (by simpa using h)
      · rw [show i + (j + 1) = i + 1 + j by omega]; exact this
      · rw [World.cell?_setCell_other _ _ _ _ (by intro e; injection e with _ e; omega)]; have := hs (k + 1) (by simp; omega); rw [show i + 1 + k = i + (k + 1) by omega]; exact this
theorem setL_row (b : Nat) : ∀ (vs : List Value) (w : World) (i : Nat) (cs : Array Value) (t : TypeId), w.heap[b]? = some (.cells cs t (0, 0)) → ∃ cs', (setL w b i vs).heap[b]? = some (.cells cs' t (0, 0)) ∧ cs'.size = cs.size
  | [], _, _, cs, _, h => ⟨cs, h, rfl⟩
  | v :: vs, w, i, cs, t, h => by
    have h1 : ∃ cs1, (w.setCell ⟨b, i, none⟩ v).heap[b]? = some (.cells cs1 t (0, 0)) ∧ cs1.size = cs.size := ⟨_, heap_setCell_same w b i cs t v h, by simp⟩; obtain ⟨cs1, h1, e1⟩ := h1; obtain ⟨cs', h2, e2⟩ := setL_row b vs _ (i + 1) cs1 t h1; exact ⟨cs', h2, e2.trans e1⟩
structure Put (w V : World) (b i : Nat) (vs : List Value) : Prop where
  chg : Chg [b] w V
  same : V.heap.size ≤ w.heap.size ∧ w.heap.size ≤ V.heap.size
  new : ∀ j v, nthV vs j = some v → V.cell? ⟨b, i + j, none⟩ = some v
  old : ∀ j, j < i ∨ i + vs.length ≤ j → V.cell? ⟨b, j, none⟩ = w.cell? ⟨b, j, none⟩
  fz : ∀ a, V.frozen? a = w.frozen? a
  row : ∀ cs t, w.heap[b]? = some (.cells cs t (0, 0)) → ∃ cs', V.heap[b]? = some (.cells cs' t (0, 0)) ∧ cs'.size = cs.size
  eq : V = setL w b i vs
theorem setL_put {w : World} {b i : Nat} {vs : List Value} (hs : ∀ j, j < vs.length → (w.cell? ⟨b, i + j, none⟩).isSome = true) : Put w (setL w b i vs) b i vs := by
  have hos : ∀ (vs : List Value) (w : World) (i : Nat), (setL w b i vs).os = w.os ∧ (setL w b i vs).tape = w.tape ∧ (setL w b i vs).output = w.output := by
    intro vs
    induction vs with
    | nil => exact fun _ _ => ⟨rfl, rfl, rfl⟩
    | cons v vs ih => exact fun w i => ih _ _
  exact ⟨⟨(hos vs w i).1, (hos vs w i).2.1, (hos vs w i).2.2, by rw [setL_size]; exact Nat.le_refl _, fun k _ hk => setL_heap b vs w i k (by simpa using hk)⟩, ⟨by rw [setL_size]; exact Nat.le_refl _, by rw [setL_size]; exact Nat.le_refl _⟩, fun j v h => setL_on b vs w i hs j v (by rw [← nthV_eq]; exact h), fun j hj => setL_off b vs w i j hj, fun a => setL_frozen b vs w i a, fun cs t h => setL_row b vs w i cs t h, rfl⟩
theorem Put.cell {w V : World} {b i : Nat} {vs : List Value} (h : Put w V b i vs) {k j : Nat} {v : Value} (c : w.cell? ⟨k, j, none⟩ = some v) (hk : k ≠ b) : V.cell? ⟨k, j, none⟩ = some v := h.chg.cell c (by simpa using hk)
theorem Put.cellOff {w V : World} {b i : Nat} {vs : List Value} (h : Put w V b i vs) {j : Nat} {v : Value} (c : w.cell? ⟨b, j, none⟩ = some v) (hk : j < i ∨ i + vs.length ≤ j) : V.cell? ⟨b, j, none⟩ = some v := (h.old j hk).trans c
theorem Put.frz {w V : World} {b i : Nat} {vs : List Value} (h : Put w V b i vs) {k : Nat} (f : ∀ j, w.frozen? ⟨k, j, none⟩ = false) : ∀ j, V.frozen? ⟨k, j, none⟩ = false := fun j => (h.fz _).trans (f j)
theorem Put.to {X w V : World} {b i : Nat} {vs : List Value} (x : Ext X w) (h : Put w V b i vs) (hb : X.heap.size ≤ b) : Ext X V := Chg.to x h.chg (by simpa using hb)
theorem Put.more {L : List Nat} {X w V : World} {b i : Nat} {vs : List Value} (x : Chg L X w) (h : Put w V b i vs) (hb : X.heap.size ≤ b ∨ b ∈ L) : Chg L X V := Chg.more x h.chg (by simpa using hb)
structure New (w V : World) (n : Nat) (cs : Array Value) : Prop where
  at_ : w.heap.size = n
  ext : Ext w V
  size : V.heap.size ≤ n + 1 ∧ n + 1 ≤ V.heap.size
  cell : ∀ i v, nthV cs.toList i = some v → V.cell? ⟨n, i, none⟩ = some v
  fz : ∀ i, V.frozen? ⟨n, i, none⟩ = false
  row : ∃ t, V.heap[n]? = some (.cells cs t (0, 0))
theorem new_alloc (w : World) (cs : Array Value) (t : TypeId) : New w (w.alloc (.cells cs t)) w.heap.size cs :=
  ⟨rfl, (Ext.refl _).alloc _, ⟨by simp, by simp⟩, fun i v h => by rw [cell_nw]; rw [nthV_eq] at h; simpa using h, fun i => frozen_nw .., t, World.alloc_heap_new w _⟩
theorem Put.some_off {w V : World} {b i k n : Nat} {vs : List Value} (p : Put w V b i vs) (h : ∀ j, j < n → (w.cell? ⟨b, k + j, none⟩).isSome = true) (ho : k + n ≤ i ∨ i + vs.length ≤ k) : ∀ j, j < n → (V.cell? ⟨b, k + j, none⟩).isSome = true := fun j hj => by
  rw [p.old _ (by omega)]; exact h j hj
theorem _root_.Go.World.ownsRow.put {w V : World} {base e size n b i : Nat} {v : Value} {xs vs : List Value} (h : w.ownsRow base e size v n xs) (p : Put w V b i vs) (hb : b < base) : V.ownsRow base e size v n xs := by
  refine ⟨h.1, ?_⟩
  rcases h.2 with hn | ⟨g, cap, cur, rfl, hg0, hg, rest⟩
  · exact .inl hn
  · exact .inr ⟨g, cap, cur, rfl, hg0, (p.chg.block g (Array.getElem?_eq_some_iff.1 hg).1 (by simp; omega)).trans hg, rest⟩
section
variable {F : Fence} {P : Program} {N : Nat} {gd : Nat → Option Nat} {K : (Nat → Value) → World → Prop} {ρ : Nat → Value} {w : World}
theorem Wops.absA {L : List Oper} {cs : Array Value} {t : TypeId} (h : ∀ V n, New w V n cs → Wops F P N gd K L ρ V) : Wops F P N gd K L ρ (w.alloc (.cells cs t)) := h _ _ (new_alloc w cs t)
theorem Mops.absA {S : List (List Oper × Option (Oper × Bool))} {cs : Array Value} {t : TypeId} (h : ∀ V n, New w V n cs → Mops F P N gd K S ρ V) : Mops F P N gd K S ρ (w.alloc (.cells cs t)) := h _ _ (new_alloc w cs t)
theorem Mops.absD {S : List (List Oper × Option (Oper × Bool))} (h : ∀ V, Ext w V → (V.heap.size ≤ w.heap.size ∧ w.heap.size ≤ V.heap.size) → Mops F P N gd K S ρ V) : Mops F P N gd K S ρ w.drew := h _ (Ext.refl w).drew ⟨Nat.le_refl _, Nat.le_refl _⟩
theorem Wops.absS {L : List Oper} {b i : Nat} (vs : List Value) (hs : ∀ j, j < vs.length → (w.cell? ⟨b, i + j, none⟩).isSome = true) (h : ∀ V, Put w V b i vs → Wops F P N gd K L ρ V) : Wops F P N gd K L ρ (setL w b i vs) := h _ (setL_put hs)
theorem Mops.absS {S : List (List Oper × Option (Oper × Bool))} {b i : Nat} (vs : List Value) (hs : ∀ j, j < vs.length → (w.cell? ⟨b, i + j, Option.none⟩).isSome = true) (h : ∀ V, Put w V b i vs → Mops F P N gd K S ρ V) : Mops F P N gd K S ρ (setL w b i vs) := h _ (setL_put hs)
theorem Wp.absS {c : Code} {ds : List Deferred} {Q : Post} {b i : Nat} (vs : List Value) (hs : ∀ j, j < vs.length → (w.cell? ⟨b, i + j, none⟩).isSome = true) (h : ∀ V, Put w V b i vs → Wp F P N c Q ρ ds V) : Wp F P N c Q ρ ds (setL w b i vs) := h _ (setL_put hs)
end
theorem somes {w : World} {b i : Nat} {vs : List Value} (l : List Value) (hl : vs.length ≤ l.length) (h : ∀ j v, l[j]? = some v → w.cell? ⟨b, i + j, none⟩ = some v) : ∀ j, j < vs.length → (w.cell? ⟨b, i + j, none⟩).isSome = true := fun j hj => by
  rw [h j (l[j]'(by omega)) (List.getElem?_eq_getElem _)]; rfl
@[reducible] def cellVal {w : World} {a : Addr} {v : Value} (_ : w.cell? a = some v) : Value := v
theorem grown_chg {w w' : World} {row : Option Nat} (h : w.grownBy w' row) : Chg row.toList w w' :=
  ⟨h.os, h.tape, h.output, h.size, fun k hk hn => h.block k hk (fun e => hn (by rw [← e]; simp))⟩
theorem lt_off {row : Option Nat} {S T b : Nat} (LT : ∀ k, row = some k → S ≤ k ∧ k < T) (h : b < S ∨ T ≤ b) : b ∉ row.toList := fun hm => by
  have := LT b (by simpa using hm); omega
theorem lt_ge {row : Option Nat} {S T X : Nat} (LT : ∀ k, row = some k → S ≤ k ∧ k < T) (h : X ≤ S) : ∀ b ∈ row.toList, X ≤ b := fun b hm => by
  have := LT b (by simpa using hm); omega
theorem lt_gm {row : Option Nat} {S T X : Nat} {L : List Nat} (LT : ∀ k, row = some k → S ≤ k ∧ k < T) (h : X ≤ S) : ∀ b ∈ row.toList, X ≤ b ∨ b ∈ L := fun b hm => .inl (lt_ge LT h b hm)
end Go.Wk
namespace Go.Wk
open Go.RowKit
set_option linter.unusedVariables false
section
variable {P : Program} {N : Nat} {K : Post} {ρ : Nat → Value} {ds : List Deferred} {w : World}
end
end Go.Wk
namespace Go.Wk
open Go.RowKit
set_option linter.unusedVariables false
theorem Adm.fz {m : Nat} {W W' : World} (h : Adm m W W') {b i : Nat} {v : Value} (c : W.cell? ⟨b, i, none⟩ = some v) (f : ∀ k, W.frozen? ⟨b, k, none⟩ = false) : ∀ k, W'.frozen? ⟨b, k, none⟩ = false := fun k => by
  obtain ⟨o, ho, hc⟩ := cells_of_cell c; exact (World.frozen?_of_block (a := ⟨b, k, none⟩) ((h.block b o ho (.inr hc)).trans ho.symm)).trans (f k)
theorem Adm.chg {m : Nat} {L : List Nat} {X W W' : World} (h : Adm m W W') (x : Chg L X W) (hX : X.heap.size ≤ m) : Chg L X W' :=
  ⟨h.os.trans x.os, h.tape.trans x.tape, h.output.trans x.output, Nat.le_trans x.size h.size, fun k hk hn => by
    have hlt : k < W.heap.size := Nat.lt_of_lt_of_le hk x.size; have e : W.heap[k]? = some W.heap[k] := by simp [hlt]
    rw [h.block k W.heap[k] e (.inl (by omega)), ← x.block k hk hn, e]⟩
def IsC (W : World) (b : Nat) : Prop := ∃ o, W.heap[b]? = some o ∧ o.isCells = true
theorem IsC.of {W : World} {b i : Nat} {v : Value} (c : W.cell? ⟨b, i, none⟩ = some v) : IsC W b := by
  obtain ⟨o, ho, hc⟩ := cells_of_cell c; exact ⟨o, ho, hc⟩
theorem RowC.put {w V : World} {b i k : Nat} {e : TypeId} {cs vs : List Value} (h : RowC w k e cs) (p : Put w V b i vs) (hb : k ≠ b) : RowC V k e cs :=
  (p.chg.block k h.lt (by simpa using hb)).trans h
theorem RowC.chg {w V : World} {L : List Nat} {k : Nat} {e : TypeId} {cs : List Value} (h : RowC w k e cs) (p : Chg L w V) (hb : k ∉ L) : RowC V k e cs := (p.block k h.lt hb).trans h
end Go.Wk
namespace Go.Wk
open Go.RowKit
set_option linter.unusedVariables false
section
variable {F : Fence} {P : Program} {N : Nat} {gd : Nat → Option Nat} {K : (Nat → Value) → World → Prop} {ρ : Nat → Value} {w : World}
theorem Wops.absT {L : List Oper} {cs : Array Value} {t : TypeId} (h : ∀ V n, New w V n cs → V.heap[n]? = some (.cells cs t (0, 0)) → Wops F P N gd K L ρ V) : Wops F P N gd K L ρ (w.alloc (.cells cs t)) := h _ _ (new_alloc w cs t) (World.alloc_heap_new w _)
theorem Mops.absT {S : List (List Oper × Option (Oper × Bool))} {cs : Array Value} {t : TypeId} (h : ∀ V n, New w V n cs → V.heap[n]? = some (.cells cs t (0, 0)) → Mops F P N gd K S ρ V) : Mops F P N gd K S ρ (w.alloc (.cells cs t)) := h _ _ (new_alloc w cs t) (World.alloc_heap_new w _)
end
end Go.Wk
namespace Go.Proofs.Ytnfagcccgmakdaa
open Go.RowKit Go.Wk Go.Proofs
attribute [local irreducible] Go.Wk.Wops Go.Wk.Wp Go.Wk.Mtree Go.Wk.Mops
set_option maxHeartbeats 4000000
theorem RowB.put {w V : World} {b i n k : Nat} {e : TypeId} {vs : List Value} (h : RowB w k e n) (p : Put w V b i vs) : RowB V k e n := by
  obtain ⟨cs, h1, h2⟩ := h
  by_cases hk : k = b
  · subst hk; obtain ⟨cs', h3, h4⟩ := p.row cs e h1; exact ⟨cs', h3, h4.trans h2⟩
  · exact ⟨cs, (p.chg.block k (Array.getElem?_eq_some_iff.1 h1).1 (by simpa using hk)).trans h1, h2⟩
def sw (n i : Nat) : Nat := if i = n then n + 1 else if i = n + 1 then n else i
theorem sw_lt {n i N : Nat} (h : n + 1 < N) : sw n i < N ↔ i < N := by
  unfold sw; split
  · omega
  · split <;> omega
theorem sw_sw (n i : Nat) : sw n (sw n i) = i := by
  unfold sw
  by_cases h1 : i = n
  · subst h1; simp
  · by_cases h2 : i = n + 1
    · subst h2; simp
    · simp [h1, h2]
def Ord.swap (o : Ord) (n : Nat) : Ord := { o with runs := (o.runs.set n (o.runs[n + 1]?.getD default)).set (n + 1) (o.runs[n]?.getD default) }
section
variable {o : Ord} {n : Nat}
theorem swap_n : (o.swap n).n = o.n := by simp [Ord.swap, Ord.n]
theorem swap_get (h : n + 1 < o.n) (i : Nat) : (o.swap n).runs[i]? = o.runs[sw n i]? := by
  have h' : n + 1 < o.runs.length := h; unfold Ord.swap sw
  dsimp only
  rw [List.getElem?_set, List.getElem?_set]
  by_cases h2 : i = n + 1
  · subst h2; rw [if_pos rfl, if_pos (by rw [List.length_set]; exact h'), if_neg (by omega), if_pos rfl, List.getElem?_eq_getElem (show n < o.runs.length by omega)]; rfl
  · rw [if_neg (Ne.symm h2)]
    by_cases h1 : i = n
    · subst h1; rw [if_pos rfl, if_pos rfl, if_pos (show i < o.runs.length by omega), List.getElem?_eq_getElem h']; rfl
    · rw [if_neg (Ne.symm h1), if_neg h1, if_neg h2]
theorem swap_T (h : n + 1 < o.n) (i j : Nat) : (o.swap n).T i j = o.T (sw n i) j := by unfold Ord.T; rw [swap_get h]
theorem swap_A (h : n + 1 < o.n) (i : Nat) : (o.swap n).A i = o.A (sw n i) := by unfold Ord.A; rw [swap_get h]
theorem swap_ID (h : n + 1 < o.n) (i : Nat) : (o.swap n).ID i = o.ID (sw n i) := by unfold Ord.ID; rw [swap_get h]
end
theorem getElem_swap_perm {α : Type} (l : List α) (n : Nat) (h : n + 1 < l.length) : List.Perm ((l.set n l[n + 1]).set (n + 1) l[n]) l := by
  have e : l = l.take n ++ l[n] :: l[n + 1] :: l.drop (n + 2) := by
    conv => lhs; rw [← List.take_append_drop n l]
    congr 1
    rw [List.drop_eq_getElem_cons (show n < l.length by omega), List.drop_eq_getElem_cons h]
  have e2 : (l.set n l[n + 1]).set (n + 1) l[n] = l.take n ++ l[n + 1] :: l[n] :: l.drop (n + 2) := by
    apply List.ext_getElem?; intro i; have hl : (l.take n).length = n := by rw [List.length_take]; omega
    rw [List.getElem?_set, List.getElem?_set]
    by_cases h1 : i < n
    · rw [if_neg (by omega), if_neg (by omega), List.getElem?_append_left (by omega), List.getElem?_take, if_pos h1]
    · rw [List.getElem?_append_right (by omega), hl]
      by_cases h2 : i = n
      · subst h2; rw [if_neg (by omega), if_pos rfl, if_pos (by omega)]; simp
      · by_cases h3 : i = n + 1
        · subst h3; rw [if_pos rfl, if_pos (by simp; omega)]; simp [show n + 1 - n = 1 by omega]
        · rw [if_neg (by omega), if_neg (by omega)]; obtain ⟨k, rfl⟩ : ∃ k, i = n + 2 + k := ⟨i - n - 2, by omega⟩; rw [show n + 2 + k - n = k + 1 + 1 by omega]; simp
  rw [e2]
  conv => rhs; rw [e]
  exact List.Perm.append_left _ (List.Perm.swap _ _ _)
theorem swap_perm {o : Ord} {n : Nat} (h : n + 1 < o.n) : List.Perm (o.swap n).runs o.runs := by
  have h' : n + 1 < o.runs.length := h; have := getElem_swap_perm o.runs n h'; unfold Ord.swap
  dsimp only
  rw [List.getElem?_eq_getElem h', List.getElem?_eq_getElem (show n < o.runs.length by omega)]; exact this
theorem OrdGood.swap {o : Ord} (hg : OrdGood o) {n : Nat} (h : n + 1 < o.n) : OrdGood (o.swap n) := by
  have hp := swap_perm h; exact ⟨hg.m1, hg.m2, by have := hg.n2; rw [hp.length_eq]; exact this, hg.cop, fun r hr => hg.runs r (hp.mem_iff.1 hr), (hp.map _).nodup_iff.2 hg.ids⟩
theorem CopyF.put {w V : World} {base b i : Nat} {a : OA} {o : Ord} {vs : List Value} (h : CopyF w base a o) (p : Put w V b i vs) (hb : b < base) : CopyF V base a o :=
  h.other p.chg.size fun k hk => by
    have hne : k ≠ b := by
      rcases hk with rfl | rfl | ⟨i, hi, rfl⟩
      · have := h.gC; omega
      · have := h.gR; omega
      · have := h.gT i hi; omega
    refine p.chg.block k ?_ (by simpa using hne)
    rcases hk with rfl | rfl | ⟨i, hi, rfl⟩
    · exact h.rC.lt
    · exact h.rR.lt
    · exact (h.rT i hi).lt
theorem CopyF.some3 {w : World} {base : Nat} {a : OA} {o : Ord} (h : CopyF w base a o) {i : Nat} (hi : i < o.n) {x0 x1 x2 : Value} : ∀ j, j < [x0, x1, x2].length → (w.cell? ⟨a.rb, i * 3 + j, none⟩).isSome = true := by
  have e0 := h.ord.hI i hi; have e1 := h.ord.hA i hi; have e2 := h.ord.hT i hi; rw [h.zR.1, Nat.zero_add] at e0 e1 e2; intro j hj
  match j, hj with
  | 0, _ => simp [e0]
  | 1, _ => simp [e1]
  | 2, _ => simp [e2]
def OA.swp (a : OA) (n : Nat) : OA := { a with tb := fun i => a.tb (sw n i), to_ := fun i => a.to_ (sw n i), tc := fun i => a.tc (sw n i) }
theorem CopyF.swapped {w V1 V2 : World} {base : Nat} {a : OA} {o : Ord} {n : Nat} (h : CopyF w base a o) (hn : n + 1 < o.n)
    (p1 : Put w V1 a.rb (n * 3) [.int .i64 (o.ID (n + 1)), .int .i64 (o.A (n + 1)), .slice (some ⟨a.tb (n + 1), a.to_ (n + 1), none⟩) o.m (a.tc (n + 1))])
    (p2 : Put V1 V2 a.rb ((n + 1) * 3) [.int .i64 (o.ID n), .int .i64 (o.A n), .slice (some ⟨a.tb n, a.to_ n, none⟩) o.m (a.tc n)]) : CopyF V2 base (a.swp n) (o.swap n) := by
  have hO := h.ord; have hz := h.zR.1; have ncr : a.cb ≠ a.rb := h.rC.ne h.rR (by decide); have ntr : ∀ i, i < o.n → a.tb i ≠ a.rb := fun i hi => (h.rT i hi).ne h.rR (by decide); have hs : w.heap.size ≤ V2.heap.size := Nat.le_trans p1.chg.size p2.chg.size; have away : ∀ {b k : Nat} {v : Value}, b ≠ a.rb → w.cell? ⟨b, k, none⟩ = some v → V2.cell? ⟨b, k, none⟩ = some v := fun hb c => p2.cell (p1.cell c hb) hb; have row : ∀ {b m : Nat} {e : TypeId}, RowB w b e m → RowB V2 b e m := fun hr => (hr.put p1).put p2; have lt : ∀ i, i < (o.swap n).n → sw n i < o.n := fun i hi => (sw_lt hn).2 (by rw [swap_n] at hi; exact hi)
  have key : ∀ i r, i < o.n → r < 3 → V2.cell? ⟨a.rb, i * 3 + r, none⟩ = w.cell? ⟨a.rb, sw n i * 3 + r, none⟩ := by
    intro i r hi hr
    by_cases h1 : i = n + 1
    · subst h1; have e : sw n (n + 1) = n := by unfold sw; simp
      rw [e]; have e0 := hO.hI n (by omega); have e1 := hO.hA n (by omega); have e2 := hO.hT n (by omega); rw [hz, Nat.zero_add] at e0 e1 e2
      match r, hr with
      | 0, _ => rw [p2.new 0 _ rfl]; exact e0.symm
      | 1, _ => rw [p2.new 1 _ rfl]; exact e1.symm
      | 2, _ => rw [p2.new 2 _ rfl]; exact e2.symm
    · rw [p2.old _ (by simp; omega)]
      by_cases h2 : i = n
      · subst h2; have e : sw i i = i + 1 := by unfold sw; simp
        rw [e]; have e0 := hO.hI (i + 1) hn; have e1 := hO.hA (i + 1) hn; have e2 := hO.hT (i + 1) hn; rw [hz, Nat.zero_add] at e0 e1 e2
        match r, hr with
        | 0, _ => rw [p1.new 0 _ rfl]; exact e0.symm
        | 1, _ => rw [p1.new 1 _ rfl]; exact e1.symm
        | 2, _ => rw [p1.new 2 _ rfl]; exact e2.symm
      · have e : sw n i = i := by unfold sw; simp [h1, h2]
        rw [p1.old _ (by simp; omega), e]
  have key2 : ∀ i r u, i < (o.swap n).n → r < 3 → w.cell? ⟨a.rb, a.ro + sw n i * 3 + r, none⟩ = some u → V2.cell? ⟨(a.swp n).rb, (a.swp n).ro + i * 3 + r, none⟩ = some u := fun i r u hi hr hu => by
    rw [swap_n] at hi; have hi2 := (sw_lt hn).2 hi; rw [hz, Nat.zero_add] at hu
    show V2.cell? ⟨a.rb, a.ro + i * 3 + r, none⟩ = some u
    rw [hz, Nat.zero_add, key i r hi hr]; exact hu
  refine ⟨⟨hO.hm1, hO.hm2, by rw [swap_n]; exact hO.hn2, fun j hj => away ncr (hO.hC j hj), fun hp => hO.hr (by rw [swap_n] at hp; exact hp), fun i hi => ?_, fun i hi => ?_, fun i hi => ?_, fun i j hi hj => ?_, Nat.lt_of_lt_of_le hO.bC hs, fun hp => Nat.lt_of_lt_of_le (hO.bR (by rw [swap_n] at hp; exact hp)) hs, fun i hi => Nat.lt_of_lt_of_le (hO.bT _ (lt i hi)) hs, hO.hcc, by rw [swap_n]; exact hO.hrc, fun i hi => hO.htc _ (lt i hi), hO.vC, fun i hi => by rw [swap_A hn]; exact hO.vA _ (lt i hi), fun i j hi hj => by rw [swap_T hn]; exact hO.vT _ j (lt i hi) hj⟩, row h.rC, ?_, fun i hi => row (h.rT _ (lt i hi)), h.zC, ?_, fun i hi => h.zT _ (lt i hi), h.gC, h.gR, fun i hi => h.gT _ (lt i hi), fun i hi => h.ne _ (lt i hi), fun i j hi hj e => ?_⟩
  · rw [swap_ID hn]; exact key2 i 0 _ hi (by omega) (hO.hI _ (lt i hi))
  · rw [swap_A hn]; exact key2 i 1 _ hi (by omega) (hO.hA _ (lt i hi))
  · exact key2 i 2 _ hi (by omega) (hO.hT _ (lt i hi))
  · rw [swap_T hn]; exact away (ntr _ (lt i hi)) (hO.hTT _ j (lt i hi) hj)
  · rw [swap_n]; exact row h.rR
  · rw [swap_n]; exact h.zR
  · have := h.inj _ _ (lt i hi) (lt j hj) e; rw [← sw_sw n i, this, sw_sw]
def swapE (o : Ord) (x : Int) : Int := if askS o (okRunner o x) = 0 then (if x = (o.n : Int) - 1 then 5 else 0) else askS o (okRunner o x)
def swapO (o : Ord) (x : Int) : Ord := if swapE o x = 0 then o.swap x.toNat else noOrd
def OwnO (w : World) (base : Nat) (v : Value) (o : Ord) : Prop := ∃ q : OA, v = .agg #[q.cv o, q.rv o] ∧ CopyF w base q o
theorem Swap_c (v : Value) (o : Ord) (x : Int) (w : World) (hV : OrderV w w.heap.size v o) (hf : Fits o) :
    CallsV Try.prog 35 #[v, .int .i64 x] w fun v w' => ∃ v0, v = .tuple #[v0, .int .i64 (swapE o x)] ∧ OrderV w' w'.heap.size v0 (swapO o x) ∧ (swapE o x = 0 → OwnO w' w.heap.size v0 (swapO o x)) ∧ Ext w w' := by
  obtain ⟨cA, cc, rA, rc, rfl⟩ := hV.slices; have hw1 : IntKind.i64.wrap ((o.runs.length : Int) - 1) = (o.n : Int) - 1 := IntWalk.i64_in _ (by have := hf.2.1; omega); refine Wp.fn Try.func35 rfl Try.ntmps35 (by simp) ?_; have xw := Ext.refl w; refine Wp.keep [0, 1] fun r1 hkeep => ?_; obtain ⟨e0_1, e1_1, -⟩ := hkeep; simp [go_sem] at e0_1 e1_1; refine Wp.seqRegion (.inl rfl) (by kernel_rfl) fun K' gd hK hg => ?_; clear hg; refine Wops.cut 1 fun K1 hK1 => ?_; simp only [List.take_succ_cons, List.take_zero]; go_simp; refine hK1 _ _ ?_; clear hK1 K1; simp only [List.drop_succ_cons, List.drop_zero]; refine Wops.absA fun V2_1 n2 hV2_1 => ?_; obtain ⟨q2, hV2_1, s2, kV2_1, f2, r2⟩ := hV2_1; try simp only [q2] at kV2_1 f2 r2 ⊢
  replace xw := Ext.trans xw hV2_1; have c2_0 := kV2_1 0 _ rfl; have c2_1 := kV2_1 1 _ rfl; clear kV2_1 hV2_1; clear r2; refine Wops.cut 1 fun K1 hK1 => ?_; simp only [List.take_succ_cons, List.take_zero]; go_simp; refine hK1 _ _ ?_; clear hK1 K1; simp only [List.drop_succ_cons, List.drop_zero]; refine Wops.absA fun V4_2 n4 hV4_2 => ?_; obtain ⟨q4, hV4_2, s4, kV4_2, f4, r4⟩ := hV4_2; try simp only [q4] at kV4_2 f4 r4 ⊢
  replace f2 := Ext.fz hV4_2 c2_0 f2; replace xw := Ext.trans xw hV4_2; replace c2_0 := Ext.cell hV4_2 c2_0; replace c2_1 := Ext.cell hV4_2 c2_1; have c4_0 := kV4_2 0 _ rfl; have c4_1 := kV4_2 1 _ rfl; clear kV4_2 hV4_2; clear r4; go_simp; refine hK _ _ ?_; clear hK K' gd; refine Wp.keep [1, 2, 4] fun r2 hkeep => ?_; obtain ⟨e1_2, e2_2, e4_2, -⟩ := hkeep; simp [go_sem, e0_1, e1_1] at e1_2 e2_2 e4_2; clear e0_1 e1_1; refine Wp.seq ?_; refine Wp.seqRegion (.inl rfl) (by kernel_rfl) fun K' gd hK hg => ?_; clear hg; refine Wops.cut 3 fun K1 hK1 => ?_; simp only [List.take_succ_cons, List.take_zero]; go_simp; refine Wcall (.inl rfl) (runner_c _ o x _ (hV.ext xw) hf) ?_; rintro v w2 ⟨rfl, hE⟩; go_simp; refine hK1 _ _ ?_; clear hK1 K1; simp only [List.drop_succ_cons, List.drop_zero]; have z3 := Below.size hE; replace f2 := Ext.fz hE c2_0 f2; replace f4 := Ext.fz hE c4_0 f4; replace xw := Ext.trans xw hE; replace c2_0 := Ext.cell hE c2_0; replace c2_1 := Ext.cell hE c2_1; replace c4_0 := Ext.cell hE c4_0; replace c4_1 := Ext.cell hE c4_1; clear hE; go_simp; refine hK _ _ ?_; clear hK K' gd; refine Wp.keep [1, 2, 4, 6] fun r4 hkeep => ?_; obtain ⟨e1_4, e2_4, e4_4, e6_4, -⟩ := hkeep; simp [go_sem, e1_2, e2_2, e4_2] at e1_4 e2_4 e4_4 e6_4; clear e1_2 e2_2 e4_2
  by_cases h0 : askS o (okRunner o x) = 0
  · skip; refine Wp.seqRegion (.inl rfl) (by kernel_rfl) fun K' gd hK hg => ?_; clear hg; go_simp; refine hK _ _ ?_; clear hK K' gd; refine Wp.keep [1, 2, 4, 6, 11] fun r5 hkeep => ?_; obtain ⟨e1_5, e2_5, e4_5, e6_5, e11_5, -⟩ := hkeep; simp [go_sem, e1_4, e2_4, e4_4, e6_4] at e1_5 e2_5 e4_5 e6_5 e11_5; clear e1_4 e2_4 e4_4 e6_4; refine Wp.condF (by go_simp) ?_
    by_cases hx : x = (o.n : Int) - 1
    · skip; refine Wp.skip ?_; refine thenK_normal ?_; refine Wp.seq ?_; refine Wp.seqRegion (.inl rfl) (by kernel_rfl) fun K' gd hK hg => ?_; clear hg; go_simp; refine hK _ _ ?_; clear hK K' gd; refine Wp.keep [1, 2, 4, 19] fun r6 hkeep => ?_; obtain ⟨e1_6, e2_6, e4_6, e19_6, -⟩ := hkeep; simp [go_sem, e1_5, e2_5, e4_5, e6_5, e11_5] at e1_6 e2_6 e4_6 e19_6; clear e1_5 e2_5 e4_5 e6_5 e11_5; refine Wp.condT (by go_simp) ?_; refine Wp.seqRegion (.inl rfl) (by kernel_rfl) fun K' gd hK hg => ?_; clear hg; refine Wops.cut 2 fun K1 hK1 => ?_; simp only [List.take_succ_cons, List.take_zero]; go_simp; refine hK1 _ _ ?_; clear hK1 K1; simp only [List.drop_succ_cons, List.drop_zero]; refine Wops.absS (b := n4) (i := 0) [_, _] (somes [cellVal c4_0, cellVal c4_1] (by simp) (by intro j v hj; match j, hj with | 0, hj => (simp at hj; subst hj; exact c4_0) | 1, hj => (simp at hj; subst hj; exact c4_1))) fun P3 hP3 => ?_; have zP3 := hP3.same; replace f2 := Put.frz hP3 f2; replace f4 := Put.frz hP3 f4; replace xw := Put.to xw hP3 (by omega); replace c2_0 := Put.cell hP3 c2_0 (by omega); replace c2_1 := Put.cell hP3 c2_1 (by omega); clear c4_0; clear c4_1; have c4_0 := hP3.new 0 _ rfl; try simp only [Nat.reduceAdd, Nat.zero_add, Nat.add_zero] at c4_0
      have c4_1 := hP3.new 1 _ rfl; try simp only [Nat.reduceAdd, Nat.zero_add, Nat.add_zero] at c4_1
      clear hP3; go_simp; refine hK _ _ ?_; clear hK K' gd; refine Wp.keep [4, 5] fun r7 hkeep => ?_; obtain ⟨e4_7, e5_7, -⟩ := hkeep; simp [go_sem, e1_6, e2_6, e4_6, e19_6] at e4_7 e5_7; clear e1_6 e2_6 e4_6 e19_6; refine Wp.ret ?_; refine thenK_ret ?_; refine endK_cell_tmp (v := .agg #[cellVal c4_0, cellVal c4_1]) Try.results35 (by decide) (by decide) e4_7 (by dsimp only [cellVal]; go_simp) ?_; rw [e5_7]
      dsimp only [cellVal]
      have e : swapE o x = 5 := by unfold swapE; rw [if_pos h0, if_pos hx]
      exact ⟨_, by rw [e], by unfold swapO; rw [e, if_neg (by decide)]; exact noOrdV _ _, (fun h => by rw [e] at h; cases h), xw⟩
    · skip; refine Wp.skip ?_; refine thenK_normal ?_; refine Wp.seq ?_; refine Wp.seqRegion (.inl rfl) (by kernel_rfl) fun K' gd hK hg => ?_; clear hg; go_simp; refine hK _ _ ?_; clear hK K' gd; refine Wp.keep [1, 2, 4, 19] fun r8 hkeep => ?_; obtain ⟨e1_8, e2_8, e4_8, e19_8, -⟩ := hkeep; simp [go_sem, e1_5, e2_5, e4_5, e6_5, e11_5] at e1_8 e2_8 e4_8 e19_8; clear e1_5 e2_5 e4_5 e6_5 e11_5; refine Wp.condF (by go_simp) ?_; have hg := (askS_zero.1 h0).1; obtain ⟨i, rfl, hi⟩ := okRunner_nat (askS_zero.1 h0).2; obtain ⟨a, hcv, hrv, hO⟩ := (hV.ext xw).ordF2 hg; simp only [OA.cv, OA.rv] at hcv hrv
      injection hcv with p1 p2 p3
      injection hrv with p4 p5 p6
      subst p1 p3 p4 p6; have hi2 : i + 1 < o.n := by omega
      refine Wp.skip ?_; refine thenK_normal ?_; refine Wp.seqRegion (.inl rfl) (by kernel_rfl) fun K' gd hK hg => ?_; clear hg; refine Wops.cut 2 fun K1 hK1 => ?_; simp only [List.take_succ_cons, List.take_zero]; go_simp; refine Wcall (.inl rfl) (copied_c a o _ hO) ?_; rintro v w3 ⟨a', rfl, hF, hE⟩; simp only [OA.cv, OA.rv]; go_simp; refine hK1 _ _ ?_; clear hK1 K1; simp only [List.drop_succ_cons, List.drop_zero]; have z9 := Below.size hE; replace f2 := Ext.fz hE c2_0 f2; replace f4 := Ext.fz hE c4_0 f4; replace xw := Ext.trans xw hE; replace c2_0 := Ext.cell hE c2_0; replace c2_1 := Ext.cell hE c2_1; replace c4_0 := Ext.cell hE c4_0; replace c4_1 := Ext.cell hE c4_1; clear hE; refine Wops.cut 1 fun K1 hK1 => ?_; simp only [List.take_succ_cons, List.take_zero]; go_simp; refine hK1 _ _ ?_; clear hK1 K1; simp only [List.drop_succ_cons, List.drop_zero]; refine Wops.absS (b := n2) (i := 0) [_, _] (somes [cellVal c2_0, cellVal c2_1] (by simp) (by intro j v hj; match j, hj with | 0, hj => (simp at hj; subst hj; exact c2_0) | 1, hj => (simp at hj; subst hj; exact c2_1))) fun P4 hP4 => ?_; have zP4 := hP4.same; replace f2 := Put.frz hP4 f2; replace f4 := Put.frz hP4 f4; replace hF := hF.put hP4 (by omega); replace xw := Put.to xw hP4 (by omega); clear c2_0; clear c2_1; replace c4_0 := Put.cell hP4 c4_0 (by omega); replace c4_1 := Put.cell hP4 c4_1 (by omega); have c2_0 := hP4.new 0 _ rfl; try simp only [Nat.reduceAdd, Nat.zero_add, Nat.add_zero] at c2_0
      have c2_1 := hP4.new 1 _ rfl; try simp only [Nat.reduceAdd, Nat.zero_add, Nat.add_zero] at c2_1
      clear hP4; try simp only [Wops_nil, updO_some, updO_none]
      refine hK _ _ ?_; clear hK K' gd; refine Wp.keep [1, 2, 4] fun r10 hkeep => ?_; obtain ⟨e1_10, e2_10, e4_10, -⟩ := hkeep; simp [go_sem, e1_8, e2_8, e4_8, e19_8] at e1_10 e2_10 e4_10; clear e1_8 e2_8 e4_8 e19_8; have hr := hF.zR; have hgR := hF.gR; obtain ⟨hr1, hr2, hr3⟩ := hr; have d0 := hF.ord.hI i hi; have d1 := hF.ord.hA i hi; have d2 := hF.ord.hT i hi; have d3 := hF.ord.hI (i + 1) hi2; have d4 := hF.ord.hA (i + 1) hi2; have d5 := hF.ord.hT (i + 1) hi2; rw [hr1, Nat.zero_add] at d0 d1 d2 d3 d4 d5; rw [hr3] at c2_1; have g0 := fun k => hF.rR.frozen k; have hw2 : IntKind.i64.wrap ((i : Int) + 1) = (i : Int) + 1 := IntWalk.i64_in _ (by have := hf.2.1; omega); have b1 : (i : Int) < (o.n : Int) := by omega
      have b2 : (i : Int) + 1 < (o.n : Int) := by omega
      have b3 : 0 ≤ (i : Int) + 1 := by omega
      have b4 : ((i : Int) + 1).toNat = i + 1 := by omega
      have hgd := hF; have hgs := hgd.swapped hi2 (setL_put (hgd.some3 hi)) (setL_put ((setL_put (hgd.some3 hi)).some_off (hgd.some3 hi2) (by simp; omega))); have hgc : Chg [a'.rb] P4 _ := Chg.more (Chg.more (Chg.refl [a'.rb] P4) (setL_put (hgd.some3 hi)).chg (by simp)) (setL_put (b := a'.rb) (i := (i + 1) * 3) (vs := [.int .i64 (o.ID i), .int .i64 (o.A i), .slice (some ⟨a'.tb i, a'.to_ i, none⟩) o.m (a'.tc i)]) ((setL_put (vs := [.int .i64 (o.ID (i + 1)), .int .i64 (o.A (i + 1)), .slice (some ⟨a'.tb (i + 1), a'.to_ (i + 1), none⟩) o.m (a'.tc (i + 1))]) (hgd.some3 hi)).some_off (hgd.some3 hi2) (by simp; omega))).chg (by simp); simp only [setL, Nat.add_assoc, Nat.reduceAdd] at hgc hgs; refine Wp.seqDrawT (.inl rfl) mixed (.rd [0, 1, 2, 7, 8, 9, 10, 11, 12, 13, 14, 15, 16, 17, 18] (.both (.act 3 false (.both (.act 4 false (.both (.act 5 false (.both (.act 6 false (.act 19 true (.act 20 true (.act 21 true .done)))) (.act 19 true (.act 6 false (.act 20 true (.act 21 true .done)))))) (.act 19 true (.act 5 false (.act 6 false (.act 20 true (.act 21 true .done))))))) (.both (.act 5 false (.both (.act 4 false (.both (.act 6 false (.act 19 true (.act 20 true (.act 21 true .done)))) (.act 19 true (.act 6 false (.act 20 true (.act 21 true .done)))))) (.both (.act 6 false (.both (.act 4 false (.act 19 true (.act 20 true (.act 21 true .done)))) (.act 19 true (.act 4 false (.act 20 true (.act 21 true .done)))))) (.act 19 true (.both (.act 4 false (.act 6 false (.act 20 true (.act 21 true .done)))) (.act 6 false (.act 4 false (.act 20 true (.act 21 true .done))))))))) (.act 19 true (.both (.act 4 false (.act 5 false (.act 6 false (.act 20 true (.act 21 true .done))))) (.act 5 false (.both (.act 4 false (.act 6 false (.act 20 true (.act 21 true .done)))) (.act 6 false (.act 4 false (.act 20 true (.act 21 true .done))))))))))) (.both (.act 5 false (.both (.act 3 false (.both (.act 4 false (.both (.act 6 false (.act 19 true (.act 20 true (.act 21 true .done)))) (.act 19 true (.act 6 false (.act 20 true (.act 21 true .done)))))) (.both (.act 6 false (.both (.act 4 false (.act 19 true (.act 20 true (.act 21 true .done)))) (.act 19 true (.act 4 false (.act 20 true (.act 21 true .done)))))) (.act 19 true (.both (.act 4 false (.act 6 false (.act 20 true (.act 21 true .done)))) (.act 6 false (.act 4 false (.act 20 true (.act 21 true .done))))))))) (.both (.act 6 false (.both (.act 3 false (.both (.act 4 false (.act 19 true (.act 20 true (.act 21 true .done)))) (.act 19 true (.act 4 false (.act 20 true (.act 21 true .done)))))) (.act 19 true (.act 3 false (.act 4 false (.act 20 true (.act 21 true .done))))))) (.act 19 true (.both (.act 3 false (.both (.act 4 false (.act 6 false (.act 20 true (.act 21 true .done)))) (.act 6 false (.act 4 false (.act 20 true (.act 21 true .done)))))) (.act 6 false (.act 3 false (.act 4 false (.act 20 true (.act 21 true .done)))))))))) (.act 19 true (.both (.act 3 false (.both (.act 4 false (.act 5 false (.act 6 false (.act 20 true (.act 21 true .done))))) (.act 5 false (.both (.act 4 false (.act 6 false (.act 20 true (.act 21 true .done)))) (.act 6 false (.act 4 false (.act 20 true (.act 21 true .done)))))))) (.act 5 false (.both (.act 3 false (.both (.act 4 false (.act 6 false (.act 20 true (.act 21 true .done)))) (.act 6 false (.act 4 false (.act 20 true (.act 21 true .done)))))) (.act 6 false (.act 3 false (.act 4 false (.act 20 true (.act 21 true .done)))))))))))) (by kernel_rfl) (fun ρ W => AllEq [2, 4] ρ r10 ∧ (Chg [a'.rb] P4 W ∧ CopyF W w2.heap.size (a'.swp i) (o.swap i))) (fun K' gd hK hg => ?_) ?_
      · skip; clear hg; simp only [pickT, nth, List.map_cons, List.map_nil]; apply Mtree.reads
        · intro w' hE'; have hC' := hE'.cellsS; go_simp; with_reducible rfl
        refine Mtree.two ?_ ?_
        · skip; refine Mtree.step fun K1 hK1 => ?_; go_simp; refine hK1 _ _ (by first | exact (Ext.refl _).alloc _ | exact Ext.refl _) ?_; clear hK1 K1; refine Mtree.two ?_ ?_
          · skip; refine Mtree.step fun K1 hK1 => ?_; go_simp; refine hK1 _ _ (by first | exact (Ext.refl _).alloc _ | exact Ext.refl _) ?_; clear hK1 K1; refine Mtree.two ?_ ?_
            · skip; refine Mtree.step fun K1 hK1 => ?_; go_simp; refine hK1 _ _ (by first | exact (Ext.refl _).alloc _ | exact Ext.refl _) ?_; clear hK1 K1; refine Mtree.two ?_ ?_
              · skip; refine Mtree.step fun K1 hK1 => ?_; go_simp; refine hK1 _ _ (by first | exact (Ext.refl _).alloc _ | exact Ext.refl _) ?_; clear hK1 K1; refine Mtree.stepT fun K1 hK1 => ?_; go_simp; refine hK1 _ _ ?_; clear hK1 K1; refine Mtree.stepT fun K1 hK1 => ?_; go_simp; refine hK1 _ _ ?_; clear hK1 K1; refine Mtree.stepT fun K1 hK1 => ?_; go_simp; refine hK1 _ _ ?_; clear hK1 K1; refine Mtree.fin ?_; refine hK _ _ ⟨by simp [AllEq, go_sem], ?_⟩; exact ⟨hgc.drew, hgs.ext (Ext.refl _).drew⟩
              · skip; refine Mtree.stepT fun K1 hK1 => ?_; go_simp; refine hK1 _ _ ?_; clear hK1 K1; refine Mtree.step fun K1 hK1 => ?_; go_simp; refine hK1 _ _ (by first | exact (Ext.refl _).alloc _ | exact Ext.refl _) ?_; clear hK1 K1; refine Mtree.stepT fun K1 hK1 => ?_; go_simp; refine hK1 _ _ ?_; clear hK1 K1; refine Mtree.stepT fun K1 hK1 => ?_; go_simp; refine hK1 _ _ ?_; clear hK1 K1; refine Mtree.fin ?_; refine hK _ _ ⟨by simp [AllEq, go_sem], ?_⟩; exact ⟨hgc.drew, hgs.ext (Ext.refl _).drew⟩
            · skip; refine Mtree.stepT fun K1 hK1 => ?_; go_simp; refine hK1 _ _ ?_; clear hK1 K1; refine Mtree.step fun K1 hK1 => ?_; go_simp; refine hK1 _ _ (by first | exact (Ext.refl _).alloc _ | exact Ext.refl _) ?_; clear hK1 K1; refine Mtree.step fun K1 hK1 => ?_; go_simp; refine hK1 _ _ (by first | exact (Ext.refl _).alloc _ | exact Ext.refl _) ?_; clear hK1 K1; refine Mtree.stepT fun K1 hK1 => ?_; go_simp; refine hK1 _ _ ?_; clear hK1 K1; refine Mtree.stepT fun K1 hK1 => ?_; go_simp; refine hK1 _ _ ?_; clear hK1 K1; refine Mtree.fin ?_; refine hK _ _ ⟨by simp [AllEq, go_sem], ?_⟩; exact ⟨hgc.drew, hgs.ext (Ext.refl _).drew⟩
          · skip; refine Mtree.two ?_ ?_
            · skip; refine Mtree.step fun K1 hK1 => ?_; go_simp; refine hK1 _ _ (by first | exact (Ext.refl _).alloc _ | exact Ext.refl _) ?_; clear hK1 K1; refine Mtree.two ?_ ?_
              · skip; refine Mtree.step fun K1 hK1 => ?_; go_simp; refine hK1 _ _ (by first | exact (Ext.refl _).alloc _ | exact Ext.refl _) ?_; clear hK1 K1; refine Mtree.two ?_ ?_
                · skip; refine Mtree.step fun K1 hK1 => ?_; go_simp; refine hK1 _ _ (by first | exact (Ext.refl _).alloc _ | exact Ext.refl _) ?_; clear hK1 K1; refine Mtree.stepT fun K1 hK1 => ?_; go_simp; refine hK1 _ _ ?_; clear hK1 K1; refine Mtree.stepT fun K1 hK1 => ?_; go_simp; refine hK1 _ _ ?_; clear hK1 K1; refine Mtree.stepT fun K1 hK1 => ?_; go_simp; refine hK1 _ _ ?_; clear hK1 K1; refine Mtree.fin ?_; refine hK _ _ ⟨by simp [AllEq, go_sem], ?_⟩; exact ⟨hgc.drew, hgs.ext (Ext.refl _).drew⟩
                · skip; refine Mtree.stepT fun K1 hK1 => ?_; go_simp; refine hK1 _ _ ?_; clear hK1 K1; refine Mtree.step fun K1 hK1 => ?_; go_simp; refine hK1 _ _ (by first | exact (Ext.refl _).alloc _ | exact Ext.refl _) ?_; clear hK1 K1; refine Mtree.stepT fun K1 hK1 => ?_; go_simp; refine hK1 _ _ ?_; clear hK1 K1; refine Mtree.stepT fun K1 hK1 => ?_; go_simp; refine hK1 _ _ ?_; clear hK1 K1; refine Mtree.fin ?_; refine hK _ _ ⟨by simp [AllEq, go_sem], ?_⟩; exact ⟨hgc.drew, hgs.ext (Ext.refl _).drew⟩
              · skip; refine Mtree.two ?_ ?_
                · skip; refine Mtree.step fun K1 hK1 => ?_; go_simp; refine hK1 _ _ (by first | exact (Ext.refl _).alloc _ | exact Ext.refl _) ?_; clear hK1 K1; refine Mtree.two ?_ ?_
                  · skip; refine Mtree.step fun K1 hK1 => ?_; go_simp; refine hK1 _ _ (by first | exact (Ext.refl _).alloc _ | exact Ext.refl _) ?_; clear hK1 K1; refine Mtree.stepT fun K1 hK1 => ?_; go_simp; refine hK1 _ _ ?_; clear hK1 K1; refine Mtree.stepT fun K1 hK1 => ?_; go_simp; refine hK1 _ _ ?_; clear hK1 K1; refine Mtree.stepT fun K1 hK1 => ?_; go_simp; refine hK1 _ _ ?_; clear hK1 K1; refine Mtree.fin ?_; refine hK _ _ ⟨by simp [AllEq, go_sem], ?_⟩; exact ⟨hgc.drew, hgs.ext (Ext.refl _).drew⟩
                  · skip; refine Mtree.stepT fun K1 hK1 => ?_; go_simp; refine hK1 _ _ ?_; clear hK1 K1; refine Mtree.step fun K1 hK1 => ?_; go_simp; refine hK1 _ _ (by first | exact (Ext.refl _).alloc _ | exact Ext.refl _) ?_; clear hK1 K1; refine Mtree.stepT fun K1 hK1 => ?_; go_simp; refine hK1 _ _ ?_; clear hK1 K1; refine Mtree.stepT fun K1 hK1 => ?_; go_simp; refine hK1 _ _ ?_; clear hK1 K1; refine Mtree.fin ?_; refine hK _ _ ⟨by simp [AllEq, go_sem], ?_⟩; exact ⟨hgc.drew, hgs.ext (Ext.refl _).drew⟩
                · skip; refine Mtree.stepT fun K1 hK1 => ?_; go_simp; refine hK1 _ _ ?_; clear hK1 K1; refine Mtree.two ?_ ?_
                  · skip; refine Mtree.step fun K1 hK1 => ?_; go_simp; refine hK1 _ _ (by first | exact (Ext.refl _).alloc _ | exact Ext.refl _) ?_; clear hK1 K1; refine Mtree.step fun K1 hK1 => ?_; go_simp; refine hK1 _ _ (by first | exact (Ext.refl _).alloc _ | exact Ext.refl _) ?_; clear hK1 K1; refine Mtree.stepT fun K1 hK1 => ?_; go_simp; refine hK1 _ _ ?_; clear hK1 K1; refine Mtree.stepT fun K1 hK1 => ?_; go_simp; refine hK1 _ _ ?_; clear hK1 K1; refine Mtree.fin ?_; refine hK _ _ ⟨by simp [AllEq, go_sem], ?_⟩; exact ⟨hgc.drew, hgs.ext (Ext.refl _).drew⟩
                  · skip; refine Mtree.step fun K1 hK1 => ?_; go_simp; refine hK1 _ _ (by first | exact (Ext.refl _).alloc _ | exact Ext.refl _) ?_; clear hK1 K1; refine Mtree.step fun K1 hK1 => ?_; go_simp; refine hK1 _ _ (by first | exact (Ext.refl _).alloc _ | exact Ext.refl _) ?_; clear hK1 K1; refine Mtree.stepT fun K1 hK1 => ?_; go_simp; refine hK1 _ _ ?_; clear hK1 K1; refine Mtree.stepT fun K1 hK1 => ?_; go_simp; refine hK1 _ _ ?_; clear hK1 K1; refine Mtree.fin ?_; refine hK _ _ ⟨by simp [AllEq, go_sem], ?_⟩; exact ⟨hgc.drew, hgs.ext (Ext.refl _).drew⟩
            · skip; refine Mtree.stepT fun K1 hK1 => ?_; go_simp; refine hK1 _ _ ?_; clear hK1 K1; refine Mtree.two ?_ ?_
              · skip; refine Mtree.step fun K1 hK1 => ?_; go_simp; refine hK1 _ _ (by first | exact (Ext.refl _).alloc _ | exact Ext.refl _) ?_; clear hK1 K1; refine Mtree.step fun K1 hK1 => ?_; go_simp; refine hK1 _ _ (by first | exact (Ext.refl _).alloc _ | exact Ext.refl _) ?_; clear hK1 K1; refine Mtree.step fun K1 hK1 => ?_; go_simp; refine hK1 _ _ (by first | exact (Ext.refl _).alloc _ | exact Ext.refl _) ?_; clear hK1 K1; refine Mtree.stepT fun K1 hK1 => ?_; go_simp; refine hK1 _ _ ?_; clear hK1 K1; refine Mtree.stepT fun K1 hK1 => ?_; go_simp; refine hK1 _ _ ?_; clear hK1 K1; refine Mtree.fin ?_; refine hK _ _ ⟨by simp [AllEq, go_sem], ?_⟩; exact ⟨hgc.drew, hgs.ext (Ext.refl _).drew⟩
              · skip; refine Mtree.step fun K1 hK1 => ?_; go_simp; refine hK1 _ _ (by first | exact (Ext.refl _).alloc _ | exact Ext.refl _) ?_; clear hK1 K1; refine Mtree.two ?_ ?_
                · skip; refine Mtree.step fun K1 hK1 => ?_; go_simp; refine hK1 _ _ (by first | exact (Ext.refl _).alloc _ | exact Ext.refl _) ?_; clear hK1 K1; refine Mtree.step fun K1 hK1 => ?_; go_simp; refine hK1 _ _ (by first | exact (Ext.refl _).alloc _ | exact Ext.refl _) ?_; clear hK1 K1; refine Mtree.stepT fun K1 hK1 => ?_; go_simp; refine hK1 _ _ ?_; clear hK1 K1; refine Mtree.stepT fun K1 hK1 => ?_; go_simp; refine hK1 _ _ ?_; clear hK1 K1; refine Mtree.fin ?_; refine hK _ _ ⟨by simp [AllEq, go_sem], ?_⟩; exact ⟨hgc.drew, hgs.ext (Ext.refl _).drew⟩
                · skip; refine Mtree.step fun K1 hK1 => ?_; go_simp; refine hK1 _ _ (by first | exact (Ext.refl _).alloc _ | exact Ext.refl _) ?_; clear hK1 K1; refine Mtree.step fun K1 hK1 => ?_; go_simp; refine hK1 _ _ (by first | exact (Ext.refl _).alloc _ | exact Ext.refl _) ?_; clear hK1 K1; refine Mtree.stepT fun K1 hK1 => ?_; go_simp; refine hK1 _ _ ?_; clear hK1 K1; refine Mtree.stepT fun K1 hK1 => ?_; go_simp; refine hK1 _ _ ?_; clear hK1 K1; refine Mtree.fin ?_; refine hK _ _ ⟨by simp [AllEq, go_sem], ?_⟩; exact ⟨hgc.drew, hgs.ext (Ext.refl _).drew⟩
        · skip; refine Mtree.two ?_ ?_
          · skip; refine Mtree.step fun K1 hK1 => ?_; go_simp; refine hK1 _ _ (by first | exact (Ext.refl _).alloc _ | exact Ext.refl _) ?_; clear hK1 K1; refine Mtree.two ?_ ?_
            · skip; refine Mtree.step fun K1 hK1 => ?_; go_simp; refine hK1 _ _ (by first | exact (Ext.refl _).alloc _ | exact Ext.refl _) ?_; clear hK1 K1; refine Mtree.two ?_ ?_
              · skip; refine Mtree.step fun K1 hK1 => ?_; go_simp; refine hK1 _ _ (by first | exact (Ext.refl _).alloc _ | exact Ext.refl _) ?_; clear hK1 K1; refine Mtree.two ?_ ?_
                · skip; refine Mtree.step fun K1 hK1 => ?_; go_simp; refine hK1 _ _ (by first | exact (Ext.refl _).alloc _ | exact Ext.refl _) ?_; clear hK1 K1; refine Mtree.stepT fun K1 hK1 => ?_; go_simp; refine hK1 _ _ ?_; clear hK1 K1; refine Mtree.stepT fun K1 hK1 => ?_; go_simp; refine hK1 _ _ ?_; clear hK1 K1; refine Mtree.stepT fun K1 hK1 => ?_; go_simp; refine hK1 _ _ ?_; clear hK1 K1; refine Mtree.fin ?_; refine hK _ _ ⟨by simp [AllEq, go_sem], ?_⟩; exact ⟨hgc.drew, hgs.ext (Ext.refl _).drew⟩
                · skip; refine Mtree.stepT fun K1 hK1 => ?_; go_simp; refine hK1 _ _ ?_; clear hK1 K1; refine Mtree.step fun K1 hK1 => ?_; go_simp; refine hK1 _ _ (by first | exact (Ext.refl _).alloc _ | exact Ext.refl _) ?_; clear hK1 K1; refine Mtree.stepT fun K1 hK1 => ?_; go_simp; refine hK1 _ _ ?_; clear hK1 K1; refine Mtree.stepT fun K1 hK1 => ?_; go_simp; refine hK1 _ _ ?_; clear hK1 K1; refine Mtree.fin ?_; refine hK _ _ ⟨by simp [AllEq, go_sem], ?_⟩; exact ⟨hgc.drew, hgs.ext (Ext.refl _).drew⟩
              · skip; refine Mtree.two ?_ ?_
                · skip; refine Mtree.step fun K1 hK1 => ?_; go_simp; refine hK1 _ _ (by first | exact (Ext.refl _).alloc _ | exact Ext.refl _) ?_; clear hK1 K1; refine Mtree.two ?_ ?_
                  · skip; refine Mtree.step fun K1 hK1 => ?_; go_simp; refine hK1 _ _ (by first | exact (Ext.refl _).alloc _ | exact Ext.refl _) ?_; clear hK1 K1; refine Mtree.stepT fun K1 hK1 => ?_; go_simp; refine hK1 _ _ ?_; clear hK1 K1; refine Mtree.stepT fun K1 hK1 => ?_; go_simp; refine hK1 _ _ ?_; clear hK1 K1; refine Mtree.stepT fun K1 hK1 => ?_; go_simp; refine hK1 _ _ ?_; clear hK1 K1; refine Mtree.fin ?_; refine hK _ _ ⟨by simp [AllEq, go_sem], ?_⟩; exact ⟨hgc.drew, hgs.ext (Ext.refl _).drew⟩
                  · skip; refine Mtree.stepT fun K1 hK1 => ?_; go_simp; refine hK1 _ _ ?_; clear hK1 K1; refine Mtree.step fun K1 hK1 => ?_; go_simp; refine hK1 _ _ (by first | exact (Ext.refl _).alloc _ | exact Ext.refl _) ?_; clear hK1 K1; refine Mtree.stepT fun K1 hK1 => ?_; go_simp; refine hK1 _ _ ?_; clear hK1 K1; refine Mtree.stepT fun K1 hK1 => ?_; go_simp; refine hK1 _ _ ?_; clear hK1 K1; refine Mtree.fin ?_; refine hK _ _ ⟨by simp [AllEq, go_sem], ?_⟩; exact ⟨hgc.drew, hgs.ext (Ext.refl _).drew⟩
                · skip; refine Mtree.stepT fun K1 hK1 => ?_; go_simp; refine hK1 _ _ ?_; clear hK1 K1; refine Mtree.two ?_ ?_
                  · skip; refine Mtree.step fun K1 hK1 => ?_; go_simp; refine hK1 _ _ (by first | exact (Ext.refl _).alloc _ | exact Ext.refl _) ?_; clear hK1 K1; refine Mtree.step fun K1 hK1 => ?_; go_simp; refine hK1 _ _ (by first | exact (Ext.refl _).alloc _ | exact Ext.refl _) ?_; clear hK1 K1; refine Mtree.stepT fun K1 hK1 => ?_; go_simp; refine hK1 _ _ ?_; clear hK1 K1; refine Mtree.stepT fun K1 hK1 => ?_; go_simp; refine hK1 _ _ ?_; clear hK1 K1; refine Mtree.fin ?_; refine hK _ _ ⟨by simp [AllEq, go_sem], ?_⟩; exact ⟨hgc.drew, hgs.ext (Ext.refl _).drew⟩
                  · skip; refine Mtree.step fun K1 hK1 => ?_; go_simp; refine hK1 _ _ (by first | exact (Ext.refl _).alloc _ | exact Ext.refl _) ?_; clear hK1 K1; refine Mtree.step fun K1 hK1 => ?_; go_simp; refine hK1 _ _ (by first | exact (Ext.refl _).alloc _ | exact Ext.refl _) ?_; clear hK1 K1; refine Mtree.stepT fun K1 hK1 => ?_; go_simp; refine hK1 _ _ ?_; clear hK1 K1; refine Mtree.stepT fun K1 hK1 => ?_; go_simp; refine hK1 _ _ ?_; clear hK1 K1; refine Mtree.fin ?_; refine hK _ _ ⟨by simp [AllEq, go_sem], ?_⟩; exact ⟨hgc.drew, hgs.ext (Ext.refl _).drew⟩
            · skip; refine Mtree.two ?_ ?_
              · skip; refine Mtree.step fun K1 hK1 => ?_; go_simp; refine hK1 _ _ (by first | exact (Ext.refl _).alloc _ | exact Ext.refl _) ?_; clear hK1 K1; refine Mtree.two ?_ ?_
                · skip; refine Mtree.step fun K1 hK1 => ?_; go_simp; refine hK1 _ _ (by first | exact (Ext.refl _).alloc _ | exact Ext.refl _) ?_; clear hK1 K1; refine Mtree.two ?_ ?_
                  · skip; refine Mtree.step fun K1 hK1 => ?_; go_simp; refine hK1 _ _ (by first | exact (Ext.refl _).alloc _ | exact Ext.refl _) ?_; clear hK1 K1; refine Mtree.stepT fun K1 hK1 => ?_; go_simp; refine hK1 _ _ ?_; clear hK1 K1; refine Mtree.stepT fun K1 hK1 => ?_; go_simp; refine hK1 _ _ ?_; clear hK1 K1; refine Mtree.stepT fun K1 hK1 => ?_; go_simp; refine hK1 _ _ ?_; clear hK1 K1; refine Mtree.fin ?_; refine hK _ _ ⟨by simp [AllEq, go_sem], ?_⟩; exact ⟨hgc.drew, hgs.ext (Ext.refl _).drew⟩
                  · skip; refine Mtree.stepT fun K1 hK1 => ?_; go_simp; refine hK1 _ _ ?_; clear hK1 K1; refine Mtree.step fun K1 hK1 => ?_; go_simp; refine hK1 _ _ (by first | exact (Ext.refl _).alloc _ | exact Ext.refl _) ?_; clear hK1 K1; refine Mtree.stepT fun K1 hK1 => ?_; go_simp; refine hK1 _ _ ?_; clear hK1 K1; refine Mtree.stepT fun K1 hK1 => ?_; go_simp; refine hK1 _ _ ?_; clear hK1 K1; refine Mtree.fin ?_; refine hK _ _ ⟨by simp [AllEq, go_sem], ?_⟩; exact ⟨hgc.drew, hgs.ext (Ext.refl _).drew⟩
                · skip; refine Mtree.stepT fun K1 hK1 => ?_; go_simp; refine hK1 _ _ ?_; clear hK1 K1; refine Mtree.step fun K1 hK1 => ?_; go_simp; refine hK1 _ _ (by first | exact (Ext.refl _).alloc _ | exact Ext.refl _) ?_; clear hK1 K1; refine Mtree.step fun K1 hK1 => ?_; go_simp; refine hK1 _ _ (by first | exact (Ext.refl _).alloc _ | exact Ext.refl _) ?_; clear hK1 K1; refine Mtree.stepT fun K1 hK1 => ?_; go_simp; refine hK1 _ _ ?_; clear hK1 K1; refine Mtree.stepT fun K1 hK1 => ?_; go_simp; refine hK1 _ _ ?_; clear hK1 K1; refine Mtree.fin ?_; refine hK _ _ ⟨by simp [AllEq, go_sem], ?_⟩; exact ⟨hgc.drew, hgs.ext (Ext.refl _).drew⟩
              · skip; refine Mtree.stepT fun K1 hK1 => ?_; go_simp; refine hK1 _ _ ?_; clear hK1 K1; refine Mtree.two ?_ ?_
                · skip; refine Mtree.step fun K1 hK1 => ?_; go_simp; refine hK1 _ _ (by first | exact (Ext.refl _).alloc _ | exact Ext.refl _) ?_; clear hK1 K1; refine Mtree.two ?_ ?_
                  · skip; refine Mtree.step fun K1 hK1 => ?_; go_simp; refine hK1 _ _ (by first | exact (Ext.refl _).alloc _ | exact Ext.refl _) ?_; clear hK1 K1; refine Mtree.step fun K1 hK1 => ?_; go_simp; refine hK1 _ _ (by first | exact (Ext.refl _).alloc _ | exact Ext.refl _) ?_; clear hK1 K1; refine Mtree.stepT fun K1 hK1 => ?_; go_simp; refine hK1 _ _ ?_; clear hK1 K1; refine Mtree.stepT fun K1 hK1 => ?_; go_simp; refine hK1 _ _ ?_; clear hK1 K1; refine Mtree.fin ?_; refine hK _ _ ⟨by simp [AllEq, go_sem], ?_⟩; exact ⟨hgc.drew, hgs.ext (Ext.refl _).drew⟩
                  · skip; refine Mtree.step fun K1 hK1 => ?_; go_simp; refine hK1 _ _ (by first | exact (Ext.refl _).alloc _ | exact Ext.refl _) ?_; clear hK1 K1; refine Mtree.step fun K1 hK1 => ?_; go_simp; refine hK1 _ _ (by first | exact (Ext.refl _).alloc _ | exact Ext.refl _) ?_; clear hK1 K1; refine Mtree.stepT fun K1 hK1 => ?_; go_simp; refine hK1 _ _ ?_; clear hK1 K1; refine Mtree.stepT fun K1 hK1 => ?_; go_simp; refine hK1 _ _ ?_; clear hK1 K1; refine Mtree.fin ?_; refine hK _ _ ⟨by simp [AllEq, go_sem], ?_⟩; exact ⟨hgc.drew, hgs.ext (Ext.refl _).drew⟩
                · skip; refine Mtree.step fun K1 hK1 => ?_; go_simp; refine hK1 _ _ (by first | exact (Ext.refl _).alloc _ | exact Ext.refl _) ?_; clear hK1 K1; refine Mtree.step fun K1 hK1 => ?_; go_simp; refine hK1 _ _ (by first | exact (Ext.refl _).alloc _ | exact Ext.refl _) ?_; clear hK1 K1; refine Mtree.step fun K1 hK1 => ?_; go_simp; refine hK1 _ _ (by first | exact (Ext.refl _).alloc _ | exact Ext.refl _) ?_; clear hK1 K1; refine Mtree.stepT fun K1 hK1 => ?_; go_simp; refine hK1 _ _ ?_; clear hK1 K1; refine Mtree.stepT fun K1 hK1 => ?_; go_simp; refine hK1 _ _ ?_; clear hK1 K1; refine Mtree.fin ?_; refine hK _ _ ⟨by simp [AllEq, go_sem], ?_⟩; exact ⟨hgc.drew, hgs.ext (Ext.refl _).drew⟩
          · skip; refine Mtree.stepT fun K1 hK1 => ?_; go_simp; refine hK1 _ _ ?_; clear hK1 K1; refine Mtree.two ?_ ?_
            · skip; refine Mtree.step fun K1 hK1 => ?_; go_simp; refine hK1 _ _ (by first | exact (Ext.refl _).alloc _ | exact Ext.refl _) ?_; clear hK1 K1; refine Mtree.two ?_ ?_
              · skip; refine Mtree.step fun K1 hK1 => ?_; go_simp; refine hK1 _ _ (by first | exact (Ext.refl _).alloc _ | exact Ext.refl _) ?_; clear hK1 K1; refine Mtree.step fun K1 hK1 => ?_; go_simp; refine hK1 _ _ (by first | exact (Ext.refl _).alloc _ | exact Ext.refl _) ?_; clear hK1 K1; refine Mtree.step fun K1 hK1 => ?_; go_simp; refine hK1 _ _ (by first | exact (Ext.refl _).alloc _ | exact Ext.refl _) ?_; clear hK1 K1; refine Mtree.stepT fun K1 hK1 => ?_; go_simp; refine hK1 _ _ ?_; clear hK1 K1; refine Mtree.stepT fun K1 hK1 => ?_; go_simp; refine hK1 _ _ ?_; clear hK1 K1; refine Mtree.fin ?_; refine hK _ _ ⟨by simp [AllEq, go_sem], ?_⟩; exact ⟨hgc.drew, hgs.ext (Ext.refl _).drew⟩
              · skip; refine Mtree.step fun K1 hK1 => ?_; go_simp; refine hK1 _ _ (by first | exact (Ext.refl _).alloc _ | exact Ext.refl _) ?_; clear hK1 K1; refine Mtree.two ?_ ?_
                · skip; refine Mtree.step fun K1 hK1 => ?_; go_simp; refine hK1 _ _ (by first | exact (Ext.refl _).alloc _ | exact Ext.refl _) ?_; clear hK1 K1; refine Mtree.step fun K1 hK1 => ?_; go_simp; refine hK1 _ _ (by first | exact (Ext.refl _).alloc _ | exact Ext.refl _) ?_; clear hK1 K1; refine Mtree.stepT fun K1 hK1 => ?_; go_simp; refine hK1 _ _ ?_; clear hK1 K1; refine Mtree.stepT fun K1 hK1 => ?_; go_simp; refine hK1 _ _ ?_; clear hK1 K1; refine Mtree.fin ?_; refine hK _ _ ⟨by simp [AllEq, go_sem], ?_⟩; exact ⟨hgc.drew, hgs.ext (Ext.refl _).drew⟩
                · skip; refine Mtree.step fun K1 hK1 => ?_; go_simp; refine hK1 _ _ (by first | exact (Ext.refl _).alloc _ | exact Ext.refl _) ?_; clear hK1 K1; refine Mtree.step fun K1 hK1 => ?_; go_simp; refine hK1 _ _ (by first | exact (Ext.refl _).alloc _ | exact Ext.refl _) ?_; clear hK1 K1; refine Mtree.stepT fun K1 hK1 => ?_; go_simp; refine hK1 _ _ ?_; clear hK1 K1; refine Mtree.stepT fun K1 hK1 => ?_; go_simp; refine hK1 _ _ ?_; clear hK1 K1; refine Mtree.fin ?_; refine hK _ _ ⟨by simp [AllEq, go_sem], ?_⟩; exact ⟨hgc.drew, hgs.ext (Ext.refl _).drew⟩
            · skip; refine Mtree.step fun K1 hK1 => ?_; go_simp; refine hK1 _ _ (by first | exact (Ext.refl _).alloc _ | exact Ext.refl _) ?_; clear hK1 K1; refine Mtree.two ?_ ?_
              · skip; refine Mtree.step fun K1 hK1 => ?_; go_simp; refine hK1 _ _ (by first | exact (Ext.refl _).alloc _ | exact Ext.refl _) ?_; clear hK1 K1; refine Mtree.two ?_ ?_
                · skip; refine Mtree.step fun K1 hK1 => ?_; go_simp; refine hK1 _ _ (by first | exact (Ext.refl _).alloc _ | exact Ext.refl _) ?_; clear hK1 K1; refine Mtree.step fun K1 hK1 => ?_; go_simp; refine hK1 _ _ (by first | exact (Ext.refl _).alloc _ | exact Ext.refl _) ?_; clear hK1 K1; refine Mtree.stepT fun K1 hK1 => ?_; go_simp; refine hK1 _ _ ?_; clear hK1 K1; refine Mtree.stepT fun K1 hK1 => ?_; go_simp; refine hK1 _ _ ?_; clear hK1 K1; refine Mtree.fin ?_; refine hK _ _ ⟨by simp [AllEq, go_sem], ?_⟩; exact ⟨hgc.drew, hgs.ext (Ext.refl _).drew⟩
                · skip; refine Mtree.step fun K1 hK1 => ?_; go_simp; refine hK1 _ _ (by first | exact (Ext.refl _).alloc _ | exact Ext.refl _) ?_; clear hK1 K1; refine Mtree.step fun K1 hK1 => ?_; go_simp; refine hK1 _ _ (by first | exact (Ext.refl _).alloc _ | exact Ext.refl _) ?_; clear hK1 K1; refine Mtree.stepT fun K1 hK1 => ?_; go_simp; refine hK1 _ _ ?_; clear hK1 K1; refine Mtree.stepT fun K1 hK1 => ?_; go_simp; refine hK1 _ _ ?_; clear hK1 K1; refine Mtree.fin ?_; refine hK _ _ ⟨by simp [AllEq, go_sem], ?_⟩; exact ⟨hgc.drew, hgs.ext (Ext.refl _).drew⟩
              · skip; refine Mtree.step fun K1 hK1 => ?_; go_simp; refine hK1 _ _ (by first | exact (Ext.refl _).alloc _ | exact Ext.refl _) ?_; clear hK1 K1; refine Mtree.step fun K1 hK1 => ?_; go_simp; refine hK1 _ _ (by first | exact (Ext.refl _).alloc _ | exact Ext.refl _) ?_; clear hK1 K1; refine Mtree.step fun K1 hK1 => ?_; go_simp; refine hK1 _ _ (by first | exact (Ext.refl _).alloc _ | exact Ext.refl _) ?_; clear hK1 K1; refine Mtree.stepT fun K1 hK1 => ?_; go_simp; refine hK1 _ _ ?_; clear hK1 K1; refine Mtree.stepT fun K1 hK1 => ?_; go_simp; refine hK1 _ _ ?_; clear hK1 K1; refine Mtree.fin ?_; refine hK _ _ ⟨by simp [AllEq, go_sem], ?_⟩; exact ⟨hgc.drew, hgs.ext (Ext.refl _).drew⟩
      · rintro r11 W ⟨hA, hT5, hS⟩; obtain ⟨e2_11, e4_11, -⟩ := hA; rw [e2_10] at e2_11; rw [e4_10] at e4_11; clear e1_10 e2_10 e4_10; have zhT5 := Chg.size hT5; replace f2 := Chg.fz hT5 c2_0 f2 (by intro hm; simp only [List.mem_cons, List.not_mem_nil, or_false] at hm; omega); replace f4 := Chg.fz hT5 c4_0 f4 (by intro hm; simp only [List.mem_cons, List.not_mem_nil, or_false] at hm; omega); replace xw := Chg.to xw hT5 (by intro b hm; simp only [List.mem_cons, List.not_mem_nil, or_false] at hm; omega); replace c4_0 := Chg.cell hT5 c4_0 (by intro hm; simp only [List.mem_cons, List.not_mem_nil, or_false] at hm; omega); replace c4_1 := Chg.cell hT5 c4_1 (by intro hm; simp only [List.mem_cons, List.not_mem_nil, or_false] at hm; omega); replace c2_0 := Chg.cell hT5 c2_0 (by intro hm; simp only [List.mem_cons, List.not_mem_nil, or_false] at hm; omega); replace c2_1 := Chg.cell hT5 c2_1 (by intro hm; simp only [List.mem_cons, List.not_mem_nil, or_false] at hm; omega); have hS1 : (o.swap i).m = o.m := rfl; have hS2 : (o.swap i).n = o.n := swap_n; clear d0 d1 d2 d3 d4 d5 hF hgd hgs hgc; refine Wp.seqRegion (.inl rfl) (by kernel_rfl) fun K' gd hK hg => ?_; clear hg; refine Wops.cut 2 fun K1 hK1 => ?_; simp only [List.take_succ_cons, List.take_zero]; go_simp; refine hK1 _ _ ?_; clear hK1 K1; simp only [List.drop_succ_cons, List.drop_zero]; refine Wops.absS (b := n4) (i := 0) [_, _] (somes [cellVal c4_0, cellVal c4_1] (by simp) (by intro j v hj; match j, hj with | 0, hj => (simp at hj; subst hj; exact c4_0) | 1, hj => (simp at hj; subst hj; exact c4_1))) fun P6 hP6 => ?_
        have zP6 := hP6.same; replace f2 := Put.frz hP6 f2; replace f4 := Put.frz hP6 f4; replace hS := hS.put hP6 (by omega); replace xw := Put.to xw hP6 (by omega); clear c4_0; clear c4_1; replace c2_0 := Put.cell hP6 c2_0 (by omega); replace c2_1 := Put.cell hP6 c2_1 (by omega); have c4_0 := hP6.new 0 _ rfl; try simp only [Nat.reduceAdd, Nat.zero_add, Nat.add_zero] at c4_0
        have c4_1 := hP6.new 1 _ rfl; try simp only [Nat.reduceAdd, Nat.zero_add, Nat.add_zero] at c4_1
        clear hP6; go_simp; refine hK _ _ ?_; clear hK K' gd; refine Wp.keep [4, 5] fun r12 hkeep => ?_; obtain ⟨e4_12, e5_12, -⟩ := hkeep; simp [go_sem, e2_11, e4_11] at e4_12 e5_12; clear e2_11 e4_11; refine Wp.ret ?_; refine endK_cell_tmp (v := .agg #[cellVal c4_0, cellVal c4_1]) Try.results35 (by decide) (by decide) e4_12 (by dsimp only [cellVal]; go_simp) ?_; rw [e5_12]
        dsimp only [cellVal]
        have e : swapE o (i : Int) = 0 := by unfold swapE; rw [if_pos h0, if_neg hx]
        have e3 : swapO o (i : Int) = o.swap i := by unfold swapO; rw [if_pos e, Int.toNat_natCast]
        refine ⟨_, by rw [e], ?_, fun _ => ⟨a'.swp i, ?_, ?_⟩, xw⟩
        rotate_left
        · rw [e3]; simp only [OA.cv, OA.rv, OA.swp, hr2, hr3, hS1, hS2]
        · rw [e3]; exact hS.less (by omega)
        rw [e3]; have h9 := hS.ord.orderV (hg.swap hi2); simp only [OA.cv, OA.rv, OA.swp, hr2, hr3, hS1, hS2] at h9; exact h9
  · skip; refine Wp.seqRegion (.inl rfl) (by kernel_rfl) fun K' gd hK hg => ?_; clear hg; go_simp; refine hK _ _ ?_; clear hK K' gd; refine Wp.keep [1, 2, 4, 6, 11] fun r13 hkeep => ?_; obtain ⟨e1_13, e2_13, e4_13, e6_13, e11_13, -⟩ := hkeep; simp [go_sem, e1_4, e2_4, e4_4, e6_4] at e1_13 e2_13 e4_13 e6_13 e11_13; clear e1_4 e2_4 e4_4 e6_4; refine Wp.condT (by go_simp) ?_; refine Wp.seqRegion (.inl rfl) (by kernel_rfl) fun K' gd hK hg => ?_; clear hg; refine Wops.cut 3 fun K1 hK1 => ?_; simp only [List.take_succ_cons, List.take_zero]; go_simp; refine hK1 _ _ ?_; clear hK1 K1; simp only [List.drop_succ_cons, List.drop_zero]; refine Wops.absS (b := n4) (i := 0) [_, _] (somes [cellVal c4_0, cellVal c4_1] (by simp) (by intro j v hj; match j, hj with | 0, hj => (simp at hj; subst hj; exact c4_0) | 1, hj => (simp at hj; subst hj; exact c4_1))) fun P7 hP7 => ?_; have zP7 := hP7.same; replace f2 := Put.frz hP7 f2; replace f4 := Put.frz hP7 f4; replace xw := Put.to xw hP7 (by omega); replace c2_0 := Put.cell hP7 c2_0 (by omega); replace c2_1 := Put.cell hP7 c2_1 (by omega); clear c4_0; clear c4_1; have c4_0 := hP7.new 0 _ rfl; try simp only [Nat.reduceAdd, Nat.zero_add, Nat.add_zero] at c4_0
    have c4_1 := hP7.new 1 _ rfl; try simp only [Nat.reduceAdd, Nat.zero_add, Nat.add_zero] at c4_1
    clear hP7; go_simp; refine hK _ _ ?_; clear hK K' gd; refine Wp.keep [4, 5] fun r14 hkeep => ?_; obtain ⟨e4_14, e5_14, -⟩ := hkeep; simp [go_sem, e1_13, e2_13, e4_13, e6_13, e11_13] at e4_14 e5_14; clear e1_13 e2_13 e4_13 e6_13 e11_13; refine Wp.ret ?_; refine thenK_ret ?_; refine endK_cell_tmp (v := .agg #[cellVal c4_0, cellVal c4_1]) Try.results35 (by decide) (by decide) e4_14 (by dsimp only [cellVal]; go_simp) ?_; rw [e5_14]
    dsimp only [cellVal]
    have e : swapE o x = askS o (okRunner o x) := by unfold swapE; rw [if_neg h0]
    exact ⟨_, by rw [e], by unfold swapO; rw [e, if_neg h0]; exact noOrdV _ _, fun h => absurd (e.symm.trans h) h0, xw⟩
end Go.Proofs.Ytnfagcccgmakdaa
namespace Go.Proofs.Ytnfagcccgmakdaa
open Go.RowKit Go.Wk Go.Proofs
attribute [local irreducible] Go.Wk.Wops Go.Wk.Wp Go.Wk.Mtree Go.Wk.Mops
set_option maxHeartbeats 4000000
section
variable {o : Ord} {i : Nat}
end
structure OrdB (w : World) (base : Nat) (a : OA) (o : Ord) : Prop where
  ord : OrdF w w.heap.size a o
  gC : base ≤ a.cb
  gR : 0 < o.n → base ≤ a.rb
  gT : ∀ i, i < o.n → base ≤ a.tb i
theorem OrdB.other {w w' : World} {base : Nat} {a : OA} {o : Ord} (h : OrdB w base a o) (hs : w.heap.size ≤ w'.heap.size) (hb : ∀ k, base ≤ k → k < w.heap.size → w'.heap[k]? = w.heap[k]?) : OrdB w' base a o := by
  have hO := h.ord; have bC := hb _ h.gC hO.bC; have bR : 0 < o.n → w'.heap[a.rb]? = w.heap[a.rb]? := fun h' => hb _ (h.gR h') (hO.bR h'); have bT : ∀ i, i < o.n → w'.heap[a.tb i]? = w.heap[a.tb i]? := fun i hi => hb _ (h.gT i hi) (hO.bT i hi)
  exact { h with
    ord := { hO.more hs with
      hC := fun j hj => (World.cell?_of_block (a := ⟨a.cb, a.co + j, none⟩) bC).trans (hO.hC j hj)
      hI := fun i hi => (World.cell?_of_block (a := ⟨a.rb, a.ro + i * 3, none⟩) (bR (by omega))).trans (hO.hI i hi)
      hA := fun i hi => (World.cell?_of_block (a := ⟨a.rb, a.ro + i * 3 + 1, none⟩) (bR (by omega))).trans (hO.hA i hi)
      hT := fun i hi => (World.cell?_of_block (a := ⟨a.rb, a.ro + i * 3 + 2, none⟩) (bR (by omega))).trans (hO.hT i hi)
      hTT := fun i j hi hj => (World.cell?_of_block (a := ⟨a.tb i, a.to_ i + j, none⟩) (bT i hi)).trans (hO.hTT i j hi hj) } }
theorem OrdB.ext {w w' : World} {base : Nat} {a : OA} {o : Ord} (h : OrdB w base a o) (hE : Ext w w') : OrdB w' base a o := h.other hE.size fun k _ hk => Below.block hE k hk
theorem OrdB.put {w V : World} {base b i : Nat} {a : OA} {o : Ord} {vs : List Value} (h : OrdB w base a o) (p : Put w V b i vs) (hb : b < base) : OrdB V base a o := h.other p.chg.size fun k hk hl => p.chg.block k hl (by simp; omega)
theorem OrdB.less {w : World} {base b2 : Nat} {a : OA} {o : Ord} (h : OrdB w base a o) (hb : b2 ≤ base) : OrdB w b2 a o := ⟨h.ord, Nat.le_trans hb h.gC, fun h' => Nat.le_trans hb (h.gR h'), fun i hi => Nat.le_trans hb (h.gT i hi)⟩
end Go.Proofs.Ytnfagcccgmakdaa
namespace Go.Proofs.Ytnfagcccgmakdaa
open Go.RowKit Go.Wk Go.Proofs
attribute [local irreducible] Go.Wk.Wops Go.Wk.Wp Go.Wk.Mtree Go.Wk.Mops
set_option maxHeartbeats 4000000
def IntsP (w : World) (P : Nat → Prop) (v : Value) (xs : List Int) : Prop :=
  ∃ (A : Option Addr) (c : Nat), v = .slice A xs.length c ∧ (xs ≠ [] → ∃ b o, A = some ⟨b, o, none⟩ ∧ P b ∧ ∀ k (h : k < xs.length), w.cell? ⟨b, o + k, none⟩ = some (.int .i64 xs[k])) ∧ xs.length ≤ c
theorem IntsP.keep {w w' : World} {P : Nat → Prop} {v : Value} {xs : List Int} (h : IntsP w P v xs) (hb : ∀ k, P k → k < w.heap.size → w'.heap[k]? = w.heap[k]?) : IntsP w' P v xs := by
  obtain ⟨A, c, hv, hx, hcap⟩ := h
  exact ⟨A, c, hv, fun hne => by
    obtain ⟨b, o, hA, hp, hc⟩ := hx hne
    exact ⟨b, o, hA, hp, fun k hk => (World.cell?_of_block (a := ⟨b, o + k, none⟩) (hb b hp (cell_lt (hc k hk)))).trans (hc k hk)⟩, hcap⟩
theorem IntsP.weak {w : World} {P Q : Nat → Prop} {v : Value} {xs : List Int} (h : IntsP w P v xs) (hq : ∀ k, P k → k < w.heap.size → Q k) : IntsP w Q v xs := by
  obtain ⟨A, c, hv, hx, hcap⟩ := h
  exact ⟨A, c, hv, fun hne => by
    obtain ⟨b, o, hA, hp, hc⟩ := hx hne
    exact ⟨b, o, hA, hq b hp (by obtain ⟨k, hk⟩ : ∃ k, k < xs.length := ⟨0, List.length_pos_iff.2 hne⟩; exact cell_lt (hc k hk)), hc⟩, hcap⟩
theorem IntsP.intsV {w : World} {P : Nat → Prop} {v : Value} {xs : List Int} (h : IntsP w P v xs) : IntsV w w.heap.size v xs := by
  obtain ⟨A, c, hv, hx, hcap⟩ := h
  exact ⟨A, c, hv, fun hne => by
    obtain ⟨b, o, hA, hp, hc⟩ := hx hne
    exact ⟨b, o, hA, (by obtain ⟨k, hk⟩ : ∃ k, k < xs.length := ⟨0, List.length_pos_iff.2 hne⟩; exact cell_lt (hc k hk)), hc⟩, hcap⟩
def RunsP (w : World) (P : Nat → Prop) (v : Value) (rs : List Run) : Prop :=
  ∃ (A : Option Addr) (c : Nat) (tv : Nat → Value), v = .slice A rs.length c ∧
    (rs ≠ [] → ∃ b o, A = some ⟨b, o, none⟩ ∧ P b ∧ ∀ k (h : k < rs.length), w.cell? ⟨b, o + k * 3, none⟩ = some (.int .i64 rs[k].id) ∧ w.cell? ⟨b, o + k * 3 + 1, none⟩ = some (.int .i64 rs[k].arr) ∧ w.cell? ⟨b, o + k * 3 + 2, none⟩ = some (tv k)) ∧
    (∀ k (h : k < rs.length), IntsP w P (tv k) rs[k].takes) ∧ rs.length ≤ c
theorem RunsP.keep {w w' : World} {P : Nat → Prop} {v : Value} {rs : List Run} (h : RunsP w P v rs) (hb : ∀ k, P k → k < w.heap.size → w'.heap[k]? = w.heap[k]?) : RunsP w' P v rs := by
  obtain ⟨A, c, tv, hv, hx, ht, hcap⟩ := h; refine ⟨A, c, tv, hv, fun hne => ?_, fun k hk => (ht k hk).keep hb, hcap⟩; obtain ⟨b, o, hA, hp, hc⟩ := hx hne; have e : ∀ {j : Nat} {u : Value}, w.cell? ⟨b, j, none⟩ = some u → w'.cell? ⟨b, j, none⟩ = some u := fun {j u} c => (World.cell?_of_block (a := ⟨b, j, none⟩) (hb b hp (cell_lt c))).trans c; exact ⟨b, o, hA, hp, fun k hk => ⟨e (hc k hk).1, e (hc k hk).2.1, e (hc k hk).2.2⟩⟩
theorem RunsP.runsV {w : World} {P : Nat → Prop} {v : Value} {rs : List Run} (h : RunsP w P v rs) : RunsV w w.heap.size v rs := by
  obtain ⟨A, c, tv, hv, hx, ht, hcap⟩ := h; refine ⟨A, c, tv, hv, fun hne => ?_, fun k hk => (ht k hk).intsV, hcap⟩; obtain ⟨b, o, hA, hp, hc⟩ := hx hne; exact ⟨b, o, hA, (by obtain ⟨k, hk⟩ : ∃ k, k < rs.length := ⟨0, List.length_pos_iff.2 hne⟩; exact cell_lt (hc k hk).1), hc⟩
def OrderP (w : World) (P : Nat → Prop) (v : Value) (o : Ord) : Prop := ∃ cv rv, v = .agg #[cv, rv] ∧ IntsP w P cv o.cop ∧ RunsP w P rv o.runs
theorem OrderP.keep {w w' : World} {P : Nat → Prop} {v : Value} {o : Ord} (h : OrderP w P v o) (hb : ∀ k, P k → k < w.heap.size → w'.heap[k]? = w.heap[k]?) : OrderP w' P v o := by
  obtain ⟨cv, rv, rfl, h1, h2⟩ := h; exact ⟨cv, rv, rfl, h1.keep hb, h2.keep hb⟩
theorem OrderP.ext {w w' : World} {P : Nat → Prop} {v : Value} {o : Ord} (h : OrderP w P v o) (hE : Ext w w') : OrderP w' P v o := h.keep fun k _ hk => Below.block hE k hk
theorem OrderP.put {w V : World} {b i : Nat} {P : Nat → Prop} {v : Value} {o : Ord} {vs : List Value} (h : OrderP w P v o) (p : Put w V b i vs) (hb : ¬ P b) : OrderP V P v o := h.keep fun k hp hl => p.chg.block k hl (by simp; intro e; subst e; exact hb hp)
theorem OrderP.orderV {w : World} {P : Nat → Prop} {v : Value} {o : Ord} (h : OrderP w P v o) : OrderV w w.heap.size v o := by
  obtain ⟨cv, rv, rfl, h1, h2⟩ := h; exact ⟨cv, rv, rfl, h1.intsV, h2.runsV⟩
def Ord.app (a b : Ord) : Ord := ⟨a.cop, a.runs ++ b.runs⟩
theorem CopyF.takesP {w V : World} {base : Nat} {a : OA} {o : Ord} (h : CopyF w base a o) (hg : OrdGood o) {P : Nat → Prop} (hP : ∀ i, i < o.n → P (a.tb i)) (hk : ∀ i, i < o.n → V.heap[a.tb i]? = w.heap[a.tb i]?) {k : Nat} (hkn : k < o.n) :
    IntsP V P (.slice (some ⟨a.tb k, a.to_ k, none⟩) o.m (a.tc k)) (o.runs[k]'hkn).takes := by
  have hO := h.ord; have hl : (o.runs[k]'hkn).takes.length = o.m := by have := hg.takes_len hkn; rwa [List.getElem?_eq_getElem hkn] at this
  refine ⟨_, a.tc k, by rw [hl], fun _ => ⟨_, _, rfl, hP k hkn, fun j hj => ?_⟩, by rw [hl]; exact hO.htc k hkn⟩; have h1 := hO.hTT k j hkn (by omega); rw [World.cell?_of_block (a := ⟨a.tb k, a.to_ k + j, none⟩) (hk k hkn), h1]; unfold Ord.T; rw [List.getElem?_eq_getElem hkn, Option.getD_some, List.getElem?_eq_getElem hj]; rfl
@[go_sem] theorem field1 (u : Value) (A : Option Addr) (n c : Nat) (w : World) : (Instr.field 25 (.agg #[u, .slice A n c]) 1).run Try.prog w = .ok (.slice A n c) w := by kernel_rfl
end Go.Proofs.Ytnfagcccgmakdaa
namespace Go.Proofs.Ytnfagcccgmakdaa
open Go.RowKit Go.Wk Go.Proofs
section
variable {a b : Ord}
variable (ha : OrdOk a) (hb : OrdOk b) (hm : OrdOk (a.app b)) (hc : b.cop = a.cop)
include hb hm hc in
end
end Go.Proofs.Ytnfagcccgmakdaa
namespace Go.Proofs.Ytnfagcccgmakdaa
open Go.RowKit Go.Wk Go.Proofs
def flow : Int → Int → List (Int × Int) → Int
  | _, B, [] => B
  | A, B, x :: L => flow (A + x.1) (max (A + x.1) B + x.2) L
def jle (x y : Int × Int) : Prop := (x.1 < x.2 ∧ ¬ y.1 < y.2) ∨ (x.1 < x.2 ∧ y.1 < y.2 ∧ x.1 ≤ y.1) ∨ (¬ x.1 < x.2 ∧ ¬ y.1 < y.2 ∧ y.2 ≤ x.2)
theorem jle_trans {x y z : Int × Int} (h : jle x y) (k : jle y z) : jle x z := by
  unfold jle at *; omega
theorem flow_mono : ∀ (L : List (Int × Int)) (A B B' : Int), B ≤ B' → flow A B L ≤ flow A B' L
  | [], _, _, _, h => h
  | x :: L, A, B, B', h => flow_mono L _ _ _ (by omega)
theorem flow_swap {s y : Int × Int} (h : jle s y) (T : List (Int × Int)) (A B : Int) : flow A B (s :: y :: T) ≤ flow A B (y :: s :: T) := by
  simp only [flow]; rw [show A + y.1 + s.1 = A + s.1 + y.1 by omega]; refine flow_mono _ _ _ _ ?_; unfold jle at h
  rcases h with h | h | h <;> omega
theorem flow_front {s : Int × Int} {Q : List (Int × Int)} : ∀ (P : List (Int × Int)) (A B : Int), (∀ y ∈ P, jle s y) → flow A B (s :: (P ++ Q)) ≤ flow A B (P ++ s :: Q)
  | [], _, _, _ => Int.le_refl _
  | p :: P, A, B, h => by
    refine Int.le_trans (flow_swap (h p (List.mem_cons_self ..)) _ A B) ?_
    show flow (A + p.1) (max (A + p.1) B + p.2) (s :: (P ++ Q)) ≤ flow (A + p.1) (max (A + p.1) B + p.2) (P ++ s :: Q)
    exact flow_front P _ _ fun y hy => h y (List.mem_cons_of_mem _ hy)
theorem flow_best : ∀ (S L : List (Int × Int)) (A B : Int), S.Pairwise jle → S.Perm L → flow A B S ≤ flow A B L
  | [], L, A, B, _, hp => by rw [List.nil_perm.1 hp]; exact Int.le_refl _
  | s :: S, L, A, B, hs, hp => by
    have hm : s ∈ L := hp.mem_iff.1 (List.mem_cons_self ..); obtain ⟨P, Q, rfl⟩ := List.append_of_mem hm
    have hp2 : S.Perm (P ++ Q) := by
      have := hp.trans (List.perm_middle); exact (List.perm_cons s).1 this
    have hs1 := List.pairwise_cons.1 hs; refine Int.le_trans ?_ (flow_front P A B fun y hy => hs1.1 y (hp2.mem_iff.2 (List.mem_append_left _ hy)))
    show flow _ _ S ≤ flow _ _ (P ++ Q)
    exact flow_best S (P ++ Q) _ _ hs1.2 hp2
def sumA (L : List (Int × Int)) : Int := (L.map (·.1)).sum
theorem flow_snoc (x : Int × Int) : ∀ (L : List (Int × Int)) (A B : Int), flow A B (L ++ [x]) = max (A + sumA L + x.1) (flow A B L) + x.2
  | [], A, B => by simp [flow, sumA]
  | y :: L, A, B => by
    show flow _ _ (L ++ [x]) = _
    rw [flow_snoc x L]; simp only [flow, sumA, List.map_cons, List.sum_cons]
    congr 2
    omega
def jp (o : Ord) (i : Nat) : Int × Int := (o.T i 0, o.T i 1)
def pairs (o : Ord) (n : Nat) : List (Int × Int) := (List.range n).map (jp o)
theorem pairs_succ (o : Ord) (n : Nat) : pairs o (n + 1) = pairs o n ++ [jp o n] := by unfold pairs; rw [List.range_succ, List.map_append]; rfl
section
variable {o : Ord}
theorem two_beg0 (ho : OrdOk o) (hm : o.m = 2) (hC : ∀ j, j < 2 → o.C j = 1) {d : Int} (hA : ∀ i, i < o.n → o.A i = d) : ∀ i, i < o.n → begA o i 0 = d + sumA (pairs o i)
  | 0, h => by
    rw [begA_fill ho h (by omega), if_pos rfl, hA 0 h]; have hc := hC 0 (by omega); have : beforeL o (0, 0) = [] := by simp [beforeL, hc]
    rw [this]; simp [mostL, pairs, sumA]
  | i + 1, h => by
    have ih := two_beg0 ho hm hC hA i (by omega); rw [begA_fill ho h (by omega), if_pos rfl, hA _ h]; have hc := hC 0 (by omega); have : beforeL o (i + 1, 0) = [(i, 0)] := by simp [beforeL, hc]; omega
    rw [this]
    show max d (begA o i 0 + o.T i 0) = _
    have h1 := (ho.vT i 0 (by omega) (by omega)).1; have h2 := (beg_keeps ho).arr i (by omega); rw [hA i (by omega)] at h2; rw [ih, pairs_succ]; rw [ih] at h2; unfold sumA at *; rw [List.map_append, List.sum_append]; simp [jp]; omega
theorem two_end1 (ho : OrdOk o) (hm : o.m = 2) (hC : ∀ j, j < 2 → o.C j = 1) {d : Int} (hd : 0 ≤ d) (hA : ∀ i, i < o.n → o.A i = d) : ∀ i, i < o.n → begA o i 1 + o.T i 1 = flow d 0 (pairs o (i + 1))
  | 0, h => by
    have h0 := two_beg0 ho hm hC hA 0 h; rw [begA_fill ho h (by omega), if_neg (by decide), pairs_succ, flow_snoc]; have hc := hC 1 (by omega); have : beforeL o (0, 1) = [(0, 0)] := by simp [beforeL, hc]
    rw [this]
    show max 0 (begA o 0 0 + o.T 0 0) + _ = _
    rw [h0]; simp only [jp, pairs, List.range_zero, List.map_nil, flow]; omega
  | i + 1, h => by
    have ih := two_end1 ho hm hC hd hA i (by omega); have h0 := two_beg0 ho hm hC hA (i + 1) h; have h1 := (begA_ok ho h (show 0 < o.m by omega)).1; have h2 := (ho.vT (i + 1) 0 h (by omega)).1; rw [begA_fill ho h (by omega), if_neg (by decide), pairs_succ, flow_snoc, ← ih]; have hc := hC 1 (by omega); have : beforeL o (i + 1, 1) = [(i + 1, 0), (i, 1)] := by simp [beforeL, hc]; omega
    rw [this]
    show max (max 0 (begA o (i + 1) 0 + o.T (i + 1) 0)) (begA o i 1 + o.T i 1) + _ = _
    rw [← h0]; simp only [jp]; omega
theorem two_end (ho : OrdOk o) (hm : o.m = 2) (hC : ∀ j, j < 2 → o.C j = 1) {d : Int} (hd : 0 ≤ d) (hA : ∀ i, i < o.n → o.A i = d) : endS o = flow d 0 (pairs o o.n) := by
  have key : ∀ k, k < o.n → ∀ i, i ≤ k → begA o i 1 + o.T i 1 ≤ begA o k 1 + o.T k 1 := by
    intro k
    induction k with
    | zero =>
      intro h i hi; obtain rfl : i = 0 := by omega
      exact Int.le_refl _
    | succ k ih =>
      intro h i hi
      by_cases e : i = k + 1
      · subst e; exact Int.le_refl _
      · have h1 := ih (by omega) i (by omega); have h2 := (beg_keeps ho).copy (k + 1) k 1 h (by omega) (by rw [hC 1 (by omega)]; omega); have h3 := (ho.vT (k + 1) 1 h (by omega)).1; omega
  by_cases h0 : o.n = 0
  · rw [h0]; refine Int.le_antisymm (end_le (by simp [flow, pairs]) fun i j hi => by omega) ?_; have : flow d 0 (pairs o 0) = 0 := by simp [flow, pairs]
    rw [this]; exact end_nonneg
  · have he := two_end1 ho hm hC hd hA (o.n - 1) (by omega); rw [show o.n - 1 + 1 = o.n by omega] at he; rw [← he]; have hl1 := (begA_ok ho (show o.n - 1 < o.n by omega) (show 1 < o.m by omega)).1; have hl2 := (ho.vT (o.n - 1) 1 (by omega) (by omega)).1; refine Int.le_antisymm (end_le (by omega) fun i j hi hj => ?_) (end_ge (by omega) (by omega)); have hk := key (o.n - 1) (by omega) i (by omega)
    by_cases hj1 : j = 1
    · subst hj1; exact hk
    · obtain rfl : j = 0 := by omega
      have h2 := (beg_keeps ho).piece i 0 hi (by omega); have h3 := (ho.vT i 1 hi (by omega)).1; rw [Nat.zero_add] at h2; omega
end
section
variable {lt : Nat → Nat → Bool} {le : Nat → Nat → Prop}
theorem posF_spec (x : Nat) (f : Nat → Nat) : ∀ j, (∀ k, posF lt x f j ≤ k → k < j → lt x (f k) = true) ∧ (0 < posF lt x f j → lt x (f (posF lt x f j - 1)) = false)
  | 0 => ⟨fun k _ h => absurd h (Nat.not_lt_zero _), fun h => absurd h (Nat.lt_irrefl _)⟩
  | j + 1 => by
    have ih := posF_spec x f j; unfold posF
    split
    · rename_i h
      refine ⟨fun k h1 h2 => ?_, ih.2⟩
      by_cases e : k = j
      · subst e; exact h
      · exact ih.1 k h1 (by omega)
    · rename_i h
      exact ⟨fun k h1 h2 => by omega, fun _ => by simpa using h⟩
theorem insAt_sorted (htr : ∀ x y z, le x y → le y z → le x z) (h1 : ∀ x y, lt x y = true → le x y) (h2 : ∀ x y, lt x y = false → le y x) {f : Nat → Nat} {i : Nat} (hf : ∀ a b, a < b → b < i → le (f a) (f b)) :
    ∀ a b, a < b → b < i + 1 → le (insAt lt f i a) (insAt lt f i b) := by
  obtain ⟨s1, s2⟩ := posF_spec (lt := lt) (f i) f i; have hp := posF_le lt (f i) f i; unfold insAt
  generalize posF lt (f i) f i = p at *
  have low : ∀ a, a < p → le (f a) (f i) := fun a ha => by
    have h3 := h2 _ _ (s2 (by omega))
    by_cases e : a = p - 1
    · subst e; exact h3
    · exact htr _ _ _ (hf a (p - 1) (by omega) (by omega)) h3
  have high : ∀ k, p ≤ k → k < i → le (f i) (f k) := fun k hk hki => h1 _ _ (s1 k hk hki); intro a b hab hb; unfold insTo
  by_cases ha : a < p
  · rw [if_pos ha]
    by_cases hb1 : b < p
    · rw [if_pos hb1]; exact hf a b hab (by omega)
    · rw [if_neg hb1]
      by_cases hb2 : b = p
      · rw [if_pos hb2]; exact low a ha
      · rw [if_neg hb2, if_pos (by omega)]; exact hf a (b - 1) (by omega) (by omega)
  · rw [if_neg ha]
    by_cases ha2 : a = p
    · rw [if_pos ha2, if_neg (by omega), if_neg (by omega), if_pos (by omega)]; exact high (b - 1) (by omega) (by omega)
    · rw [if_neg ha2, if_pos (by omega), if_neg (by omega), if_neg (by omega), if_pos (by omega)]; exact hf (a - 1) (b - 1) (by omega) (by omega)
theorem stg_sorted (htr : ∀ x y z, le x y → le y z → le x z) (h1 : ∀ x y, lt x y = true → le x y) (h2 : ∀ x y, lt x y = false → le y x) (f : Nat → Nat) : ∀ k a b, a < b → b < k + 1 → le (stg lt f k a) (stg lt f k b)
  | 0, a, b, h, hb => by omega
  | k + 1, a, b, h, hb => insAt_sorted htr h1 h2 (fun a b h hb => stg_sorted htr h1 h2 f k a b h hb) a b h hb
theorem insTo_perm (f : Nat → Nat) {i p : Nat} (hp : p ≤ i) : List.Perm ((List.range (i + 1)).map (insTo f i p)) ((List.range (i + 1)).map f) := by
  obtain ⟨q, rfl⟩ : ∃ q, i = p + q := ⟨i - p, by omega⟩
  have e1 : (List.range (p + q + 1)).map (insTo f (p + q) p) = (List.range p).map f ++ f (p + q) :: (List.range q).map (fun k => f (p + k)) := by
    apply List.ext_getElem
    · simp; omega
    · intro k h1 h2; have hk : k < p + q + 1 := by simpa using h1
      rw [List.getElem_map, List.getElem_range]; unfold insTo
      by_cases a1 : k < p
      · rw [if_pos a1, List.getElem_append_left (by simpa using a1)]; simp
      · rw [if_neg a1, List.getElem_append_right (by simpa using a1)]; simp only [List.length_map, List.length_range]
        by_cases a2 : k = p
        · subst a2; simp
        · rw [if_neg a2, if_pos (by omega)]; obtain ⟨r, rfl⟩ : ∃ r, k = p + r + 1 := ⟨k - p - 1, by omega⟩; simp only [show p + r + 1 - p = r + 1 by omega, List.getElem_cons_succ, List.getElem_map, List.getElem_range]
          congr 1
  have e2 : (List.range (p + q + 1)).map f = (List.range p).map f ++ ((List.range q).map (fun k => f (p + k)) ++ [f (p + q)]) := by
    rw [List.range_succ, List.range_add, List.map_append, List.map_append, List.map_map, List.append_assoc]; rfl
  rw [e1, e2]; exact List.Perm.append_left _ (List.perm_append_singleton (f (p + q)) _).symm
theorem insTo_far {f : Nat → Nat} {i p k : Nat} (hp : p ≤ i) (h : i < k) : insTo f i p k = f k := by
  unfold insTo; rw [if_neg (by omega), if_neg (by omega), if_neg (by omega)]
theorem map_more {f g : Nat → Nat} {i : Nat} (n : Nat) (h : List.Perm ((List.range i).map f) ((List.range i).map g)) (he : ∀ k, i ≤ k → f k = g k) (hn : i ≤ n) : List.Perm ((List.range n).map f) ((List.range n).map g) := by
  obtain ⟨q, rfl⟩ : ∃ q, n = i + q := ⟨n - i, by omega⟩; rw [List.range_add, List.map_append, List.map_append, List.map_map, List.map_map]; refine (List.Perm.append_right _ h).trans ?_; have : (List.range q).map (f ∘ fun x => i + x) = (List.range q).map (g ∘ fun x => i + x) := List.map_congr_left fun k _ => he (i + k) (by omega); rw [this]
theorem stg_perm (lt : Nat → Nat → Bool) (f : Nat → Nat) (n : Nat) : ∀ k, k < n → List.Perm ((List.range n).map (stg lt f k)) ((List.range n).map f)
  | 0, _ => List.Perm.refl _
  | k + 1, h => by
    have ih := stg_perm lt f n k (by omega); refine List.Perm.trans ?_ ih; have hp := posF_le lt (stg lt f k (k + 1)) (stg lt f k) (k + 1); exact map_more n (insTo_perm (stg lt f k) hp) (fun j hj => insTo_far hp (by omega)) (by omega)
end
theorem ltJ_jle {o : Ord} {x y : Nat} (h : ltJ o x y = true) : jle (jp o x) (jp o y) := by
  unfold ltJ cmpB earl cmpI at h; unfold jle jp; simp only [decide_eq_true_eq] at h
  by_cases h1 : o.T x 0 < o.T x 1 <;> by_cases h2 : o.T y 0 < o.T y 1 <;> simp [h1, h2] at h ⊢
  all_goals (first | omega | (split at h <;> (try split at h) <;> omega))
theorem ltJ_jle2 {o : Ord} {x y : Nat} (h : ltJ o x y = false) : jle (jp o y) (jp o x) := by
  unfold ltJ cmpB earl cmpI at h; unfold jle jp; simp only [decide_eq_false_iff_not] at h
  by_cases h1 : o.T x 0 < o.T x 1 <;> by_cases h2 : o.T y 0 < o.T y 1 <;> simp [h1, h2] at h ⊢
  all_goals (first | omega | (split at h <;> (try split at h) <;> omega))
end Go.Proofs.Ytnfagcccgmakdaa
namespace Go.Proofs.Ytnfagcccgmakdaa
open Go.RowKit Go.Wk Go.Proofs
def UV (w : World) (B : Nat) (v : Value) (xs : List Int) : Prop :=
  ∃ (A : Option Addr) (c : Nat), v = .slice A xs.length c ∧ (xs ≠ [] → ∃ b o, A = some ⟨b, o, none⟩ ∧ b < B ∧ ∀ k (h : k < xs.length), w.cell? ⟨b, o + k, none⟩ = some (.int .u8 xs[k])) ∧ xs.length ≤ c
theorem openU {w : World} {v : Value} (h : Rd Try.prog w 70 [v]) : ∃ xs, UV w w.heap.size v xs ∧ xs.length ≤ farI ∧ ∀ x ∈ xs, 0 ≤ x ∧ x ≤ 255 := by
  have e1 : Try.prog.cellsOf 5 = 1 := by kernel_rfl
  have e2 : Try.prog.bytesOf 5 = 1 := by kernel_rfl
  obtain ⟨A, n, c, rfl, hn, hc, hx⟩ := h.list Try.underlying70 (by rw [e1]; decide) (by rw [e2]; decide); rw [e1] at hx; clear e1 e2
  obtain ⟨f, hf⟩ := Go.Deep.choose_lt (α := Int) (p := fun i z => ∃ b o, A = some ⟨b, o, none⟩ ∧ b < w.heap.size ∧ w.cell? ⟨b, o + i, none⟩ = some (.int .u8 z) ∧ 0 ≤ z ∧ z ≤ 255) fun i hi => by
    obtain ⟨b, o, cs, h1, h2, h3, h4, h5⟩ := hx i hi; obtain ⟨z, rfl, hz⟩ := h5.int Try.underlying5; have := Go.bounds_u8 hz; exact ⟨z, b, o, h1, h2, by have := h4 0 (by decide); simpa using this, by omega, by omega⟩
  have hl : ((List.range n).map f).length = n := by simp
  refine ⟨(List.range n).map f, ⟨A, c, by rw [hl], fun hne => ?_, by rw [hl]; exact hn⟩, by rw [hl]; omega, fun x hx => ?_⟩
  · have h0 : 0 < n := by
      rcases Nat.eq_zero_or_pos n with e | e
      · subst e; exact absurd rfl hne
      · exact e
    obtain ⟨b, o, h1, h2, -⟩ := hf 0 h0; refine ⟨b, o, h1, h2, fun k hk => ?_⟩; rw [hl] at hk; obtain ⟨b', o', h1', h2', h3', -⟩ := hf k hk; rw [h1] at h1'
    injection h1' with h1'
    injection h1' with hb ho
    subst hb; subst ho
    simpa using h3'
  · obtain ⟨i, hi, rfl⟩ := List.mem_map.1 hx; obtain ⟨_, _, _, _, _, h⟩ := hf i (List.mem_range.1 hi); exact h
theorem UV.at_ {w : World} {B n c : Nat} {A : Option Addr} {xs : List Int} (h : UV w B (.slice A n c) xs) {k : Nat} (hk : k < xs.length) : ∃ b o, A = some ⟨b, o, none⟩ ∧ w.cell? ⟨b, o + k, none⟩ = some (.int .u8 xs[k]) := by
  obtain ⟨A', c', e, hx, -⟩ := h
  injection e with e1
  subst e1; obtain ⟨b, o, hA, -, hc⟩ := hx (fun e => by rw [e] at hk; exact Nat.not_lt_zero _ hk); exact ⟨b, o, hA, hc k hk⟩
theorem UV.slice {w : World} {B : Nat} {v : Value} {xs : List Int} (h : UV w B v xs) : ∃ A c, v = .slice A xs.length c := by
  obtain ⟨A, c, e, -⟩ := h; exact ⟨A, c, e⟩
def PV (w : World) (B : Nat) (v : Value) (xs : List (Int × Int)) : Prop :=
  ∃ (A : Option Addr) (c : Nat), v = .slice A xs.length c ∧ (xs ≠ [] → ∃ b o, A = some ⟨b, o, none⟩ ∧ b < B ∧ ∀ k (h : k < xs.length), w.cell? ⟨b, o + k * 2, none⟩ = some (.int .u8 xs[k].1) ∧ w.cell? ⟨b, o + k * 2 + 1, none⟩ = some (.int .u8 xs[k].2)) ∧ xs.length ≤ c
theorem PV.at_ {w : World} {B n c : Nat} {A : Option Addr} {xs : List (Int × Int)} (h : PV w B (.slice A n c) xs) {k : Nat} (hk : k < xs.length) : ∃ b o, A = some ⟨b, o, none⟩ ∧ w.cell? ⟨b, o + k * 2, none⟩ = some (.int .u8 xs[k].1) ∧ w.cell? ⟨b, o + k * 2 + 1, none⟩ = some (.int .u8 xs[k].2) := by
  obtain ⟨A', c', e, hx, -⟩ := h
  injection e with e1
  subst e1; obtain ⟨b, o, hA, -, hc⟩ := hx (fun e => by rw [e] at hk; exact Nat.not_lt_zero _ hk); exact ⟨b, o, hA, hc k hk⟩
theorem PV.slice {w : World} {B : Nat} {v : Value} {xs : List (Int × Int)} (h : PV w B v xs) : ∃ A c, v = .slice A xs.length c := by
  obtain ⟨A, c, e, -⟩ := h; exact ⟨A, c, e⟩
theorem two_of : ∀ {cs : List Value}, cs.length = 2 → ∃ x0 x1, cs = [x0, x1]
  | [x0, x1], _ => ⟨x0, x1, rfl⟩
theorem Rd.pair {w : World} {cs : List Value} (h : Rd Try.prog w 71 cs) : ∃ a b, cs = [.int .u8 a, .int .u8 b] ∧ (0 ≤ a ∧ a ≤ 255) ∧ 0 ≤ b ∧ b ≤ 255 := by
  obtain ⟨H, enc, fuel, x, h, hw⟩ := h; obtain ⟨xs, m, rfl, rfl, hl, hlen, hf⟩ := DataW.trod_array Try.underlying71 h; have e1 : Try.prog.cellsOf 5 = 1 := by kernel_rfl
  have e2 : Try.prog.cellsOf 71 = 2 := by kernel_rfl
  rw [e2] at hl; rw [e1] at hf; clear e1 e2; obtain ⟨x0, x1, rfl⟩ := two_of hl; have h0 := hf 0 (by decide); have h1 := hf 1 (by decide); rw [List.getElem?_eq_getElem (show 0 < xs.length by omega)] at h0; rw [List.getElem?_eq_getElem (show 1 < xs.length by omega)] at h1; have g0 := DataW.trod_int Try.underlying5 (show DataW.trod enc Try.prog w 0 (fun _ => true) true m 5 [x0] = some xs[0] from h0); have g1 := DataW.trod_int Try.underlying5 (show DataW.trod enc Try.prog w 0 (fun _ => true) true m 5 [x1] = some xs[1] from h1); obtain ⟨a, ha, -, ha2⟩ := g0; obtain ⟨b, hb, -, hb2⟩ := g1
  injection ha with ha
  injection hb with hb
  subst ha; subst hb; have := Go.bounds_u8 ha2; have := Go.bounds_u8 hb2; exact ⟨a, b, rfl, ⟨by omega, by omega⟩, by omega, by omega⟩
theorem openP {w : World} {v : Value} (h : Rd Try.prog w 69 [v]) : ∃ xs, PV w w.heap.size v xs ∧ xs.length ≤ farI ∧ ∀ x ∈ xs, (0 ≤ x.1 ∧ x.1 ≤ 255) ∧ 0 ≤ x.2 ∧ x.2 ≤ 255 := by
  have e1 : Try.prog.cellsOf 71 = 2 := by kernel_rfl
  have e2 : Try.prog.bytesOf 71 = 2 := by kernel_rfl
  obtain ⟨A, n, c, rfl, hn, hc, hx⟩ := h.list Try.underlying69 (by rw [e1]; decide) (by rw [e2]; decide); rw [e1] at hx; clear e1 e2
  obtain ⟨f, hf⟩ := Go.Deep.choose_lt (α := Int × Int) (p := fun i z => ∃ b o, A = some ⟨b, o, none⟩ ∧ b < w.heap.size ∧ (w.cell? ⟨b, o + i * 2, none⟩ = some (.int .u8 z.1) ∧ w.cell? ⟨b, o + i * 2 + 1, none⟩ = some (.int .u8 z.2)) ∧ (0 ≤ z.1 ∧ z.1 ≤ 255) ∧ 0 ≤ z.2 ∧ z.2 ≤ 255) fun i hi => by
    obtain ⟨b, o, cs, h1, h2, h3, h4, h5⟩ := hx i hi; obtain ⟨z0, z1, rfl, hz0, hz1⟩ := Rd.pair h5; exact ⟨(z0, z1), b, o, h1, h2, ⟨by have := h4 0 (by decide); simpa using this, by have := h4 1 (by decide); simpa using this⟩, hz0, hz1⟩
  have hl : ((List.range n).map f).length = n := by simp
  refine ⟨(List.range n).map f, ⟨A, c, by rw [hl], fun hne => ?_, by rw [hl]; exact hn⟩, by rw [hl]; omega, fun x hx => ?_⟩
  · have h0 : 0 < n := by
      rcases Nat.eq_zero_or_pos n with e | e
      · subst e; exact absurd rfl hne
      · exact e
    obtain ⟨b, o, h1, h2, -⟩ := hf 0 h0; refine ⟨b, o, h1, h2, fun k hk => ?_⟩; rw [hl] at hk; obtain ⟨b', o', h1', h2', h3', -⟩ := hf k hk; rw [h1] at h1'
    injection h1' with h1'
    injection h1' with hb ho
    subst hb; subst ho
    simpa using h3'
  · obtain ⟨i, hi, rfl⟩ := List.mem_map.1 hx; obtain ⟨_, _, _, _, _, h⟩ := hf i (List.mem_range.1 hi); exact h
end Go.Proofs.Ytnfagcccgmakdaa
namespace Go.Proofs.Ytnfagcccgmakdaa
open Go.RowKit Go.Wk Go.Proofs
def jT (ps : List (Int × Int)) (i : Nat) : List Int := [1 + (((ps[i]?.getD (0, 0)).1.toNat % 60 : Nat) : Int), 1 + (((ps[i]?.getD (0, 0)).2.toNat % 60 : Nat) : Int)]
def jRun (d : Int) (ps : List (Int × Int)) (i : Nat) : Run := ⟨1 + (i : Int), d, jT ps i⟩
def jOrd (d : Int) (ps : List (Int × Int)) : Ord := ⟨[1, 1], (List.range ps.length).map (jRun d ps)⟩
section
variable {d : Int} {ps : List (Int × Int)}
theorem jOrd_n : (jOrd d ps).n = ps.length := by simp [jOrd, Ord.n]
theorem jOrd_get {i : Nat} (h : i < ps.length) : (jOrd d ps).runs[i]? = some (jRun d ps i) := by simp [jOrd, h]
theorem jOrd_good (hn : ps.length ≤ 6) (hd : 0 ≤ d ∧ d ≤ 255) : OrdGood (jOrd d ps) := by
  refine ⟨by show 1 ≤ 2; decide, by show 2 ≤ 15; decide, by simp [jOrd]; omega, by simp [jOrd], fun r hr => ?_, ?_⟩
  · obtain ⟨i, hi, rfl⟩ := List.mem_map.1 hr; have hi := List.mem_range.1 hi; refine ⟨?_, ?_, rfl, fun x hx => ?_⟩
    · show 1 ≤ 1 + (i : Int) ∧ 1 + (i : Int) ≤ 1099511627776; omega
    · show 0 ≤ d ∧ d ≤ 730; omega
    · have h1 := Nat.mod_lt (ps[i]?.getD (0, 0)).1.toNat (show 0 < 60 by decide); have h2 := Nat.mod_lt (ps[i]?.getD (0, 0)).2.toNat (show 0 < 60 by decide); have hx' : x = 1 + (((ps[i]?.getD (0, 0)).1.toNat % 60 : Nat) : Int) ∨ x = 1 + (((ps[i]?.getD (0, 0)).2.toNat % 60 : Nat) : Int) := by simpa [jRun, jT] using hx
      rcases hx' with rfl | rfl <;> omega
  · show (((List.range ps.length).map (jRun d ps)).map (·.id)).Nodup
    rw [List.map_map]; refine List.pairwise_map.2 (List.Pairwise.imp (fun {a b} hab h => hab ?_) List.nodup_range); have h : 1 + (a : Int) = 1 + (b : Int) := h; omega
end
structure SameO (o o' : Ord) : Prop where
  cop : o'.cop = o.cop
  runs : List.Perm o'.runs o.runs
theorem SameO.good {o o' : Ord} (h : SameO o o') (hg : OrdGood o) : OrdGood o' :=
  ⟨by rw [h.cop]; exact hg.m1, by rw [h.cop]; exact hg.m2, by rw [h.runs.length_eq]; exact hg.n2, by rw [h.cop]; exact hg.cop, fun r hr => by rw [h.cop]; exact hg.runs r (h.runs.mem_iff.1 hr), (h.runs.map _).nodup_iff.2 hg.ids⟩
theorem SameO.n {o o' : Ord} (h : SameO o o') : o'.n = o.n := h.runs.length_eq
theorem SameO.swap {o o' : Ord} (h : SameO o o') {i : Nat} (hi : i + 1 < o.n) : SameO o (o'.swap i) := ⟨h.cop, (swap_perm (by rw [h.n]; exact hi)).trans h.runs⟩
def rp (r : Run) : Int × Int := (r.takes[0]?.getD 0, r.takes[1]?.getD 0)
theorem pairs_runs (o : Ord) : pairs o o.n = o.runs.map rp := by
  apply List.ext_getElem
  · simp [pairs, Ord.n]
  · intro i h1 h2; have hi : i < o.runs.length := by simpa [pairs, Ord.n] using h1
    simp [pairs, jp, Ord.T, rp, hi]
theorem two_same {o o' : Ord} {d : Int} (hg : OrdGood o) (h : SameO o o') (hc : o.cop = [1, 1]) (hd : 0 ≤ d) (hA : ∀ r ∈ o.runs, r.arr = d) : endS o' = flow d 0 (o'.runs.map rp) := by
  have hg' := h.good hg; rw [← pairs_runs]; refine two_end hg'.ok (by unfold Ord.m; rw [h.cop, hc]; rfl) (fun j hj => ?_) hd (fun i hi => ?_)
  · unfold Ord.C; rw [h.cop, hc]
    rcases (show j = 0 ∨ j = 1 by omega) with rfl | rfl <;> rfl
  · unfold Ord.A; rw [List.getElem?_eq_getElem (show i < o'.runs.length from hi)]; exact hA _ (h.runs.mem_iff.1 (List.getElem_mem _))
theorem john_same {o : Ord} (hg : OrdGood o) : SameO o (johnO o) := by
  refine ⟨rfl, ?_⟩
  have hp : List.Perm ((List.range o.n).map (johnP o)) (List.range o.n) := by
    by_cases h : o.n = 0
    · rw [h]; exact List.Perm.refl _
    · have := stg_perm (ltJ o) id o.n (o.n - 1) (by omega)
      rwa [List.map_id] at this
  have h1 : (johnO o).runs = ((List.range o.n).map (johnP o)).map fun k => o.runs[k]?.getD default := by
    show (List.range o.n).map _ = _
    rw [List.map_map]; rfl
  have h2 : o.runs = (List.range o.n).map fun k => o.runs[k]?.getD default := by
    apply List.ext_getElem
    · simp [Ord.n]
    · intro i h1 h2; simp [h1]
  rw [h1]
  conv => rhs; rw [h2]
  exact hp.map _
theorem john_best {o o' : Ord} {d : Int} (hg : OrdGood o) (h : SameO o o') (hc : o.cop = [1, 1]) (hd : 0 ≤ d) (hA : ∀ r ∈ o.runs, r.arr = d) : endS (johnO o) ≤ endS o' := by
  have hj := john_same hg; rw [two_same hg hj hc hd hA, two_same hg h hc hd hA]; refine flow_best _ _ _ _ ?_ ((hj.runs.trans h.runs.symm).map rp); rw [← pairs_runs]; have hn : (johnO o).n = o.n := hj.n; rw [hn]; unfold pairs; rw [List.pairwise_map]
  have hjp : ∀ k, k < o.n → jp (johnO o) k = jp o (johnP o k) := fun k hk => by
    unfold jp Ord.T johnO; rw [permO_run o (johnP o) hk]
  by_cases h0 : o.n = 0
  · rw [h0]; exact List.Pairwise.nil
  refine List.pairwise_iff_getElem.2 fun a b ha hb hab => ?_; simp only [List.length_range] at ha hb; rw [List.getElem_range, List.getElem_range, hjp a ha, hjp b hb]; exact stg_sorted (le := fun x y => jle (jp o x) (jp o y)) (fun x y z => jle_trans) (fun x y => ltJ_jle) (fun x y => ltJ_jle2) id (o.n - 1) a b hab (by omega)
theorem johnP_lt {o : Ord} {k : Nat} (hk : k < o.n) : johnP o k < o.n := stg_lt (f := id) (fun k hk => hk) (o.n - 1) (by omega) k hk
def JRow (w : World) (S : Nat) (ps : List (Int × Int)) (tb : Nat → Nat) (k : Nat) : Prop := ∀ i, i < k → S ≤ tb i ∧ RowC w (tb i) 3 ((jT ps i).map (Value.int .i64))
theorem JRow.ext {w w' : World} {S k : Nat} {ps : List (Int × Int)} {tb : Nat → Nat} (h : JRow w S ps tb k) (hE : Ext w w') : JRow w' S ps tb k := fun i hi => ⟨(h i hi).1, (h i hi).2.ext hE⟩
theorem JRow.put {w V : World} {S k b i : Nat} {ps : List (Int × Int)} {tb : Nat → Nat} {vs : List Value} (h : JRow w S ps tb k) (p : Put w V b i vs) (hb : b < S) : JRow V S ps tb k := fun j hj => ⟨(h j hj).1, (h j hj).2.put p (by have := (h j hj).1; omega)⟩
theorem JRow.grown {w w' : World} {S k n base : Nat} {ps : List (Int × Int)} {tb : Nat → Nat} {v : Value} {xs : List Value} (h : JRow w S ps tb k) (hn : w.ownsRow base 37 3 v n xs) (hg : w.grownBy w' v.ownBlock) : JRow w' S ps tb k := fun i hi => by
  refine ⟨(h i hi).1, RowC.chg (h i hi).2 (grown_chg hg) fun hm => ?_⟩; have hm : v.ownBlock = some (tb i) := by simpa using hm
  rcases hn.2 with ⟨rfl, -⟩ | ⟨g, cap, cur, rfl, hb, hg', -⟩
  · cases hm
  · injection hm with hm
    subst hm; have h2 := (h i hi).2; unfold RowC at h2; rw [hg'] at h2
    injection h2 with h2
    injection h2 with _ h3
    exact absurd h3 (by decide)
theorem JRow.more {w : World} {S k n : Nat} {ps : List (Int × Int)} {tb : Nat → Nat} (h : JRow w S ps tb k) (hS : S ≤ n) (hr : RowC w n 3 ((jT ps k).map (Value.int .i64))) : JRow w S ps (fun i => if i = k then n else tb i) (k + 1) := fun i hi => by
  by_cases e : i = k
  · subst e; simp only [if_true]; exact ⟨hS, hr⟩
  · simp only [if_neg e]; exact h i (by omega)
def jC (d : Int) (tb σ : Nat → Nat) (k : Nat) : List Value := (List.range k).flatMap fun i => [.int .i64 (1 + (σ i : Int)), .int .i64 d, .slice (some ⟨tb (σ i), 0, none⟩) 2 2]
theorem jC_succ (d : Int) (tb σ : Nat → Nat) (k : Nat) : jC d tb σ (k + 1) = jC d tb σ k ++ [.int .i64 (1 + (σ k : Int)), .int .i64 d, .slice (some ⟨tb (σ k), 0, none⟩) 2 2] := by
  unfold jC; rw [List.range_succ, List.flatMap_append]; simp
theorem jC_len (d : Int) (tb σ : Nat → Nat) : ∀ n, (jC d tb σ n).length = n * 3
  | 0 => rfl
  | n + 1 => by rw [jC_succ, List.length_append, jC_len d tb σ n]; simp; omega
theorem jC_congr {d : Int} {tb tb' σ : Nat → Nat} : ∀ k, (∀ i, i < k → tb (σ i) = tb' (σ i)) → jC d tb σ k = jC d tb' σ k
  | 0, _ => rfl
  | k + 1, h => by rw [jC_succ, jC_succ, jC_congr k fun i hi => h i (by omega), h k (by omega)]
theorem jC_get (d : Int) (tb σ : Nat → Nat) : ∀ n k, k < n → (jC d tb σ n)[k * 3]? = some (.int .i64 (1 + (σ k : Int))) ∧ (jC d tb σ n)[k * 3 + 1]? = some (.int .i64 d) ∧ (jC d tb σ n)[k * 3 + 2]? = some (.slice (some ⟨tb (σ k), 0, none⟩) 2 2)
  | 0, k, h => absurd h (Nat.not_lt_zero _)
  | n + 1, k, h => by
    have hl := jC_len d tb σ n; rw [jC_succ]
    by_cases h1 : k < n
    · rw [List.getElem?_append_left (by omega), List.getElem?_append_left (by omega), List.getElem?_append_left (by omega)]; exact jC_get d tb σ n k h1
    · obtain rfl : k = n := by omega
      rw [List.getElem?_append_right (by omega), List.getElem?_append_right (by omega), List.getElem?_append_right (by omega), hl, Nat.sub_self, show k * 3 + 1 - k * 3 = 1 by omega, show k * 3 + 2 - k * 3 = 2 by omega]; exact ⟨rfl, rfl, rfl⟩
theorem OrderP.chg {L : List Nat} {w w' : World} {P : Nat → Prop} {v : Value} {o : Ord} (h : OrderP w P v o) (hC : Chg L w w') (hP : ∀ b, P b → b ∉ L) : OrderP w' P v o := h.keep fun k hk hl => hC.block k hl (hP k hk)
theorem RunsP.weak {w : World} {P Q : Nat → Prop} {v : Value} {rs : List Run} (h : RunsP w P v rs) (hq : ∀ k, P k → k < w.heap.size → Q k) : RunsP w Q v rs := by
  obtain ⟨A, c, tv, hv, hx, ht, hcap⟩ := h; refine ⟨A, c, tv, hv, fun hne => ?_, fun k hk => (ht k hk).weak hq, hcap⟩; obtain ⟨b, o, hA, hp, hc⟩ := hx hne; exact ⟨b, o, hA, hq b hp (cell_lt (hc 0 (List.length_pos_iff.2 hne)).1), hc⟩
theorem OrderP.weak {w : World} {P Q : Nat → Prop} {v : Value} {o : Ord} (h : OrderP w P v o) (hq : ∀ k, P k → k < w.heap.size → Q k) : OrderP w Q v o := by
  obtain ⟨cv, rv, rfl, h1, h2⟩ := h; exact ⟨cv, rv, rfl, h1.weak hq, h2.weak hq⟩
theorem OrderP.set2 {w V : World} {n : Nat} {P : Nat → Prop} {v : Value} {o : Ord} (h : OrderP w P v o) (hE : Ext w V) (hn : ∀ b, P b → b < w.heap.size → b ≠ n) (x y : Value) : OrderP ((V.setCell ⟨n, 0, none⟩ x).setCell ⟨n, 1, none⟩ y) P v o := h.keep fun k hk hl => by
  have hkn := hn k hk hl; exact ((Below.heap_setCell _ _ _ _ hkn).trans (Below.heap_setCell _ _ _ _ hkn)).trans (hE.block k hl)
theorem intsAt {w : World} {B n c : Nat} {A : Option Addr} {xs : List Int} (h : IntsV w B (.slice A n c) xs) {k : Nat} {x : Int} (hk : xs[k]? = some x) : ∃ b o, A = some ⟨b, o, none⟩ ∧ w.cell? ⟨b, o + k, none⟩ = some (.int .i64 x) := by
  obtain ⟨hk', rfl⟩ := List.getElem?_eq_some_iff.1 hk; obtain ⟨A', c', e, hx, -⟩ := h
  injection e with e1
  subst e1; obtain ⟨b, o, hA, -, hc⟩ := hx (fun e => by rw [e] at hk'; exact Nat.not_lt_zero _ hk'); exact ⟨b, o, hA, hc k hk'⟩
theorem rowAt {w : World} {S n : Nat} {v : Value} {d : Int} {tb σ : Nat → Nat} (h : w.ownsRow S 37 3 v n (jC d tb σ n)) {k : Nat} (hk : k < n) : ∃ g cap, v = .slice (some ⟨g, 0, none⟩) n cap ∧ w.cell? ⟨g, k * 3, none⟩ = some (.int .i64 (1 + (σ k : Int))) ∧ w.cell? ⟨g, k * 3 + 1, none⟩ = some (.int .i64 d) ∧ w.cell? ⟨g, k * 3 + 2, none⟩ = some (.slice (some ⟨tb (σ k), 0, none⟩) 2 2) := by
  rcases id h.2 with ⟨-, hz⟩ | ⟨g, cap, cur, rfl, -⟩
  · omega
  · have hc := World.ownsRow.cells h (g := g) rfl; obtain ⟨e1, e2, e3⟩ := jC_get d tb σ n k hk; have k1 := hc _ _ e1; have k2 := hc _ _ e2; have k3 := hc _ _ e3; rw [Addr.add_lit, Nat.zero_add] at k1 k2 k3; exact ⟨g, cap, rfl, k1, k2, k3⟩
theorem jOrd_P {w : World} {S S1 n : Nat} {ps : List (Int × Int)} {d : Int} {tb σ : Nat → Nat} {v5 : Value} {cb : Nat} {P : Nat → Prop} (h0 : w.cell? ⟨cb, 0, none⟩ = some (.int .i64 1)) (h1 : w.cell? ⟨cb, 1, none⟩ = some (.int .i64 1)) (hP0 : P cb)
    (i1 : w.ownsRow S1 37 3 v5 n (jC d tb σ n)) (hJ : JRow w S ps tb ps.length) (hσ : ∀ k, k < n → σ k < ps.length) (hP : ∀ b, S ≤ b → P b) (hP1 : ∀ b, S1 ≤ b → P b) : OrderP w P (.agg #[.slice (some ⟨cb, 0, none⟩) 2 2, v5]) ⟨[1, 1], (List.range n).map fun k => jRun d ps (σ k)⟩ := by
  refine ⟨_, _, rfl, ⟨some ⟨cb, 0, none⟩, 2, rfl, fun _ => ⟨cb, 0, rfl, hP0, fun k hk => ?_⟩, Nat.le_refl _⟩, ?_⟩
  · have hk : k < 2 := hk
    rcases (show k = 0 ∨ k = 1 by omega) with rfl | rfl
    · exact h0
    · exact h1
  · have hlen : ((List.range n).map fun k => jRun d ps (σ k)).length = n := by simp
    rcases id i1.2 with ⟨rfl, hz⟩ | ⟨g, cap, cur, rfl, hb, hg', hnc, hcm, hcs, htake⟩
    · subst hz; exact ⟨none, 0, fun _ => .slice none 0 0, rfl, fun h => absurd rfl h, fun k hk => absurd hk (by simp), Nat.le_refl _⟩
    · have hc := World.ownsRow.cells i1 (g := g) rfl; refine ⟨some ⟨g, 0, none⟩, cap, fun k => .slice (some ⟨tb (σ k), 0, none⟩) 2 2, by rw [hlen], fun _ => ⟨g, 0, rfl, hP1 g hb, fun k hk => ?_⟩, fun k hk => ?_, by rw [hlen]; exact hnc⟩
      · have hkn : k < n := by rw [hlen] at hk; exact hk
        obtain ⟨e1, e2, e3⟩ := jC_get d tb σ n k hkn; have k1 := hc _ _ e1; have k2 := hc _ _ e2; have k3 := hc _ _ e3; rw [Addr.add_lit] at k1 k2 k3; rw [List.getElem_map, List.getElem_range]; exact ⟨k1, k2, k3⟩
      · have hkn : k < n := by rw [hlen] at hk; exact hk
        rw [List.getElem_map, List.getElem_range]; obtain ⟨j1, j2⟩ := hJ (σ k) (hσ k hkn); refine ⟨_, 2, rfl, fun _ => ⟨_, 0, rfl, hP _ j1, fun j hj => ?_⟩, Nat.le_refl _⟩; have hj : j < (jT ps (σ k)).length := hj; rw [Nat.zero_add, RowC.cell j2]
        show ((jT ps (σ k)).map (Value.int .i64))[j]? = some (.int .i64 (jT ps (σ k))[j])
        rw [List.getElem?_map, List.getElem?_eq_getElem hj]; rfl
theorem jOrd_johnO {d : Int} {ps : List (Int × Int)} : johnO (jOrd d ps) = ⟨[1, 1], (List.range ps.length).map fun k => jRun d ps (johnP (jOrd d ps) k)⟩ := by
  have hn : (jOrd d ps).n = ps.length := jOrd_n; unfold johnO permO; rw [hn]
  congr 1
  refine List.map_congr_left fun k hk => ?_; have hk := List.mem_range.1 hk; have := johnP_lt (o := jOrd d ps) (k := k) (by rw [hn]; exact hk); rw [hn] at this; rw [jOrd_get this]; rfl
theorem Swap_g (v : Value) (o : Ord) (i : Nat) (w : World) (hV : OrderV w w.heap.size v o) (hg : OrdGood o) (hi : i + 1 < o.n) :
    CallsV Try.prog 35 #[v, .int .i64 (i : Int)] w fun v w' => ∃ q : OA, v = .tuple #[.agg #[q.cv (o.swap i), q.rv (o.swap i)], .int .i64 0] ∧ CopyF w' w.heap.size q (o.swap i) ∧ Ext w w' :=
  (Swap_c v o (i : Int) w hV hg.fits).mono fun _ w' ⟨v0, h1, h2, h3, h4⟩ => by
    have e : swapE o (i : Int) = 0 := by
      unfold swapE; rw [if_pos (askS_good hg (by unfold okRunner; exact decide_eq_true (by omega))), if_neg (by omega)]
    have e2 : swapO o (i : Int) = o.swap i := by unfold swapO; rw [if_pos e, Int.toNat_natCast]
    obtain ⟨q, rfl, hq⟩ := h3 e; rw [e2] at h1 hq; rw [e] at h1; exact ⟨q, h1, hq, h4⟩
theorem CopyF.orderP {w : World} {base : Nat} {q : OA} {o : Ord} (h : CopyF w base q o) (hg : OrdGood o) {P : Nat → Prop} (hP : ∀ b, base ≤ b → P b) : OrderP w P (.agg #[q.cv o, q.rv o]) o := by
  have hO := h.ord; refine ⟨_, _, rfl, ⟨_, q.cc, rfl, fun _ => ⟨q.cb, q.co, rfl, hP _ h.gC, fun j hj => ?_⟩, hO.hcc⟩, ⟨q.rA, q.rc, fun k => .slice (some ⟨q.tb k, q.to_ k, none⟩) o.m (q.tc k), rfl, fun hne => ?_, fun k hk => ?_, hO.hrc⟩⟩
  · have := hO.hC j hj; rw [this]
    show some (Value.int .i64 (o.cop[j]?.getD 0)) = _
    rw [List.getElem?_eq_getElem hj]; rfl
  · have hn : 0 < o.n := List.length_pos_iff.2 hne; refine ⟨q.rb, q.ro, hO.hr hn, hP _ h.gR, fun k hk => ?_⟩; have h1 := hO.hI k hk; have h2 := hO.hA k hk; have h3 := hO.hT k hk; unfold Ord.ID at h1; unfold Ord.A at h2; rw [List.getElem?_eq_getElem hk] at h1 h2; exact ⟨h1, h2, h3⟩
  · exact h.takesP hg (fun i hi => hP _ (h.gT i hi)) (fun _ _ => rfl) hk
theorem John_g (v : Value) (o : Ord) (w : World) (hV : OrderV w w.heap.size v o) (hg : OrdGood o) (hc : o.cop = [1, 1]) (hl : lateB o = false) :
    CallsV Try.prog 34 #[v] w fun v w' => ∃ A c, v = .tuple #[.slice A (johnL o).length c, .int .i64 (endS (johnO o)), .int .i64 0] ∧ IntsV w' w'.heap.size (.slice A (johnL o).length c) (johnL o) ∧ Ext w w' :=
  (Johnson_c v o w hV hg.fits).mono fun _ w' ⟨t, h1, h2, h3⟩ => by
    have e : johnE o = 0 := by unfold johnE; rw [if_pos (checkS_zero.2 hg), if_pos ⟨hc, hl⟩]
    rw [e, if_pos rfl] at h1; rw [e, if_pos rfl] at h2; obtain ⟨A, c, rfl⟩ := h2.slice; exact ⟨A, c, h1, h2.intsV, h3⟩
end Go.Proofs.Ytnfagcccgmakdaa
namespace Go.Proofs.Ytnfagcccgmakdaa
open Go.RowKit Go.Wk Go.Proofs
attribute [local irreducible] Go.Wk.Wops Go.Wk.Wp Go.Wk.Mtree Go.Wk.Mops
set_option maxHeartbeats 4000000
theorem tmodN {u0 : Int} (n : Nat) (h : 0 ≤ u0 ∧ u0 ≤ 255) : Int.tmod u0 (n : Int) = ((u0.toNat % n : Nat) : Int) := by
  obtain ⟨x, rfl⟩ : ∃ x : Nat, u0 = (x : Int) := ⟨u0.toNat, by omega⟩; rw [Int.toNat_natCast, ← Int.ofNat_tmod]
theorem pushJ {w : World} {base n k : Nat} {v x y z : Value} {xs : List Value} (h : w.ownsRow base 37 3 v k xs) (h0 : w.cell? ⟨n, 0, none⟩ = some x) (h1 : w.cell? ⟨n, 1, none⟩ = some y) (h2 : w.cell? ⟨n, 2, none⟩ = some z) (ty : TypeId) (h3 : ∀ u ∈ [x, y, z], u.oneCell' = true) (hl : k ≤ 1000000) (hb : base ≤ w.heap.size) :
    ∃ v' w', (Builtin.append_ #[23, 23] ty #[v, .slice (some ⟨n, 0, none⟩) 1 1]).run Try.prog w = .ok v' w' ∧ w'.ownsRow base 37 3 v' (k + 1) (xs ++ [x, y, z]) ∧ w.grownBy w' v.ownBlock := by
  obtain ⟨v', w', hrun, hown, hgr, -⟩ := app_run runs_T h ⟨n, 0, none⟩ 1 1 [x, y, z] ty rfl (news_three h0 h1 h2) h3 (by omega) hb; exact ⟨v', w', hrun, hown, hgr⟩
structure JohnK (o : Ord) (d : Int) (np : Nat) (σ : Nat → Nat) (e : Int) : Prop where
  good : OrdGood o
  n : o.n = np
  lt : ∀ k, k < np → σ k < np
  best : ∀ o', SameO o o' → e ≤ endS o'
  self : SameO o (johnO o)
  eq : endS (johnO o) = e
theorem johnK {ps : List (Int × Int)} {d : Int} {np : Nat} (hn : ps.length = np) (h6 : np ≤ 6) (hd : 0 ≤ d ∧ d ≤ 255) : JohnK (jOrd d ps) d np (johnP (jOrd d ps)) (endS (johnO (jOrd d ps))) := by
  have hg := jOrd_good (d := d) (ps := ps) (by omega) hd; have hnn : (jOrd d ps).n = np := by rw [jOrd_n, hn]
  refine ⟨hg, hnn, fun k hk => by have := johnP_lt (o := jOrd d ps) (k := k) (by omega); omega, fun o' h => john_best hg h rfl hd.1 fun r hr => ?_, john_same hg, rfl⟩; obtain ⟨i, -, rfl⟩ := List.mem_map.1 hr
  rfl
theorem jOrd_late {ps : List (Int × Int)} {d : Int} : lateB (jOrd d ps) = false := by
  unfold lateB; rw [List.any_eq_false]; intro r hr; have h1 : r.arr = d := by obtain ⟨i, -, rfl⟩ := List.mem_map.1 hr; rfl
  have h2 : (jOrd d ps).A 0 = d := by
    have hp : 0 < ps.length := by
      rcases Nat.eq_zero_or_pos ps.length with e | e
      · rw [List.length_eq_zero_iff] at e; subst e; cases hr
      · exact e
    unfold Ord.A; rw [jOrd_get hp]; rfl
  simp [h1, h2]
theorem johnL_get {ps : List (Int × Int)} {d : Int} {np : Nat} (hn : ps.length = np) : johnL (jOrd d ps) = (List.range np).map fun k => 1 + (johnP (jOrd d ps) k : Int) := by
  have hnn : (jOrd d ps).n = np := by rw [jOrd_n, hn]
  unfold johnL; rw [hnn]; refine List.map_congr_left fun k hk => ?_; have hk := List.mem_range.1 hk; have := johnP_lt (o := jOrd d ps) (k := k) (by omega); unfold Ord.ID; rw [jOrd_get (by omega)]; rfl
theorem Swap_z (D : Ord) (v : Value) (o : Ord) (i : Nat) (hD : o.swap i = D) (w : World) (hV : OrderV w w.heap.size v o) (hg : OrdGood o) (hi : i + 1 < o.n) :
    CallsV Try.prog 35 #[v, .int .i64 (i : Int)] w fun v w' => ∃ q : OA, v = .tuple #[.agg #[q.cv D, q.rv D], .int .i64 0] ∧ CopyF w' w.heap.size q D ∧ Ext w w' := by
  subst hD; exact Swap_g v o i w hV hg hi
theorem johnLaw_c (v u : Value) (ps : List (Int × Int)) (d : Int) (us : List Int) (w : World) (hP : PV w w.heap.size v ps) (hpl : ps.length ≤ farI) (hpb : ∀ x ∈ ps, (0 ≤ x.1 ∧ x.1 ≤ 255) ∧ 0 ≤ x.2 ∧ x.2 ≤ 255) (hd : 0 ≤ d ∧ d ≤ 255) (hU : UV w w.heap.size u us) (hul : us.length ≤ farI) (hub : ∀ x ∈ us, 0 ≤ x ∧ x ≤ 255) :
    CallsV Try.prog 9 #[v, .int .u8 d, u] w fun v w' => v = .bool true ∧ Ext w w' := by
  obtain ⟨pA, pc, rfl⟩ := hP.slice; obtain ⟨uA, uc, rfl⟩ := hU.slice; obtain ⟨np, hnp⟩ : ∃ np, ps.length = np := ⟨_, rfl⟩; obtain ⟨nu, hnu⟩ : ∃ nu, us.length = nu := ⟨_, rfl⟩; rw [hnp] at hP hpl; rw [hnu] at hU hul; rw [hnp, hnu]; have hwd : IntKind.i64.wrap d = d := IntWalk.i64_in _ (by omega); refine Wp.fn Try.func9 rfl Try.ntmps9 (by simp) ?_; have xw := Ext.refl w; refine Wp.keep [0, 1, 2] fun r1 hkeep => ?_; obtain ⟨e0_1, e1_1, e2_1, -⟩ := hkeep; simp [go_sem] at e0_1 e1_1 e2_1
  by_cases h1 : (6 : Int) < (np : Int)
  · skip; refine Wp.seqRegion (.inl rfl) (by kernel_rfl) fun K' gd hK hg => ?_; clear hg; go_simp; refine hK _ _ ?_; clear hK K' gd; refine Wp.keep [0, 1, 2] fun r2 hkeep => ?_; obtain ⟨e0_2, e1_2, e2_2, -⟩ := hkeep; simp [go_sem, e0_1, e1_1, e2_1] at e0_2 e1_2 e2_2; clear e0_1 e1_1 e2_1; refine Wp.seq ?_; refine Wp.seqRegion (.inl rfl) (by kernel_rfl) fun K' gd hK hg => ?_; have g3 : gd 3 = some 29 := hg 3; clear hg; go_simp; refine hK _ _ ?_; clear hK K' gd g3; refine Wp.keep [0, 1, 2, 33] fun r3 hkeep => ?_; obtain ⟨e0_3, e1_3, e2_3, e33_3, -⟩ := hkeep; simp [go_sem, e0_2, e1_2, e2_2] at e0_3 e1_3 e2_3 e33_3; clear e0_2 e1_2 e2_2; refine Wp.condT (by go_simp) ?_; refine Wp.seqRegion (.inl rfl) (by kernel_rfl) fun K' gd hK hg => ?_; clear hg; refine Wops.cut 1 fun K1 hK1 => ?_; simp only [List.take_succ_cons, List.take_zero]; go_simp; refine Wcall (.inl rfl) (sanity_c _) ?_; rintro v w2 ⟨rfl, hE⟩; go_simp; refine hK1 _ _ ?_; clear hK1 K1; simp only [List.drop_succ_cons, List.drop_zero]; have z4 := Below.size hE; replace xw := Ext.trans xw hE; clear hE; go_simp; refine hK _ _ ?_; clear hK K' gd; refine Wp.keep [6] fun r5 hkeep => ?_; obtain ⟨e6_5, -⟩ := hkeep; simp [go_sem, e0_3, e1_3, e2_3, e33_3] at e6_5; clear e0_3 e1_3 e2_3 e33_3; refine Wp.ret ?_; refine thenK_ret ?_; refine endK_tmp Try.results9 (by decide) ?_; rw [e6_5]; exact ⟨rfl, xw⟩
  · skip
    by_cases h2 : (20 : Int) < (nu : Int)
    · skip; refine Wp.seqRegion (.inl rfl) (by kernel_rfl) fun K' gd hK hg => ?_; clear hg; go_simp; refine hK _ _ ?_; clear hK K' gd; refine Wp.keep [0, 1, 2] fun r6 hkeep => ?_; obtain ⟨e0_6, e1_6, e2_6, -⟩ := hkeep; simp [go_sem, e0_1, e1_1, e2_1] at e0_6 e1_6 e2_6; clear e0_1 e1_1 e2_1; refine Wp.seq ?_; refine Wp.seqRegion (.inl rfl) (by kernel_rfl) fun K' gd hK hg => ?_; have g3 : gd 3 = some 29 := hg 3; clear hg; go_simp; refine hK _ _ ?_; clear hK K' gd g3; refine Wp.keep [0, 1, 2, 33] fun r7 hkeep => ?_; obtain ⟨e0_7, e1_7, e2_7, e33_7, -⟩ := hkeep; simp [go_sem, e0_6, e1_6, e2_6] at e0_7 e1_7 e2_7 e33_7; clear e0_6 e1_6 e2_6; refine Wp.condT (by go_simp) ?_; refine Wp.seqRegion (.inl rfl) (by kernel_rfl) fun K' gd hK hg => ?_; clear hg; refine Wops.cut 1 fun K1 hK1 => ?_; simp only [List.take_succ_cons, List.take_zero]; go_simp; refine Wcall (.inl rfl) (sanity_c _) ?_; rintro v w2 ⟨rfl, hE⟩; go_simp; refine hK1 _ _ ?_; clear hK1 K1; simp only [List.drop_succ_cons, List.drop_zero]; have z8 := Below.size hE; replace xw := Ext.trans xw hE; clear hE; go_simp; refine hK _ _ ?_; clear hK K' gd; refine Wp.keep [6] fun r9 hkeep => ?_; obtain ⟨e6_9, -⟩ := hkeep; simp [go_sem, e0_7, e1_7, e2_7, e33_7] at e6_9; clear e0_7 e1_7 e2_7 e33_7; refine Wp.ret ?_; refine thenK_ret ?_; refine endK_tmp Try.results9 (by decide) ?_; rw [e6_9]; exact ⟨rfl, xw⟩
    · skip; refine Wp.seqRegion (.inl rfl) (by kernel_rfl) fun K' gd hK hg => ?_; clear hg; go_simp; refine hK _ _ ?_; clear hK K' gd; refine Wp.keep [0, 1, 2] fun r10 hkeep => ?_; obtain ⟨e0_10, e1_10, e2_10, -⟩ := hkeep; simp [go_sem, e0_1, e1_1, e2_1] at e0_10 e1_10 e2_10; clear e0_1 e1_1 e2_1; refine Wp.seq ?_; refine Wp.seqRegion (.inl rfl) (by kernel_rfl) fun K' gd hK hg => ?_; have g3 : gd 3 = some 29 := hg 3; clear hg; go_simp; refine hK _ _ ?_; clear hK K' gd g3; refine Wp.keep [0, 1, 2, 33] fun r11 hkeep => ?_; obtain ⟨e0_11, e1_11, e2_11, e33_11, -⟩ := hkeep; simp [go_sem, e0_10, e1_10, e2_10] at e0_11 e1_11 e2_11 e33_11; clear e0_10 e1_10 e2_10; refine Wp.condF (by go_simp) ?_; have hJK := johnK (d := d) hnp (by omega) hd; refine Wp.skip ?_; refine thenK_normal ?_; refine Wp.seqRegion (.inl rfl) (by kernel_rfl) fun K' gd hK hg => ?_; clear hg; refine Wops.cut 1 fun K1 hK1 => ?_; simp only [List.take_succ_cons, List.take_zero]; go_simp; refine hK1 _ _ ?_; clear hK1 K1; simp only [List.drop_succ_cons, List.drop_zero]; refine Wops.absT fun V35_1 n35 hV35_1 R35 => ?_; obtain ⟨q35, hV35_1, s35, kV35_1, f35, r35⟩ := hV35_1; try simp only [q35] at kV35_1 f35 r35 ⊢
      replace R35 := (show RowC _ _ _ _ from R35); replace xw := Ext.trans xw hV35_1; clear hV35_1 f35; have c35_0 := kV35_1 0 _ rfl; have c35_1 := kV35_1 1 _ rfl; clear kV35_1; refine Wops.cut 3 fun K1 hK1 => ?_; simp only [List.take_succ_cons, List.take_zero]; go_simp; refine hK1 _ _ ?_; clear hK1 K1; simp only [List.drop_succ_cons, List.drop_zero]; refine Wops.absA fun V7_2 n7 hV7_2 => ?_; obtain ⟨q7, hV7_2, s7, kV7_2, f7, r7⟩ := hV7_2; try simp only [q7] at kV7_2 f7 r7 ⊢
      replace R35 := R35.ext hV7_2; replace xw := Ext.trans xw hV7_2; replace c35_0 := Ext.cell hV7_2 c35_0; replace c35_1 := Ext.cell hV7_2 c35_1; have c7_0 := kV7_2 0 _ rfl; have c7_1 := kV7_2 1 _ rfl; clear kV7_2 hV7_2; clear r7; try simp only [Wops_nil, updO_some, updO_none]
      refine hK _ _ ?_; clear hK K' gd; refine Wp.keep [0, 1, 2, 7] fun r12 hkeep => ?_; obtain ⟨e0_12, e1_12, e2_12, e7_12, -⟩ := hkeep; simp [go_sem, e0_11, e1_11, e2_11, e33_11] at e0_12 e1_12 e2_12 e7_12; clear e0_11 e1_11 e2_11 e33_11; refine Wp.seq ?_; obtain ⟨S0, hS0⟩ : ∃ s, V7_2.heap.size = s := ⟨_, rfl⟩; refine Wp.seqRegion (.inl rfl) (by kernel_rfl) fun K' gd hK hg => ?_; clear hg; go_simp; refine hK _ _ ?_; clear hK K' gd; refine Wp.keep [0, 1, 2, 7, 8] fun r13 hkeep => ?_; obtain ⟨e0_13, e1_13, e2_13, e7_13, e8_13, -⟩ := hkeep; simp [go_sem, e0_12, e1_12, e2_12, e7_12] at e0_13 e1_13 e2_13 e7_13 e8_13; clear e0_12 e1_12 e2_12 e7_12; refine Wp.block ?_; refine Wp.loop (fun k ρ ds wk => AllEq [0, 1, 2, 7] ρ r13 ∧ ds = [] ∧ (Chg [n7] V7_2 wk ∧ (∀ i, wk.frozen? ⟨n7, i, none⟩ = false)) ∧ (∃ v5 tb, ρ 8 = .int .i64 (k : Int) ∧ wk.cell? ⟨n7, 0, none⟩ = some (.slice (some ⟨n35, 0, none⟩) 2 2) ∧ wk.cell? ⟨n7, 1, none⟩ = some v5 ∧ wk.ownsRow S0 37 3 v5 k (jC d tb id k) ∧ JRow wk S0 ps tb k)) (np) ?_ ?_
      · refine ⟨AllEq.refl _ _, rfl, ⟨Chg.refl _ _, f7⟩, ?_⟩; exact ⟨_, fun _ => 0, by rw [e8_13]; rfl, c7_0, c7_1, World.ownsRow_nil _ _ _ _, fun i h => by omega⟩
      · rintro k r14 _ wk hk ⟨hA, rfl, ⟨xl3, gf7⟩, ⟨v5, tb, e8, gc7_0, gc7_1, i1, hJ⟩⟩; obtain ⟨e0_14, e1_14, e2_14, e7_14, -⟩ := hA; rw [e0_13] at e0_14; rw [e1_13] at e1_14; rw [e2_13] at e2_14; rw [e7_13] at e7_14; have zxl3 := Chg.size xl3; clear f7; replace R35 := R35.chg xl3 (by first | (intro b hb hm; simp at hm; omega) | (simp; omega)); replace xw := Chg.to xw xl3 (by intro b hm; simp only [List.mem_cons, List.not_mem_nil, or_false] at hm; omega); replace c35_0 := Chg.cell xl3 c35_0 (by intro hm; simp only [List.mem_cons, List.not_mem_nil, or_false] at hm; omega); replace c35_1 := Chg.cell xl3 c35_1 (by intro hm; simp only [List.mem_cons, List.not_mem_nil, or_false] at hm; omega); clear c7_0; clear c7_1; have f7 := gf7; clear gf7; have c7_0 := gc7_0; clear gc7_0; have c7_1 := gc7_1; clear gc7_1; refine Wp.seq ?_; refine Wp.seqRegion (.inl rfl) (by kernel_rfl) fun K' gd hK hg => ?_; clear hg; go_simp; refine hK _ _ ?_; clear hK K' gd; refine Wp.keep [0, 1, 2, 7, 8, 40] fun r15 hkeep => ?_; obtain ⟨e0_15, e1_15, e2_15, e7_15, e8_15, e40_15, -⟩ := hkeep; simp [go_sem, e0_14, e1_14, e2_14, e7_14, e8] at e0_15 e1_15 e2_15 e7_15 e8_15 e40_15; clear e0_14 e1_14 e2_14 e7_14 e8
        by_cases h : k < np
        · refine Wp.condT (by go_simp) ?_; obtain ⟨pb, po, rfl, q1, q2⟩ := hP.at_ (show k < ps.length by omega); have q1 := xw.cell q1; have q2 := xw.cell q2; have hpk := hpb _ (List.getElem_mem (show k < ps.length by omega)); have hjt : jT ps k = [1 + (((ps[k]'(by omega)).1.toNat % 60 : Nat) : Int), 1 + (((ps[k]'(by omega)).2.toNat % 60 : Nat) : Int)] := by unfold jT; rw [List.getElem?_eq_getElem (show k < ps.length by omega)]; rfl
          generalize (ps[k]'(by omega)).1 = a0 at q1 hpk hjt
          generalize (ps[k]'(by omega)).2 = b0 at q2 hpk hjt
          have hma := tmodN 60 hpk.1; have hmb := tmodN 60 hpk.2; have hla := Nat.mod_lt a0.toNat (show 0 < 60 by decide); have hlb := Nat.mod_lt b0.toNat (show 0 < 60 by decide)
          generalize a0.toNat % 60 = za at hma hla hjt
          generalize b0.toNat % 60 = zb at hmb hlb hjt
          have hma : Int.tmod a0 60 = (za : Int) := hma; have hmb : Int.tmod b0 60 = (zb : Int) := hmb; have hwa : IntKind.i64.wrap a0 = a0 := IntWalk.i64_in _ (by omega); have hwb : IntKind.i64.wrap b0 = b0 := IntWalk.i64_in _ (by omega); have hza : IntKind.i64.wrap (1 + (za : Int)) = 1 + (za : Int) := IntWalk.i64_in _ (by omega); have hzb : IntKind.i64.wrap (1 + (zb : Int)) = 1 + (zb : Int) := IntWalk.i64_in _ (by omega); have hwk : IntKind.i64.wrap (1 + (k : Int)) = 1 + (k : Int) := IntWalk.i64_in _ (by omega); have b3 : (k : Int) < (np : Int) := by omega
          have xi := Ext.refl wk; refine Wp.skip ?_; refine thenK_normal ?_; refine Wp.seq ?_; refine Wp.block ?_; refine Wp.loneDraw (.inl rfl) mixed [([0, 1, 2, 3, 4], none), ([5, 6, 7, 8, 9], none), ([10, 11, 12, 13, 14], none), ([15, 16, 17, 18, 19], none), ([20, 21], some (22, false)), ([23], some (24, false)), ([], some (25, true)), ([], some (26, true)), ([], some (27, true))] (by kernel_rfl) fun K' gd hK hg => ?_; clear hg; simp only [pick, nth, List.map_cons, List.map_nil, Option.map_none, Option.map_some]; refine Mops.absD fun D5 hD5 zD5 => ?_; replace f7 := Ext.fz hD5 c7_0 f7; replace R35 := R35.ext hD5; replace hJ := hJ.ext hD5; replace xw := Ext.trans xw hD5; replace xl3 := Chg.ext xl3 hD5; replace xi := Ext.trans xi hD5; replace c35_0 := Ext.cell hD5 c35_0; replace c35_1 := Ext.cell hD5 c35_1; replace c7_0 := Ext.cell hD5 c7_0; replace c7_1 := Ext.cell hD5 c7_1; replace q1 := Ext.cell hD5 q1; replace q2 := Ext.cell hD5 q2; clear hD5; apply Mops.none
          · intro w' hE'; have hC' := hE'.cellsS; go_simp; with_reducible rfl
          apply Mops.none
          · intro w' hE'; have hC' := hE'.cellsS; go_simp; with_reducible rfl
          apply Mops.none
          · intro w' hE'; have hC' := hE'.cellsS; go_simp; with_reducible rfl
          apply Mops.none
          · intro w' hE'; have hC' := hE'.cellsS; go_simp; with_reducible rfl
          apply Mops.act
          · intro w' hE'; have hC' := hE'.cellsS; go_simp; with_reducible rfl
          intro K1 hK1; go_simp; refine hK1 _ _ (by first | exact (Ext.refl _).alloc _ | exact Ext.refl _) ?_; clear hK1 K1; refine Mops.absT fun V65_6 n65 hV65_6 R65 => ?_; obtain ⟨q65, hV65_6, s65, kV65_6, f65, r65⟩ := hV65_6; try simp only [q65] at kV65_6 f65 r65 ⊢
          replace R65 := (show RowC _ _ _ _ from R65); replace f7 := Ext.fz hV65_6 c7_0 f7; replace R35 := R35.ext hV65_6; replace hJ := hJ.ext hV65_6; replace xw := Ext.trans xw hV65_6; replace xl3 := Chg.ext xl3 hV65_6; replace xi := Ext.trans xi hV65_6; replace c35_0 := Ext.cell hV65_6 c35_0; replace c35_1 := Ext.cell hV65_6 c35_1; replace c7_0 := Ext.cell hV65_6 c7_0; replace c7_1 := Ext.cell hV65_6 c7_1; replace q1 := Ext.cell hV65_6 q1; replace q2 := Ext.cell hV65_6 q2; clear hV65_6 f65; have c65_0 := kV65_6 0 _ rfl; have c65_1 := kV65_6 1 _ rfl; clear kV65_6; apply Mops.act
          · intro w' hE'; have hC' := hE'.cellsS; go_simp; with_reducible rfl
          intro K1 hK1; go_simp; refine hK1 _ _ (by first | exact (Ext.refl _).alloc _ | exact Ext.refl _) ?_; clear hK1 K1; refine Mops.absT fun V67_7 n67 hV67_7 R67 => ?_; obtain ⟨q67, hV67_7, s67, kV67_7, f67, r67⟩ := hV67_7; try simp only [q67] at kV67_7 f67 r67 ⊢
          replace R67 := (show RowC _ _ _ _ from R67); replace f7 := Ext.fz hV67_7 c7_0 f7; replace R35 := R35.ext hV67_7; replace hJ := hJ.ext hV67_7; replace R65 := R65.ext hV67_7; replace xw := Ext.trans xw hV67_7; replace xl3 := Chg.ext xl3 hV67_7; replace xi := Ext.trans xi hV67_7; replace c35_0 := Ext.cell hV67_7 c35_0; replace c35_1 := Ext.cell hV67_7 c35_1; replace c7_0 := Ext.cell hV67_7 c7_0; replace c7_1 := Ext.cell hV67_7 c7_1; replace q1 := Ext.cell hV67_7 q1; replace q2 := Ext.cell hV67_7 q2; replace c65_0 := Ext.cell hV67_7 c65_0; replace c65_1 := Ext.cell hV67_7 c65_1; clear hV67_7 f67; have c67_0 := kV67_7 0 _ rfl; have c67_1 := kV67_7 1 _ rfl; have c67_2 := kV67_7 2 _ rfl; clear kV67_7; apply Mops.last
          · exact fun _ _ => Rops_done
          intro K1 hK1; obtain ⟨v', w9, hrun, hown, hgr⟩ := pushJ (i1.ext xi) c67_0 c67_1 c67_2 23 (by intro u hu; simp only [List.mem_cons, List.not_mem_nil, or_false] at hu; rcases hu with rfl | rfl | rfl <;> rfl) (by omega) (by omega); have hJ9 := JRow.grown hJ (i1.ext xi) hgr; obtain ⟨g, cap, rfl⟩ := ownsRow_succ hown; refine if_pos_of rfl (Wstep.law (exec_append2 rfl hrun (by go_simp) (by go_simp)) ?_); refine hK1 _ _ ?_; clear hK1 K1; have z16 := World.grownBy.size hgr; replace f7 := Chg.fz (grown_chg hgr) c7_0 f7 (lt_off (World.ownsRow.lt i1) (by omega)); replace R35 := R35.chg (grown_chg hgr) (by first | (intro b hb; exact lt_off (World.ownsRow.lt i1) (by omega)) | exact lt_off (World.ownsRow.lt i1) (by omega)); replace R65 := R65.chg (grown_chg hgr) (by first | (intro b hb; exact lt_off (World.ownsRow.lt i1) (by omega)) | exact lt_off (World.ownsRow.lt i1) (by omega)); replace xw := Chg.to xw (grown_chg hgr) (lt_ge (World.ownsRow.lt i1) (by omega)); replace xl3 := Chg.more xl3 (grown_chg hgr) (by first | exact lt_gm (World.ownsRow.lt i1) (by omega) | simp); replace c35_0 := Chg.cell (grown_chg hgr) c35_0 (lt_off (World.ownsRow.lt i1) (by omega)); replace c35_1 := Chg.cell (grown_chg hgr) c35_1 (lt_off (World.ownsRow.lt i1) (by omega)); replace c7_0 := Chg.cell (grown_chg hgr) c7_0 (lt_off (World.ownsRow.lt i1) (by omega)); replace c7_1 := Chg.cell (grown_chg hgr) c7_1 (lt_off (World.ownsRow.lt i1) (by omega)); replace c65_0 := Chg.cell (grown_chg hgr) c65_0 (lt_off (World.ownsRow.lt i1) (by omega))
          replace c65_1 := Chg.cell (grown_chg hgr) c65_1 (lt_off (World.ownsRow.lt i1) (by omega)); replace c67_0 := Chg.cell (grown_chg hgr) c67_0 (lt_off (World.ownsRow.lt i1) (by omega)); replace c67_1 := Chg.cell (grown_chg hgr) c67_1 (lt_off (World.ownsRow.lt i1) (by omega)); replace c67_2 := Chg.cell (grown_chg hgr) c67_2 (lt_off (World.ownsRow.lt i1) (by omega)); apply Mops.last
          · exact fun _ _ => Rops_done
          intro K1 hK1; go_simp; refine hK1 _ _ ?_; clear hK1 K1; apply Mops.last
          · exact fun _ _ => Rops_done
          intro K1 hK1; go_simp; refine hK1 _ _ ?_; clear hK1 K1; refine Mops.absS (b := n7) (i := 1) [_] (somes [cellVal c7_1] (by simp) (by intro j v hj; match j, hj with | 0, hj => (simp at hj; subst hj; exact c7_1))) fun P8 hP8 => ?_; have zP8 := hP8.same; replace f7 := Put.frz hP8 f7; replace R35 := R35.put hP8 (by omega); replace R65 := R65.put hP8 (by omega); replace hown := hown.put hP8 (by omega); replace hJ9 := hJ9.put hP8 (by omega); replace xw := Put.to xw hP8 (by omega); replace xl3 := Put.more xl3 hP8 (.inr (by simp)); replace c35_0 := Put.cell hP8 c35_0 (by omega); replace c35_1 := Put.cell hP8 c35_1 (by omega); replace c7_0 := Put.cellOff hP8 c7_0 (by simp); clear c7_1; replace c65_0 := Put.cell hP8 c65_0 (by omega); replace c65_1 := Put.cell hP8 c65_1 (by omega); replace c67_0 := Put.cell hP8 c67_0 (by omega); replace c67_1 := Put.cell hP8 c67_1 (by omega); replace c67_2 := Put.cell hP8 c67_2 (by omega); have c7_1 := hP8.new 0 _ rfl; try simp only [Nat.reduceAdd, Nat.zero_add, Nat.add_zero] at c7_1
          clear hP8; refine Mops.done ?_; refine hK _ _ ?_; clear hK K' gd; refine Ends.keep [0, 1, 2, 7, 8] fun r17 hkeep => ?_; obtain ⟨e0_17, e1_17, e2_17, e7_17, e8_17, -⟩ := hkeep; simp [go_sem, e0_15, e1_15, e2_15, e7_15, e8_15, e40_15] at e0_17 e1_17 e2_17 e7_17 e8_17; clear e0_15 e1_15 e2_15 e7_15 e8_15 e40_15; refine Ends.mk ?_; refine blockK_normal ?_; refine thenK_normal ?_; refine Wp.loneRegion (.inl rfl) (by kernel_rfl) fun K' gd hK hg => ?_; clear hg; go_simp; refine hK _ _ ?_; clear hK K' gd; refine Ends.keep [0, 1, 2, 7, 8] fun r18 hkeep => ?_; obtain ⟨e0_18, e1_18, e2_18, e7_18, e8_18, -⟩ := hkeep; simp [go_sem, e0_17, e1_17, e2_17, e7_17, e8_17] at e0_18 e1_18 e2_18 e7_18 e8_18; clear e0_17 e1_17 e2_17 e7_17 e8_17; refine Ends.mk ?_; refine thenK_normal ⟨by omega, ⟨by rw [e0_18, e0_13], by rw [e1_18, e1_13], by rw [e2_18, e2_13], by rw [e7_18, e7_13], trivial⟩, rfl, ⟨xl3, f7⟩, ?_⟩; refine ⟨_, (fun i => if i = k then n65 else tb i), by rw [e8_18, IntWalk.i64_in _ (by omega)]; rfl, c7_0, c7_1, ?_, hJ9.more (by omega) (by rw [hjt]; exact R65)⟩; rw [jC_succ, jC_congr (tb' := tb) k (fun i hi => by simp only [id]; rw [if_neg (by omega)])]; simp only [id, if_true]; exact hown
        · refine Wp.condF (by go_simp) ?_; obtain rfl : k = np := by omega
          have eO : jOrd d ps = ⟨[1, 1], (List.range k).map fun i => jRun d ps (id i)⟩ := by unfold jOrd; rw [hnp]; rfl
          have hO : OrderP wk (fun b => b ≠ n7) (.agg #[.slice (some ⟨n35, 0, none⟩) 2 2, v5]) (jOrd d ps) := by rw [eO]; exact jOrd_P (S := S0) (S1 := S0) c35_0 c35_1 (by omega) i1 (by rw [hnp]; exact hJ) (fun i hi => by rw [hnp]; exact hi) (fun b hb => by omega) (fun b hb => by omega)
          clear eO; have hfO := hJK.good.fits; have x1 := Ext.refl wk; refine Wp.exit ?_; refine thenK_exit ?_; refine thenK_exit ?_; refine blockK_here ?_; refine thenK_normal ?_; refine Wp.seqRegion (.inl rfl) (by kernel_rfl) fun K' gd hK hg => ?_; clear hg; refine Wops.cut 2 fun K1 hK1 => ?_; simp only [List.take_succ_cons, List.take_zero]; go_simp; refine Wcall (.inl rfl) (John_g _ (jOrd d ps) _ hO.orderV hJK.good rfl jOrd_late) ?_; rintro v w10 ⟨A9, c9, rfl, hI, hE⟩; have x2 := Ext.refl w10; go_simp; refine hK1 _ _ ?_; clear hK1 K1; simp only [List.drop_succ_cons, List.drop_zero]; have z19 := Below.size hE; replace f7 := Ext.fz hE c7_0 f7; replace R35 := R35.ext hE; replace xw := Ext.trans xw hE; replace xl3 := Chg.ext xl3 hE; replace x1 := Ext.trans x1 hE; replace c35_0 := Ext.cell hE c35_0; replace c35_1 := Ext.cell hE c35_1; replace c7_0 := Ext.cell hE c7_0; replace c7_1 := Ext.cell hE c7_1; clear hE; go_simp; refine hK _ _ ?_; clear hK K' gd; refine Wp.keep [0, 2, 7, 9, 10, 11] fun r20 hkeep => ?_; obtain ⟨e0_20, e2_20, e7_20, e9_20, e10_20, e11_20, -⟩ := hkeep; simp [go_sem, e0_15, e1_15, e2_15, e7_15, e8_15, e40_15] at e0_20 e2_20 e7_20 e9_20 e10_20 e11_20; clear e0_15 e1_15 e2_15 e7_15 e8_15 e40_15; have hjl := johnL_get (d := d) hnp; rw [hjl] at hI e9_20; clear hjl; simp only [List.length_map, List.length_range] at hI e9_20; have eJ : ∃ _u : Unit, johnO (jOrd d ps) = ⟨[1, 1], (List.range k).map fun i => jRun d ps (johnP (jOrd d ps) i)⟩ := ⟨(), by rw [jOrd_johnO, hnp]⟩
          obtain ⟨σ, hσ⟩ : ∃ σ, johnP (jOrd d ps) = σ := ⟨_, rfl⟩; obtain ⟨Jo, hJo⟩ : ∃ Jo, johnO (jOrd d ps) = Jo := ⟨_, rfl⟩; obtain ⟨e, he⟩ : ∃ e, endS (johnO (jOrd d ps)) = e := ⟨_, rfl⟩; have hself := hJK.self; rw [he] at hJK e10_20; clear he; have heq := hJK.eq; rw [hJo] at hself heq eJ; rw [hσ] at hJK hI eJ; clear hJo hσ; have hgj := hself.good hJK.good; have hnj : Jo.n = k := hself.n.trans hJK.n; refine Wp.seq ?_; refine Wp.seqRegion (.inl rfl) (by kernel_rfl) fun K' gd hK hg => ?_; have g2 : gd 2 = some 78 := hg 2; clear hg; go_simp; refine hK _ _ ?_; clear hK K' gd g2; refine Wp.keep [0, 2, 7, 9, 10, 84] fun r21 hkeep => ?_; obtain ⟨e0_21, e2_21, e7_21, e9_21, e10_21, e84_21, -⟩ := hkeep; simp [go_sem, e0_20, e2_20, e7_20, e9_20, e10_20, e11_20] at e0_21 e2_21 e7_21 e9_21 e10_21 e84_21; clear e0_20 e2_20 e7_20 e9_20 e10_20 e11_20; refine Wp.condF (by go_simp) ?_; refine Wp.skip ?_; refine thenK_normal ?_; refine Wp.seqRegion (.inl rfl) (by kernel_rfl) fun K' gd hK hg => ?_; clear hg; refine Wops.cut 5 fun K1 hK1 => ?_; simp only [List.take_succ_cons, List.take_zero]; go_simp; refine hK1 _ _ ?_; clear hK1 K1; simp only [List.drop_succ_cons, List.drop_zero]; refine Wops.absA fun V12_11 n12 hV12_11 => ?_; obtain ⟨q12, hV12_11, s12, kV12_11, f12, r12⟩ := hV12_11; try simp only [q12] at kV12_11 f12 r12 ⊢
          replace f7 := Ext.fz hV12_11 c7_0 f7; replace R35 := R35.ext hV12_11; replace xw := Ext.trans xw hV12_11; replace xl3 := Chg.ext xl3 hV12_11; replace x1 := Ext.trans x1 hV12_11; replace x2 := Ext.trans x2 hV12_11; replace c35_0 := Ext.cell hV12_11 c35_0; replace c35_1 := Ext.cell hV12_11 c35_1; replace c7_0 := Ext.cell hV12_11 c7_0; replace c7_1 := Ext.cell hV12_11 c7_1; have c12_0 := kV12_11 0 _ rfl; have c12_1 := kV12_11 1 _ rfl; clear kV12_11 hV12_11; clear r12; try simp only [Wops_nil, updO_some, updO_none]
          refine hK _ _ ?_; clear hK K' gd; refine Wp.keep [0, 2, 7, 9, 10, 12] fun r22 hkeep => ?_; obtain ⟨e0_22, e2_22, e7_22, e9_22, e10_22, e12_22, -⟩ := hkeep; simp [go_sem, e0_21, e2_21, e7_21, e9_21, e10_21, e84_21] at e0_22 e2_22 e7_22 e9_22 e10_22 e12_22; clear e0_21 e2_21 e7_21 e9_21 e10_21 e84_21; refine Wp.seq ?_; obtain ⟨S1, hS1⟩ : ∃ s, V12_11.heap.size = s := ⟨_, rfl⟩; refine Wp.seqRegion (.inl rfl) (by kernel_rfl) fun K' gd hK hg => ?_; clear hg; go_simp; refine hK _ _ ?_; clear hK K' gd; refine Wp.keep [0, 2, 7, 9, 10, 12, 13] fun r23 hkeep => ?_; obtain ⟨e0_23, e2_23, e7_23, e9_23, e10_23, e12_23, e13_23, -⟩ := hkeep; simp [go_sem, e0_22, e2_22, e7_22, e9_22, e10_22, e12_22] at e0_23 e2_23 e7_23 e9_23 e10_23 e12_23 e13_23; clear e0_22 e2_22 e7_22 e9_22 e10_22 e12_22; refine Wp.block ?_; refine Wp.loop (fun i ρ ds wi => AllEq [0, 2, 7, 9, 10, 12] ρ r23 ∧ ds = [] ∧ (Chg [n12] V12_11 wi ∧ (∀ i, wi.frozen? ⟨n12, i, none⟩ = false)) ∧ (∃ v6, ρ 13 = .int .i64 (i : Int) ∧ wi.cell? ⟨n12, 0, none⟩ = some (.slice (some ⟨n35, 0, none⟩) 2 2) ∧ wi.cell? ⟨n12, 1, none⟩ = some v6 ∧ wi.ownsRow S1 37 3 v6 i (jC d tb σ i))) (k) ?_ ?_
          · refine ⟨AllEq.refl _ _, rfl, ⟨Chg.refl _ _, f12⟩, ?_⟩; exact ⟨_, by rw [e13_23]; rfl, c12_0, c12_1, World.ownsRow_nil _ _ _ _⟩
          · rintro i r24 _ wi hi ⟨hA, rfl, ⟨xl12, gf12⟩, ⟨v6, e13, gc12_0, gc12_1, i2⟩⟩; obtain ⟨e0_24, e2_24, e7_24, e9_24, e10_24, e12_24, -⟩ := hA; rw [e0_23] at e0_24; rw [e2_23] at e2_24; rw [e7_23] at e7_24; rw [e9_23] at e9_24; rw [e10_23] at e10_24; rw [e12_23] at e12_24; have zxl12 := Chg.size xl12; replace f7 := Chg.fz xl12 c7_0 f7 (by intro hm; simp only [List.mem_cons, List.not_mem_nil, or_false] at hm; omega); clear f12; replace R35 := R35.chg xl12 (by first | (intro b hb hm; simp at hm; omega) | (simp; omega)); replace xw := Chg.to xw xl12 (by intro b hm; simp only [List.mem_cons, List.not_mem_nil, or_false] at hm; omega); replace xl3 := Chg.more xl3 xl12 (by intro b hm; simp only [List.mem_cons, List.not_mem_nil, or_false] at hm; first | (left; omega) | (right; simp [hm])); replace x1 := Chg.to x1 xl12 (by intro b hm; simp only [List.mem_cons, List.not_mem_nil, or_false] at hm; omega); replace x2 := Chg.to x2 xl12 (by intro b hm; simp only [List.mem_cons, List.not_mem_nil, or_false] at hm; omega); replace c35_0 := Chg.cell xl12 c35_0 (by intro hm; simp only [List.mem_cons, List.not_mem_nil, or_false] at hm; omega); replace c35_1 := Chg.cell xl12 c35_1 (by intro hm; simp only [List.mem_cons, List.not_mem_nil, or_false] at hm; omega); replace c7_0 := Chg.cell xl12 c7_0 (by intro hm; simp only [List.mem_cons, List.not_mem_nil, or_false] at hm; omega); replace c7_1 := Chg.cell xl12 c7_1 (by intro hm; simp only [List.mem_cons, List.not_mem_nil, or_false] at hm; omega)
            clear c12_0; clear c12_1; have f12 := gf12; clear gf12; have c12_0 := gc12_0; clear gc12_0; have c12_1 := gc12_1; clear gc12_1; refine Wp.seq ?_; refine Wp.seqRegion (.inl rfl) (by kernel_rfl) fun K' gd hK hg => ?_; clear hg; go_simp; refine hK _ _ ?_; clear hK K' gd; refine Wp.keep [0, 2, 7, 9, 10, 12, 13, 91] fun r25 hkeep => ?_; obtain ⟨e0_25, e2_25, e7_25, e9_25, e10_25, e12_25, e13_25, e91_25, -⟩ := hkeep; simp [go_sem, e0_24, e2_24, e7_24, e9_24, e10_24, e12_24, e13] at e0_25 e2_25 e7_25 e9_25 e10_25 e12_25 e13_25 e91_25; clear e0_24 e2_24 e7_24 e9_24 e10_24 e12_24 e13
            by_cases h : i < k
            · refine Wp.condT (by go_simp) ?_; have hsl := hJK.lt i h; obtain ⟨ib, io, rfl, q3⟩ := intsAt hI (k := i) (x := 1 + (σ i : Int)) (by rw [List.getElem?_map, List.getElem?_range h]; rfl); have q3 := x2.cell q3; obtain ⟨s, hs⟩ : ∃ s, σ i = s := ⟨_, rfl⟩; have hs2 : ∃ _u : Unit, σ i = s := ⟨(), hs⟩; rw [hs] at hsl q3; clear hs; obtain ⟨g5, cap5, rfl, k1, k2, k3⟩ := rowAt i1 hsl; have k1 := x1.cell k1; have k2 := x1.cell k2; have k3 := x1.cell k3; simp only [id] at k1 k3; have b5 : (i : Int) < (k : Int) := by omega
              have b6 : (s : Int) < (k : Int) := by omega
              have hws : IntKind.i64.wrap (1 + (s : Int) - 1) = (s : Int) := by rw [show 1 + (s : Int) - 1 = (s : Int) by omega]; exact IntWalk.i64_in _ (by omega)
              have b7 : ¬ 1 + (s : Int) < 1 := by omega
              have b8 : ¬ (k : Int) < 1 + (s : Int) := by omega
              refine Wp.skip ?_; refine thenK_normal ?_; refine Wp.seq ?_; refine Wp.block ?_; refine Wp.seq ?_; refine Wp.seqRegion (.inl rfl) (by kernel_rfl) fun K' gd hK hg => ?_; have g5 : gd 5 = some 99 := hg 5; clear hg; go_simp; refine hK _ _ ?_; clear hK K' gd g5; refine Wp.keep [0, 2, 7, 9, 10, 12, 13, 107] fun r26 hkeep => ?_; obtain ⟨e0_26, e2_26, e7_26, e9_26, e10_26, e12_26, e13_26, e107_26, -⟩ := hkeep; simp [go_sem, e0_25, e2_25, e7_25, e9_25, e10_25, e12_25, e13_25, e91_25] at e0_26 e2_26 e7_26 e9_26 e10_26 e12_26 e13_26 e107_26; clear e0_25 e2_25 e7_25 e9_25 e10_25 e12_25 e13_25 e91_25; refine Wp.condF (by go_simp) ?_; have xj := Ext.refl wi; refine Wp.skip ?_; refine thenK_normal ?_; refine Wp.loneDraw (.inl rfl) mixed [([0, 1, 2, 3, 4], none), ([5, 6, 7, 8, 9], none), ([10], some (11, false)), ([], some (12, true)), ([], some (13, true)), ([], some (14, true))] (by kernel_rfl) fun K' gd hK hg => ?_; clear hg; simp only [pick, nth, List.map_cons, List.map_nil, Option.map_none, Option.map_some]; refine Mops.absD fun D14 hD14 zD14 => ?_; replace f7 := Ext.fz hD14 c7_0 f7; replace f12 := Ext.fz hD14 c12_0 f12; replace R35 := R35.ext hD14; replace xw := Ext.trans xw hD14; replace xl3 := Chg.ext xl3 hD14; replace x1 := Ext.trans x1 hD14; replace x2 := Ext.trans x2 hD14; replace xl12 := Chg.ext xl12 hD14; replace xj := Ext.trans xj hD14; replace c35_0 := Ext.cell hD14 c35_0; replace c35_1 := Ext.cell hD14 c35_1; replace c7_0 := Ext.cell hD14 c7_0; replace c7_1 := Ext.cell hD14 c7_1
              replace c12_0 := Ext.cell hD14 c12_0; replace c12_1 := Ext.cell hD14 c12_1; replace q3 := Ext.cell hD14 q3; replace k1 := Ext.cell hD14 k1; replace k2 := Ext.cell hD14 k2; replace k3 := Ext.cell hD14 k3; clear hD14; apply Mops.none
              · intro w' hE'; have hC' := hE'.cellsS; go_simp; with_reducible rfl
              apply Mops.none
              · intro w' hE'; have hC' := hE'.cellsS; go_simp; with_reducible rfl
              apply Mops.act
              · intro w' hE'; have hC' := hE'.cellsS; go_simp; with_reducible rfl
              intro K1 hK1; go_simp; refine hK1 _ _ (by first | exact (Ext.refl _).alloc _ | exact Ext.refl _) ?_; clear hK1 K1; refine Mops.absT fun V119_15 n119 hV119_15 R119 => ?_; obtain ⟨q119, hV119_15, s119, kV119_15, f119, r119⟩ := hV119_15; try simp only [q119] at kV119_15 f119 r119 ⊢
              replace R119 := (show RowC _ _ _ _ from R119); replace f7 := Ext.fz hV119_15 c7_0 f7; replace f12 := Ext.fz hV119_15 c12_0 f12; replace R35 := R35.ext hV119_15; replace xw := Ext.trans xw hV119_15; replace xl3 := Chg.ext xl3 hV119_15; replace x1 := Ext.trans x1 hV119_15; replace x2 := Ext.trans x2 hV119_15; replace xl12 := Chg.ext xl12 hV119_15; replace xj := Ext.trans xj hV119_15; replace c35_0 := Ext.cell hV119_15 c35_0; replace c35_1 := Ext.cell hV119_15 c35_1; replace c7_0 := Ext.cell hV119_15 c7_0; replace c7_1 := Ext.cell hV119_15 c7_1; replace c12_0 := Ext.cell hV119_15 c12_0; replace c12_1 := Ext.cell hV119_15 c12_1; replace q3 := Ext.cell hV119_15 q3; replace k1 := Ext.cell hV119_15 k1; replace k2 := Ext.cell hV119_15 k2; replace k3 := Ext.cell hV119_15 k3; clear hV119_15 f119; have c119_0 := kV119_15 0 _ rfl; have c119_1 := kV119_15 1 _ rfl; have c119_2 := kV119_15 2 _ rfl; clear kV119_15; apply Mops.last
              · exact fun _ _ => Rops_done
              intro K1 hK1; obtain ⟨v', w9, hrun, hown, hgr⟩ := pushJ (i2.ext xj) c119_0 c119_1 c119_2 23 (by intro u hu; simp only [List.mem_cons, List.not_mem_nil, or_false] at hu; rcases hu with rfl | rfl | rfl <;> rfl) (by omega) (by omega); obtain ⟨g, cap, rfl⟩ := ownsRow_succ hown; refine if_pos_of rfl (Wstep.law (exec_append2 rfl hrun (by go_simp) (by go_simp)) ?_); refine hK1 _ _ ?_; clear hK1 K1; have z27 := World.grownBy.size hgr; replace f7 := Chg.fz (grown_chg hgr) c7_0 f7 (lt_off (World.ownsRow.lt i2) (by omega)); replace f12 := Chg.fz (grown_chg hgr) c12_0 f12 (lt_off (World.ownsRow.lt i2) (by omega)); replace R35 := R35.chg (grown_chg hgr) (by first | (intro b hb; exact lt_off (World.ownsRow.lt i2) (by omega)) | exact lt_off (World.ownsRow.lt i2) (by omega)); replace xw := Chg.to xw (grown_chg hgr) (lt_ge (World.ownsRow.lt i2) (by omega)); replace xl3 := Chg.more xl3 (grown_chg hgr) (by first | exact lt_gm (World.ownsRow.lt i2) (by omega) | simp); replace x1 := Chg.to x1 (grown_chg hgr) (lt_ge (World.ownsRow.lt i2) (by omega)); replace x2 := Chg.to x2 (grown_chg hgr) (lt_ge (World.ownsRow.lt i2) (by omega)); replace xl12 := Chg.more xl12 (grown_chg hgr) (by first | exact lt_gm (World.ownsRow.lt i2) (by omega) | simp); replace c35_0 := Chg.cell (grown_chg hgr) c35_0 (lt_off (World.ownsRow.lt i2) (by omega)); replace c35_1 := Chg.cell (grown_chg hgr) c35_1 (lt_off (World.ownsRow.lt i2) (by omega)); replace c7_0 := Chg.cell (grown_chg hgr) c7_0 (lt_off (World.ownsRow.lt i2) (by omega))
              replace c7_1 := Chg.cell (grown_chg hgr) c7_1 (lt_off (World.ownsRow.lt i2) (by omega)); replace c12_0 := Chg.cell (grown_chg hgr) c12_0 (lt_off (World.ownsRow.lt i2) (by omega)); replace c12_1 := Chg.cell (grown_chg hgr) c12_1 (lt_off (World.ownsRow.lt i2) (by omega)); replace c119_0 := Chg.cell (grown_chg hgr) c119_0 (lt_off (World.ownsRow.lt i2) (by omega)); replace c119_1 := Chg.cell (grown_chg hgr) c119_1 (lt_off (World.ownsRow.lt i2) (by omega)); replace c119_2 := Chg.cell (grown_chg hgr) c119_2 (lt_off (World.ownsRow.lt i2) (by omega)); apply Mops.last
              · exact fun _ _ => Rops_done
              intro K1 hK1; go_simp; refine hK1 _ _ ?_; clear hK1 K1; apply Mops.last
              · exact fun _ _ => Rops_done
              intro K1 hK1; go_simp; refine hK1 _ _ ?_; clear hK1 K1; refine Mops.absS (b := n12) (i := 1) [_] (somes [cellVal c12_1] (by simp) (by intro j v hj; match j, hj with | 0, hj => (simp at hj; subst hj; exact c12_1))) fun P16 hP16 => ?_; have zP16 := hP16.same; replace f7 := Put.frz hP16 f7; replace f12 := Put.frz hP16 f12; replace R35 := R35.put hP16 (by omega); replace hown := hown.put hP16 (by omega); replace xw := Put.to xw hP16 (by omega); replace xl3 := Put.more xl3 hP16 (.inl (by omega)); replace x1 := Put.to x1 hP16 (by omega); replace x2 := Put.to x2 hP16 (by omega); replace xl12 := Put.more xl12 hP16 (.inr (by simp)); replace c35_0 := Put.cell hP16 c35_0 (by omega); replace c35_1 := Put.cell hP16 c35_1 (by omega); replace c7_0 := Put.cell hP16 c7_0 (by omega); replace c7_1 := Put.cell hP16 c7_1 (by omega); replace c12_0 := Put.cellOff hP16 c12_0 (by simp); clear c12_1; replace c119_0 := Put.cell hP16 c119_0 (by omega); replace c119_1 := Put.cell hP16 c119_1 (by omega); replace c119_2 := Put.cell hP16 c119_2 (by omega); have c12_1 := hP16.new 0 _ rfl; try simp only [Nat.reduceAdd, Nat.zero_add, Nat.add_zero] at c12_1
              clear hP16; refine Mops.done ?_; refine hK _ _ ?_; clear hK K' gd; refine Ends.keep [0, 2, 7, 9, 10, 12, 13] fun r28 hkeep => ?_; obtain ⟨e0_28, e2_28, e7_28, e9_28, e10_28, e12_28, e13_28, -⟩ := hkeep; simp [go_sem, e0_26, e2_26, e7_26, e9_26, e10_26, e12_26, e13_26, e107_26] at e0_28 e2_28 e7_28 e9_28 e10_28 e12_28 e13_28; clear e0_26 e2_26 e7_26 e9_26 e10_26 e12_26 e13_26 e107_26; refine Ends.mk ?_; refine blockK_normal ?_; refine thenK_normal ?_; refine Wp.loneRegion (.inl rfl) (by kernel_rfl) fun K' gd hK hg => ?_; clear hg; go_simp; refine hK _ _ ?_; clear hK K' gd; refine Ends.keep [0, 2, 7, 9, 10, 12, 13] fun r29 hkeep => ?_; obtain ⟨e0_29, e2_29, e7_29, e9_29, e10_29, e12_29, e13_29, -⟩ := hkeep; simp [go_sem, e0_28, e2_28, e7_28, e9_28, e10_28, e12_28, e13_28] at e0_29 e2_29 e7_29 e9_29 e10_29 e12_29 e13_29; clear e0_28 e2_28 e7_28 e9_28 e10_28 e12_28 e13_28; refine Ends.mk ?_; refine thenK_normal ⟨by omega, ⟨by rw [e0_29, e0_23], by rw [e2_29, e2_23], by rw [e7_29, e7_23], by rw [e9_29, e9_23], by rw [e10_29, e10_23], by rw [e12_29, e12_23], trivial⟩, rfl, ⟨xl12, f12⟩, ?_⟩; refine ⟨_, by rw [e13_29, IntWalk.i64_in _ (by omega)]; rfl, c12_0, c12_1, ?_⟩; obtain ⟨-, hs⟩ := hs2; rw [jC_succ, hs]; exact hown
            · refine Wp.condF (by go_simp) ?_; obtain rfl : i = k := by omega
              have hB : OrderP wi (fun b => b ≠ n7) (.agg #[.slice (some ⟨n35, 0, none⟩) 2 2, v6]) Jo := by obtain ⟨-, eJ⟩ := eJ; rw [eJ]; exact jOrd_P (S := S0) (S1 := S1) c35_0 c35_1 (by omega) i2 (by rw [hnp]; exact hJ.ext x1) (fun k hk => by rw [hnp]; exact hJK.lt k hk) (fun b hb => by omega) (fun b hb => by omega)
              have x3 := Chg.refl [n7] wi; refine Wp.exit ?_; refine thenK_exit ?_; refine thenK_exit ?_; refine blockK_here ?_; refine thenK_normal ?_; refine Wp.seqRegion (.inl rfl) (by kernel_rfl) fun K' gd hK hg => ?_; clear hg; refine Wops.cut 2 fun K1 hK1 => ?_; simp only [List.take_succ_cons, List.take_zero]; go_simp; refine Wcall (.inl rfl) (End_g _ Jo _ hB.orderV hgj) ?_; rintro v w11 ⟨rfl, hE⟩; rw [heq]; go_simp; refine hK1 _ _ ?_; clear hK1 K1; simp only [List.drop_succ_cons, List.drop_zero]; have z30 := Below.size hE; replace f7 := Ext.fz hE c7_0 f7; replace f12 := Ext.fz hE c12_0 f12; replace R35 := R35.ext hE; replace xw := Ext.trans xw hE; replace xl3 := Chg.ext xl3 hE; replace x1 := Ext.trans x1 hE; replace x2 := Ext.trans x2 hE; replace xl12 := Chg.ext xl12 hE; replace x3 := Chg.ext x3 hE; replace c35_0 := Ext.cell hE c35_0; replace c35_1 := Ext.cell hE c35_1; replace c7_0 := Ext.cell hE c7_0; replace c7_1 := Ext.cell hE c7_1; replace c12_0 := Ext.cell hE c12_0; replace c12_1 := Ext.cell hE c12_1; clear hE; go_simp; refine hK _ _ ?_; clear hK K' gd; refine Wp.keep [0, 2, 7, 10, 12, 14, 15] fun r31 hkeep => ?_; obtain ⟨e0_31, e2_31, e7_31, e10_31, e12_31, e14_31, e15_31, -⟩ := hkeep; simp [go_sem, e0_25, e2_25, e7_25, e9_25, e10_25, e12_25, e13_25, e91_25] at e0_31 e2_31 e7_31 e10_31 e12_31 e14_31 e15_31; clear e0_25 e2_25 e7_25 e9_25 e10_25 e12_25 e13_25 e91_25; refine Wp.seq ?_; refine Wp.seqRegion (.inl rfl) (by kernel_rfl) fun K' gd hK hg => ?_; have g2 : gd 2 = some 129 := hg 2
              clear hg; go_simp; refine hK _ _ ?_; clear hK K' gd g2; refine Wp.keep [0, 2, 7, 10, 12, 133] fun r32 hkeep => ?_; obtain ⟨e0_32, e2_32, e7_32, e10_32, e12_32, e133_32, -⟩ := hkeep; simp [go_sem, e0_31, e2_31, e7_31, e10_31, e12_31, e14_31, e15_31] at e0_32 e2_32 e7_32 e10_32 e12_32 e133_32; clear e0_31 e2_31 e7_31 e10_31 e12_31 e14_31 e15_31; refine Wp.condF (by go_simp) ?_; have hO1 := hO.ext x1
              by_cases hn1 : (1 : Int) < (i : Int)
              · skip; refine Wp.skip ?_; refine thenK_normal ?_; refine Wp.seq ?_; refine Wp.seqRegion (.inl rfl) (by kernel_rfl) fun K' gd hK hg => ?_; clear hg; go_simp; refine hK _ _ ?_; clear hK K' gd; refine Wp.keep [0, 2, 7, 10, 12, 16] fun r33 hkeep => ?_; obtain ⟨e0_33, e2_33, e7_33, e10_33, e12_33, e16_33, -⟩ := hkeep; simp [go_sem, e0_32, e2_32, e7_32, e10_32, e12_32, e133_32] at e0_33 e2_33 e7_33 e10_33 e12_33 e16_33; clear e0_32 e2_32 e7_32 e10_32 e12_32 e133_32; refine Wp.block ?_; refine Wp.loop (fun j ρ ds wj => AllEq [0, 2, 7, 10, 12] ρ r33 ∧ ds = [] ∧ (Chg [n7] w11 wj ∧ (∀ i, wj.frozen? ⟨n7, i, none⟩ = false)) ∧ (∃ a b oi, ρ 16 = .int .i64 (j : Int) ∧ wj.cell? ⟨n7, 0, none⟩ = some a ∧ wj.cell? ⟨n7, 1, none⟩ = some b ∧ OrderP wj (fun b => b ≠ n7) (.agg #[a, b]) oi ∧ SameO (jOrd d ps) oi)) (nu) ?_ ?_
                · refine ⟨AllEq.refl _ _, rfl, ⟨Chg.refl _ _, f7⟩, ?_⟩; exact ⟨_, _, _, by rw [e16_33]; rfl, c7_0, c7_1, hO1, ⟨rfl, List.Perm.refl _⟩⟩
                · rintro j r34 _ wj hj ⟨hA, rfl, ⟨xl18, gf7⟩, ⟨a, b, oi, e16, gc7_0, gc7_1, hOi, hSi⟩⟩; obtain ⟨e0_34, e2_34, e7_34, e10_34, e12_34, -⟩ := hA; rw [e0_33] at e0_34; rw [e2_33] at e2_34; rw [e7_33] at e7_34; rw [e10_33] at e10_34; rw [e12_33] at e12_34; have zxl18 := Chg.size xl18; clear f7; replace f12 := Chg.fz xl18 c12_0 f12 (by intro hm; simp only [List.mem_cons, List.not_mem_nil, or_false] at hm; omega); replace R35 := R35.chg xl18 (by first | (intro b hb hm; simp at hm; omega) | (simp; omega)); replace hO1 := hO1.chg xl18 (by first | (intro b hb hm; simp at hm; omega) | (simp; omega)); replace xw := Chg.to xw xl18 (by intro b hm; simp only [List.mem_cons, List.not_mem_nil, or_false] at hm; omega); replace xl3 := Chg.more xl3 xl18 (by intro b hm; simp only [List.mem_cons, List.not_mem_nil, or_false] at hm; first | (left; omega) | (right; simp [hm])); clear x1; clear x2; clear xl12; replace x3 := Chg.more x3 xl18 (by intro b hm; simp only [List.mem_cons, List.not_mem_nil, or_false] at hm; first | (left; omega) | (right; simp [hm])); replace c35_0 := Chg.cell xl18 c35_0 (by intro hm; simp only [List.mem_cons, List.not_mem_nil, or_false] at hm; omega); replace c35_1 := Chg.cell xl18 c35_1 (by intro hm; simp only [List.mem_cons, List.not_mem_nil, or_false] at hm; omega); clear c7_0; clear c7_1; replace c12_0 := Chg.cell xl18 c12_0 (by intro hm; simp only [List.mem_cons, List.not_mem_nil, or_false] at hm; omega); replace c12_1 := Chg.cell xl18 c12_1 (by intro hm; simp only [List.mem_cons, List.not_mem_nil, or_false] at hm; omega)
                  have f7 := gf7; clear gf7; have c7_0 := gc7_0; clear gc7_0; have c7_1 := gc7_1; clear gc7_1
                  by_cases hj : j < nu
                  · skip; refine Wp.seq ?_; refine Wp.seqRegion (.inl rfl) (by kernel_rfl) fun K' gd hK hg => ?_; have g4 : gd 4 = some 138 := hg 4; clear hg; go_simp; refine hK _ _ ?_; clear hK K' gd g4; refine Wp.keep [0, 2, 7, 10, 12, 16, 142] fun r35 hkeep => ?_; obtain ⟨e0_35, e2_35, e7_35, e10_35, e12_35, e16_35, e142_35, -⟩ := hkeep; simp [go_sem, e0_34, e2_34, e7_34, e10_34, e12_34, e16] at e0_35 e2_35 e7_35 e10_35 e12_35 e16_35 e142_35; clear e0_34 e2_34 e7_34 e10_34 e12_34 e16; refine Wp.condT (by go_simp) ?_; obtain ⟨ub, uo, rfl, q3⟩ := hU.at_ (show j < us.length by omega); have q3 := xw.cell q3; have hu0 := hub _ (List.getElem_mem (show j < us.length by omega))
                    generalize us[j]'(by omega) = u0 at q3 hu0
                    obtain ⟨nm, hnm, hnm2⟩ : ∃ nm : Nat, IntKind.i64.wrap ((i : Int) - 1) = (nm : Int) ∧ nm + 1 = i := ⟨i - 1, by rw [IntWalk.i64_in _ (by omega)]; omega, by omega⟩; have hnm3 : ∃ _u : Unit, nm + 1 = i := ⟨(), hnm2⟩; have hmd := tmodN nm hu0; have hml := Nat.mod_lt u0.toNat (show 0 < nm by omega); have hne0 : ¬ nm = 0 := by omega
                    clear hnm2
                    generalize u0.toNat % nm = z at hmd hml
                    have hwu : IntKind.i64.wrap u0 = u0 := IntWalk.i64_in _ (by omega); have hwz : IntKind.i64.wrap (z : Int) = (z : Int) := IntWalk.i64_in _ (by omega); have b5 : (j : Int) < (nu : Int) := by omega
                    have hzi : z + 1 < (jOrd d ps).n := by rw [hJK.n]; obtain ⟨-, h⟩ := hnm3; omega
                    have hgi := hSi.good hJK.good; have hzo : z + 1 < oi.n := by rw [hSi.n]; exact hzi
                    have hS2 := hSi.swap hzi; have hg2 := hS2.good hJK.good; have hbest := hJK.best _ hS2; clear hzi; obtain ⟨D, hD⟩ : ∃ D, oi.swap z = D := ⟨_, rfl⟩; have hD2 : ∃ _u : Unit, oi.swap z = D := ⟨(), hD⟩; rw [hD] at hS2 hg2 hbest; clear hD; have hdr : wj.drew.heap.size = wj.heap.size := rfl; refine Wp.skip ?_; refine thenK_normal ?_; refine Wp.seq ?_; refine Wp.block ?_; refine Wp.seqDrawT (.inl rfl) mixed (.rd [0, 1, 2, 3, 4] (.rd [5, 6, 7, 8, 9] (.both (.act 10 false (.rd [11, 12] (.both (.act 13 false (.act 14 false (.act 15 true (.act 16 true .done)))) (.act 14 false (.both (.act 13 false (.act 15 true (.act 16 true .done))) (.act 15 true (.act 13 false (.act 16 true .done)))))))) (.act 14 false (.act 10 false (.rd [11, 12] (.both (.act 13 false (.act 15 true (.act 16 true .done))) (.act 15 true (.act 13 false (.act 16 true .done)))))))))) (by kernel_rfl) (fun ρ W => AllEq [0, 2, 7, 10, 12, 16] ρ r35 ∧ (Ext wj W ∧ ∃ m q, ρ 17 = .pointer (some ⟨m, 0, none⟩) ∧ ρ 18 = .int .i64 0 ∧ wj.heap.size ≤ m ∧ m < W.heap.size ∧ W.cell? ⟨m, 0, none⟩ = some (OA.cv q D) ∧ W.cell? ⟨m, 1, none⟩ = some (OA.rv q D) ∧ OrderP W (fun b => b ≠ n7 ∧ b ≠ m) (.agg #[OA.cv q D, OA.rv q D]) D)) (fun K' gd hK hg => ?_) ?_
                    · skip; clear hg; simp only [pickT, nth, List.map_cons, List.map_nil]; apply Mtree.reads
                      · intro w' hE'; have hC' := hE'.cellsS; go_simp; with_reducible rfl
                      apply Mtree.reads
                      · intro w' hE'; have hC' := hE'.cellsS; go_simp; with_reducible rfl
                      refine Mtree.two ?_ ?_
                      · skip; refine Mtree.step fun K1 hK1 => ?_; go_simp; refine Wcall (.inl rfl) (Swap_z D _ oi z (by obtain ⟨-, h⟩ := hD2; exact h) _ (hOi.ext (by repeat (first | assumption | exact Ext.refl _ | refine Ext.drew ?_ | refine Ext.alloc ?_ _ | refine Ext.trans ?_ (by assumption)))).orderV hgi hzo) ?_; rintro v w12 ⟨q, rfl, hC, hE12⟩; simp only [OA.cv, OA.rv]
                        first | have zq : wj.heap.size ≤ w12.heap.size := (Below.size hE12 : wj.drew.heap.size ≤ w12.heap.size) | have zq := Below.size hE12
                        go_simp; refine hK1 _ _ (by first | assumption | exact Ext.refl _) ?_; clear hK1 K1; apply Mtree.reads
                        · intro w' hE'; have hC' := hE'.cellsS; go_simp; with_reducible rfl
                        refine Mtree.two ?_ ?_
                        · skip; refine Mtree.step fun K1 hK1 => ?_; go_simp; refine hK1 _ _ (by first | exact (Ext.refl _).alloc _ | exact Ext.refl _) ?_; clear hK1 K1; refine Mtree.step fun K1 hK1 => ?_; go_simp; refine hK1 _ _ (by first | exact (Ext.refl _).alloc _ | exact Ext.refl _) ?_; clear hK1 K1
                          first | refine Mtree.abs fun V36 hV36 sV36 hVc hVf => ?_ | refine Mtree.absD fun V36 hV36 sV36 hVc hVf => ?_
                          have cV36_0 := hVc 0 _ rfl; have fV36_0 := hVf 0; have cV36_1 := hVc 1 _ rfl; have fV36_1 := hVf 1; clear hVc hVf; refine Mtree.stepT fun K1 hK1 => ?_; go_simp; refine hK1 _ _ ?_; clear hK1 K1; refine Mtree.stepT fun K1 hK1 => ?_; go_simp; refine hK1 _ _ ?_; clear hK1 K1; refine Mtree.fin ?_; refine hK _ _ ⟨by simp [AllEq, go_sem], ?_⟩; refine ⟨by repeat (first | assumption | exact Ext.refl _ | refine Ext.drew ?_ | refine Ext.alloc ?_ _ | refine Ext.setC ?_ (by omega) _ | refine Ext.trans ?_ (by assumption)), ?_⟩; refine ⟨_, q, by go_simp, by go_simp, ?_, ?_, by simp only [OA.cv, OA.rv]; go_simp, by simp only [OA.cv, OA.rv]; go_simp, OrderP.set2 (OrderP.weak (hC.orderP hg2 (fun b h => h)) (fun b h hl => ?_)) (by repeat (first | assumption | exact Ext.refl _ | refine Ext.drew ?_ | refine Ext.alloc ?_ _ | refine Ext.trans ?_ (by assumption))) (fun b h _ => h.2) _ _⟩
                          · first | omega | exact Nat.le_refl _
                          · simp; omega
                          · constructor <;> omega
                        · skip; refine Mtree.step fun K1 hK1 => ?_; go_simp; refine hK1 _ _ (by first | exact (Ext.refl _).alloc _ | exact Ext.refl _) ?_; clear hK1 K1
                          first | refine Mtree.abs fun V37 hV37 sV37 hVc hVf => ?_ | refine Mtree.absD fun V37 hV37 sV37 hVc hVf => ?_
                          have cV37_0 := hVc 0 _ rfl; have fV37_0 := hVf 0; have cV37_1 := hVc 1 _ rfl; have fV37_1 := hVf 1; clear hVc hVf; refine Mtree.two ?_ ?_
                          · skip; refine Mtree.step fun K1 hK1 => ?_; go_simp; refine hK1 _ _ (by first | exact (Ext.refl _).alloc _ | exact Ext.refl _) ?_; clear hK1 K1; have fc38 := (Ext.frozen (Ext.refl _) cV37_0).trans fV37_0; have c38 := Ext.cell (Ext.refl _) cV37_0; have fc39 := (Ext.frozen (Ext.refl _) cV37_1).trans fV37_1; have c39 := Ext.cell (Ext.refl _) cV37_1; refine Mtree.stepT fun K1 hK1 => ?_; go_simp; refine hK1 _ _ ?_; clear hK1 K1; refine Mtree.stepT fun K1 hK1 => ?_; go_simp; refine hK1 _ _ ?_; clear hK1 K1; refine Mtree.fin ?_; refine hK _ _ ⟨by simp [AllEq, go_sem], ?_⟩; refine ⟨by repeat (first | assumption | exact Ext.refl _ | refine Ext.drew ?_ | refine Ext.alloc ?_ _ | refine Ext.setC ?_ (by omega) _ | refine Ext.trans ?_ (by assumption)), ?_⟩; refine ⟨_, q, by go_simp, by go_simp, ?_, ?_, by simp only [OA.cv, OA.rv]; go_simp, by simp only [OA.cv, OA.rv]; go_simp, OrderP.set2 (OrderP.weak (hC.orderP hg2 (fun b h => h)) (fun b h hl => ?_)) (by repeat (first | assumption | exact Ext.refl _ | refine Ext.drew ?_ | refine Ext.alloc ?_ _ | refine Ext.trans ?_ (by assumption))) (fun b h _ => h.2) _ _⟩
                            · first | omega | exact Nat.le_refl _
                            · simp; omega
                            · constructor <;> omega
                          · skip; refine Mtree.stepT fun K1 hK1 => ?_; go_simp; refine hK1 _ _ ?_; clear hK1 K1; refine Mtree.step fun K1 hK1 => ?_; go_simp; refine hK1 _ _ (by first | exact (Ext.refl _).alloc _ | exact Ext.refl _) ?_; clear hK1 K1; have fc40 := (Ext.frozen (Ext.refl _) cV37_0).trans fV37_0; have c40 := Ext.cell (Ext.refl _) cV37_0; have fc41 := (Ext.frozen (Ext.refl _) cV37_1).trans fV37_1; have c41 := Ext.cell (Ext.refl _) cV37_1; refine Mtree.stepT fun K1 hK1 => ?_; go_simp; refine hK1 _ _ ?_; clear hK1 K1; refine Mtree.fin ?_; refine hK _ _ ⟨by simp [AllEq, go_sem], ?_⟩; refine ⟨by repeat (first | assumption | exact Ext.refl _ | refine Ext.drew ?_ | refine Ext.alloc ?_ _ | refine Ext.setC ?_ (by omega) _ | refine Ext.trans ?_ (by assumption)), ?_⟩; refine ⟨_, q, by go_simp, by go_simp, ?_, ?_, by simp only [OA.cv, OA.rv]; go_simp, by simp only [OA.cv, OA.rv]; go_simp, OrderP.set2 (OrderP.weak (hC.orderP hg2 (fun b h => h)) (fun b h hl => ?_)) (by repeat (first | assumption | exact Ext.refl _ | refine Ext.drew ?_ | refine Ext.alloc ?_ _ | refine Ext.trans ?_ (by assumption))) (fun b h _ => h.2) _ _⟩
                            · first | omega | exact Nat.le_refl _
                            · simp; omega
                            · constructor <;> omega
                      · skip; refine Mtree.step fun K1 hK1 => ?_; go_simp; refine hK1 _ _ (by first | exact (Ext.refl _).alloc _ | exact Ext.refl _) ?_; clear hK1 K1
                        first | refine Mtree.abs fun V42 hV42 sV42 hVc hVf => ?_ | refine Mtree.absD fun V42 hV42 sV42 hVc hVf => ?_
                        have cV42_0 := hVc 0 _ rfl; have fV42_0 := hVf 0; have cV42_1 := hVc 1 _ rfl; have fV42_1 := hVf 1; clear hVc hVf; refine Mtree.step fun K1 hK1 => ?_; go_simp; refine Wcall (.inl rfl) (Swap_z D _ oi z (by obtain ⟨-, h⟩ := hD2; exact h) _ (hOi.ext (by repeat (first | assumption | exact Ext.refl _ | refine Ext.drew ?_ | refine Ext.alloc ?_ _ | refine Ext.trans ?_ (by assumption)))).orderV hgi hzo) ?_; rintro v w12 ⟨q, rfl, hC, hE12⟩; simp only [OA.cv, OA.rv]
                        first | have zq : wj.heap.size ≤ w12.heap.size := (Below.size hE12 : wj.drew.heap.size ≤ w12.heap.size) | have zq := Below.size hE12
                        go_simp; refine hK1 _ _ (by first | assumption | exact Ext.refl _) ?_; clear hK1 K1; have fc43 := (Ext.frozen hE12 cV42_0).trans fV42_0; have c43 := Ext.cell hE12 cV42_0; have fc44 := (Ext.frozen hE12 cV42_1).trans fV42_1; have c44 := Ext.cell hE12 cV42_1; apply Mtree.reads
                        · intro w' hE'; have hC' := hE'.cellsS; go_simp; with_reducible rfl
                        refine Mtree.two ?_ ?_
                        · skip; refine Mtree.step fun K1 hK1 => ?_; go_simp; refine hK1 _ _ (by first | exact (Ext.refl _).alloc _ | exact Ext.refl _) ?_; clear hK1 K1; have fc45 := (Ext.frozen (Ext.refl _) c43).trans fc43; have c45 := Ext.cell (Ext.refl _) c43; have fc46 := (Ext.frozen (Ext.refl _) c44).trans fc44; have c46 := Ext.cell (Ext.refl _) c44; refine Mtree.stepT fun K1 hK1 => ?_; go_simp; refine hK1 _ _ ?_; clear hK1 K1; refine Mtree.stepT fun K1 hK1 => ?_; go_simp; refine hK1 _ _ ?_; clear hK1 K1; refine Mtree.fin ?_; refine hK _ _ ⟨by simp [AllEq, go_sem], ?_⟩; refine ⟨by repeat (first | assumption | exact Ext.refl _ | refine Ext.drew ?_ | refine Ext.alloc ?_ _ | refine Ext.setC ?_ (by omega) _ | refine Ext.trans ?_ (by assumption)), ?_⟩; refine ⟨_, q, by go_simp, by go_simp, ?_, ?_, by simp only [OA.cv, OA.rv]; go_simp, by simp only [OA.cv, OA.rv]; go_simp, OrderP.set2 (OrderP.weak (hC.orderP hg2 (fun b h => h)) (fun b h hl => ?_)) (by repeat (first | assumption | exact Ext.refl _ | refine Ext.drew ?_ | refine Ext.alloc ?_ _ | refine Ext.trans ?_ (by assumption))) (fun b h _ => h.2) _ _⟩
                          · first | omega | exact Nat.le_refl _
                          · simp; omega
                          · constructor <;> omega
                        · skip; refine Mtree.stepT fun K1 hK1 => ?_; go_simp; refine hK1 _ _ ?_; clear hK1 K1; refine Mtree.step fun K1 hK1 => ?_; go_simp; refine hK1 _ _ (by first | exact (Ext.refl _).alloc _ | exact Ext.refl _) ?_; clear hK1 K1; have fc47 := (Ext.frozen (Ext.refl _) c43).trans fc43; have c47 := Ext.cell (Ext.refl _) c43; have fc48 := (Ext.frozen (Ext.refl _) c44).trans fc44; have c48 := Ext.cell (Ext.refl _) c44; refine Mtree.stepT fun K1 hK1 => ?_; go_simp; refine hK1 _ _ ?_; clear hK1 K1; refine Mtree.fin ?_; refine hK _ _ ⟨by simp [AllEq, go_sem], ?_⟩; refine ⟨by repeat (first | assumption | exact Ext.refl _ | refine Ext.drew ?_ | refine Ext.alloc ?_ _ | refine Ext.setC ?_ (by omega) _ | refine Ext.trans ?_ (by assumption)), ?_⟩; refine ⟨_, q, by go_simp, by go_simp, ?_, ?_, by simp only [OA.cv, OA.rv]; go_simp, by simp only [OA.cv, OA.rv]; go_simp, OrderP.set2 (OrderP.weak (hC.orderP hg2 (fun b h => h)) (fun b h hl => ?_)) (by repeat (first | assumption | exact Ext.refl _ | refine Ext.drew ?_ | refine Ext.alloc ?_ _ | refine Ext.trans ?_ (by assumption))) (fun b h _ => h.2) _ _⟩
                          · first | omega | exact Nat.le_refl _
                          · simp; omega
                          · constructor <;> omega
                    · rintro r49 W ⟨hA, hT19, ⟨m, q, e17, e18, hm1, hm2, d0, d1, hNew⟩⟩; obtain ⟨e0_49, e2_49, e7_49, e10_49, e12_49, e16_49, -⟩ := hA; rw [e0_35] at e0_49; rw [e2_35] at e2_49; rw [e7_35] at e7_49; rw [e10_35] at e10_49; rw [e12_35] at e12_49; rw [e16_35] at e16_49; clear e0_35 e2_35 e7_35 e10_35 e12_35 e16_35 e142_35; have zhT19 := Below.size hT19; replace f12 := Ext.fz hT19 c12_0 f12; replace f7 := Ext.fz hT19 c7_0 f7; replace R35 := R35.ext hT19; replace hO1 := hO1.ext hT19; replace xw := Ext.trans xw hT19; replace xl3 := Chg.ext xl3 hT19; replace x3 := Chg.ext x3 hT19; replace xl18 := Chg.ext xl18 hT19; replace c35_0 := Ext.cell hT19 c35_0; replace c35_1 := Ext.cell hT19 c35_1; replace c12_0 := Ext.cell hT19 c12_0; replace c12_1 := Ext.cell hT19 c12_1; replace c7_0 := Ext.cell hT19 c7_0; replace c7_1 := Ext.cell hT19 c7_1; replace q3 := Ext.cell hT19 q3; simp only [OA.cv, OA.rv] at d0 d1 hNew; refine Wp.seq ?_; refine Wp.seqRegion (.inl rfl) (by kernel_rfl) fun K' gd hK hg => ?_; clear hg; go_simp; refine hK _ _ ?_; clear hK K' gd; refine Wp.keep [0, 2, 7, 10, 12, 16, 17, 160] fun r50 hkeep => ?_; obtain ⟨e0_50, e2_50, e7_50, e10_50, e12_50, e16_50, e17_50, e160_50, -⟩ := hkeep; simp [go_sem, e0_49, e2_49, e7_49, e10_49, e12_49, e16_49, e17, e18] at e0_50 e2_50 e7_50 e10_50 e12_50 e16_50 e17_50 e160_50; clear e0_49 e2_49 e7_49 e10_49 e12_49 e16_49 e17 e18; refine Wp.condF (by go_simp) ?_; have hlt : ¬ endS D < e := by omega
                      refine Wp.skip ?_; refine thenK_normal ?_; refine Wp.seqRegion (.inl rfl) (by kernel_rfl) fun K' gd hK hg => ?_; clear hg; refine Wops.cut 2 fun K1 hK1 => ?_; simp only [List.take_succ_cons, List.take_zero]; go_simp; refine hK1 _ _ ?_; clear hK1 K1; simp only [List.drop_succ_cons, List.drop_zero]; refine Wops.absS (b := n7) (i := 0) [_, _] (somes [cellVal c7_0, cellVal c7_1] (by simp) (by intro j v hj; match j, hj with | 0, hj => (simp at hj; subst hj; exact c7_0) | 1, hj => (simp at hj; subst hj; exact c7_1))) fun P20 hP20 => ?_; have zP20 := hP20.same; replace f12 := Put.frz hP20 f12; replace f7 := Put.frz hP20 f7; replace R35 := R35.put hP20 (by omega); replace hO1 := hO1.put hP20 (by omega); replace hNew := hNew.put hP20 (by omega); replace xw := Put.to xw hP20 (by omega); replace xl3 := Put.more xl3 hP20 (.inr (by simp)); replace x3 := Put.more x3 hP20 (.inr (by simp)); replace xl18 := Put.more xl18 hP20 (.inr (by simp)); replace c35_0 := Put.cell hP20 c35_0 (by omega); replace c35_1 := Put.cell hP20 c35_1 (by omega); replace c12_0 := Put.cell hP20 c12_0 (by omega); replace c12_1 := Put.cell hP20 c12_1 (by omega); clear c7_0; clear c7_1; replace d0 := Put.cell hP20 d0 (by omega); replace d1 := Put.cell hP20 d1 (by omega); have c7_0 := hP20.new 0 _ rfl; try simp only [Nat.reduceAdd, Nat.zero_add, Nat.add_zero] at c7_0
                      have c7_1 := hP20.new 1 _ rfl; try simp only [Nat.reduceAdd, Nat.zero_add, Nat.add_zero] at c7_1
                      clear hP20; try simp only [Wops_nil, updO_some, updO_none]
                      refine hK _ _ ?_; clear hK K' gd; refine Wp.keep [0, 2, 7, 10, 12, 16] fun r51 hkeep => ?_; obtain ⟨e0_51, e2_51, e7_51, e10_51, e12_51, e16_51, -⟩ := hkeep; simp [go_sem, e0_50, e2_50, e7_50, e10_50, e12_50, e16_50, e17_50, e160_50] at e0_51 e2_51 e7_51 e10_51 e12_51 e16_51; clear e0_50 e2_50 e7_50 e10_50 e12_50 e16_50 e17_50 e160_50; refine Wp.seqRegion (.inl rfl) (by kernel_rfl) fun K' gd hK hg => ?_; clear hg; refine Wops.cut 2 fun K1 hK1 => ?_; simp only [List.take_succ_cons, List.take_zero]; go_simp; refine Wcall (.inl rfl) (End_g _ D _ hNew.orderV hg2) ?_; rintro v w13 ⟨rfl, hE⟩; go_simp; refine hK1 _ _ ?_; clear hK1 K1; simp only [List.drop_succ_cons, List.drop_zero]; have z52 := Below.size hE; replace f12 := Ext.fz hE c12_0 f12; replace f7 := Ext.fz hE c7_0 f7; replace R35 := R35.ext hE; replace hO1 := hO1.ext hE; replace hNew := hNew.ext hE; replace xw := Ext.trans xw hE; replace xl3 := Chg.ext xl3 hE; replace x3 := Chg.ext x3 hE; replace xl18 := Chg.ext xl18 hE; replace c35_0 := Ext.cell hE c35_0; replace c35_1 := Ext.cell hE c35_1; replace c12_0 := Ext.cell hE c12_0; replace c12_1 := Ext.cell hE c12_1; replace d0 := Ext.cell hE d0; replace d1 := Ext.cell hE d1; replace c7_0 := Ext.cell hE c7_0; replace c7_1 := Ext.cell hE c7_1; clear hE; go_simp; refine hK _ _ ?_; clear hK K' gd; refine Wp.keep [0, 2, 7, 10, 12, 16, 19, 20] fun r53 hkeep => ?_; obtain ⟨e0_53, e2_53, e7_53, e10_53, e12_53, e16_53, e19_53, e20_53, -⟩ := hkeep; simp [go_sem, e0_51, e2_51, e7_51, e10_51, e12_51, e16_51] at e0_53 e2_53 e7_53 e10_53 e12_53 e16_53 e19_53 e20_53
                      clear e0_51 e2_51 e7_51 e10_51 e12_51 e16_51; refine Wp.seqRegion (.inl rfl) (by kernel_rfl) fun K' gd hK hg => ?_; have g2 : gd 2 = some 169 := hg 2; clear hg; go_simp; refine hK _ _ ?_; clear hK K' gd g2; refine Wp.keep [0, 2, 7, 10, 12, 16, 173] fun r54 hkeep => ?_; obtain ⟨e0_54, e2_54, e7_54, e10_54, e12_54, e16_54, e173_54, -⟩ := hkeep; simp [go_sem, e0_53, e2_53, e7_53, e10_53, e12_53, e16_53, e19_53, e20_53] at e0_54 e2_54 e7_54 e10_54 e12_54 e16_54 e173_54; clear e0_53 e2_53 e7_53 e10_53 e12_53 e16_53 e19_53 e20_53; refine Wp.condF (by go_simp) ?_; refine Wp.skip ?_; refine blockK_normal ?_; refine thenK_normal ?_; refine Wp.loneRegion (.inl rfl) (by kernel_rfl) fun K' gd hK hg => ?_; clear hg; go_simp; refine hK _ _ ?_; clear hK K' gd; refine Ends.keep [0, 2, 7, 10, 12, 16] fun r55 hkeep => ?_; obtain ⟨e0_55, e2_55, e7_55, e10_55, e12_55, e16_55, -⟩ := hkeep; simp [go_sem, e0_54, e2_54, e7_54, e10_54, e12_54, e16_54, e173_54] at e0_55 e2_55 e7_55 e10_55 e12_55 e16_55; clear e0_54 e2_54 e7_54 e10_54 e12_54 e16_54 e173_54; refine Ends.mk ?_; refine thenK_normal ⟨by omega, ⟨by rw [e0_55, e0_33], by rw [e2_55, e2_33], by rw [e7_55, e7_33], by rw [e10_55, e10_33], by rw [e12_55, e12_33], trivial⟩, rfl, ⟨xl18, f7⟩, ?_⟩; refine ⟨_, _, D, by rw [e16_55, IntWalk.i64_in _ (by omega)]; rfl, c7_0, c7_1, hNew.weak (fun b h _ => h.1), hS2⟩
                  · skip; refine Wp.seq ?_; refine Wp.seqRegion (.inl rfl) (by kernel_rfl) fun K' gd hK hg => ?_; have g4 : gd 4 = some 138 := hg 4; clear hg; go_simp; refine hK _ _ ?_; clear hK K' gd g4; refine Wp.keep [0, 2, 7, 10, 12, 16, 142] fun r56 hkeep => ?_; obtain ⟨e0_56, e2_56, e7_56, e10_56, e12_56, e16_56, e142_56, -⟩ := hkeep; simp [go_sem, e0_34, e2_34, e7_34, e10_34, e12_34, e16] at e0_56 e2_56 e7_56 e10_56 e12_56 e16_56 e142_56; clear e0_34 e2_34 e7_34 e10_34 e12_34 e16; refine Wp.condF (by go_simp) ?_; refine Wp.exit ?_; refine thenK_exit ?_; refine thenK_exit ?_; refine blockK_here ?_; refine thenK_normal ?_; refine Wp.seq ?_; refine Wp.seqRegion (.inl rfl) (by kernel_rfl) fun K' gd hK hg => ?_; clear hg; go_simp; refine hK _ _ ?_; clear hK K' gd; refine Wp.keep [0, 10, 12, 21] fun r57 hkeep => ?_; obtain ⟨e0_57, e10_57, e12_57, e21_57, -⟩ := hkeep; simp [go_sem, e0_56, e2_56, e7_56, e10_56, e12_56, e16_56, e142_56] at e0_57 e10_57 e12_57 e21_57; clear e0_56 e2_56 e7_56 e10_56 e12_56 e16_56 e142_56; refine Wp.block ?_; refine Wp.loop (fun s ρ ds ws => AllEq [0, 10, 12] ρ r57 ∧ ds = [] ∧ (Ext wj ws) ∧ (ρ 21 = .int .i64 (s : Int))) (i) ?_ ?_
                    · refine ⟨AllEq.refl _ _, rfl, Ext.refl _, ?_⟩; rw [e21_57]; rfl
                    · rintro s r58 _ ws hs ⟨hA, rfl, xl21, e21⟩; obtain ⟨e0_58, e10_58, e12_58, -⟩ := hA; rw [e0_57] at e0_58; rw [e10_57] at e10_58; rw [e12_57] at e12_58; have zxl21 := Below.size xl21; replace f12 := Ext.fz xl21 c12_0 f12; replace f7 := Ext.fz xl21 c7_0 f7; replace R35 := R35.ext xl21; replace hO1 := hO1.ext xl21; replace xw := Ext.trans xw xl21; replace xl3 := Chg.ext xl3 xl21; replace x3 := Chg.ext x3 xl21; replace xl18 := Chg.ext xl18 xl21; replace c35_0 := Ext.cell xl21 c35_0; replace c35_1 := Ext.cell xl21 c35_1; replace c12_0 := Ext.cell xl21 c12_0; replace c12_1 := Ext.cell xl21 c12_1; replace c7_0 := Ext.cell xl21 c7_0; replace c7_1 := Ext.cell xl21 c7_1; have hws : IntKind.i64.wrap ((s : Int) + 1) = (s : Int) + 1 := IntWalk.i64_in _ (by omega); refine Wp.seq ?_; refine Wp.seqRegion (.inl rfl) (by kernel_rfl) fun K' gd hK hg => ?_; clear hg; go_simp; refine hK _ _ ?_; clear hK K' gd; refine Wp.keep [0, 10, 12, 21, 178] fun r59 hkeep => ?_; obtain ⟨e0_59, e10_59, e12_59, e21_59, e178_59, -⟩ := hkeep; simp [go_sem, e0_58, e10_58, e12_58, e21] at e0_59 e10_59 e12_59 e21_59 e178_59; clear e0_58 e10_58 e12_58 e21
                      by_cases hs : (s : Int) + 1 < (i : Int)
                      · refine Wp.condT (by go_simp) ?_; have hsw := hself.swap (i := s) (by rw [hJK.n]; omega); have hgs := hsw.good hJK.good; have hb6 := hJK.best _ hsw; have hlt : ¬ endS (Jo.swap s) < e := by omega
                        refine Wp.skip ?_; refine thenK_normal ?_; refine Wp.seq ?_; refine Wp.block ?_; refine Wp.seqRegion (.inl rfl) (by kernel_rfl) fun K' gd hK hg => ?_; clear hg; refine Wops.cut 3 fun K1 hK1 => ?_; simp only [List.take_succ_cons, List.take_zero]; go_simp; refine Wcall (.inl rfl) (Swap_g _ Jo s _ (hB.chg x3 (fun b hb => by simp; exact hb)).orderV hgj (by omega)) ?_; rintro v w14 ⟨q, rfl, hC, hE⟩; simp only [OA.cv, OA.rv]; have x6 := Ext.refl w14; go_simp; refine hK1 _ _ ?_; clear hK1 K1; simp only [List.drop_succ_cons, List.drop_zero]; have z60 := Below.size hE; replace f12 := Ext.fz hE c12_0 f12; replace f7 := Ext.fz hE c7_0 f7; replace R35 := R35.ext hE; replace hO1 := hO1.ext hE; replace xw := Ext.trans xw hE; replace xl3 := Chg.ext xl3 hE; replace x3 := Chg.ext x3 hE; replace xl18 := Chg.ext xl18 hE; replace xl21 := Ext.trans xl21 hE; replace c35_0 := Ext.cell hE c35_0; replace c35_1 := Ext.cell hE c35_1; replace c12_0 := Ext.cell hE c12_0; replace c12_1 := Ext.cell hE c12_1; replace c7_0 := Ext.cell hE c7_0; replace c7_1 := Ext.cell hE c7_1; clear hE; refine Wops.cut 5 fun K1 hK1 => ?_; simp only [List.take_succ_cons, List.take_zero]; go_simp; refine hK1 _ _ ?_; clear hK1 K1; simp only [List.drop_succ_cons, List.drop_zero]; refine Wops.absA fun V22_23 n22 hV22_23 => ?_; obtain ⟨q22, hV22_23, s22, kV22_23, f22, r22⟩ := hV22_23; try simp only [q22] at kV22_23 f22 r22 ⊢
                        replace f12 := Ext.fz hV22_23 c12_0 f12; replace f7 := Ext.fz hV22_23 c7_0 f7; replace R35 := R35.ext hV22_23; replace hO1 := hO1.ext hV22_23; replace xw := Ext.trans xw hV22_23; replace xl3 := Chg.ext xl3 hV22_23; replace x3 := Chg.ext x3 hV22_23; replace xl18 := Chg.ext xl18 hV22_23; replace xl21 := Ext.trans xl21 hV22_23; replace x6 := Ext.trans x6 hV22_23; replace c35_0 := Ext.cell hV22_23 c35_0; replace c35_1 := Ext.cell hV22_23 c35_1; replace c12_0 := Ext.cell hV22_23 c12_0; replace c12_1 := Ext.cell hV22_23 c12_1; replace c7_0 := Ext.cell hV22_23 c7_0; replace c7_1 := Ext.cell hV22_23 c7_1; have c22_0 := kV22_23 0 _ rfl; have c22_1 := kV22_23 1 _ rfl; clear kV22_23 hV22_23; clear r22; go_simp; refine hK _ _ ?_; clear hK K' gd; refine Wp.keep [0, 10, 12, 21, 22, 23] fun r61 hkeep => ?_; obtain ⟨e0_61, e10_61, e12_61, e21_61, e22_61, e23_61, -⟩ := hkeep; simp [go_sem, e0_59, e10_59, e12_59, e21_59, e178_59] at e0_61 e10_61 e12_61 e21_61 e22_61 e23_61; clear e0_59 e10_59 e12_59 e21_59 e178_59; refine Wp.seqRegion (.inl rfl) (by kernel_rfl) fun K' gd hK hg => ?_; clear hg; refine Wops.cut 2 fun K1 hK1 => ?_; simp only [List.take_succ_cons, List.take_zero]; go_simp; refine Wcall (.inl rfl) (End_g _ (Jo.swap s) _ ((hC.orderP hgs (fun b h => h)).ext x6).orderV hgs) ?_; rintro v w15 ⟨rfl, hE⟩; go_simp; refine hK1 _ _ ?_; clear hK1 K1; simp only [List.drop_succ_cons, List.drop_zero]; have z62 := Below.size hE; replace f12 := Ext.fz hE c12_0 f12; replace f7 := Ext.fz hE c7_0 f7
                        replace f22 := Ext.fz hE c22_0 f22; replace R35 := R35.ext hE; replace hO1 := hO1.ext hE; replace xw := Ext.trans xw hE; replace xl3 := Chg.ext xl3 hE; replace x3 := Chg.ext x3 hE; replace xl18 := Chg.ext xl18 hE; replace xl21 := Ext.trans xl21 hE; replace x6 := Ext.trans x6 hE; replace c35_0 := Ext.cell hE c35_0; replace c35_1 := Ext.cell hE c35_1; replace c12_0 := Ext.cell hE c12_0; replace c12_1 := Ext.cell hE c12_1; replace c7_0 := Ext.cell hE c7_0; replace c7_1 := Ext.cell hE c7_1; replace c22_0 := Ext.cell hE c22_0; replace c22_1 := Ext.cell hE c22_1; clear hE; go_simp; refine hK _ _ ?_; clear hK K' gd; refine Wp.keep [0, 10, 12, 21, 23, 24, 25] fun r63 hkeep => ?_; obtain ⟨e0_63, e10_63, e12_63, e21_63, e23_63, e24_63, e25_63, -⟩ := hkeep; simp [go_sem, e0_61, e10_61, e12_61, e21_61, e22_61, e23_61] at e0_63 e10_63 e12_63 e21_63 e23_63 e24_63 e25_63; clear e0_61 e10_61 e12_61 e21_61 e22_61 e23_61; refine Wp.seqRegion (.inl rfl) (by kernel_rfl) fun K' gd hK hg => ?_; have g2 : gd 2 = some 194 := hg 2; have g6 : gd 6 = some 198 := hg 6; clear hg; go_simp; refine hK _ _ ?_; clear hK K' gd g2 g6; refine Wp.keep [0, 10, 12, 21, 202] fun r64 hkeep => ?_; obtain ⟨e0_64, e10_64, e12_64, e21_64, e202_64, -⟩ := hkeep; simp [go_sem, e0_63, e10_63, e12_63, e21_63, e23_63, e24_63, e25_63] at e0_64 e10_64 e12_64 e21_64 e202_64; clear e0_63 e10_63 e12_63 e21_63 e23_63 e24_63 e25_63; refine Wp.condF (by go_simp) ?_; refine Wp.skip ?_; refine blockK_normal ?_; refine thenK_normal ?_
                        refine Wp.loneRegion (.inl rfl) (by kernel_rfl) fun K' gd hK hg => ?_; clear hg; go_simp; refine hK _ _ ?_; clear hK K' gd; refine Ends.keep [0, 10, 12, 21] fun r65 hkeep => ?_; obtain ⟨e0_65, e10_65, e12_65, e21_65, -⟩ := hkeep; simp [go_sem, e0_64, e10_64, e12_64, e21_64, e202_64] at e0_65 e10_65 e12_65 e21_65; clear e0_64 e10_64 e12_64 e21_64 e202_64; refine Ends.mk ?_; refine thenK_normal ⟨by omega, ⟨by rw [e0_65, e0_57], by rw [e10_65, e10_57], by rw [e12_65, e12_57], trivial⟩, rfl, xl21, ?_⟩; rw [e21_65]; rfl
                      · refine Wp.condF (by go_simp) ?_; refine Wp.exit ?_; refine thenK_exit ?_; refine thenK_exit ?_; refine blockK_here ?_; refine thenK_normal ?_; refine Wp.seqRegion (.inl rfl) (by kernel_rfl) fun K' gd hK hg => ?_; clear hg; refine Wops.cut 1 fun K1 hK1 => ?_; simp only [List.take_succ_cons, List.take_zero]; go_simp; refine Wcall (.inl rfl) (sanity_c _) ?_; rintro v w16 ⟨rfl, hE⟩; go_simp; refine hK1 _ _ ?_; clear hK1 K1; simp only [List.drop_succ_cons, List.drop_zero]; have z66 := Below.size hE; replace f12 := Ext.fz hE c12_0 f12; replace f7 := Ext.fz hE c7_0 f7; replace R35 := R35.ext hE; replace hO1 := hO1.ext hE; replace xw := Ext.trans xw hE; replace xl3 := Chg.ext xl3 hE; replace x3 := Chg.ext x3 hE; replace xl18 := Chg.ext xl18 hE; replace xl21 := Ext.trans xl21 hE; replace c35_0 := Ext.cell hE c35_0; replace c35_1 := Ext.cell hE c35_1; replace c12_0 := Ext.cell hE c12_0; replace c12_1 := Ext.cell hE c12_1; replace c7_0 := Ext.cell hE c7_0; replace c7_1 := Ext.cell hE c7_1; clear hE; go_simp; refine hK _ _ ?_; clear hK K' gd; refine Wp.keep [6] fun r67 hkeep => ?_; obtain ⟨e6_67, -⟩ := hkeep; simp [go_sem, e0_59, e10_59, e12_59, e21_59, e178_59] at e6_67; clear e0_59 e10_59 e12_59 e21_59 e178_59; refine Wp.ret ?_; refine endK_tmp Try.results9 (by decide) ?_; rw [e6_67]; exact ⟨rfl, xw⟩
              · skip; have hn1b : ¬ 1 < i := by omega
                have hw1 : IntKind.i64.wrap 1 = 1 := by decide
                refine Wp.skip ?_; refine thenK_normal ?_; refine Wp.seq ?_; refine Wp.seqRegion (.inl rfl) (by kernel_rfl) fun K' gd hK hg => ?_; clear hg; go_simp; refine hK _ _ ?_; clear hK K' gd; refine Wp.keep [0, 2, 7, 10, 12, 16] fun r68 hkeep => ?_; obtain ⟨e0_68, e2_68, e7_68, e10_68, e12_68, e16_68, -⟩ := hkeep; simp [go_sem, e0_32, e2_32, e7_32, e10_32, e12_32, e133_32] at e0_68 e2_68 e7_68 e10_68 e12_68 e16_68; clear e0_32 e2_32 e7_32 e10_32 e12_32 e133_32; refine Wp.block ?_; refine Wp.loop (fun j ρ ds wj => AllEq [0, 2, 7, 10, 12] ρ r68 ∧ ds = [] ∧ (Ext w11 wj) ∧ (ρ 16 = .int .i64 0)) (0) ?_ ?_
                · refine ⟨AllEq.refl _ _, rfl, Ext.refl _, ?_⟩; exact e16_68
                · rintro j r69 _ wj hj ⟨hA, rfl, xl24, e16⟩; obtain ⟨e0_69, e2_69, e7_69, e10_69, e12_69, -⟩ := hA; rw [e0_68] at e0_69; rw [e2_68] at e2_69; rw [e7_68] at e7_69; rw [e10_68] at e10_69; rw [e12_68] at e12_69; have zxl24 := Below.size xl24; replace f7 := Ext.fz xl24 c7_0 f7; replace f12 := Ext.fz xl24 c12_0 f12; replace R35 := R35.ext xl24; replace xw := Ext.trans xw xl24; replace xl3 := Chg.ext xl3 xl24; replace x1 := Ext.trans x1 xl24; replace x2 := Ext.trans x2 xl24; replace xl12 := Chg.ext xl12 xl24; replace x3 := Chg.ext x3 xl24; replace c35_0 := Ext.cell xl24 c35_0; replace c35_1 := Ext.cell xl24 c35_1; replace c7_0 := Ext.cell xl24 c7_0; replace c7_1 := Ext.cell xl24 c7_1; replace c12_0 := Ext.cell xl24 c12_0; replace c12_1 := Ext.cell xl24 c12_1
                  by_cases hz : 0 < nu
                  · skip; refine Wp.seq ?_; refine Wp.seqRegion (.inl rfl) (by kernel_rfl) fun K' gd hK hg => ?_; have g4 : gd 4 = some 138 := hg 4; clear hg; go_simp; refine hK _ _ ?_; clear hK K' gd g4; refine Wp.keep [0, 2, 7, 10, 12, 16, 142] fun r70 hkeep => ?_; obtain ⟨e0_70, e2_70, e7_70, e10_70, e12_70, e16_70, e142_70, -⟩ := hkeep; simp [go_sem, e0_69, e2_69, e7_69, e10_69, e12_69, e16] at e0_70 e2_70 e7_70 e10_70 e12_70 e16_70 e142_70; clear e0_69 e2_69 e7_69 e10_69 e12_69 e16; refine Wp.condF (by go_simp) ?_; refine Wp.exit ?_; refine thenK_exit ?_; refine thenK_exit ?_; refine blockK_here ?_; refine thenK_normal ?_; refine Wp.seq ?_; refine Wp.seqRegion (.inl rfl) (by kernel_rfl) fun K' gd hK hg => ?_; clear hg; go_simp; refine hK _ _ ?_; clear hK K' gd; refine Wp.keep [0, 10, 12, 21] fun r71 hkeep => ?_; obtain ⟨e0_71, e10_71, e12_71, e21_71, -⟩ := hkeep; simp [go_sem, e0_70, e2_70, e7_70, e10_70, e12_70, e16_70, e142_70] at e0_71 e10_71 e12_71 e21_71; clear e0_70 e2_70 e7_70 e10_70 e12_70 e16_70 e142_70; refine Wp.block ?_; refine Wp.loop (fun s ρ ds ws => AllEq [0, 10, 12] ρ r71 ∧ ds = [] ∧ (Ext wj ws) ∧ (ρ 21 = .int .i64 0)) (0) ?_ ?_
                    · refine ⟨AllEq.refl _ _, rfl, Ext.refl _, ?_⟩; exact e21_71
                    · rintro s r72 _ ws hs ⟨hA, rfl, xl25, e21⟩; obtain ⟨e0_72, e10_72, e12_72, -⟩ := hA; rw [e0_71] at e0_72; rw [e10_71] at e10_72; rw [e12_71] at e12_72; have zxl25 := Below.size xl25; replace f7 := Ext.fz xl25 c7_0 f7; replace f12 := Ext.fz xl25 c12_0 f12; replace R35 := R35.ext xl25; replace xw := Ext.trans xw xl25; replace xl3 := Chg.ext xl3 xl25; replace x1 := Ext.trans x1 xl25; replace x2 := Ext.trans x2 xl25; replace xl12 := Chg.ext xl12 xl25; replace x3 := Chg.ext x3 xl25; replace xl24 := Ext.trans xl24 xl25; replace c35_0 := Ext.cell xl25 c35_0; replace c35_1 := Ext.cell xl25 c35_1; replace c7_0 := Ext.cell xl25 c7_0; replace c7_1 := Ext.cell xl25 c7_1; replace c12_0 := Ext.cell xl25 c12_0; replace c12_1 := Ext.cell xl25 c12_1; refine Wp.seq ?_; refine Wp.seqRegion (.inl rfl) (by kernel_rfl) fun K' gd hK hg => ?_; clear hg; go_simp; refine hK _ _ ?_; clear hK K' gd; refine Wp.keep [0, 10, 12, 21, 178] fun r73 hkeep => ?_; obtain ⟨e0_73, e10_73, e12_73, e21_73, e178_73, -⟩ := hkeep; simp [go_sem, e0_72, e10_72, e12_72, e21] at e0_73 e10_73 e12_73 e21_73 e178_73; clear e0_72 e10_72 e12_72 e21; refine Wp.condF (by go_simp) ?_; refine Wp.exit ?_; refine thenK_exit ?_; refine thenK_exit ?_; refine blockK_here ?_; refine thenK_normal ?_; refine Wp.seqRegion (.inl rfl) (by kernel_rfl) fun K' gd hK hg => ?_; clear hg; refine Wops.cut 1 fun K1 hK1 => ?_; simp only [List.take_succ_cons, List.take_zero]; go_simp; refine Wcall (.inl rfl) (sanity_c _) ?_; rintro v w16 ⟨rfl, hE⟩
                      go_simp; refine hK1 _ _ ?_; clear hK1 K1; simp only [List.drop_succ_cons, List.drop_zero]; have z74 := Below.size hE; replace f7 := Ext.fz hE c7_0 f7; replace f12 := Ext.fz hE c12_0 f12; replace R35 := R35.ext hE; replace xw := Ext.trans xw hE; replace xl3 := Chg.ext xl3 hE; replace x1 := Ext.trans x1 hE; replace x2 := Ext.trans x2 hE; replace xl12 := Chg.ext xl12 hE; replace x3 := Chg.ext x3 hE; replace xl24 := Ext.trans xl24 hE; replace xl25 := Ext.trans xl25 hE; replace c35_0 := Ext.cell hE c35_0; replace c35_1 := Ext.cell hE c35_1; replace c7_0 := Ext.cell hE c7_0; replace c7_1 := Ext.cell hE c7_1; replace c12_0 := Ext.cell hE c12_0; replace c12_1 := Ext.cell hE c12_1; clear hE; go_simp; refine hK _ _ ?_; clear hK K' gd; refine Wp.keep [6] fun r75 hkeep => ?_; obtain ⟨e6_75, -⟩ := hkeep; simp [go_sem, e0_73, e10_73, e12_73, e21_73, e178_73] at e6_75; clear e0_73 e10_73 e12_73 e21_73 e178_73; refine Wp.ret ?_; refine endK_tmp Try.results9 (by decide) ?_; rw [e6_75]; exact ⟨rfl, xw⟩
                  · skip; refine Wp.seq ?_; refine Wp.seqRegion (.inl rfl) (by kernel_rfl) fun K' gd hK hg => ?_; have g4 : gd 4 = some 138 := hg 4; clear hg; go_simp; refine hK _ _ ?_; clear hK K' gd g4; refine Wp.keep [0, 2, 7, 10, 12, 16, 142] fun r76 hkeep => ?_; obtain ⟨e0_76, e2_76, e7_76, e10_76, e12_76, e16_76, e142_76, -⟩ := hkeep; simp [go_sem, e0_69, e2_69, e7_69, e10_69, e12_69, e16] at e0_76 e2_76 e7_76 e10_76 e12_76 e16_76 e142_76; clear e0_69 e2_69 e7_69 e10_69 e12_69 e16; refine Wp.condF (by go_simp) ?_; refine Wp.exit ?_; refine thenK_exit ?_; refine thenK_exit ?_; refine blockK_here ?_; refine thenK_normal ?_; refine Wp.seq ?_; refine Wp.seqRegion (.inl rfl) (by kernel_rfl) fun K' gd hK hg => ?_; clear hg; go_simp; refine hK _ _ ?_; clear hK K' gd; refine Wp.keep [0, 10, 12, 21] fun r77 hkeep => ?_; obtain ⟨e0_77, e10_77, e12_77, e21_77, -⟩ := hkeep; simp [go_sem, e0_76, e2_76, e7_76, e10_76, e12_76, e16_76, e142_76] at e0_77 e10_77 e12_77 e21_77; clear e0_76 e2_76 e7_76 e10_76 e12_76 e16_76 e142_76; refine Wp.block ?_; refine Wp.loop (fun s ρ ds ws => AllEq [0, 10, 12] ρ r77 ∧ ds = [] ∧ (Ext wj ws) ∧ (ρ 21 = .int .i64 0)) (0) ?_ ?_
                    · refine ⟨AllEq.refl _ _, rfl, Ext.refl _, ?_⟩; exact e21_77
                    · rintro s r78 _ ws hs ⟨hA, rfl, xl26, e21⟩; obtain ⟨e0_78, e10_78, e12_78, -⟩ := hA; rw [e0_77] at e0_78; rw [e10_77] at e10_78; rw [e12_77] at e12_78; have zxl26 := Below.size xl26; replace f7 := Ext.fz xl26 c7_0 f7; replace f12 := Ext.fz xl26 c12_0 f12; replace R35 := R35.ext xl26; replace xw := Ext.trans xw xl26; replace xl3 := Chg.ext xl3 xl26; replace x1 := Ext.trans x1 xl26; replace x2 := Ext.trans x2 xl26; replace xl12 := Chg.ext xl12 xl26; replace x3 := Chg.ext x3 xl26; replace xl24 := Ext.trans xl24 xl26; replace c35_0 := Ext.cell xl26 c35_0; replace c35_1 := Ext.cell xl26 c35_1; replace c7_0 := Ext.cell xl26 c7_0; replace c7_1 := Ext.cell xl26 c7_1; replace c12_0 := Ext.cell xl26 c12_0; replace c12_1 := Ext.cell xl26 c12_1; refine Wp.seq ?_; refine Wp.seqRegion (.inl rfl) (by kernel_rfl) fun K' gd hK hg => ?_; clear hg; go_simp; refine hK _ _ ?_; clear hK K' gd; refine Wp.keep [0, 10, 12, 21, 178] fun r79 hkeep => ?_; obtain ⟨e0_79, e10_79, e12_79, e21_79, e178_79, -⟩ := hkeep; simp [go_sem, e0_78, e10_78, e12_78, e21] at e0_79 e10_79 e12_79 e21_79 e178_79; clear e0_78 e10_78 e12_78 e21; refine Wp.condF (by go_simp) ?_; refine Wp.exit ?_; refine thenK_exit ?_; refine thenK_exit ?_; refine blockK_here ?_; refine thenK_normal ?_; refine Wp.seqRegion (.inl rfl) (by kernel_rfl) fun K' gd hK hg => ?_; clear hg; refine Wops.cut 1 fun K1 hK1 => ?_; simp only [List.take_succ_cons, List.take_zero]; go_simp; refine Wcall (.inl rfl) (sanity_c _) ?_; rintro v w16 ⟨rfl, hE⟩
                      go_simp; refine hK1 _ _ ?_; clear hK1 K1; simp only [List.drop_succ_cons, List.drop_zero]; have z80 := Below.size hE; replace f7 := Ext.fz hE c7_0 f7; replace f12 := Ext.fz hE c12_0 f12; replace R35 := R35.ext hE; replace xw := Ext.trans xw hE; replace xl3 := Chg.ext xl3 hE; replace x1 := Ext.trans x1 hE; replace x2 := Ext.trans x2 hE; replace xl12 := Chg.ext xl12 hE; replace x3 := Chg.ext x3 hE; replace xl24 := Ext.trans xl24 hE; replace xl26 := Ext.trans xl26 hE; replace c35_0 := Ext.cell hE c35_0; replace c35_1 := Ext.cell hE c35_1; replace c7_0 := Ext.cell hE c7_0; replace c7_1 := Ext.cell hE c7_1; replace c12_0 := Ext.cell hE c12_0; replace c12_1 := Ext.cell hE c12_1; clear hE; go_simp; refine hK _ _ ?_; clear hK K' gd; refine Wp.keep [6] fun r81 hkeep => ?_; obtain ⟨e6_81, -⟩ := hkeep; simp [go_sem, e0_79, e10_79, e12_79, e21_79, e178_79] at e6_81; clear e0_79 e10_79 e12_79 e21_79 e178_79; refine Wp.ret ?_; refine endK_tmp Try.results9 (by decide) ?_; rw [e6_81]; exact ⟨rfl, xw⟩
end Go.Proofs.Ytnfagcccgmakdaa
namespace Go.Proofs.Ytnfagcccgmakdaa
open Go.ChangeShapes Go.WideShapes Go.RowKit Go.Wk Go.Proofs
theorem own : ownKnob Try.prog.godebug = none := by kernel_rfl
theorem laidOut : laidOutB Try.prog = true := by kernel_rfl
set_option maxRecDepth 100000 in
theorem orderJohnson_lifted (os : Os) (started : os.Started) (H : Type) (enc : TypeId × Value → H) :
    ReturnsInHanded {} Try.checked os 9 .any (Rows.orderJohnsonSpec.pre6 enc Try.prog Try.f9 Rows.orderJohnsonRow.domain false) (Rows.orderJohnsonSpec.post enc Try.prog Try.f9 false true false false) := by
  refine returnsInHanded_of_change_sized (C := Try.checked) own started (by kernel_rfl) Try.func9
    (ChangeSpec.witness6 (enc := enc) (C := Try.checked) false ⟨#[], #[.slice none 0 0, .int .u8 0, .slice none 0 0], []⟩ 8 (by kernel_rfl) (by kernel_rfl) (by kernel_rfl) (by kernel_rfl)) ?_
  intro W base args ds gs before hval0 hW0 _ hsz0 _; have hval : ∀ (j : Nat) t v, Try.f9.params[j]? = some t → args[j]? = some v → Value.okWide Try.prog W .any base t v := hval0; have hW : DataW.Whole enc Try.prog Try.f9.params.toList [] false W args.toList ds gs before := hW0; have hsz : (DataW.weightsEach Try.prog (Try.f9.params.toList ++ []) (ds ++ gs)).all (· ≤ reachBytes) = true := hsz0; clear hval0 hsz0; obtain ⟨p, q, hA, hV, -, -, -⟩ := hW; obtain ⟨rfl, -⟩ := trodVars_none hV; rw [List.append_nil, List.append_nil] at hsz; rw [Try.params9] at hA hsz hval; obtain ⟨hlen, hR⟩ := Rd.of_args hA hsz; obtain ⟨v0, v1, v2, d0, d1, d2, p0, p1, p2, rfl, rfl, -, -, -, -⟩ := trodAll_three hA; have r0 := hR 0 _ v0 rfl rfl; have r1 := hR 1 _ v1 rfl rfl; have r2 := hR 2 _ v2 rfl rfl; obtain ⟨A0, n0, c0, rfl⟩ := okWide_slice Try.underlying69 (hval 0 _ v0 rfl rfl); obtain ⟨m1, rfl⟩ := okWide_int Try.underlying5 (hval 1 _ v1 rfl rfl); obtain ⟨A2, n2, c2, rfl⟩ := okWide_slice Try.underlying70 (hval 2 _ v2 rfl rfl); obtain ⟨x0, h0, f0, g0⟩ := openP (v := .slice A0 n0 c0) r0; obtain ⟨x1, hm1, f1⟩ := r1.int Try.underlying5
  have e1 : x1 = m1 := by
    have e : [Value.int .u8 m1] = [Value.int .u8 x1] := hm1
    injection e with e _
    injection e with _ e
    exact e.symm
  subst e1; obtain ⟨x2, h2, f2, g2⟩ := openU (v := .slice A2 n2 c2) r2; refine (johnLaw_c _ _ x0 x1 x2 W h0 f0 g0 (Go.bounds_u8 f1) h2 f2 g2).calls.mono fun e W' ⟨v, he, hv, hE⟩ => ?_; subst he; subst hv; exact ⟨_, rfl, law_post hW0 laidOut rfl (by rw [Try.params9]; intro t ht; simp at ht; rcases ht with rfl | rfl | rfl <;> exact ⟨by kernel_rfl, of_decide_eq_true (by kernel_rfl)⟩) rfl Try.underlying4 rfl rfl rfl hE⟩
theorem orderJohnson_holds : Rows.OrderJohnsonSaid :=
  OpenClaim.holds_of_wide 9 Try.f9 rfl rfl rfl rfl rfl rfl rfl ⟨rfl, rfl, rfl, rfl, rfl⟩ rfl rfl rfl rfl rfl (by kernel_rfl) Try.func9 (by kernel_rfl)
    (of_decide_eq_true (by kernel_rfl)) (by unfold Func.isWrapper; first | (rw [if_pos (by decide +kernel)]; kernel_rfl) | (rw [if_neg (by decide +kernel)]; exact ⟨rfl, rfl⟩))
    (fun os started H enc _ => orderJohnson_lifted os started H enc)
#print axioms orderJohnson_holds
end Go.Proofs.Ytnfagcccgmakdaa
