/- The specification's Check; few. few; the specification's Hold. The specification's Hold. The specification's latest. The specification's end, Times, End. The specification's End, Ample, Waits, Idle. Printed by wip/mk82.py. The specification's slack, Critical, Latest. Printed by wip/mk83.py. The specification's copied. The specification's changed orders. The specification's piece, More, Save, Need. The specification's Save, Need. The specification's comparison of orders. OrderCopies. -/
import Derived.Test.YtnfagcccgmakdaaGreatP1
import Derived.Test.YtnfagcccgmakdaaGreatP7
import Derived.Test.YtnfagcccgmakdaaGreatP6
set_option linter.all false
namespace Go.Wk
open Go.RowKit
set_option linter.unusedVariables false
structure Chg (L : List Nat) (w V : World) : Prop where
  os : V.os = w.os
  tape : V.tape = w.tape
  output : V.output = w.output
  size : w.heap.size ≤ V.heap.size
  block : ∀ k, k < w.heap.size → k ∉ L → V.heap[k]? = w.heap[k]?
theorem Chg.refl (L : List Nat) (w : World) : Chg L w w := ⟨rfl, rfl, rfl, Nat.le_refl _, fun _ _ _ => rfl⟩
theorem Chg.ext {L : List Nat} {w V V' : World} (h : Chg L w V) (hE : Ext V V') : Chg L w V' :=
  ⟨hE.os.trans h.os, hE.tape.trans h.tape, hE.output.trans h.output, Nat.le_trans h.size hE.size, fun k hk hn => (hE.block k (Nat.lt_of_lt_of_le hk h.size)).trans (h.block k hk hn)⟩
theorem Chg.drew {L : List Nat} {w V : World} (h : Chg L w V) : Chg L w V.drew := h.ext (Ext.refl V).drew
theorem Chg.alloc {L : List Nat} {w V : World} (h : Chg L w V) (o : Obj) : Chg L w (V.alloc o) := h.ext ((Ext.refl V).alloc o)
theorem Chg.setC {L : List Nat} {w V : World} (h : Chg L w V) {b k : Nat} {v : Value} (hb : b ∈ L) : Chg L w (V.setCell ⟨b, k, Option.none⟩ v) :=
  ⟨h.os, h.tape, h.output, by simpa using h.size, fun i hi hn => (Below.heap_setCell _ _ _ _ (fun e => hn (by rw [e]; exact hb))).trans (h.block i hi hn)⟩
theorem Chg.lt {w : World} {a : Addr} {v : Value} (h : w.cell? a = some v) : a.block < w.heap.size := cell_lt h
theorem Chg.cell {L : List Nat} {w V : World} (h : Chg L w V) {b i : Nat} {v : Value} (c : w.cell? ⟨b, i, none⟩ = some v) (hb : b ∉ L) : V.cell? ⟨b, i, none⟩ = some v :=
  (World.cell?_of_block (a := ⟨b, i, none⟩) (h.block b (cell_lt c) hb)).trans c
theorem Chg.fz {L : List Nat} {w V : World} (h : Chg L w V) {b i : Nat} {v : Value} (c : w.cell? ⟨b, i, none⟩ = some v) (f : ∀ k, w.frozen? ⟨b, k, none⟩ = false) (hb : b ∉ L) : ∀ k, V.frozen? ⟨b, k, none⟩ = false := fun k =>
  (World.frozen?_of_block (a := ⟨b, k, none⟩) (h.block b (cell_lt c) hb)).trans (f k)
theorem Chg.to {L : List Nat} {X w V : World} (x : Ext X w) (h : Chg L w V) (hL : ∀ b ∈ L, X.heap.size ≤ b) : Ext X V :=
  ⟨h.os.trans x.os, h.tape.trans x.tape, h.output.trans x.output, Nat.le_trans x.size h.size, fun k hk => (h.block k (Nat.lt_of_lt_of_le hk x.size) (fun hm => by have := hL k hm; omega)).trans (x.block k hk)⟩
theorem Chg.more {L L' : List Nat} {X w V : World} (x : Chg L' X w) (h : Chg L w V) (hL : ∀ b ∈ L, X.heap.size ≤ b ∨ b ∈ L') : Chg L' X V :=
  ⟨h.os.trans x.os, h.tape.trans x.tape, h.output.trans x.output, Nat.le_trans x.size h.size, fun k hk hn => (h.block k (Nat.lt_of_lt_of_le hk x.size) (fun hm => by rcases hL k hm with h1 | h1; omega; exact hn h1)).trans (x.block k hk hn)⟩
theorem Ext.fz {w V : World} (h : Ext w V) {b i : Nat} {v : Value} (c : w.cell? ⟨b, i, none⟩ = some v) (f : ∀ k, w.frozen? ⟨b, k, none⟩ = false) : ∀ k, V.frozen? ⟨b, k, none⟩ = false := fun k =>
  (World.frozen?_of_block (a := ⟨b, k, none⟩) (Below.block h b (cell_lt c))).trans (f k)
def nthV : List Value → Nat → Option Value
  | [], _ => none
  | v :: _, 0 => some v
  | _ :: l, i + 1 => nthV l i
theorem nthV_eq : ∀ (l : List Value) (i : Nat), nthV l i = l[i]?
  | [], i => by simp [nthV]
  | v :: l, 0 => rfl
  | v :: l, i + 1 => by rw [nthV, nthV_eq l i]; simp
theorem _root_.Go.World.ownsRow.ext {w w' : World} {base e size n : Nat} {v : Value} {xs : List Value} (h : w.ownsRow base e size v n xs) (hE : Ext w w') : w'.ownsRow base e size v n xs := by
  refine ⟨h.1, ?_⟩
  rcases h.2 with hn | ⟨g, cap, cur, rfl, hb, hg, rest⟩
  · exact .inl hn
  · exact .inr ⟨g, cap, cur, rfl, hb, (Below.block hE g (Array.getElem?_eq_some_iff.1 hg).1).trans hg, rest⟩
def RowC (w : World) (b : Nat) (e : TypeId) (cs : List Value) : Prop := w.heap[b]? = some (.cells cs.toArray e (0, 0))
theorem RowC.lt {w : World} {b : Nat} {e : TypeId} {cs : List Value} (h : RowC w b e cs) : b < w.heap.size := (Array.getElem?_eq_some_iff.1 h).1
theorem RowC.ext {w w' : World} {b : Nat} {e : TypeId} {cs : List Value} (h : RowC w b e cs) (hE : Ext w w') : RowC w' b e cs := (Below.block hE b h.lt).trans h
theorem RowC.cell {w : World} {b : Nat} {e : TypeId} {cs : List Value} (h : RowC w b e cs) (j : Nat) : w.cell? ⟨b, j, none⟩ = cs[j]? := by
  have := cell_of_row w b j cs.toArray e (0, 0) h
  simpa using this
theorem RowC.frozen {w : World} {b : Nat} {e : TypeId} {cs : List Value} (h : RowC w b e cs) (j : Nat) : w.frozen? ⟨b, j, none⟩ = false := by
  unfold World.frozen?; rw [h]; simp
theorem RowC.own {w : World} {b : Nat} {e : TypeId} {cs : List Value} (h : RowC w b e cs) {base size k c : Nat} (hb : base ≤ b) (hk : k ≤ c) (hc : c ≤ maxLen) (hl : cs.length = c * size) :
    w.ownsRow base e size (.slice (some ⟨b, 0, none⟩) k c) k (cs.take (k * size)) :=
  ⟨by have := Nat.mul_le_mul_right size hk; rw [List.length_take]; omega, .inr ⟨b, c, cs.toArray, rfl, hb, h, hk, hc, by simpa using hl, by simp⟩⟩
def setL (w : World) (b i : Nat) : List Value → World
  | [] => w
  | v :: vs => setL (w.setCell ⟨b, i, none⟩ v) b (i + 1) vs
theorem setL_size (b : Nat) : ∀ (vs : List Value) (w : World) (i : Nat), (setL w b i vs).heap.size = w.heap.size
  | [], _, _ => rfl
  | v :: vs, w, i => by rw [setL, setL_size b vs]; simp
theorem setL_heap (b : Nat) : ∀ (vs : List Value) (w : World) (i k : Nat), k ≠ b → (setL w b i vs).heap[k]? = w.heap[k]?
  | [], _, _, _, _ => rfl
  | v :: vs, w, i, k, h => by rw [setL, setL_heap b vs _ _ k h]; exact Below.heap_setCell _ _ _ _ h
theorem setL_frozen (b : Nat) : ∀ (vs : List Value) (w : World) (i : Nat) (a : Addr), (setL w b i vs).frozen? a = w.frozen? a
  | [], _, _, _ => rfl
  | v :: vs, w, i, a => by rw [setL, setL_frozen b vs]; exact World.frozen?_setCell ..
theorem setL_off (b : Nat) : ∀ (vs : List Value) (w : World) (i j : Nat), j < i ∨ i + vs.length ≤ j → (setL w b i vs).cell? ⟨b, j, none⟩ = w.cell? ⟨b, j, none⟩
  | [], _, _, _, _ => rfl
  | v :: vs, w, i, j, h => by
    rw [setL, setL_off b vs _ _ _ (by simp at h; omega)]; exact World.cell?_setCell_other _ _ _ _ (by intro e; injection e with _ e; simp at h; omega)
theorem setL_on (b : Nat) : ∀ (vs : List Value) (w : World) (i : Nat), (∀ j, j < vs.length → (w.cell? ⟨b, i + j, none⟩).isSome = true) → ∀ j v, vs[j]? = some v → (setL w b i vs).cell? ⟨b, i + j, none⟩ = some v
  | [], _, _, _, j, v, h => by simp at h
  | u :: vs, w, i, hs, j, v, h => by
    have h0 := hs 0 (by simp); rw [setL]
    cases j with
    | zero =>
      simp at h; subst h; rw [Nat.add_zero, setL_off b vs _ _ _ (by omega)]; exact World.cell?_setCell_same' _ _ _ (by simpa using h0)
    | succ j =>
      have := setL_on b vs (w.setCell ⟨b, i, none⟩ u) (i + 1) (fun k hk => ?_) j v (by simpa using h)
      · rw [show i + (j + 1) = i + 1 + j by omega]; exact this
      · rw [World.cell?_setCell_other _ _ _ _ (by intro e; injection e with _ e; omega)]; have := hs (k + 1) (by simp; omega); rw [show i + 1 + k = i + (k + 1) by omega]; exact this
theorem setL_row (b : Nat) : ∀ (vs : List Value) (w : World) (i : Nat) (cs : Array Value) (t : TypeId), w.heap[b]? = some (.cells cs t (0, 0)) → ∃ cs', (setL w b i vs).heap[b]? = some (.cells cs' t (0, 0)) ∧ cs'.size = cs.size
  | [], _, _, cs, _, h => ⟨cs, h, rfl⟩
  | v :: vs, w, i, cs, t, h => by
    have h1 : ∃ cs1, (w.setCell ⟨b, i, none⟩ v).heap[b]? = some (.cells cs1 t (0, 0)) ∧ cs1.size = cs.size := ⟨_, heap_setCell_same w b i cs t v h, by simp⟩; obtain ⟨cs1, h1, e1⟩ := h1; obtain ⟨cs', h2, e2⟩ := setL_row b vs _ (i + 1) cs1 t h1; exact ⟨cs', h2, e2.trans e1⟩
structure Put (w V : World) (b i : Nat) (vs : List Value) : Prop where
  chg : Chg [b] w V
  same : V.heap.size ≤ w.heap.size ∧ w.heap.size ≤ V.heap.size
  new : ∀ j v, nthV vs j = some v → V.cell? ⟨b, i + j, none⟩ = some v
  old : ∀ j, j < i ∨ i + vs.length ≤ j → V.cell? ⟨b, j, none⟩ = w.cell? ⟨b, j, none⟩
  fz : ∀ a, V.frozen? a = w.frozen? a
  row : ∀ cs t, w.heap[b]? = some (.cells cs t (0, 0)) → ∃ cs', V.heap[b]? = some (.cells cs' t (0, 0)) ∧ cs'.size = cs.size
  eq : V = setL w b i vs
theorem setL_put {w : World} {b i : Nat} {vs : List Value} (hs : ∀ j, j < vs.length → (w.cell? ⟨b, i + j, none⟩).isSome = true) : Put w (setL w b i vs) b i vs := by
  have hos : ∀ (vs : List Value) (w : World) (i : Nat), (setL w b i vs).os = w.os ∧ (setL w b i vs).tape = w.tape ∧ (setL w b i vs).output = w.output := by
    intro vs
    induction vs with
    | nil => exact fun _ _ => ⟨rfl, rfl, rfl⟩
    | cons v vs ih => exact fun w i => ih _ _
  exact ⟨⟨(hos vs w i).1, (hos vs w i).2.1, (hos vs w i).2.2, by rw [setL_size]; exact Nat.le_refl _, fun k _ hk => setL_heap b vs w i k (by simpa using hk)⟩, ⟨by rw [setL_size]; exact Nat.le_refl _, by rw [setL_size]; exact Nat.le_refl _⟩, fun j v h => setL_on b vs w i hs j v (by rw [← nthV_eq]; exact h), fun j hj => setL_off b vs w i j hj, fun a => setL_frozen b vs w i a, fun cs t h => setL_row b vs w i cs t h, rfl⟩
theorem Put.cell {w V : World} {b i : Nat} {vs : List Value} (h : Put w V b i vs) {k j : Nat} {v : Value} (c : w.cell? ⟨k, j, none⟩ = some v) (hk : k ≠ b) : V.cell? ⟨k, j, none⟩ = some v := h.chg.cell c (by simpa using hk)
theorem Put.cellOff {w V : World} {b i : Nat} {vs : List Value} (h : Put w V b i vs) {j : Nat} {v : Value} (c : w.cell? ⟨b, j, none⟩ = some v) (hk : j < i ∨ i + vs.length ≤ j) : V.cell? ⟨b, j, none⟩ = some v := (h.old j hk).trans c
theorem Put.frz {w V : World} {b i : Nat} {vs : List Value} (h : Put w V b i vs) {k : Nat} (f : ∀ j, w.frozen? ⟨k, j, none⟩ = false) : ∀ j, V.frozen? ⟨k, j, none⟩ = false := fun j => (h.fz _).trans (f j)
theorem Put.to {X w V : World} {b i : Nat} {vs : List Value} (x : Ext X w) (h : Put w V b i vs) (hb : X.heap.size ≤ b) : Ext X V := Chg.to x h.chg (by simpa using hb)
theorem Put.more {L : List Nat} {X w V : World} {b i : Nat} {vs : List Value} (x : Chg L X w) (h : Put w V b i vs) (hb : X.heap.size ≤ b ∨ b ∈ L) : Chg L X V := Chg.more x h.chg (by simpa using hb)
structure New (w V : World) (n : Nat) (cs : Array Value) : Prop where
  at_ : w.heap.size = n
  ext : Ext w V
  size : V.heap.size ≤ n + 1 ∧ n + 1 ≤ V.heap.size
  cell : ∀ i v, nthV cs.toList i = some v → V.cell? ⟨n, i, none⟩ = some v
  fz : ∀ i, V.frozen? ⟨n, i, none⟩ = false
  row : ∃ t, V.heap[n]? = some (.cells cs t (0, 0))
theorem new_alloc (w : World) (cs : Array Value) (t : TypeId) : New w (w.alloc (.cells cs t)) w.heap.size cs :=
  ⟨rfl, (Ext.refl _).alloc _, ⟨by simp, by simp⟩, fun i v h => by rw [cell_nw]; rw [nthV_eq] at h; simpa using h, fun i => frozen_nw .., t, World.alloc_heap_new w _⟩
theorem Put.some_off {w V : World} {b i k n : Nat} {vs : List Value} (p : Put w V b i vs) (h : ∀ j, j < n → (w.cell? ⟨b, k + j, none⟩).isSome = true) (ho : k + n ≤ i ∨ i + vs.length ≤ k) : ∀ j, j < n → (V.cell? ⟨b, k + j, none⟩).isSome = true := fun j hj => by
  rw [p.old _ (by omega)]; exact h j hj
theorem _root_.Go.World.ownsRow.put {w V : World} {base e size n b i : Nat} {v : Value} {xs vs : List Value} (h : w.ownsRow base e size v n xs) (p : Put w V b i vs) (hb : b < base) : V.ownsRow base e size v n xs := by
  refine ⟨h.1, ?_⟩
  rcases h.2 with hn | ⟨g, cap, cur, rfl, hg0, hg, rest⟩
  · exact .inl hn
  · exact .inr ⟨g, cap, cur, rfl, hg0, (p.chg.block g (Array.getElem?_eq_some_iff.1 hg).1 (by simp; omega)).trans hg, rest⟩
section
variable {F : Fence} {P : Program} {N : Nat} {gd : Nat → Option Nat} {K : (Nat → Value) → World → Prop} {ρ : Nat → Value} {w : World}
theorem Wops.absA {L : List Oper} {cs : Array Value} {t : TypeId} (h : ∀ V n, New w V n cs → Wops F P N gd K L ρ V) : Wops F P N gd K L ρ (w.alloc (.cells cs t)) := h _ _ (new_alloc w cs t)
theorem Mops.absA {S : List (List Oper × Option (Oper × Bool))} {cs : Array Value} {t : TypeId} (h : ∀ V n, New w V n cs → Mops F P N gd K S ρ V) : Mops F P N gd K S ρ (w.alloc (.cells cs t)) := h _ _ (new_alloc w cs t)
theorem Mops.absD {S : List (List Oper × Option (Oper × Bool))} (h : ∀ V, Ext w V → (V.heap.size ≤ w.heap.size ∧ w.heap.size ≤ V.heap.size) → Mops F P N gd K S ρ V) : Mops F P N gd K S ρ w.drew := h _ (Ext.refl w).drew ⟨Nat.le_refl _, Nat.le_refl _⟩
theorem Wops.absS {L : List Oper} {b i : Nat} (vs : List Value) (hs : ∀ j, j < vs.length → (w.cell? ⟨b, i + j, none⟩).isSome = true) (h : ∀ V, Put w V b i vs → Wops F P N gd K L ρ V) : Wops F P N gd K L ρ (setL w b i vs) := h _ (setL_put hs)
theorem Mops.absS {S : List (List Oper × Option (Oper × Bool))} {b i : Nat} (vs : List Value) (hs : ∀ j, j < vs.length → (w.cell? ⟨b, i + j, Option.none⟩).isSome = true) (h : ∀ V, Put w V b i vs → Mops F P N gd K S ρ V) : Mops F P N gd K S ρ (setL w b i vs) := h _ (setL_put hs)
theorem Wp.absS {c : Code} {ds : List Deferred} {Q : Post} {b i : Nat} (vs : List Value) (hs : ∀ j, j < vs.length → (w.cell? ⟨b, i + j, none⟩).isSome = true) (h : ∀ V, Put w V b i vs → Wp F P N c Q ρ ds V) : Wp F P N c Q ρ ds (setL w b i vs) := h _ (setL_put hs)
end
theorem somes {w : World} {b i : Nat} {vs : List Value} (l : List Value) (hl : vs.length ≤ l.length) (h : ∀ j v, l[j]? = some v → w.cell? ⟨b, i + j, none⟩ = some v) : ∀ j, j < vs.length → (w.cell? ⟨b, i + j, none⟩).isSome = true := fun j hj => by
  rw [h j (l[j]'(by omega)) (List.getElem?_eq_getElem _)]; rfl
@[reducible] def cellVal {w : World} {a : Addr} {v : Value} (_ : w.cell? a = some v) : Value := v
theorem grown_chg {w w' : World} {row : Option Nat} (h : w.grownBy w' row) : Chg row.toList w w' :=
  ⟨h.os, h.tape, h.output, h.size, fun k hk hn => h.block k hk (fun e => hn (by rw [← e]; simp))⟩
theorem lt_off {row : Option Nat} {S T b : Nat} (LT : ∀ k, row = some k → S ≤ k ∧ k < T) (h : b < S ∨ T ≤ b) : b ∉ row.toList := fun hm => by
  have := LT b (by simpa using hm); omega
theorem lt_ge {row : Option Nat} {S T X : Nat} (LT : ∀ k, row = some k → S ≤ k ∧ k < T) (h : X ≤ S) : ∀ b ∈ row.toList, X ≤ b := fun b hm => by
  have := LT b (by simpa using hm); omega
theorem lt_gm {row : Option Nat} {S T X : Nat} {L : List Nat} (LT : ∀ k, row = some k → S ≤ k ∧ k < T) (h : X ≤ S) : ∀ b ∈ row.toList, X ≤ b ∨ b ∈ L := fun b hm => .inl (lt_ge LT h b hm)
end Go.Wk
namespace Go.Wk
open Go.RowKit
set_option linter.unusedVariables false
section
variable {P : Program} {N : Nat} {K : Post} {ρ : Nat → Value} {ds : List Deferred} {w : World}
end
end Go.Wk
namespace Go.Wk
open Go.RowKit
set_option linter.unusedVariables false
theorem Adm.fz {m : Nat} {W W' : World} (h : Adm m W W') {b i : Nat} {v : Value} (c : W.cell? ⟨b, i, none⟩ = some v) (f : ∀ k, W.frozen? ⟨b, k, none⟩ = false) : ∀ k, W'.frozen? ⟨b, k, none⟩ = false := fun k => by
  obtain ⟨o, ho, hc⟩ := cells_of_cell c; exact (World.frozen?_of_block (a := ⟨b, k, none⟩) ((h.block b o ho (.inr hc)).trans ho.symm)).trans (f k)
theorem Adm.chg {m : Nat} {L : List Nat} {X W W' : World} (h : Adm m W W') (x : Chg L X W) (hX : X.heap.size ≤ m) : Chg L X W' :=
  ⟨h.os.trans x.os, h.tape.trans x.tape, h.output.trans x.output, Nat.le_trans x.size h.size, fun k hk hn => by
    have hlt : k < W.heap.size := Nat.lt_of_lt_of_le hk x.size; have e : W.heap[k]? = some W.heap[k] := by simp [hlt]
    rw [h.block k W.heap[k] e (.inl (by omega)), ← x.block k hk hn, e]⟩
def IsC (W : World) (b : Nat) : Prop := ∃ o, W.heap[b]? = some o ∧ o.isCells = true
theorem IsC.of {W : World} {b i : Nat} {v : Value} (c : W.cell? ⟨b, i, none⟩ = some v) : IsC W b := by
  obtain ⟨o, ho, hc⟩ := cells_of_cell c; exact ⟨o, ho, hc⟩
theorem RowC.put {w V : World} {b i k : Nat} {e : TypeId} {cs vs : List Value} (h : RowC w k e cs) (p : Put w V b i vs) (hb : k ≠ b) : RowC V k e cs :=
  (p.chg.block k h.lt (by simpa using hb)).trans h
theorem RowC.chg {w V : World} {L : List Nat} {k : Nat} {e : TypeId} {cs : List Value} (h : RowC w k e cs) (p : Chg L w V) (hb : k ∉ L) : RowC V k e cs := (p.block k h.lt hb).trans h
end Go.Wk
namespace Go.Wk
open Go.RowKit
set_option linter.unusedVariables false
section
variable {F : Fence} {P : Program} {N : Nat} {gd : Nat → Option Nat} {K : (Nat → Value) → World → Prop} {ρ : Nat → Value} {w : World}
theorem Wops.absT {L : List Oper} {cs : Array Value} {t : TypeId} (h : ∀ V n, New w V n cs → V.heap[n]? = some (.cells cs t (0, 0)) → Wops F P N gd K L ρ V) : Wops F P N gd K L ρ (w.alloc (.cells cs t)) := h _ _ (new_alloc w cs t) (World.alloc_heap_new w _)
theorem Mops.absT {S : List (List Oper × Option (Oper × Bool))} {cs : Array Value} {t : TypeId} (h : ∀ V n, New w V n cs → V.heap[n]? = some (.cells cs t (0, 0)) → Mops F P N gd K S ρ V) : Mops F P N gd K S ρ (w.alloc (.cells cs t)) := h _ _ (new_alloc w cs t) (World.alloc_heap_new w _)
end
end Go.Wk
namespace Go.Wk
open Go.RowKit
set_option linter.unusedVariables false
def cutK (J : (Nat → Value) → List Deferred → World → Prop) (K : Post) : Post
  | .normal, ρ, ds, w => J ρ ds w
  | e, ρ, ds, w => K e ρ ds w
section
variable {F : Fence} {P : Program} {N : Nat} {J : (Nat → Value) → List Deferred → World → Prop} {K : Post} {ρ : Nat → Value} {ds : List Deferred} {w : World}
theorem cutK_normal (h : J ρ ds w) : cutK J K .normal ρ ds w := h
theorem Wp.cut {c : Code} (J : (Nat → Value) → List Deferred → World → Prop) (h1 : Wp F P N c (cutK J K) ρ ds w) (h2 : ∀ ρ ds w, J ρ ds w → K .normal ρ ds w) : Wp F P N c K ρ ds w := by
  refine Wp.mono h1 ?_; intro e ρ ds w h
  cases e with
  | normal => exact h2 _ _ _ h
  | _ => exact h
end
end Go.Wk
namespace Go.Proofs.YtnfagcccgmakdaaGreat
open Go.RowKit Go.Wk Go.Proofs
attribute [local irreducible] Go.Wk.Wops Go.Wk.Wp Go.Wk.Mtree Go.Wk.Mops
set_option maxHeartbeats 4000000
theorem RunsV.at {w : World} {B n c : Nat} {A : Option Addr} {rs : List Run} (h : RunsV w B (.slice A n c) rs) {k : Nat} (hk : k < rs.length) : ∃ b o A2 c2, A = some ⟨b, o, none⟩ ∧ w.cell? ⟨b, o + k * 3, none⟩ = some (.int .i64 rs[k].id) ∧ w.cell? ⟨b, o + k * 3 + 1, none⟩ = some (.int .i64 rs[k].arr) ∧
    w.cell? ⟨b, o + k * 3 + 2, none⟩ = some (.slice A2 rs[k].takes.length c2) ∧ IntsV w B (.slice A2 rs[k].takes.length c2) rs[k].takes := by
  obtain ⟨A', c', tv, hv, hx, ht, -⟩ := h
  injection hv with h1 h2 h3
  subst h1; obtain ⟨b, o, rfl, -, hc⟩ := hx (by intro e; rw [e] at hk; exact absurd hk (Nat.not_lt_zero _)); obtain ⟨A2, c2, e2⟩ := (ht k hk).slice; have h3 := (hc k hk).2.2; have h4 := ht k hk; rw [e2] at h3 h4; exact ⟨b, o, A2, c2, rfl, (hc k hk).1, (hc k hk).2.1, h3, h4⟩
theorem withinR_T {n lo hi : Int} (h : lo ≤ n ∧ n ≤ hi) (w : World) : CallsV Tryz.prog 91 #[.int .i64 n, .int .i64 lo, .int .i64 hi] w fun v w' => v = .bool true ∧ Ext w w' :=
  (withinR_c n lo hi w).mono fun _ _ ⟨h1, h2⟩ => by rw [decide_eq_true h] at h1; exact ⟨h1, h2⟩
theorem withinR_F {n lo hi : Int} (h : ¬ (lo ≤ n ∧ n ≤ hi)) (w : World) : CallsV Tryz.prog 91 #[.int .i64 n, .int .i64 lo, .int .i64 hi] w fun v w' => v = .bool false ∧ Ext w w' :=
  (withinR_c n lo hi w).mono fun _ _ ⟨h1, h2⟩ => by rw [decide_eq_false h] at h1; exact ⟨h1, h2⟩
theorem any_take {p : Int → Bool} {l : List Int} {k : Nat} (h : k < l.length) (h0 : (l.take k).any p = false) (h1 : p l[k] = false) : (l.take (k + 1)).any p = false := by
  rw [List.take_add_one, List.getElem?_eq_getElem h, List.any_append, h0]; simp [h1]
theorem any_hit {p : Int → Bool} {l : List Int} {k : Nat} (h : k < l.length) (h1 : p l[k] = true) : l.any p = true := List.any_eq_true.2 ⟨_, List.getElem_mem h, h1⟩
theorem refCheck_c (v : Value) (o : Ord) (w : World) (hV : OrderV w w.heap.size v o) (hf : Fits o) :
    CallsV Tryz.prog 25 #[v] w fun v w' => v = .int .i64 (checkS o) ∧ Ext w w' := by
  obtain ⟨cv, rv, rfl, hc, hr⟩ := id hV; obtain ⟨cA, cc, rfl, -⟩ := id hc; obtain ⟨rA, rc, -, rfl, -⟩ := id hr; obtain ⟨hf1, hf2, hf3⟩ : Fits o := hf; have hm : o.cop.length ≤ farI := by unfold farI; exact hf1
  have hn : o.runs.length ≤ farI := by unfold farI; exact hf2
  have hk3 : ∀ k (h : k < o.runs.length), o.runs[k].takes.length ≤ farI := fun k h => by unfold farI; exact hf3 k h
  clear hf1 hf2 hf3; refine Wp.fn Tryz.func25 rfl Tryz.ntmps25 (by simp) ?_; refine Wp.keep [0] fun r1 hkeep => ?_; obtain ⟨e0_1, -⟩ := hkeep; simp [go_sem] at e0_1; refine Wp.seqRegion (.inl rfl) (by kernel_rfl) fun K' gd hK hg => ?_; clear hg; go_simp; refine hK _ _ ?_; clear hK K' gd; refine Wp.keep [1] fun r2 hkeep => ?_; obtain ⟨e1_2, -⟩ := hkeep; simp [go_sem, e0_1] at e1_2; clear e0_1; refine Wp.seq ?_; refine Wp.seqRegion (.inl rfl) (by kernel_rfl) fun K' gd hK hg => ?_; clear hg; go_simp; refine hK _ _ ?_; clear hK K' gd; refine Wp.keep [1, 15] fun r3 hkeep => ?_; obtain ⟨e1_3, e15_3, -⟩ := hkeep; simp [go_sem, e1_2] at e1_3 e15_3; clear e1_2
  by_cases g0 : o.cop.length = 0
  · refine Wp.condT (by go_simp) ?_; refine Wp.seqRegion (.inl rfl) (by kernel_rfl) fun K' gd hK hg => ?_; clear hg; go_simp; refine hK _ _ ?_; clear hK K' gd; refine Wp.keep [2] fun r4 hkeep => ?_; obtain ⟨e2_4, -⟩ := hkeep; simp [go_sem, e1_3, e15_3] at e2_4; clear e1_3 e15_3; refine Wp.ret ?_; refine thenK_ret ?_; refine endK_tmp Tryz.results25 (by decide) ?_; rw [e2_4]; exact ⟨by rw [checkS, if_pos g0], XE⟩
  · refine Wp.condF (by go_simp) ?_
    by_cases g1 : (15 : Int) < (o.cop.length : Int)
    · skip; refine Wp.skip ?_; refine thenK_normal ?_; refine Wp.seq ?_; refine Wp.seqRegion (.inl rfl) (by kernel_rfl) fun K' gd hK hg => ?_; have g4 : gd 4 = some 20 := hg 4; clear hg; go_simp; refine hK _ _ ?_; clear hK K' gd g4; refine Wp.keep [1, 25] fun r5 hkeep => ?_; obtain ⟨e1_5, e25_5, -⟩ := hkeep; simp [go_sem, e1_3, e15_3] at e1_5 e25_5; clear e1_3 e15_3; refine Wp.condT (by go_simp) ?_; refine Wp.seqRegion (.inl rfl) (by kernel_rfl) fun K' gd hK hg => ?_; clear hg; go_simp; refine hK _ _ ?_; clear hK K' gd; refine Wp.keep [2] fun r6 hkeep => ?_; obtain ⟨e2_6, -⟩ := hkeep; simp [go_sem, e1_5, e25_5] at e2_6; clear e1_5 e25_5; refine Wp.ret ?_; refine thenK_ret ?_; refine endK_tmp Tryz.results25 (by decide) ?_; rw [e2_6]; exact ⟨by rw [checkS, if_neg g0, if_pos (by omega)], XE⟩
    · skip
      by_cases g2 : (20 : Int) < (o.runs.length : Int)
      · skip; refine Wp.skip ?_; refine thenK_normal ?_; refine Wp.seq ?_; refine Wp.seqRegion (.inl rfl) (by kernel_rfl) fun K' gd hK hg => ?_; have g4 : gd 4 = some 20 := hg 4; clear hg; go_simp; refine hK _ _ ?_; clear hK K' gd g4; refine Wp.keep [1, 25] fun r7 hkeep => ?_; obtain ⟨e1_7, e25_7, -⟩ := hkeep; simp [go_sem, e1_3, e15_3] at e1_7 e25_7; clear e1_3 e15_3; refine Wp.condT (by go_simp) ?_; refine Wp.seqRegion (.inl rfl) (by kernel_rfl) fun K' gd hK hg => ?_; clear hg; go_simp; refine hK _ _ ?_; clear hK K' gd; refine Wp.keep [2] fun r8 hkeep => ?_; obtain ⟨e2_8, -⟩ := hkeep; simp [go_sem, e1_7, e25_7] at e2_8; clear e1_7 e25_7; refine Wp.ret ?_; refine thenK_ret ?_; refine endK_tmp Tryz.results25 (by decide) ?_; rw [e2_8]; exact ⟨by rw [checkS, if_neg g0, if_neg (by omega), if_pos (by omega)], XE⟩
      · skip; refine Wp.skip ?_; refine thenK_normal ?_; refine Wp.seq ?_; refine Wp.seqRegion (.inl rfl) (by kernel_rfl) fun K' gd hK hg => ?_; have g4 : gd 4 = some 20 := hg 4; clear hg; go_simp; refine hK _ _ ?_; clear hK K' gd g4; refine Wp.keep [1, 25] fun r9 hkeep => ?_; obtain ⟨e1_9, e25_9, -⟩ := hkeep; simp [go_sem, e1_3, e15_3] at e1_9 e25_9; clear e1_3 e15_3; refine Wp.condF (by go_simp) ?_; have hS0 : checkS o = if o.cop.any bad20 = true then 1 else checkRuns o.cop.length [] o.runs := by rw [checkS, if_neg g0, if_neg (by omega), if_neg (by omega)]
        have hS : ∃ _u : Unit, checkS o = if o.cop.any bad20 = true then 1 else checkRuns o.cop.length [] o.runs := ⟨(), hS0⟩; clear hS0 hm hn hk3; have hm : o.cop.length ≤ 15 := by omega
        have hn : o.runs.length ≤ 20 := by omega
        clear g0 g1 g2; refine Wp.skip ?_; refine thenK_normal ?_; refine Wp.seq ?_; refine Wp.seqRegion (.inl rfl) (by kernel_rfl) fun K' gd hK hg => ?_; clear hg; go_simp; refine hK _ _ ?_; clear hK K' gd; refine Wp.keep [1, 3] fun r10 hkeep => ?_; obtain ⟨e1_10, e3_10, -⟩ := hkeep; simp [go_sem, e1_9, e25_9] at e1_10 e3_10; clear e1_9 e25_9; refine Wp.block ?_; refine Wp.loop (fun j ρ ds wj => AllEq [1] ρ r10 ∧ ds = [] ∧ (ρ 3 = .int .i64 (j : Int) ∧ Ext w wj ∧ wj.cell? ⟨w.heap.size, 0, none⟩ = some (.slice cA o.cop.length cc) ∧ wj.cell? ⟨w.heap.size, 1, none⟩ = some (.slice rA o.runs.length rc) ∧ (o.cop.take j).any bad20 = false)) (o.cop.length) ?_ ?_
        · refine ⟨AllEq.refl _ _, rfl, ?_⟩; exact ⟨by rw [e3_10]; rfl, XE, by go_simp, by go_simp, rfl⟩
        · rintro j r11 _ wj hj ⟨hA, rfl, ⟨e3, hEj, x0, x1, hj0⟩⟩; obtain ⟨e1_11, -⟩ := hA; rw [e1_10] at e1_11; refine Wp.seq ?_; refine Wp.seqRegion (.inl rfl) (by kernel_rfl) fun K' gd hK hg => ?_; clear hg; go_simp; refine hK _ _ ?_; clear hK K' gd; refine Wp.keep [1, 3, 30] fun r12 hkeep => ?_; obtain ⟨e1_12, e3_12, e30_12, -⟩ := hkeep; simp [go_sem, e1_11, e3] at e1_12 e3_12 e30_12; clear e1_11 e3
          by_cases h : j < o.cop.length
          · refine Wp.condT (by go_simp) ?_; obtain ⟨b, ob, rfl, d0⟩ := hc.at h; have d0 := hEj.cell d0; obtain ⟨x, hx⟩ : ∃ x, o.cop[j] = x := ⟨_, rfl⟩; rw [hx] at d0; have b3 : (j : Int) < (o.cop.length : Int) := by omega
            by_cases hb : 1 ≤ x ∧ x ≤ 20
            · skip; refine Wp.skip ?_; refine thenK_normal ?_; refine Wp.seq ?_; refine Wp.block ?_; refine Wp.seqRegion (.inl rfl) (by kernel_rfl) fun K' gd hK hg => ?_; clear hg; go_simp; refine Wcall (.inl rfl) (withinR_T hb _) ?_; rintro v w2 ⟨rfl, hE2⟩; go_simp; refine hK _ _ ?_; clear hK K' gd; refine Wp.keep [1, 3, 4] fun r13 hkeep => ?_; obtain ⟨e1_13, e3_13, e4_13, -⟩ := hkeep; simp [go_sem, e1_12, e3_12, e30_12] at e1_13 e3_13 e4_13; clear e1_12 e3_12 e30_12; refine Wp.seqRegion (.inl rfl) (by kernel_rfl) fun K' gd hK hg => ?_; clear hg; go_simp; refine hK _ _ ?_; clear hK K' gd; refine Wp.keep [1, 3, 40] fun r14 hkeep => ?_; obtain ⟨e1_14, e3_14, e40_14, -⟩ := hkeep; simp [go_sem, e1_13, e3_13, e4_13] at e1_14 e3_14 e40_14; clear e1_13 e3_13 e4_13; refine Wp.condF (by go_simp) ?_; refine Wp.skip ?_; refine blockK_normal ?_; refine thenK_normal ?_; refine Wp.loneRegion (.inl rfl) (by kernel_rfl) fun K' gd hK hg => ?_; clear hg; go_simp; refine hK _ _ ?_; clear hK K' gd; refine Ends.keep [1, 3] fun r15 hkeep => ?_; obtain ⟨e1_15, e3_15, -⟩ := hkeep; simp [go_sem, e1_14, e3_14, e40_14] at e1_15 e3_15; clear e1_14 e3_14 e40_14; refine Ends.mk ?_; refine thenK_normal ⟨by omega, ⟨by rw [e1_15, e1_10], trivial⟩, rfl, ?_⟩; exact ⟨by rw [e3_15, IntWalk.i64_in _ (by omega)]; rfl, XE, hE2.cell x0, hE2.cell x1, any_take h hj0 (by rw [hx]; unfold bad20; rw [decide_eq_true hb]; rfl)⟩
            · skip; refine Wp.skip ?_; refine thenK_normal ?_; refine Wp.seq ?_; refine Wp.block ?_; refine Wp.seqRegion (.inl rfl) (by kernel_rfl) fun K' gd hK hg => ?_; clear hg; go_simp; refine Wcall (.inl rfl) (withinR_F hb _) ?_; rintro v w2 ⟨rfl, hE2⟩; go_simp; refine hK _ _ ?_; clear hK K' gd; refine Wp.keep [1, 3, 4] fun r16 hkeep => ?_; obtain ⟨e1_16, e3_16, e4_16, -⟩ := hkeep; simp [go_sem, e1_12, e3_12, e30_12] at e1_16 e3_16 e4_16; clear e1_12 e3_12 e30_12; refine Wp.seqRegion (.inl rfl) (by kernel_rfl) fun K' gd hK hg => ?_; clear hg; go_simp; refine hK _ _ ?_; clear hK K' gd; refine Wp.keep [1, 3, 40] fun r17 hkeep => ?_; obtain ⟨e1_17, e3_17, e40_17, -⟩ := hkeep; simp [go_sem, e1_16, e3_16, e4_16] at e1_17 e3_17 e40_17; clear e1_16 e3_16 e4_16; refine Wp.condT (by go_simp) ?_; refine Wp.seqRegion (.inl rfl) (by kernel_rfl) fun K' gd hK hg => ?_; clear hg; go_simp; refine hK _ _ ?_; clear hK K' gd; refine Wp.keep [2] fun r18 hkeep => ?_; obtain ⟨e2_18, -⟩ := hkeep; simp [go_sem, e1_17, e3_17, e40_17] at e2_18; clear e1_17 e3_17 e40_17; refine Wp.ret ?_; refine blockK_ret ?_; refine thenK_ret ?_; refine thenK_ret ?_; refine blockK_ret ?_; refine thenK_ret ?_; refine endK_tmp Tryz.results25 (by decide) ?_; rw [e2_18]; obtain ⟨-, hS⟩ := hS; exact ⟨by rw [hS, if_pos (any_hit h (by rw [hx]; unfold bad20; rw [decide_eq_false hb]; rfl))], XE⟩
          · refine Wp.condF (by go_simp) ?_; obtain rfl : j = o.cop.length := by omega
            rw [List.take_length] at hj0; have hS2 : ∃ _u : Unit, checkS o = checkRuns o.cop.length [] o.runs := by obtain ⟨-, hS⟩ := hS; exact ⟨(), by rw [hS, if_neg (by rw [hj0]; decide)]⟩
            clear hS hj0; refine Wp.exit ?_; refine thenK_exit ?_; refine thenK_exit ?_; refine blockK_here ?_; refine thenK_normal ?_; refine Wp.seq ?_; refine Wp.seqRegion (.inl rfl) (by kernel_rfl) fun K' gd hK hg => ?_; clear hg; go_simp; refine hK _ _ ?_; clear hK K' gd; refine Wp.keep [1, 5] fun r19 hkeep => ?_; obtain ⟨e1_19, e5_19, -⟩ := hkeep; simp [go_sem, e1_12, e3_12, e30_12] at e1_19 e5_19; clear e1_12 e3_12 e30_12; refine Wp.block ?_; refine Wp.loop (fun n ρ ds wn => AllEq [1] ρ r19 ∧ ds = [] ∧ (ρ 5 = .int .i64 (n : Int) ∧ Ext w wn ∧ wn.cell? ⟨w.heap.size, 0, none⟩ = some (.slice cA o.cop.length cc) ∧ wn.cell? ⟨w.heap.size, 1, none⟩ = some (.slice rA o.runs.length rc) ∧ (∃ _u : Unit, checkS o = checkRuns o.cop.length (o.runs.take n) (o.runs.drop n)))) (o.runs.length) ?_ ?_
            · refine ⟨AllEq.refl _ _, rfl, ?_⟩; exact ⟨by rw [e5_19]; rfl, hEj, x0, x1, hS2⟩
            · rintro n r20 _ wn hn ⟨hA, rfl, ⟨e5, hEn, x0, x1, hS⟩⟩; obtain ⟨e1_20, -⟩ := hA; rw [e1_19] at e1_20; refine Wp.seq ?_; refine Wp.seqRegion (.inl rfl) (by kernel_rfl) fun K' gd hK hg => ?_; clear hg; go_simp; refine hK _ _ ?_; clear hK K' gd; refine Wp.keep [1, 5, 45] fun r21 hkeep => ?_; obtain ⟨e1_21, e5_21, e45_21, -⟩ := hkeep; simp [go_sem, e1_20, e5] at e1_21 e5_21 e45_21; clear e1_20 e5
              by_cases h : n < o.runs.length
              · refine Wp.condT (by go_simp) ?_; obtain ⟨b, ob, tA, tc, rfl, d0, d1, d2, hI⟩ := hr.at h; have hS' : ∃ _u : Unit, checkS o = _ := ⟨(), hS.elim fun _ h' => h'.trans (checkRuns_at h)⟩; clear hS; obtain ⟨r, hre⟩ : ∃ r, o.runs[n] = r := ⟨_, rfl⟩; rw [hre] at d0 d1 d2 hI hS'; have d0 := hEn.cell d0; have d1 := hEn.cell d1; have d2 := hEn.cell d2; have b3 : (n : Int) < (o.runs.length : Int) := by omega
                refine Wp.skip ?_; refine thenK_normal ?_; refine Wp.seq ?_; refine Wp.block ?_; refine Wp.seqRegion (.inl rfl) (by kernel_rfl) fun K' gd hK hg => ?_; clear hg; go_simp; refine hK _ _ ?_; clear hK K' gd; refine Wp.keep [1, 5, 6] fun r22 hkeep => ?_; obtain ⟨e1_22, e5_22, e6_22, -⟩ := hkeep; simp [go_sem, e1_21, e5_21, e45_21] at e1_22 e5_22 e6_22; clear e1_21 e5_21 e45_21; have y0 := cell_nn wn #[.int .i64 r.id, .int .i64 r.arr, .slice tA r.takes.length tc] 103 0 rfl (v := .int .i64 r.id) rfl; have y1 := cell_nn wn #[.int .i64 r.id, .int .i64 r.arr, .slice tA r.takes.length tc] 103 1 rfl (v := .int .i64 r.arr) rfl; have y2 := cell_nn wn #[.int .i64 r.id, .int .i64 r.arr, .slice tA r.takes.length tc] 103 2 rfl (v := .slice tA r.takes.length tc) rfl; have hE6 : Ext wn (wn.alloc (.cells #[.int .i64 r.id, .int .i64 r.arr, .slice tA r.takes.length tc] 103)) := XE; have hEw6 : Ext w (wn.alloc (.cells #[.int .i64 r.id, .int .i64 r.arr, .slice tA r.takes.length tc] 103)) := XE
                generalize wn.alloc (.cells #[.int .i64 r.id, .int .i64 r.arr, .slice tA r.takes.length tc] 103) = W6 at *
                have x0 := hE6.cell x0; have x1 := hE6.cell x1; clear d0 d1 d2
                by_cases k1 : 1 ≤ r.id ∧ r.id ≤ 1099511627776
                · skip; refine Wp.seqRegion (.inl rfl) (by kernel_rfl) fun K' gd hK hg => ?_; clear hg; go_simp; refine Wcall (.inl rfl) (withinR_T k1 _) ?_; rintro v w7 ⟨rfl, hE7⟩; have y1 := hE7.cell y1; have y2 := hE7.cell y2; have y0 := hE7.cell y0; have x0 := hE7.cell x0; have x1 := hE7.cell x1; go_simp; refine hK _ _ ?_; clear hK K' gd; refine Wp.keep [1, 5, 6, 7] fun r23 hkeep => ?_; obtain ⟨e1_23, e5_23, e6_23, e7_23, -⟩ := hkeep; simp [go_sem, e1_22, e5_22, e6_22] at e1_23 e5_23 e6_23 e7_23; clear e1_22 e5_22 e6_22
                  by_cases k2 : 0 ≤ r.arr ∧ r.arr ≤ 730
                  · skip; refine Wp.seqRegion (.inl rfl) (by kernel_rfl) fun K' gd hK hg => ?_; clear hg; go_simp; refine Wcall (.inl rfl) (withinR_T k2 _) ?_; rintro v w8 ⟨rfl, hE8⟩; have y2 := hE8.cell y2; have y0 := hE8.cell y0; have x0 := hE8.cell x0; have x1 := hE8.cell x1; go_simp; refine hK _ _ ?_; clear hK K' gd; refine Wp.keep [1, 5, 6, 7, 8] fun r24 hkeep => ?_; obtain ⟨e1_24, e5_24, e6_24, e7_24, e8_24, -⟩ := hkeep; simp [go_sem, e1_23, e5_23, e6_23, e7_23] at e1_24 e5_24 e6_24 e7_24 e8_24; clear e1_23 e5_23 e6_23 e7_23
                    by_cases k3 : (r.takes.length : Int) = (o.cop.length : Int)
                    · skip; refine Wp.seq ?_; refine Wp.seqRegion (.inl rfl) (by kernel_rfl) fun K' gd hK hg => ?_; have g2 : gd 2 = some 61 := hg 2; have g6 : gd 6 = some 65 := hg 6; clear hg; go_simp; refine hK _ _ ?_; clear hK K' gd g2 g6; refine Wp.keep [1, 5, 6, 73] fun r25 hkeep => ?_; obtain ⟨e1_25, e5_25, e6_25, e73_25, -⟩ := hkeep; simp [go_sem, e1_24, e5_24, e6_24, e7_24, e8_24] at e1_25 e5_25 e6_25 e73_25; clear e1_24 e5_24 e6_24 e7_24 e8_24; refine Wp.condF (by go_simp) ?_; have k3' : o.cop.length = r.takes.length := by omega
                      clear k3; have hEw8 : Ext w w8 := XE; clear hEw6 hE6 hE7 hE8 hEn hEj; have hmt : r.takes.length ≤ 15 := by omega
                      refine Wp.skip ?_; refine thenK_normal ?_; refine Wp.seq ?_; refine Wp.seqRegion (.inl rfl) (by kernel_rfl) fun K' gd hK hg => ?_; clear hg; go_simp; refine hK _ _ ?_; clear hK K' gd; refine Wp.keep [1, 5, 6, 9] fun r26 hkeep => ?_; obtain ⟨e1_26, e5_26, e6_26, e9_26, -⟩ := hkeep; simp [go_sem, e1_25, e5_25, e6_25, e73_25] at e1_26 e5_26 e6_26 e9_26; clear e1_25 e5_25 e6_25 e73_25; refine Wp.block ?_; refine Wp.loop (fun j ρ ds wj => AllEq [1, 5, 6] ρ r26 ∧ ds = [] ∧ (ρ 9 = .int .i64 (j : Int) ∧ Ext w8 wj ∧ (r.takes.take j).any bad60 = false)) (r.takes.length) ?_ ?_
                      · refine ⟨AllEq.refl _ _, rfl, ?_⟩; exact ⟨by rw [e9_26]; rfl, XE, rfl⟩
                      · rintro j r27 _ wj hj ⟨hA, rfl, ⟨e9, hEj, hj0⟩⟩; obtain ⟨e1_27, e5_27, e6_27, -⟩ := hA; rw [e1_26] at e1_27; rw [e5_26] at e5_27; rw [e6_26] at e6_27; have y2' := hEj.cell y2; refine Wp.seq ?_; refine Wp.seqRegion (.inl rfl) (by kernel_rfl) fun K' gd hK hg => ?_; clear hg; go_simp; refine hK _ _ ?_; clear hK K' gd; refine Wp.keep [1, 5, 6, 9, 78] fun r28 hkeep => ?_; obtain ⟨e1_28, e5_28, e6_28, e9_28, e78_28, -⟩ := hkeep; simp [go_sem, e1_27, e5_27, e6_27, e9] at e1_28 e5_28 e6_28 e9_28 e78_28; clear e1_27 e5_27 e6_27 e9
                        by_cases h2 : j < r.takes.length
                        · refine Wp.condT (by go_simp) ?_; obtain ⟨b2, ob2, rfl, d0⟩ := hI.at h2; have d0 := hEj.cell (hEw8.cell d0); obtain ⟨x, hx⟩ : ∃ x, r.takes[j] = x := ⟨_, rfl⟩; rw [hx] at d0; have b4 : (j : Int) < (r.takes.length : Int) := by omega
                          by_cases hb : 1 ≤ x ∧ x ≤ 60
                          · skip; refine Wp.skip ?_; refine thenK_normal ?_; refine Wp.seq ?_; refine Wp.block ?_; refine Wp.seqRegion (.inl rfl) (by kernel_rfl) fun K' gd hK hg => ?_; clear hg; go_simp; refine Wcall (.inl rfl) (withinR_T hb _) ?_; rintro v w9 ⟨rfl, hE9⟩; go_simp; refine hK _ _ ?_; clear hK K' gd; refine Wp.keep [1, 5, 6, 9, 10] fun r29 hkeep => ?_; obtain ⟨e1_29, e5_29, e6_29, e9_29, e10_29, -⟩ := hkeep; simp [go_sem, e1_28, e5_28, e6_28, e9_28, e78_28] at e1_29 e5_29 e6_29 e9_29 e10_29; clear e1_28 e5_28 e6_28 e9_28 e78_28; refine Wp.seqRegion (.inl rfl) (by kernel_rfl) fun K' gd hK hg => ?_; clear hg; go_simp; refine hK _ _ ?_; clear hK K' gd; refine Wp.keep [1, 5, 6, 9, 88] fun r30 hkeep => ?_; obtain ⟨e1_30, e5_30, e6_30, e9_30, e88_30, -⟩ := hkeep; simp [go_sem, e1_29, e5_29, e6_29, e9_29, e10_29] at e1_30 e5_30 e6_30 e9_30 e88_30; clear e1_29 e5_29 e6_29 e9_29 e10_29; refine Wp.condF (by go_simp) ?_; refine Wp.skip ?_; refine blockK_normal ?_; refine thenK_normal ?_; refine Wp.loneRegion (.inl rfl) (by kernel_rfl) fun K' gd hK hg => ?_; clear hg; go_simp; refine hK _ _ ?_; clear hK K' gd; refine Ends.keep [1, 5, 6, 9] fun r31 hkeep => ?_; obtain ⟨e1_31, e5_31, e6_31, e9_31, -⟩ := hkeep; simp [go_sem, e1_30, e5_30, e6_30, e9_30, e88_30] at e1_31 e5_31 e6_31 e9_31; clear e1_30 e5_30 e6_30 e9_30 e88_30; refine Ends.mk ?_; refine thenK_normal ⟨by omega, ⟨by rw [e1_31, e1_26], by rw [e5_31, e5_26], by rw [e6_31, e6_26], trivial⟩, rfl, ?_⟩; exact ⟨by rw [e9_31, IntWalk.i64_in _ (by omega)]; rfl, XE, any_take h2 hj0 (by rw [hx]; unfold bad60; rw [decide_eq_true hb]; rfl)⟩
                          · skip; refine Wp.skip ?_; refine thenK_normal ?_; refine Wp.seq ?_; refine Wp.block ?_; refine Wp.seqRegion (.inl rfl) (by kernel_rfl) fun K' gd hK hg => ?_; clear hg; go_simp; refine Wcall (.inl rfl) (withinR_F hb _) ?_; rintro v w9 ⟨rfl, hE9⟩; go_simp; refine hK _ _ ?_; clear hK K' gd; refine Wp.keep [1, 5, 6, 9, 10] fun r32 hkeep => ?_; obtain ⟨e1_32, e5_32, e6_32, e9_32, e10_32, -⟩ := hkeep; simp [go_sem, e1_28, e5_28, e6_28, e9_28, e78_28] at e1_32 e5_32 e6_32 e9_32 e10_32; clear e1_28 e5_28 e6_28 e9_28 e78_28; refine Wp.seqRegion (.inl rfl) (by kernel_rfl) fun K' gd hK hg => ?_; clear hg; go_simp; refine hK _ _ ?_; clear hK K' gd; refine Wp.keep [1, 5, 6, 9, 88] fun r33 hkeep => ?_; obtain ⟨e1_33, e5_33, e6_33, e9_33, e88_33, -⟩ := hkeep; simp [go_sem, e1_32, e5_32, e6_32, e9_32, e10_32] at e1_33 e5_33 e6_33 e9_33 e88_33; clear e1_32 e5_32 e6_32 e9_32 e10_32; refine Wp.condT (by go_simp) ?_; refine Wp.seqRegion (.inl rfl) (by kernel_rfl) fun K' gd hK hg => ?_; clear hg; go_simp; refine hK _ _ ?_; clear hK K' gd; refine Wp.keep [2] fun r34 hkeep => ?_; obtain ⟨e2_34, -⟩ := hkeep; simp [go_sem, e1_33, e5_33, e6_33, e9_33, e88_33] at e2_34; clear e1_33 e5_33 e6_33 e9_33 e88_33; refine Wp.ret ?_; refine blockK_ret ?_; refine thenK_ret ?_; refine thenK_ret ?_; refine blockK_ret ?_; refine thenK_ret ?_; refine blockK_ret ?_; refine thenK_ret ?_; refine thenK_ret ?_; refine blockK_ret ?_; refine thenK_ret ?_; refine endK_tmp Tryz.results25 (by decide) ?_
                            rw [e2_34]; obtain ⟨-, hS⟩ := hS'; exact ⟨by rw [hS, if_neg (not_not_intro k1), if_neg (not_not_intro k2), if_neg (not_not_intro k3'.symm), if_pos (any_hit h2 (by rw [hx]; unfold bad60; rw [decide_eq_false hb]; rfl))], XE⟩
                        · refine Wp.condF (by go_simp) ?_; obtain rfl : j = r.takes.length := by omega
                          rw [List.take_length] at hj0; have hj1 : ¬ r.takes.any bad60 = true := by rw [hj0]; decide
                          clear hj0; refine Wp.exit ?_; refine thenK_exit ?_; refine thenK_exit ?_; refine blockK_here ?_; refine thenK_normal ?_; refine Wp.seqRegion (.inl rfl) (by kernel_rfl) fun K' gd hK hg => ?_; clear hg; go_simp; refine hK _ _ ?_; clear hK K' gd; refine Wp.keep [1, 5, 6, 11] fun r35 hkeep => ?_; obtain ⟨e1_35, e5_35, e6_35, e11_35, -⟩ := hkeep; simp [go_sem, e1_28, e5_28, e6_28, e9_28, e78_28] at e1_35 e5_35 e6_35 e11_35; clear e1_28 e5_28 e6_28 e9_28 e78_28; refine Wp.block ?_; refine Wp.loop (fun k ρ ds wk => AllEq [1, 5, 6] ρ r35 ∧ ds = [] ∧ (ρ 11 = .int .i64 (k : Int) ∧ Ext w8 wk ∧ (∀ q (hq : q < o.runs.length), q < k → o.runs[q].id ≠ r.id))) (n) ?_ ?_
                          · refine ⟨AllEq.refl _ _, rfl, ?_⟩; exact ⟨by rw [e11_35]; rfl, XE, fun q _ h => absurd h (Nat.not_lt_zero _)⟩
                          · rintro k r36 _ wk hk ⟨hA, rfl, ⟨e11, hEk, hno⟩⟩; obtain ⟨e1_36, e5_36, e6_36, -⟩ := hA; rw [e1_35] at e1_36; rw [e5_35] at e5_36; rw [e6_35] at e6_36; refine Wp.seq ?_; refine Wp.seqRegion (.inl rfl) (by kernel_rfl) fun K' gd hK hg => ?_; clear hg; go_simp; refine hK _ _ ?_; clear hK K' gd; refine Wp.keep [1, 5, 6, 11, 91] fun r37 hkeep => ?_; obtain ⟨e1_37, e5_37, e6_37, e11_37, e91_37, -⟩ := hkeep; simp [go_sem, e1_36, e5_36, e6_36, e11] at e1_37 e5_37 e6_37 e11_37 e91_37; clear e1_36 e5_36 e6_36 e11
                            by_cases h3 : k < n
                            · refine Wp.condT (by go_simp) ?_; have hkl : k < o.runs.length := by omega
                              obtain ⟨b5, ob5, A5, c5, hA5, d5, -, -, -⟩ := hr.at hkl
                              injection hA5 with hA5
                              injection hA5 with hb5 ho5
                              subst hb5 ho5; have d5 := hEk.cell (hEw8.cell d5); have y0' := hEk.cell y0; have x1' := hEk.cell x1; obtain ⟨y, hy⟩ : ∃ y, o.runs[k].id = y := ⟨_, rfl⟩; rw [hy] at d5; have b6 : (k : Int) < (o.runs.length : Int) := by omega
                              have hy2 : ∃ _u : Unit, o.runs[k].id = y := ⟨(), hy⟩; clear hy
                              by_cases hyr : y = r.id
                              · skip; have hq : (y == r.id) = true := by rw [hyr]; simp
                                clear hno; refine Wp.skip ?_; refine thenK_normal ?_; refine Wp.seq ?_; refine Wp.block ?_; refine Wp.seqDraw (.inl rfl) mixed [([0, 1, 2, 3, 4], none), ([5, 6, 7, 8], none)] (by kernel_rfl) fun K' gd hK hg => ?_; clear hg; simp only [pick, nth, List.map_cons, List.map_nil, Option.map_none, Option.map_some]; apply Mops.none
                                · intro w' hE'; have hC' := hE'.cellsS; go_simp; with_reducible rfl
                                apply Mops.none
                                · intro w' hE'; have hC' := hE'.cellsS; go_simp; with_reducible rfl
                                refine Mops.done ?_; refine hK _ _ ?_; clear hK K' gd; refine Wp.keep [1, 5, 6, 11, 102] fun r38 hkeep => ?_; obtain ⟨e1_38, e5_38, e6_38, e11_38, e102_38, -⟩ := hkeep; simp [go_sem, e1_37, e5_37, e6_37, e11_37, e91_37] at e1_38 e5_38 e6_38 e11_38 e102_38; clear e1_37 e5_37 e6_37 e11_37 e91_37; refine Wp.condT (by go_simp) ?_; refine Wp.seqRegion (.inl rfl) (by kernel_rfl) fun K' gd hK hg => ?_; clear hg; go_simp; refine hK _ _ ?_; clear hK K' gd; refine Wp.keep [2] fun r39 hkeep => ?_; obtain ⟨e2_39, -⟩ := hkeep; simp [go_sem, e1_38, e5_38, e6_38, e11_38, e102_38] at e2_39; clear e1_38 e5_38 e6_38 e11_38 e102_38; refine Wp.ret ?_; refine blockK_ret ?_; refine thenK_ret ?_; refine thenK_ret ?_; refine blockK_ret ?_; refine blockK_ret ?_; refine thenK_ret ?_; refine thenK_ret ?_; refine blockK_ret ?_; refine thenK_ret ?_; refine endK_tmp Tryz.results25 (by decide) ?_; rw [e2_39]; obtain ⟨-, hS⟩ := hS'; obtain ⟨-, hy⟩ := hy2; exact ⟨by rw [hS, if_neg (not_not_intro k1), if_neg (not_not_intro k2), if_neg (not_not_intro k3'.symm), if_neg hj1, if_pos (List.any_eq_true.2 ⟨o.runs[k], List.mem_take_iff_getElem.2 ⟨k, by omega, rfl⟩, decide_eq_true (hy.trans hyr)⟩)], XE⟩
                              · skip; refine Wp.skip ?_; refine thenK_normal ?_; refine Wp.seq ?_; refine Wp.block ?_; refine Wp.seqDraw (.inl rfl) mixed [([0, 1, 2, 3, 4], none), ([5, 6, 7, 8], none)] (by kernel_rfl) fun K' gd hK hg => ?_; clear hg; simp only [pick, nth, List.map_cons, List.map_nil, Option.map_none, Option.map_some]; apply Mops.none
                                · intro w' hE'; have hC' := hE'.cellsS; go_simp; with_reducible rfl
                                apply Mops.none
                                · intro w' hE'; have hC' := hE'.cellsS; go_simp; with_reducible rfl
                                refine Mops.done ?_; refine hK _ _ ?_; clear hK K' gd; refine Wp.keep [1, 5, 6, 11, 102] fun r40 hkeep => ?_; obtain ⟨e1_40, e5_40, e6_40, e11_40, e102_40, -⟩ := hkeep; simp [go_sem, e1_37, e5_37, e6_37, e11_37, e91_37] at e1_40 e5_40 e6_40 e11_40 e102_40; clear e1_37 e5_37 e6_37 e11_37 e91_37; refine Wp.condF (by go_simp) ?_; refine Wp.skip ?_; refine blockK_normal ?_; refine thenK_normal ?_; refine Wp.loneRegion (.inl rfl) (by kernel_rfl) fun K' gd hK hg => ?_; clear hg; go_simp; refine hK _ _ ?_; clear hK K' gd; refine Ends.keep [1, 5, 6, 11] fun r41 hkeep => ?_; obtain ⟨e1_41, e5_41, e6_41, e11_41, -⟩ := hkeep; simp [go_sem, e1_40, e5_40, e6_40, e11_40, e102_40] at e1_41 e5_41 e6_41 e11_41; clear e1_40 e5_40 e6_40 e11_40 e102_40; refine Ends.mk ?_; refine thenK_normal ⟨by omega, ⟨by rw [e1_41, e1_35], by rw [e5_41, e5_35], by rw [e6_41, e6_35], trivial⟩, rfl, ?_⟩; refine ⟨by rw [e11_41, IntWalk.i64_in _ (by omega)]; rfl, XE, fun q hq hqk => ?_⟩; obtain ⟨-, hy⟩ := hy2
                                by_cases e : q = k
                                · subst e; rw [hy]; exact hyr
                                · exact hno q hq (by omega)
                            · refine Wp.condF (by go_simp) ?_; obtain rfl : k = n := by omega
                              refine Wp.exit ?_; refine thenK_exit ?_; refine thenK_exit ?_; refine blockK_here ?_; refine blockK_normal ?_; refine thenK_normal ?_; refine Wp.loneRegion (.inl rfl) (by kernel_rfl) fun K' gd hK hg => ?_; clear hg; go_simp; refine hK _ _ ?_; clear hK K' gd; refine Ends.keep [1, 5] fun r42 hkeep => ?_; obtain ⟨e1_42, e5_42, -⟩ := hkeep; simp [go_sem, e1_37, e5_37, e6_37, e11_37, e91_37] at e1_42 e5_42; clear e1_37 e5_37 e6_37 e11_37 e91_37; refine Ends.mk ?_; refine thenK_normal ⟨by omega, ⟨by rw [e1_42, e1_19], trivial⟩, rfl, ?_⟩; refine ⟨by rw [e5_42, IntWalk.i64_in _ (by omega)]; rfl, XE, hEk.cell x0, hEk.cell x1, ?_⟩; obtain ⟨-, hS⟩ := hS'; refine ⟨(), ?_⟩; rw [hS, if_neg (not_not_intro k1), if_neg (not_not_intro k2), if_neg (not_not_intro k3'.symm), if_neg hj1, if_neg ?_]; rw [List.any_eq_true]; rintro ⟨x, hx, hxe⟩; obtain ⟨q, hq, rfl⟩ := List.mem_take_iff_getElem.1 hx; exact hno q (by omega) (by omega) (of_decide_eq_true hxe)
                    · skip; refine Wp.seq ?_; refine Wp.seqRegion (.inl rfl) (by kernel_rfl) fun K' gd hK hg => ?_; have g2 : gd 2 = some 61 := hg 2; have g6 : gd 6 = some 65 := hg 6; clear hg; go_simp; refine hK _ _ ?_; clear hK K' gd g2 g6; refine Wp.keep [1, 5, 6, 73] fun r43 hkeep => ?_; obtain ⟨e1_43, e5_43, e6_43, e73_43, -⟩ := hkeep; simp [go_sem, e1_24, e5_24, e6_24, e7_24, e8_24] at e1_43 e5_43 e6_43 e73_43; clear e1_24 e5_24 e6_24 e7_24 e8_24; refine Wp.condT (by go_simp) ?_; refine Wp.seqRegion (.inl rfl) (by kernel_rfl) fun K' gd hK hg => ?_; clear hg; go_simp; refine hK _ _ ?_; clear hK K' gd; refine Wp.keep [2] fun r44 hkeep => ?_; obtain ⟨e2_44, -⟩ := hkeep; simp [go_sem, e1_43, e5_43, e6_43, e73_43] at e2_44; clear e1_43 e5_43 e6_43 e73_43; refine Wp.ret ?_; refine thenK_ret ?_; refine blockK_ret ?_; refine thenK_ret ?_; refine thenK_ret ?_; refine blockK_ret ?_; refine thenK_ret ?_; refine endK_tmp Tryz.results25 (by decide) ?_; rw [e2_44]; obtain ⟨-, hS⟩ := hS'; exact ⟨by rw [hS, if_neg (not_not_intro k1), if_neg (not_not_intro k2), if_pos (by omega)], XE⟩
                  · skip; refine Wp.seqRegion (.inl rfl) (by kernel_rfl) fun K' gd hK hg => ?_; clear hg; go_simp; refine Wcall (.inl rfl) (withinR_F k2 _) ?_; rintro v w8 ⟨rfl, hE8⟩; have y2 := hE8.cell y2; go_simp; refine hK _ _ ?_; clear hK K' gd; refine Wp.keep [1, 5, 6, 7, 8] fun r45 hkeep => ?_; obtain ⟨e1_45, e5_45, e6_45, e7_45, e8_45, -⟩ := hkeep; simp [go_sem, e1_23, e5_23, e6_23, e7_23] at e1_45 e5_45 e6_45 e7_45 e8_45; clear e1_23 e5_23 e6_23 e7_23; refine Wp.seq ?_; refine Wp.seqRegion (.inl rfl) (by kernel_rfl) fun K' gd hK hg => ?_; have g2 : gd 2 = some 61 := hg 2; have g6 : gd 6 = some 65 := hg 6; clear hg; go_simp; refine hK _ _ ?_; clear hK K' gd g2 g6; refine Wp.keep [1, 5, 6, 73] fun r46 hkeep => ?_; obtain ⟨e1_46, e5_46, e6_46, e73_46, -⟩ := hkeep; simp [go_sem, e1_45, e5_45, e6_45, e7_45, e8_45] at e1_46 e5_46 e6_46 e73_46; clear e1_45 e5_45 e6_45 e7_45 e8_45; refine Wp.condT (by go_simp) ?_; refine Wp.seqRegion (.inl rfl) (by kernel_rfl) fun K' gd hK hg => ?_; clear hg; go_simp; refine hK _ _ ?_; clear hK K' gd; refine Wp.keep [2] fun r47 hkeep => ?_; obtain ⟨e2_47, -⟩ := hkeep; simp [go_sem, e1_46, e5_46, e6_46, e73_46] at e2_47; clear e1_46 e5_46 e6_46 e73_46; refine Wp.ret ?_; refine thenK_ret ?_; refine blockK_ret ?_; refine thenK_ret ?_; refine thenK_ret ?_; refine blockK_ret ?_; refine thenK_ret ?_; refine endK_tmp Tryz.results25 (by decide) ?_; rw [e2_47]; obtain ⟨-, hS⟩ := hS'; exact ⟨by rw [hS, if_neg (not_not_intro k1), if_pos k2], XE⟩
                · skip; refine Wp.seqRegion (.inl rfl) (by kernel_rfl) fun K' gd hK hg => ?_; clear hg; go_simp; refine Wcall (.inl rfl) (withinR_F k1 _) ?_; rintro v w7 ⟨rfl, hE7⟩; have y1 := hE7.cell y1; go_simp; refine hK _ _ ?_; clear hK K' gd; refine Wp.keep [1, 5, 6, 7] fun r48 hkeep => ?_; obtain ⟨e1_48, e5_48, e6_48, e7_48, -⟩ := hkeep; simp [go_sem, e1_22, e5_22, e6_22] at e1_48 e5_48 e6_48 e7_48; clear e1_22 e5_22 e6_22; refine Wp.seqRegion (.inl rfl) (by kernel_rfl) fun K' gd hK hg => ?_; clear hg; go_simp; refine Wcall (.inl rfl) (withinR_c r.arr 0 730 _) ?_; rintro v w8 ⟨rfl, hE8⟩; go_simp; refine hK _ _ ?_; clear hK K' gd; refine Wp.keep [1, 5, 6, 7, 8] fun r49 hkeep => ?_; obtain ⟨e1_49, e5_49, e6_49, e7_49, e8_49, -⟩ := hkeep; simp [go_sem, e1_48, e5_48, e6_48, e7_48] at e1_49 e5_49 e6_49 e7_49 e8_49; clear e1_48 e5_48 e6_48 e7_48; refine Wp.seq ?_; refine Wp.seqRegion (.inl rfl) (by kernel_rfl) fun K' gd hK hg => ?_; have g2 : gd 2 = some 61 := hg 2; have g6 : gd 6 = some 65 := hg 6; clear hg; go_simp; refine hK _ _ ?_; clear hK K' gd g2 g6; refine Wp.keep [1, 5, 6, 73] fun r50 hkeep => ?_; obtain ⟨e1_50, e5_50, e6_50, e73_50, -⟩ := hkeep; simp [go_sem, e1_49, e5_49, e6_49, e7_49, e8_49] at e1_50 e5_50 e6_50 e73_50; clear e1_49 e5_49 e6_49 e7_49 e8_49; refine Wp.condT (by go_simp) ?_; refine Wp.seqRegion (.inl rfl) (by kernel_rfl) fun K' gd hK hg => ?_; clear hg; go_simp; refine hK _ _ ?_; clear hK K' gd; refine Wp.keep [2] fun r51 hkeep => ?_; obtain ⟨e2_51, -⟩ := hkeep
                  simp [go_sem, e1_50, e5_50, e6_50, e73_50] at e2_51; clear e1_50 e5_50 e6_50 e73_50; refine Wp.ret ?_; refine thenK_ret ?_; refine blockK_ret ?_; refine thenK_ret ?_; refine thenK_ret ?_; refine blockK_ret ?_; refine thenK_ret ?_; refine endK_tmp Tryz.results25 (by decide) ?_; rw [e2_51]; obtain ⟨-, hS⟩ := hS'; exact ⟨by rw [hS, if_pos k1], XE⟩
              · refine Wp.condF (by go_simp) ?_; refine Wp.exit ?_; refine thenK_exit ?_; refine thenK_exit ?_; refine blockK_here ?_; refine thenK_normal ?_; refine Wp.seqRegion (.inl rfl) (by kernel_rfl) fun K' gd hK hg => ?_; clear hg; go_simp; refine hK _ _ ?_; clear hK K' gd; refine Wp.keep [2] fun r52 hkeep => ?_; obtain ⟨e2_52, -⟩ := hkeep; simp [go_sem, e1_21, e5_21, e45_21] at e2_52; clear e1_21 e5_21 e45_21; refine Wp.ret ?_; refine endK_tmp Tryz.results25 (by decide) ?_; rw [e2_52]; refine ⟨?_, hEn⟩; obtain ⟨-, hS⟩ := hS; rw [hS, List.drop_eq_nil_of_le (by omega)]; rfl
end Go.Proofs.YtnfagcccgmakdaaGreat
namespace Go.Proofs.YtnfagcccgmakdaaGreat
open Go.RowKit Go.Wk Go.Proofs
attribute [local irreducible] Go.Wk.Wops Go.Wk.Wp Go.Wk.Mtree Go.Wk.Mops
set_option maxHeartbeats 4000000
def FewP (o : Ord) : Prop := (o.cop.length ≤ 30 ∧ o.runs.length ≤ 30 ∧ ∀ r ∈ o.runs, r.takes.length ≤ 30) ∧ ((o.cop.length ≤ 6 ∧ o.runs.length ≤ 6) ∨ checkS o ≠ 0)
instance (o : Ord) : Decidable (FewP o) := inferInstanceAs (Decidable (_ ∧ _))
theorem few_c (v : Value) (o : Ord) (w : World) (hV : OrderV w w.heap.size v o) (hf : Fits o) :
    CallsV Tryz.prog 10 #[v] w fun v w' => v = .bool (decide (FewP o)) ∧ Ext w w' := by
  obtain ⟨cv, rv, rfl, hc, hr⟩ := id hV; obtain ⟨cA, cc, rfl, -⟩ := id hc; obtain ⟨rA, rc, -, rfl, -⟩ := id hr; refine Wp.fn Tryz.func10 rfl Tryz.ntmps10 (by simp) ?_; refine Wp.keep [0] fun r1 hkeep => ?_; obtain ⟨e0_1, -⟩ := hkeep; simp [go_sem] at e0_1
  by_cases g1 : (30 : Int) < (o.cop.length : Int)
  · skip; refine Wp.seqRegion (.inl rfl) (by kernel_rfl) fun K' gd hK hg => ?_; clear hg; go_simp; refine hK _ _ ?_; clear hK K' gd; refine Wp.keep [1] fun r2 hkeep => ?_; obtain ⟨e1_2, -⟩ := hkeep; simp [go_sem, e0_1] at e1_2; clear e0_1; refine Wp.seq ?_; refine Wp.seqRegion (.inl rfl) (by kernel_rfl) fun K' gd hK hg => ?_; have g4 : gd 4 = some 8 := hg 4; clear hg; go_simp; refine hK _ _ ?_; clear hK K' gd g4; refine Wp.keep [1, 13] fun r3 hkeep => ?_; obtain ⟨e1_3, e13_3, -⟩ := hkeep; simp [go_sem, e1_2] at e1_3 e13_3; clear e1_2; refine Wp.condT (by go_simp) ?_; refine Wp.seqRegion (.inl rfl) (by kernel_rfl) fun K' gd hK hg => ?_; clear hg; go_simp; refine hK _ _ ?_; clear hK K' gd; refine Wp.keep [2] fun r4 hkeep => ?_; obtain ⟨e2_4, -⟩ := hkeep; simp [go_sem, e1_3, e13_3] at e2_4; clear e1_3 e13_3; refine Wp.ret ?_; refine thenK_ret ?_; refine endK_tmp Tryz.results10 (by decide) ?_; rw [e2_4]; refine ⟨?_, XE⟩; rw [decide_eq_false (fun h : FewP o => by have := h.1.1; omega)]
  · skip
    by_cases g2 : (30 : Int) < (o.runs.length : Int)
    · skip; refine Wp.seqRegion (.inl rfl) (by kernel_rfl) fun K' gd hK hg => ?_; clear hg; go_simp; refine hK _ _ ?_; clear hK K' gd; refine Wp.keep [1] fun r5 hkeep => ?_; obtain ⟨e1_5, -⟩ := hkeep; simp [go_sem, e0_1] at e1_5; clear e0_1; refine Wp.seq ?_; refine Wp.seqRegion (.inl rfl) (by kernel_rfl) fun K' gd hK hg => ?_; have g4 : gd 4 = some 8 := hg 4; clear hg; go_simp; refine hK _ _ ?_; clear hK K' gd g4; refine Wp.keep [1, 13] fun r6 hkeep => ?_; obtain ⟨e1_6, e13_6, -⟩ := hkeep; simp [go_sem, e1_5] at e1_6 e13_6; clear e1_5; refine Wp.condT (by go_simp) ?_; refine Wp.seqRegion (.inl rfl) (by kernel_rfl) fun K' gd hK hg => ?_; clear hg; go_simp; refine hK _ _ ?_; clear hK K' gd; refine Wp.keep [2] fun r7 hkeep => ?_; obtain ⟨e2_7, -⟩ := hkeep; simp [go_sem, e1_6, e13_6] at e2_7; clear e1_6 e13_6; refine Wp.ret ?_; refine thenK_ret ?_; refine endK_tmp Tryz.results10 (by decide) ?_; rw [e2_7]; refine ⟨?_, XE⟩; rw [decide_eq_false (fun h : FewP o => by have := h.1.2.1; omega)]
    · skip; refine Wp.seqRegion (.inl rfl) (by kernel_rfl) fun K' gd hK hg => ?_; clear hg; go_simp; refine hK _ _ ?_; clear hK K' gd; refine Wp.keep [1] fun r8 hkeep => ?_; obtain ⟨e1_8, -⟩ := hkeep; simp [go_sem, e0_1] at e1_8; clear e0_1; refine Wp.seq ?_; refine Wp.seqRegion (.inl rfl) (by kernel_rfl) fun K' gd hK hg => ?_; have g4 : gd 4 = some 8 := hg 4; clear hg; go_simp; refine hK _ _ ?_; clear hK K' gd g4; refine Wp.keep [1, 13] fun r9 hkeep => ?_; obtain ⟨e1_9, e13_9, -⟩ := hkeep; simp [go_sem, e1_8] at e1_9 e13_9; clear e1_8; refine Wp.condF (by go_simp) ?_; refine Wp.skip ?_; refine thenK_normal ?_; refine Wp.seq ?_; refine Wp.seqRegion (.inl rfl) (by kernel_rfl) fun K' gd hK hg => ?_; clear hg; go_simp; refine hK _ _ ?_; clear hK K' gd; refine Wp.keep [1, 3] fun r10 hkeep => ?_; obtain ⟨e1_10, e3_10, -⟩ := hkeep; simp [go_sem, e1_9, e13_9] at e1_10 e3_10; clear e1_9 e13_9; refine Wp.block ?_; refine Wp.loop (fun i ρ ds wi => AllEq [1] ρ r10 ∧ ds = [] ∧ (ρ 3 = .int .i64 (i : Int) ∧ Ext w wi ∧ wi.cell? ⟨w.heap.size, 0, none⟩ = some (.slice cA o.cop.length cc) ∧ wi.cell? ⟨w.heap.size, 1, none⟩ = some (.slice rA o.runs.length rc) ∧ (∀ q (hq : q < o.runs.length), q < i → o.runs[q].takes.length ≤ 30))) (o.runs.length) ?_ ?_
      · refine ⟨AllEq.refl _ _, rfl, ?_⟩; exact ⟨by rw [e3_10]; rfl, XE, by go_simp, by go_simp, fun q _ h => absurd h (Nat.not_lt_zero _)⟩
      · rintro i r11 _ wi hi ⟨hA, rfl, ⟨e3, hEi, x0, x1, hq⟩⟩; obtain ⟨e1_11, -⟩ := hA; rw [e1_10] at e1_11; refine Wp.seq ?_; refine Wp.seqRegion (.inl rfl) (by kernel_rfl) fun K' gd hK hg => ?_; clear hg; go_simp; refine hK _ _ ?_; clear hK K' gd; refine Wp.keep [1, 3, 18] fun r12 hkeep => ?_; obtain ⟨e1_12, e3_12, e18_12, -⟩ := hkeep; simp [go_sem, e1_11, e3] at e1_12 e3_12 e18_12; clear e1_11 e3
        by_cases h : i < o.runs.length
        · refine Wp.condT (by go_simp) ?_; obtain ⟨b, ob, tA, tc, rfl, -, -, d2, hI⟩ := hr.at h; obtain ⟨r, hre⟩ : ∃ r, o.runs[i] = r := ⟨_, rfl⟩; have hre2 : ∃ _u : Unit, o.runs[i] = r := ⟨(), hre⟩; rw [hre] at d2 hI; clear hre; have d2 := hEi.cell d2; have b3 : (i : Int) < (o.runs.length : Int) := by omega
          refine Wp.skip ?_; refine thenK_normal ?_; refine Wp.seq ?_; refine Wp.block ?_; refine Wp.seqRegion (.inl rfl) (by kernel_rfl) fun K' gd hK hg => ?_; clear hg; go_simp; refine hK _ _ ?_; clear hK K' gd; refine Wp.keep [1, 3, 28] fun r13 hkeep => ?_; obtain ⟨e1_13, e3_13, e28_13, -⟩ := hkeep; simp [go_sem, e1_12, e3_12, e18_12] at e1_13 e3_13 e28_13; clear e1_12 e3_12 e18_12
          by_cases hk : (30 : Int) < (r.takes.length : Int)
          · refine Wp.condT (by go_simp) ?_; refine Wp.seqRegion (.inl rfl) (by kernel_rfl) fun K' gd hK hg => ?_; clear hg; go_simp; refine hK _ _ ?_; clear hK K' gd; refine Wp.keep [2] fun r14 hkeep => ?_; obtain ⟨e2_14, -⟩ := hkeep; simp [go_sem, e1_13, e3_13, e28_13] at e2_14; clear e1_13 e3_13 e28_13; refine Wp.ret ?_; refine blockK_ret ?_; refine thenK_ret ?_; refine thenK_ret ?_; refine blockK_ret ?_; refine thenK_ret ?_; refine endK_tmp Tryz.results10 (by decide) ?_; rw [e2_14]; refine ⟨?_, XE⟩; obtain ⟨-, hre⟩ := hre2; rw [decide_eq_false (fun h' : FewP o => by have := h'.1.2.2 _ (List.getElem_mem h); rw [hre] at this; omega)]
          · refine Wp.condF (by go_simp) ?_; refine Wp.skip ?_; refine blockK_normal ?_; refine thenK_normal ?_; refine Wp.loneRegion (.inl rfl) (by kernel_rfl) fun K' gd hK hg => ?_; clear hg; go_simp; refine hK _ _ ?_; clear hK K' gd; refine Ends.keep [1, 3] fun r15 hkeep => ?_; obtain ⟨e1_15, e3_15, -⟩ := hkeep; simp [go_sem, e1_13, e3_13, e28_13] at e1_15 e3_15; clear e1_13 e3_13 e28_13; refine Ends.mk ?_; refine thenK_normal ⟨by omega, ⟨by rw [e1_15, e1_10], trivial⟩, rfl, ?_⟩; refine ⟨by rw [e3_15, IntWalk.i64_in _ (by omega)]; rfl, XE, x0, x1, fun q hq' hqi => ?_⟩; obtain ⟨-, hre⟩ := hre2
            by_cases e : q = i
            · subst e; rw [hre]; omega
            · exact hq q hq' (by omega)
        · refine Wp.condF (by go_simp) ?_; have hall : ∀ r ∈ o.runs, r.takes.length ≤ 30 := fun r hrm => (by obtain ⟨q, hq', rfl⟩ := List.getElem_of_mem hrm; exact hq q hq' (by omega)); clear hq
          by_cases k1 : (o.cop.length : Int) ≤ 6
          · skip
            by_cases k2 : (o.runs.length : Int) ≤ 6
            · skip; refine Wp.exit ?_; refine thenK_exit ?_; refine thenK_exit ?_; refine blockK_here ?_; refine thenK_normal ?_; refine Wp.seqRegion (.inl rfl) (by kernel_rfl) fun K' gd hK hg => ?_; have g4 : gd 4 = some 33 := hg 4; have g10 : gd 10 = some 39 := hg 10; clear hg; go_simp; refine hK _ _ ?_; clear hK K' gd g4 g10; refine Wp.keep [2] fun r16 hkeep => ?_; obtain ⟨e2_16, -⟩ := hkeep; simp [go_sem, e1_12, e3_12, e18_12] at e2_16; clear e1_12 e3_12 e18_12; refine Wp.ret ?_; refine endK_tmp Tryz.results10 (by decide) ?_; rw [e2_16]; refine ⟨?_, hEi⟩; rw [decide_eq_true (show FewP o from ⟨⟨by omega, by omega, hall⟩, .inl ⟨by omega, by omega⟩⟩)]
            · skip; refine Wp.exit ?_; refine thenK_exit ?_; refine thenK_exit ?_; refine blockK_here ?_; refine thenK_normal ?_; refine Wp.seqRegion (.inl rfl) (by kernel_rfl) fun K' gd hK hg => ?_; have g4 : gd 4 = some 33 := hg 4; have g10 : gd 10 = some 39 := hg 10; clear hg; go_simp; refine Wcall (.inl rfl) (refCheck_c _ o _ (hV.ext XE) hf) ?_; rintro v w2 ⟨rfl, hE2⟩; go_simp; refine hK _ _ ?_; clear hK K' gd g4 g10; refine Wp.keep [2] fun r17 hkeep => ?_; obtain ⟨e2_17, -⟩ := hkeep; simp [go_sem, e1_12, e3_12, e18_12] at e2_17; clear e1_12 e3_12 e18_12; refine Wp.ret ?_; refine endK_tmp Tryz.results10 (by decide) ?_; rw [e2_17]; refine ⟨?_, XE⟩
              congr 1
              rw [Bool.eq_iff_iff, decide_eq_true_iff]
              constructor
              · intro e; exact ⟨⟨by omega, by omega, hall⟩, .inr (by simpa using e)⟩
              · rintro ⟨-, h' | h'⟩
                · omega
                · simpa using h'
          · skip; refine Wp.exit ?_; refine thenK_exit ?_; refine thenK_exit ?_; refine blockK_here ?_; refine thenK_normal ?_; refine Wp.seqRegion (.inl rfl) (by kernel_rfl) fun K' gd hK hg => ?_; have g4 : gd 4 = some 33 := hg 4; have g10 : gd 10 = some 39 := hg 10; clear hg; go_simp; refine Wcall (.inl rfl) (refCheck_c _ o _ (hV.ext XE) hf) ?_; rintro v w2 ⟨rfl, hE2⟩; go_simp; refine hK _ _ ?_; clear hK K' gd g4 g10; refine Wp.keep [2] fun r18 hkeep => ?_; obtain ⟨e2_18, -⟩ := hkeep; simp [go_sem, e1_12, e3_12, e18_12] at e2_18; clear e1_12 e3_12 e18_12; refine Wp.ret ?_; refine endK_tmp Tryz.results10 (by decide) ?_; rw [e2_18]; refine ⟨?_, XE⟩
            congr 1
            rw [Bool.eq_iff_iff, decide_eq_true_iff]
            constructor
            · intro e; exact ⟨⟨by omega, by omega, hall⟩, .inr (by simpa using e)⟩
            · rintro ⟨-, h' | h'⟩
              · omega
              · simpa using h'
theorem few_T {v : Value} {o : Ord} (hs : FewP o) (w : World) (hV : OrderV w w.heap.size v o) (hf : Fits o) : CallsV Tryz.prog 10 #[v] w fun v w' => v = .bool true ∧ Ext w w' :=
  (few_c v o w hV hf).mono fun _ _ ⟨h1, h3⟩ => by rw [decide_eq_true hs] at h1; exact ⟨h1, h3⟩
theorem few_F {v : Value} {o : Ord} (hs : ¬ FewP o) (w : World) (hV : OrderV w w.heap.size v o) (hf : Fits o) : CallsV Tryz.prog 10 #[v] w fun v w' => v = .bool false ∧ Ext w w' :=
  (few_c v o w hV hf).mono fun _ _ ⟨h1, h3⟩ => by rw [decide_eq_false hs] at h1; exact ⟨h1, h3⟩
end Go.Proofs.YtnfagcccgmakdaaGreat
namespace Go.Proofs.YtnfagcccgmakdaaGreat
open Go.RowKit Go.Wk Go.Proofs
attribute [local irreducible] Go.Wk.Wops Go.Wk.Wp Go.Wk.Mtree Go.Wk.Mops
set_option maxHeartbeats 4000000
def HoldW (w : World) (v : Value) (H : List (Nat × Nat)) : Prop := ∃ A c, v = .slice A H.length c ∧ ∀ k x, H[k]? = some x → ∃ b ob, A = some ⟨b, ob, none⟩ ∧ w.cell? ⟨b, ob + k * 2, none⟩ = some (.int .i64 (x.1 : Int)) ∧ w.cell? ⟨b, ob + k * 2 + 1, none⟩ = some (.int .i64 (x.2 : Int))
theorem HoldW.of {w : World} {B : Nat} {v : Value} {H : List (Nat × Nat)} (h : StintsV w B v (H.map zS)) : HoldW w v H := by
  obtain ⟨A, c, rfl, hx, -⟩ := h; refine ⟨A, c, by rw [List.length_map], fun k x hk => ?_⟩; obtain ⟨hl, he⟩ := List.getElem?_eq_some_iff.1 hk; obtain ⟨b, ob, h1, h2, h3⟩ := hx (by intro e; rw [List.map_eq_nil_iff] at e; rw [e] at hl; exact absurd hl (Nat.not_lt_zero _)); obtain ⟨h4, h5⟩ := h3 k (by rw [List.length_map]; exact hl); rw [List.getElem_map, he] at h4 h5; exact ⟨b, ob, h1, h4, h5⟩
theorem HoldW.ext {w w' : World} {v : Value} {H : List (Nat × Nat)} (h : HoldW w v H) (hE : Ext w w') : HoldW w' v H := by
  obtain ⟨A, c, h1, h2⟩ := h; refine ⟨A, c, h1, fun k x hk => ?_⟩; obtain ⟨b, ob, h3, h4, h5⟩ := h2 k x hk; exact ⟨b, ob, h3, hE.cell h4, hE.cell h5⟩
theorem own_set {w : World} {base e size n b k : Nat} {v u : Value} {xs : List Value} (h : w.ownsRow base e size v n xs) (hb : b < base) : (w.setCell ⟨b, k, none⟩ u).ownsRow base e size v n xs := by
  refine ownsRow_setCell_other h ?_ _; intro hv
  rcases h.2 with ⟨rfl, -⟩ | ⟨g, cap, cur, rfl, hg, -⟩
  · cases hv
  · have e : g = b := Option.some.inj hv; omega
end Go.Proofs.YtnfagcccgmakdaaGreat
namespace Go.Proofs.YtnfagcccgmakdaaGreat
open Go.RowKit Go.Wk Go.Proofs
attribute [local irreducible] Go.Wk.Wops Go.Wk.Wp Go.Wk.Mtree Go.Wk.Mops
set_option maxHeartbeats 4000000
end Go.Proofs.YtnfagcccgmakdaaGreat
namespace Go.Proofs.YtnfagcccgmakdaaGreat
open Go.RowKit Go.Wk Go.Proofs
attribute [local irreducible] Go.Wk.Wops Go.Wk.Wp Go.Wk.Mtree Go.Wk.Mops
set_option maxHeartbeats 4000000
theorem endT_ok {o : Ord} (ho : OrdOk o) (k : Nat) : 0 ≤ mostL o (begA o) 0 ((stintsL o.n o.m).take k) ∧ mostL o (begA o) 0 ((stintsL o.n o.m).take k) ≤ 4000 := by
  refine ⟨mostL_ge, mostL_le (by omega) fun x hx => ?_⟩; obtain ⟨h1, h2⟩ := stintsL_mem.1 (List.mem_of_mem_take hx); have e1 := begA_ok ho h1 h2; have e2 := ho.vT x.1 x.2 h1 h2; omega
theorem endR_c (a : OA) (o : Ord) (w : World) (hO : OrdF w w.heap.size a o) :
    CallsV Tryz.prog 73 #[.agg #[a.cv o, a.rv o]] w fun v w' => v = .int .i64 (endS o) ∧ Ext w w' := by
  have ho := hO.ok; have hm := hO.hm2; have hm1 := hO.hm1; have hn := hO.hn2; simp only [OA.cv, OA.rv]; refine Wp.fn Tryz.func73 rfl Tryz.ntmps73 (by simp) ?_; refine Wp.keep [0] fun r1 hkeep => ?_; obtain ⟨e0_1, -⟩ := hkeep; simp [go_sem] at e0_1; have x0 := cell_nn w #[.slice (some ⟨a.cb, a.co, none⟩) o.m a.cc, .slice a.rA o.n a.rc] 25 0 rfl (v := .slice (some ⟨a.cb, a.co, none⟩) o.m a.cc) rfl; have x1 := cell_nn w #[.slice (some ⟨a.cb, a.co, none⟩) o.m a.cc, .slice a.rA o.n a.rc] 25 1 rfl (v := .slice a.rA o.n a.rc) rfl; have hEV : Ext w (w.alloc (.cells #[.slice (some ⟨a.cb, a.co, none⟩) o.m a.cc, .slice a.rA o.n a.rc] 25)) := XE; refine Wp.seqRegion (.inl rfl) (by kernel_rfl) fun K' gd hK hg => ?_; clear hg; go_simp; refine hK _ _ ?_; clear hK K' gd; refine Wp.keep [1] fun r2 hkeep => ?_; obtain ⟨e1_2, -⟩ := hkeep; simp [go_sem, e0_1] at e1_2; clear e0_1
  generalize w.alloc (.cells #[.slice (some ⟨a.cb, a.co, none⟩) o.m a.cc, .slice a.rA o.n a.rc] 25) = V at *
  have hOV := hO.ext hEV; refine Wp.seqRegion (.inl rfl) (by kernel_rfl) fun K' gd hK hg => ?_; clear hg; go_simp; refine Wcall (.inl rfl) (timesR_c a o _ hOV) ?_; rintro v3 w2 ⟨hT, hE2⟩; have x0 := hE2.cell x0; have x1 := hE2.cell x1; have hT := hT.tabV; go_simp; refine hK _ _ ?_; clear hK K' gd; refine Wp.keep [1, 3] fun r3 hkeep => ?_; obtain ⟨e1_3, e3_3, -⟩ := hkeep; simp [go_sem, e1_2] at e1_3 e3_3; clear e1_2; refine Wp.seqRegion (.inl rfl) (by kernel_rfl) fun K' gd hK hg => ?_; clear hg; go_simp; refine Wcall (.inl rfl) (stintsR_c _ _ o.n o.m _ _ _ (by omega) (by omega)) ?_; rintro v4 w3 ⟨hL, hE3⟩; have x0 := hE3.cell x0; have x1 := hE3.cell x1; have hT := hT.ext hE3; obtain ⟨AL, cL, rfl, hHc⟩ := HoldW.of hL.stintsV; go_simp; refine hK _ _ ?_; clear hK K' gd; refine Wp.keep [1, 3, 4] fun r4 hkeep => ?_; obtain ⟨e1_4, e3_4, e4_4, -⟩ := hkeep; simp [go_sem, e1_3, e3_3] at e1_4 e3_4 e4_4; clear e1_3 e3_3; have hO3 := hOV.ext (Ext.trans hE2 hE3); have hEw3 : Ext w w3 := Ext.trans hEV (Ext.trans hE2 hE3); obtain ⟨L, hLe⟩ : ∃ L, stintsL o.n o.m = L := ⟨_, rfl⟩; have hLm : ∀ x ∈ L, x.1 < o.n ∧ x.2 < o.m := fun x hx => stintsL_mem.1 (by rw [hLe]; exact hx); have hLl : L.length ≤ 300 := by (rw [← hLe, stintsL_len]; have := Nat.mul_le_mul hn hm; omega)
  have htk := endT_ok ho; rw [hLe] at hHc e4_4 htk; have hend : ∃ _u : Unit, endS o = mostL o (begA o) 0 L := ⟨(), by rw [← hLe]; rfl⟩; clear hLe hE2 hE3 hEV hL; refine Wp.seqRegion (.inl rfl) (by kernel_rfl) fun K' gd hK hg => ?_; clear hg; go_simp; refine hK _ _ ?_; clear hK K' gd; refine Wp.keep [1, 3, 4, 5] fun r5 hkeep => ?_; obtain ⟨e1_5, e3_5, e4_5, e5_5, -⟩ := hkeep; simp [go_sem, e1_4, e3_4, e4_4] at e1_5 e3_5 e4_5 e5_5; clear e1_4 e3_4 e4_4; refine Wp.seq ?_; refine Wp.seqRegion (.inl rfl) (by kernel_rfl) fun K' gd hK hg => ?_; clear hg; go_simp; refine hK _ _ ?_; clear hK K' gd; refine Wp.keep [1, 3, 4, 5, 6] fun r6 hkeep => ?_; obtain ⟨e1_6, e3_6, e4_6, e5_6, e6_6, -⟩ := hkeep; simp [go_sem, e1_5, e3_5, e4_5, e5_5] at e1_6 e3_6 e4_6 e5_6 e6_6; clear e1_5 e3_5 e4_5 e5_5; refine Wp.block ?_; refine Wp.loop (fun i ρ ds wi => AllEq [1, 3, 4] ρ r6 ∧ ds = [] ∧ (ρ 6 = .int .i64 (i : Int) ∧ ρ 5 = .int .i64 (mostL o (begA o) 0 (L.take i)) ∧ Ext w3 wi)) (L.length) ?_ ?_
  · refine ⟨AllEq.refl _ _, rfl, ?_⟩; exact ⟨by rw [e6_6]; rfl, by rw [e5_6]; rfl, Ext.refl _⟩
  · rintro i r7 _ wi hi ⟨hA, rfl, ⟨e6, e5, hEi⟩⟩; obtain ⟨e1_7, e3_7, e4_7, -⟩ := hA; rw [e1_6] at e1_7; rw [e3_6] at e3_7; rw [e4_6] at e4_7; refine Wp.seq ?_; refine Wp.seqRegion (.inl rfl) (by kernel_rfl) fun K' gd hK hg => ?_; clear hg; go_simp; refine hK _ _ ?_; clear hK K' gd; refine Wp.keep [1, 3, 4, 5, 6, 14] fun r8 hkeep => ?_; obtain ⟨e1_8, e3_8, e4_8, e5_8, e6_8, e14_8, -⟩ := hkeep; simp [go_sem, e1_7, e3_7, e4_7, e5, e6] at e1_8 e3_8 e4_8 e5_8 e6_8 e14_8; clear e1_7 e3_7 e4_7 e5 e6
    by_cases h : i < L.length
    · refine Wp.condT (by go_simp) ?_; obtain ⟨x, hx⟩ : ∃ x, L[i]? = some x := ⟨_, List.getElem?_eq_getElem h⟩; obtain ⟨b1, o1, rfl, d1, d2⟩ := hHc i x hx; obtain ⟨hx1, hx2⟩ := hLm x (List.mem_of_getElem? hx); have d1 := hEi.cell d1; have d2 := hEi.cell d2; have b3 : (i : Int) < (L.length : Int) := by omega
      obtain ⟨bt, obt, ct, rbt, rot, rct, rfl, hG⟩ := tabG_of hT (by omega) (by omega); have g1 := (hG.ext hEi).row x.1 hx1; have g2 := (hG.ext hEi).cell x.1 x.2 hx1 hx2; have b4 : ((x.1 : Nat) : Int) < (o.n : Int) := by omega
      have b5 : ((x.2 : Nat) : Int) < (o.m : Int) := by omega
      have hb := begA_ok ho hx1 hx2; have hTx := ho.vT x.1 x.2 hx1 hx2; have z0 := hEi.cell x0; have z1 := hEi.cell x1; have hmt := mostL_take o (begA o) 0 L hx; have hti := htk i; obtain ⟨D, hD⟩ : ∃ D, mostL o (begA o) 0 (L.take i) = D := ⟨_, rfl⟩; rw [hD] at hmt hti e5_8; have hmt2 : ∃ _u : Unit, mostL o (begA o) 0 (L.take (i + 1)) = max D (begA o x.1 x.2 + o.T x.1 x.2) := ⟨(), hmt⟩; clear hmt hD; have hws : IntKind.i64.wrap (begA o x.1 x.2 + o.T x.1 x.2) = begA o x.1 x.2 + o.T x.1 x.2 := IntWalk.i64_in _ (by omega); refine Wp.skip ?_; refine thenK_normal ?_; refine Wp.seq ?_; refine Wp.block ?_; refine Wp.loneDraw (.inl rfl) mixed [([0, 1, 2, 3, 4], none), ([5, 6, 7, 8, 9], none), ([10, 11, 12, 13, 14], none), ([15, 16, 17, 18, 19], none), ([20], some (21, false)), ([22, 23, 24], none)] (by kernel_rfl) fun K' gd hK hg => ?_; clear hg; simp only [pick, nth, List.map_cons, List.map_nil, Option.map_none, Option.map_some]; apply Mops.none
      · intro w' hE'; have hC' := hE'.cellsS; go_simp; with_reducible rfl
      apply Mops.none
      · intro w' hE'; have hC' := hE'.cellsS; go_simp; with_reducible rfl
      apply Mops.none
      · intro w' hE'; have hC' := hE'.cellsS; go_simp; with_reducible rfl
      apply Mops.none
      · intro w' hE'; have hC' := hE'.cellsS; go_simp; with_reducible rfl
      apply Mops.act
      · intro w' hE'; have hC' := hE'.cellsS; go_simp; with_reducible rfl
      intro K1 hK1; go_simp; refine Wcall (.inl rfl) (takesR_c a o x.1 x.2 _ ((hO3.ext hEi).ext XE) hx1 hx2) ?_; rintro v w4 ⟨rfl, hE4⟩; go_simp; refine hK1 _ _ (XR) ?_; clear hK1 K1; apply Mops.none
      · intro w' hE'; have hC' := hE'.cellsS; go_simp; with_reducible rfl
      refine Mops.done ?_; refine hK _ _ ?_; clear hK K' gd; refine Ends.keep [1, 3, 4, 5, 6] fun r9 hkeep => ?_; obtain ⟨e1_9, e3_9, e4_9, e5_9, e6_9, -⟩ := hkeep; simp [go_sem, e1_8, e3_8, e4_8, e5_8, e6_8, e14_8] at e1_9 e3_9 e4_9 e5_9 e6_9; clear e1_8 e3_8 e4_8 e5_8 e6_8 e14_8; refine Ends.mk ?_; refine blockK_normal ?_; refine thenK_normal ?_; refine Wp.loneRegion (.inl rfl) (by kernel_rfl) fun K' gd hK hg => ?_; clear hg; go_simp; refine hK _ _ ?_; clear hK K' gd; refine Ends.keep [1, 3, 4, 5, 6] fun r10 hkeep => ?_; obtain ⟨e1_10, e3_10, e4_10, e5_10, e6_10, -⟩ := hkeep; simp [go_sem, e1_9, e3_9, e4_9, e5_9, e6_9] at e1_10 e3_10 e4_10 e5_10 e6_10; clear e1_9 e3_9 e4_9 e5_9 e6_9; refine Ends.mk ?_; refine thenK_normal ⟨by omega, ⟨by rw [e1_10, e1_6], by rw [e3_10, e3_6], by rw [e4_10, e4_6], trivial⟩, rfl, ?_⟩; refine ⟨by rw [e6_10, IntWalk.i64_in _ (by omega)]; rfl, ?_, XE⟩; obtain ⟨-, hmt⟩ := hmt2; rw [hmt, e5_10]
      congr 1
      first | omega | (split <;> omega)
    · refine Wp.condF (by go_simp) ?_; obtain rfl : i = L.length := by omega
      rw [List.take_length] at e5_8; refine Wp.exit ?_; refine thenK_exit ?_; refine thenK_exit ?_; refine blockK_here ?_; refine thenK_normal ?_; refine Wp.seqRegion (.inl rfl) (by kernel_rfl) fun K' gd hK hg => ?_; clear hg; go_simp; refine hK _ _ ?_; clear hK K' gd; refine Wp.keep [2] fun r11 hkeep => ?_; obtain ⟨e2_11, -⟩ := hkeep; simp [go_sem, e1_8, e3_8, e4_8, e5_8, e6_8, e14_8] at e2_11; clear e1_8 e3_8 e4_8 e5_8 e6_8 e14_8; refine Wp.ret ?_; refine endK_tmp Tryz.results73 (by decide) ?_; rw [e2_11]; obtain ⟨-, hend⟩ := hend; exact ⟨by rw [hend], XE⟩
end Go.Proofs.YtnfagcccgmakdaaGreat
namespace Go.Proofs.YtnfagcccgmakdaaGreat
open Go.RowKit Go.Wk Go.Proofs
attribute [local irreducible] Go.Wk.Wops Go.Wk.Wp Go.Wk.Mtree Go.Wk.Mops
set_option maxHeartbeats 4000000
end Go.Proofs.YtnfagcccgmakdaaGreat
namespace Go.Proofs.YtnfagcccgmakdaaGreat
open Go.RowKit Go.Wk Go.Proofs
attribute [local irreducible] Go.Wk.Wops Go.Wk.Wp Go.Wk.Mtree Go.Wk.Mops
set_option maxHeartbeats 4000000
end Go.Proofs.YtnfagcccgmakdaaGreat
namespace Go.Proofs.YtnfagcccgmakdaaGreat
open Go.RowKit Go.Wk Go.Proofs
attribute [local irreducible] Go.Wk.Wops Go.Wk.Wp Go.Wk.Mtree Go.Wk.Mops
set_option maxHeartbeats 4000000
structure CopyG (w : World) (base : Nat) (a : OA) (o : Ord) : Prop where
  ord : OrdF w w.heap.size a o
  rC : RowB w a.cb 3 a.cc
  rR : 0 < o.n → RowB w a.rb 103 (a.rc * 3)
  rT : ∀ i, i < o.n → RowB w (a.tb i) 3 (a.tc i)
  zC : a.co = 0
  zR : a.ro = 0
  zT : ∀ i, i < o.n → a.to_ i = 0
  gC : base ≤ a.cb
  gR : 0 < o.n → base ≤ a.rb
  gT : ∀ i, i < o.n → base ≤ a.tb i
  ne : ∀ i, i < o.n → a.tb i ≠ a.cb
  inj : ∀ i j, i < o.n → j < o.n → a.tb i = a.tb j → i = j
def cOA (tb tc : Nat → Nat) : OA := ⟨0, 0, 0, none, 0, 0, 0, tb, fun _ => 0, tc⟩
structure CopJ (w wk : World) (S : Nat) (o : Ord) (b3 cb cc : Nat) (tb tc : Nat → Nat) (v : Value) (k : Nat) : Prop where
  ext : Ext w wk
  size : S ≤ wk.heap.size
  q2 : wk.cell? ⟨w.heap.size + 1, 0, none⟩ = some (.slice none 0 0) ∧ wk.cell? ⟨w.heap.size + 1, 1, none⟩ = some (.slice none 0 0) ∧ ∀ k, wk.frozen? ⟨w.heap.size + 1, k, none⟩ = false
  c0 : wk.cell? ⟨b3, 0, none⟩ = some (.slice (some ⟨cb, 0, none⟩) o.m cc)
  c1 : wk.cell? ⟨b3, 1, none⟩ = some v
  fz : ∀ k, wk.frozen? ⟨b3, k, none⟩ = false
  rC : RowB wk cb 3 cc
  cC : ∀ j, j < o.m → wk.cell? ⟨cb, j, none⟩ = some (.int .i64 (o.C j))
  own : wk.ownsRow S 103 3 v k (rcL (cOA tb tc) o id k)
  rT : ∀ i, i < k → RowB wk (tb i) 3 (tc i)
  cTT : ∀ i j, i < k → j < o.m → wk.cell? ⟨tb i, j, none⟩ = some (.int .i64 (o.T i j))
  cap : ∀ i, i < k → o.m ≤ tc i
  gT : ∀ i, i < k → S ≤ tb i
  up : ∀ i j, i < j → j < k → tb i < tb j
theorem CopJ.more {w wk w3 : World} {S : Nat} {o : Ord} {b3 cb cc : Nat} {tb tc : Nat → Nat} {v : Value} {k : Nat} (h : CopJ w wk S o b3 cb cc tb tc v k) (hE : Ext wk w3) : CopJ w w3 S o b3 cb cc tb tc v k := by
  have hb : b3 < wk.heap.size := cell_lt h.c0; have hr : w.heap.size + 1 < wk.heap.size := cell_lt h.q2.1; exact ⟨Below.trans h.ext (Below.mono hE h.ext.size), Nat.le_trans h.size hE.size, ⟨hE.cell h.q2.1, hE.cell h.q2.2.1, fz_ext hE hr h.q2.2.2⟩, hE.cell h.c0, hE.cell h.c1, fz_ext hE hb h.fz, h.rC.ext hE, fun j hj => hE.cell (h.cC j hj), ownsRow_ext h.own hE, fun i hi => (h.rT i hi).ext hE, fun i j hi hj => hE.cell (h.cTT i j hi hj), h.cap, h.gT, h.up⟩
theorem rcL_same {o : Ord} {tb tc tb' tc' : Nat → Nat} : ∀ k, (∀ i, i < k → tb i = tb' i ∧ tc i = tc' i) → rcL (cOA tb tc) o id k = rcL (cOA tb' tc') o id k
  | 0, _ => rfl
  | k + 1, h => by
    rw [rcL_succ, rcL_succ, rcL_same k (fun i hi => h i (by omega))]; obtain ⟨h1, h2⟩ := h k (Nat.lt_succ_self _)
    congr 1
    show [_, _, Value.slice (some ⟨tb k, 0, none⟩) o.m (tc k)] = [_, _, Value.slice (some ⟨tb' k, 0, none⟩) o.m (tc' k)]
    rw [h1, h2]
theorem CopJ.step {w w3 w4 : World} {S : Nat} {o : Ord} {b3 cb cc g c : Nat} {tb tc : Nat → Nat} {v v' : Value} {k : Nat} (h : CopJ w w3 S o b3 cb cc tb tc v k) (h3 : b3 < S) (h1 : w.heap.size + 1 < S) (h31 : w.heap.size + 1 < b3)
    (hg : RowB w3 g 3 c) (hgc : ∀ j, j < o.m → w3.cell? ⟨g, j, none⟩ = some (.int .i64 (o.T k j))) (hcap : o.m ≤ c) (hgS : S ≤ g) (hup : ∀ i, i < k → tb i < g)
    (hown : w4.ownsRow S 103 3 v' (k + 1) (rcL (cOA tb tc) o id k ++ [.int .i64 (o.ID k), .int .i64 (o.A k), .slice (some ⟨g, 0, none⟩) o.m c])) (hgr : w3.grownBy w4 v.ownBlock) (hcS : cb < S) (h3c : cb ≠ b3) :
    CopJ w (w4.setCell ⟨b3, 1, none⟩ v') S o b3 cb cc (fun i => if i = k then g else tb i) (fun i => if i = k then c else tc i) v' (k + 1) := by
  have nv : ∀ b, b < S → v.ownBlock ≠ some b := fun b hb e => by have := (World.ownsRow.lt h.own b e).1; omega
  have nr : ∀ {b n : Nat}, RowB w3 b 3 n → v.ownBlock ≠ some b := fun hr => row_own_ne hr h.own (by decide); have row : ∀ {b n : Nat}, RowB w3 b 3 n → RowB (w4.setCell ⟨b3, 1, none⟩ v') b 3 n := fun hr => (hr.grown hgr (nr hr)).set _ rfl _; have cell : ∀ {b i : Nat} {u : Value}, v.ownBlock ≠ some b → b ≠ b3 → w3.cell? ⟨b, i, none⟩ = some u → (w4.setCell ⟨b3, 1, none⟩ v').cell? ⟨b, i, none⟩ = some u := fun hv hb hc => (setCell_blk (Ne.symm hb)).trans (hgr.cell hc (fun e => hv e.symm))
  have fz : ∀ {b : Nat} (k : Nat), b < S → b < w3.heap.size → w3.frozen? ⟨b, k, none⟩ = false → (w4.setCell ⟨b3, 1, none⟩ v').frozen? ⟨b, k, none⟩ = false := fun k hb hl hf => by
    rw [World.frozen?_setCell]; exact fz_same (hgr.block _ hl (fun e => nv _ hb e.symm)) hf
  have hb3 : b3 < w3.heap.size := cell_lt h.c0; have hr1 : w.heap.size + 1 < w3.heap.size := cell_lt h.q2.1; have hEw : Below w.heap.size w w4 := Below.grown h.ext h.own hgr (by omega) (Nat.le_refl _); refine ⟨Below.setCell hEw (by show w.heap.size ≤ b3; omega) _, by simp; exact Nat.le_trans h.size hgr.size, ⟨cell (nv _ h1) (by omega) h.q2.1, cell (nv _ h1) (by omega) h.q2.2.1, fun j => fz j h1 hr1 (h.q2.2.2 j)⟩, ?_, ?_, fun j => fz j h3 hb3 (h.fz j), row h.rC, fun j hj => cell (nr h.rC) (fun e => ?_) (h.cC j hj), ?_, ?_, ?_, ?_, ?_, ?_⟩
  · rw [setCell_off (by decide)]; exact hgr.cell h.c0 (fun e => nv _ h3 e.symm)
  · exact World.cell?_setCell_same' _ _ _ (by rw [hgr.cell h.c1 (fun e => nv _ h3 e.symm)]; rfl)
  · exact h3c e
  · rw [rcL_succ, show rcL (cOA (fun i => if i = k then g else tb i) (fun i => if i = k then c else tc i)) o id k = rcL (cOA tb tc) o id k from rcL_same k fun i hi => ⟨if_neg (by omega), if_neg (by omega)⟩]
    have e : rcs (cOA (fun i => if i = k then g else tb i) (fun i => if i = k then c else tc i)) o (id k) = [.int .i64 (o.ID k), .int .i64 (o.A k), .slice (some ⟨g, 0, none⟩) o.m c] := by
      show [_, _, Value.slice (some ⟨if k = k then g else tb k, 0, none⟩) o.m (if k = k then c else tc k)] = _
      rw [if_pos rfl, if_pos rfl]; rfl
    rw [e]; exact ownsRow_setCell_below hown h3 _
  · intro i hi
    by_cases e : i = k
    · simp only [if_pos e]; exact row hg
    · simp only [if_neg e]; exact row (h.rT i (by omega))
  · intro i j hi hj
    by_cases e : i = k
    · subst e; simp only [if_pos]; exact cell (nr hg) (by omega) (hgc j hj)
    · simp only [if_neg e]; exact cell (nr (h.rT i (by omega))) (by have := h.gT i (by omega); omega) (h.cTT i j (by omega) hj)
  · intro i hi
    by_cases e : i = k
    · simp only [if_pos e]; exact hcap
    · simp only [if_neg e]; exact h.cap i (by omega)
  · intro i hi
    by_cases e : i = k
    · simp only [if_pos e]; exact hgS
    · simp only [if_neg e]; exact h.gT i (by omega)
  · intro i j hij hj
    by_cases e : j = k
    · subst e; simp only [if_pos, if_neg (show ¬ i = j by omega)]; exact hup i hij
    · simp only [if_neg e, if_neg (show ¬ i = k by omega)]; exact h.up i j hij (by omega)
theorem CopJ.copy {w wk : World} {S B : Nat} {o : Ord} {b3 cb cc : Nat} {tb tc : Nat → Nat} {v : Value} (ho : OrdOk o) (h : CopJ w wk S o b3 cb cc tb tc v o.n) (h1 : B ≤ cb) (hc : o.m ≤ cc) (hcS : cb < S) (hS : B ≤ S) :
    ∃ a', .slice (some ⟨cb, 0, none⟩) o.m cc = OA.cv a' o ∧ v = OA.rv a' o ∧ CopyG wk B a' o := by
  have hne : ∀ i, i < o.n → tb i ≠ cb := fun i hi => by have := h.gT i hi; omega
  have hinj : ∀ i j, i < o.n → j < o.n → tb i = tb j → i = j := fun i j hi hj e => by
    rcases Nat.lt_trichotomy i j with hlt | rfl | hlt
    · have := h.up i j hlt hj; omega
    · rfl
    · have := h.up j i hlt hi; omega
  rcases h.own.2 with ⟨rfl, h0⟩ | ⟨g, cap, cur, rfl, hb, hg, hnc, hcm, hcs, htake⟩
  · refine ⟨⟨cb, 0, cc, none, 0, 0, 0, tb, fun _ => 0, tc⟩, rfl, by simp only [OA.rv, h0], ⟨?_, h.rC, fun h' => absurd h' (by omega), h.rT, rfl, rfl, fun _ _ => rfl, h1, fun h' => absurd h' (by omega), fun i hi => Nat.le_trans hS (h.gT i hi), hne, hinj⟩⟩; refine ⟨ho.hm1, ho.hm2, ho.hn2, ?_, fun h' => absurd h' (by omega), fun i hi => absurd hi (by omega), fun i hi => absurd hi (by omega), fun i hi => absurd hi (by omega), ?_, h.rC.lt, fun h' => absurd h' (by omega), fun i hi => (h.rT i hi).lt, hc, by rw [h0]; exact Nat.le_refl _, h.cap, ho.vC, ho.vA, ho.vT⟩
    · intro j hj; simp only [Nat.zero_add]; exact h.cC j hj
    · intro i j hi hj; simp only [Nat.zero_add]; exact h.cTT i j hi hj
  · have hcell : ∀ i r, r < 3 → i < o.n → ∀ u, (rcs (cOA tb tc) o (id i))[r]? = some u → wk.cell? ⟨g, i * 3 + r, none⟩ = some u := fun i r hr hi u hu => by
      have := World.ownsRow.cells h.own (g := g) rfl (i * 3 + r) u (by rw [rcL_get (cOA tb tc) o id hr o.n hi]; exact hu)
      rwa [Addr.add_lit, Nat.zero_add] at this
    have hrow : RowB wk g 103 (cap * 3) := ⟨cur, hg, by simpa using hcs⟩; refine ⟨⟨cb, 0, cc, some ⟨g, 0, none⟩, g, 0, cap, tb, fun _ => 0, tc⟩, rfl, rfl, ⟨?_, h.rC, fun _ => hrow, h.rT, rfl, rfl, fun _ _ => rfl, h1, fun _ => Nat.le_trans hS hb, fun i hi => Nat.le_trans hS (h.gT i hi), hne, hinj⟩⟩; refine ⟨ho.hm1, ho.hm2, ho.hn2, ?_, fun _ => rfl, ?_, ?_, ?_, ?_, h.rC.lt, fun _ => hrow.lt, fun i hi => (h.rT i hi).lt, hc, hnc, h.cap, ho.vC, ho.vA, ho.vT⟩
    · intro j hj; simp only [Nat.zero_add]; exact h.cC j hj
    · intro i hi; simp only [Nat.zero_add]; exact hcell i 0 (by omega) hi _ rfl
    · intro i hi; simp only [Nat.zero_add]; exact hcell i 1 (by omega) hi _ rfl
    · intro i hi; simp only [Nat.zero_add]; exact hcell i 2 (by omega) hi _ rfl
    · intro i j hi hj; simp only [Nat.zero_add]; exact h.cTT i j hi hj
theorem CopyG.other {w w' : World} {base : Nat} {a : OA} {o : Ord} (h : CopyG w base a o) (hs : w.heap.size ≤ w'.heap.size) (hb : ∀ k, (k = a.cb ∨ (0 < o.n ∧ k = a.rb) ∨ ∃ i, i < o.n ∧ k = a.tb i) → w'.heap[k]? = w.heap[k]?) : CopyG w' base a o := by
  have bC := hb a.cb (.inl rfl); have bR : 0 < o.n → w'.heap[a.rb]? = w.heap[a.rb]? := fun h' => hb a.rb (.inr (.inl ⟨h', rfl⟩)); have bT : ∀ i, i < o.n → w'.heap[a.tb i]? = w.heap[a.tb i]? := fun i hi => hb _ (.inr (.inr ⟨i, hi, rfl⟩)); have hO := h.ord
  exact { h with
    ord := { hO.more hs with
      hC := fun j hj => (World.cell?_of_block (a := ⟨a.cb, a.co + j, none⟩) bC).trans (hO.hC j hj)
      hI := fun i hi => (World.cell?_of_block (a := ⟨a.rb, a.ro + i * 3, none⟩) (bR (by omega))).trans (hO.hI i hi)
      hA := fun i hi => (World.cell?_of_block (a := ⟨a.rb, a.ro + i * 3 + 1, none⟩) (bR (by omega))).trans (hO.hA i hi)
      hT := fun i hi => (World.cell?_of_block (a := ⟨a.rb, a.ro + i * 3 + 2, none⟩) (bR (by omega))).trans (hO.hT i hi)
      hTT := fun i j hi hj => (World.cell?_of_block (a := ⟨a.tb i, a.to_ i + j, none⟩) (bT i hi)).trans (hO.hTT i j hi hj) }
    rC := h.rC.of_block bC
    rR := fun h' => (h.rR h').of_block (bR h')
    rT := fun i hi => (h.rT i hi).of_block (bT i hi) }
theorem CopyG.ext {w w' : World} {base : Nat} {a : OA} {o : Ord} (h : CopyG w base a o) (hE : Ext w w') : CopyG w' base a o :=
  h.other hE.size fun k hk => by
    rcases hk with rfl | ⟨h', rfl⟩ | ⟨i, hi, rfl⟩
    · exact hE.block _ h.rC.lt
    · exact hE.block _ (h.rR h').lt
    · exact hE.block _ (h.rT i hi).lt
theorem CopyG.less {w : World} {base b2 : Nat} {a : OA} {o : Ord} (h : CopyG w base a o) (hb : b2 ≤ base) : CopyG w b2 a o :=
  { h with gC := Nat.le_trans hb h.gC, gR := fun h' => Nat.le_trans hb (h.gR h'), gT := fun i hi => Nat.le_trans hb (h.gT i hi) }
theorem CopyG.away {w : World} {base B k : Nat} {a : OA} {o : Ord} {v : Value} (h : CopyG w base a o) (hB : B < base) : CopyG (w.setCell ⟨B, k, none⟩ v) base a o :=
  h.other (by simp) fun k' hk => heap_setCell_other w ⟨B, k, none⟩ k' v (by
    rcases hk with rfl | ⟨h', rfl⟩ | ⟨i, hi, rfl⟩
    · have := h.gC; show a.cb ≠ B; omega
    · have := h.gR h'; show a.rb ≠ B; omega
    · have := h.gT i hi; show a.tb i ≠ B; omega)
theorem own_new {w : World} {B m : Nat} {v : Value} {f : Nat → Int} (h : w.ownsRow B 3 1 v m ((List.range m).map fun j => .int .i64 (f j))) (hm : 0 < m) : ∃ g c, v = .slice (some ⟨g, 0, none⟩) m c ∧ B ≤ g ∧ RowB w g 3 c ∧ m ≤ c ∧ ∀ j, j < m → w.cell? ⟨g, j, none⟩ = some (.int .i64 (f j)) := by
  rcases h.2 with ⟨rfl, hn⟩ | ⟨g, cap, cur, rfl, hb, hg, hnc, hcm, hcs, htake⟩
  · omega
  · refine ⟨g, cap, rfl, hb, ⟨cur, hg, by simpa using hcs⟩, hnc, fun j hj => ?_⟩; have := World.ownsRow.cells h (g := g) rfl j (.int .i64 (f j)) (intL_get hj)
    rwa [Addr.add_lit, Nat.zero_add] at this
theorem copiedR2_c (a : OA) (o : Ord) (w : World) (hO : OrdF w w.heap.size a o) :
    CallsV Tryz.prog 101 #[.agg #[a.cv o, a.rv o]] w fun v w' => ∃ a', v = .agg #[OA.cv a' o, OA.rv a' o] ∧ CopyG w' w.heap.size a' o ∧ (∃ xs, w'.ownsRow w.heap.size 103 3 (OA.rv a' o) o.n xs) ∧ Ext w w' := by
  have ho := hO.ok; have hm := hO.hm2; have hm1 := hO.hm1; have hn := hO.hn2; have hm9 : o.m ≤ 1000000000 := by omega
  have hn9 : o.n ≤ 1000000000 := by omega
  simp only [OA.cv, OA.rv]; refine Wp.fn Tryz.func101 rfl Tryz.ntmps101 (by simp) ?_; refine Wp.keep [0] fun r1 hkeep => ?_; obtain ⟨e0_1, -⟩ := hkeep; simp [go_sem] at e0_1; have x0 := cell_al (.cells #[.slice none 0 0, .slice none 0 0] 25) (cell_nn w #[.slice (some ⟨a.cb, a.co, none⟩) o.m a.cc, .slice a.rA o.n a.rc] 25 0 rfl (v := .slice (some ⟨a.cb, a.co, none⟩) o.m a.cc) rfl); have x1 := cell_al (.cells #[.slice none 0 0, .slice none 0 0] 25) (cell_nn w #[.slice (some ⟨a.cb, a.co, none⟩) o.m a.cc, .slice a.rA o.n a.rc] 25 1 rfl (v := .slice a.rA o.n a.rc) rfl); have y0 := cell_nn (w.alloc (.cells #[.slice (some ⟨a.cb, a.co, none⟩) o.m a.cc, .slice a.rA o.n a.rc] 25)) #[.slice none 0 0, .slice none 0 0] 25 0 (n := w.heap.size + 1) (by simp) (v := .slice none 0 0) rfl; have y1 := cell_nn (w.alloc (.cells #[.slice (some ⟨a.cb, a.co, none⟩) o.m a.cc, .slice a.rA o.n a.rc] 25)) #[.slice none 0 0, .slice none 0 0] 25 1 (n := w.heap.size + 1) (by simp) (v := .slice none 0 0) rfl; have fz := frz_nw (w.alloc (.cells #[.slice (some ⟨a.cb, a.co, none⟩) o.m a.cc, .slice a.rA o.n a.rc] 25)) #[.slice none 0 0, .slice none 0 0] 25 (n := w.heap.size + 1) (by simp); have hEV : Ext w ((w.alloc (.cells #[.slice (some ⟨a.cb, a.co, none⟩) o.m a.cc, .slice a.rA o.n a.rc] 25)).alloc (.cells #[.slice none 0 0, .slice none 0 0] 25)) := XE; have hVs : ((w.alloc (.cells #[.slice (some ⟨a.cb, a.co, none⟩) o.m a.cc, .slice a.rA o.n a.rc] 25)).alloc (.cells #[.slice none 0 0, .slice none 0 0] 25)).heap.size = w.heap.size + 1 + 1 := by simp
  refine Wp.seqRegion (.inl rfl) (by kernel_rfl) fun K' gd hK hg => ?_; clear hg; go_simp; refine hK _ _ ?_; clear hK K' gd; refine Wp.keep [1, 2] fun r2 hkeep => ?_; obtain ⟨e1_2, e2_2, -⟩ := hkeep; simp [go_sem, e0_1] at e1_2 e2_2; clear e0_1
  generalize ((w.alloc (.cells #[.slice (some ⟨a.cb, a.co, none⟩) o.m a.cc, .slice a.rA o.n a.rc] 25)).alloc (.cells #[.slice none 0 0, .slice none 0 0] 25)) = V at *
  have hOV := hO.ext hEV; have hO0 := hOV.ext ((Ext.refl V).alloc (.cells #[] 3)); refine Wp.seqRegion (.inl rfl) (by kernel_rfl) fun K' gd hK hg => ?_; clear hg; refine Wops.cut 3 fun K1 hK1 => ?_; simp only [List.take_succ_cons, List.take_zero]; go_simp; refine hK1 _ _ ?_; clear hK1 K1; simp only [List.drop_succ_cons, List.drop_zero]; obtain ⟨v', w1, hrun, hown, hgr⟩ := app_new (w := V.alloc (.cells #[] 3)) ints_T ⟨V.heap.size, 0, none⟩ ⟨a.cb, a.co, none⟩ o.m a.cc (copL o) 22 (by simp [copL]) (intL_src (fun j hj => hO0.hC j hj)) hm1 (by omega); obtain ⟨g, cc, rfl, hgV, hgr1, hcc, hgc⟩ := own_new hown hm1; have hE1 : Ext V w1 := Ext.trans ((Ext.refl V).alloc _) (grown_ext hgr); refine Wops.law rfl (exec_append2 rfl hrun (by go_simp) (by go_simp)) ?_; go_simp; refine hK _ _ ?_; clear hK K' gd; refine Wp.keep [1, 2, 3] fun r3 hkeep => ?_; obtain ⟨e1_3, e2_3, e3_3, -⟩ := hkeep; simp [go_sem, e1_2, e2_2] at e1_3 e2_3 e3_3; clear e1_2 e2_2; refine Wp.seq ?_; have hgV : w.heap.size + 1 + 1 < g := (by have : (V.alloc (.cells #[] 3)).heap.size = V.heap.size + 1 := (by simp); omega); have hgl := hgr1.lt; have hEz : Ext w1 (w1.alloc (.cells #[.slice (some ⟨g, 0, none⟩) o.m cc, .slice none 0 0] 25)) := XE; have hEVZ : Ext V (w1.alloc (.cells #[.slice (some ⟨g, 0, none⟩) o.m cc, .slice none 0 0] 25)) := Ext.trans hE1 hEz; have hs1 := hE1.size; have hZs : (w1.alloc (.cells #[.slice (some ⟨g, 0, none⟩) o.m cc, .slice none 0 0] 25)).heap.size = w1.heap.size + 1 := by simp
  have hI0 : CopJ w (w1.alloc (.cells #[.slice (some ⟨g, 0, none⟩) o.m cc, .slice none 0 0] 25)) (w1.heap.size + 1) o w1.heap.size g cc (fun _ => 0) (fun _ => 0) (.slice none 0 0) 0 := ⟨Ext.trans hEV hEVZ, by omega, ⟨hEVZ.cell y0, hEVZ.cell y1, fz_ext hEVZ (by omega) fz⟩, cell_nn w1 _ _ 0 rfl rfl, cell_nn w1 _ _ 1 rfl rfl, frz_nw w1 _ _ rfl, hgr1.ext hEz, fun j hj => hEz.cell (hgc j hj), World.ownsRow_nil _ _ _ _, fun i hi => absurd hi (Nat.not_lt_zero _), fun i j hi => absurd hi (Nat.not_lt_zero _), fun i hi => absurd hi (Nat.not_lt_zero _), fun i hi => absurd hi (Nat.not_lt_zero _), fun i j _ hj => absurd hj (Nat.not_lt_zero _)⟩; obtain ⟨b3, hb3⟩ : ∃ b, w1.heap.size = b := ⟨_, rfl⟩; rw [hb3] at hI0 hgl hs1 hZs e3_3
  generalize (w1.alloc (.cells #[.slice (some ⟨g, 0, none⟩) o.m cc, .slice none 0 0] 25)) = W at *
  clear hEz hE1 hgr hown hrun hgc hgr1 hb3; refine Wp.seqRegion (.inl rfl) (by kernel_rfl) fun K' gd hK hg => ?_; clear hg; go_simp; refine hK _ _ ?_; clear hK K' gd; refine Wp.keep [1, 2, 3, 4] fun r4 hkeep => ?_; obtain ⟨e1_4, e2_4, e3_4, e4_4, -⟩ := hkeep; simp [go_sem, e1_3, e2_3, e3_3] at e1_4 e2_4 e3_4 e4_4; clear e1_3 e2_3 e3_3; refine Wp.block ?_; refine Wp.loop (fun k ρ ds wk => AllEq [1, 2, 3] ρ r4 ∧ ds = [] ∧ (∃ tb tc v, ρ 4 = .int .i64 (k : Int) ∧ CopJ w wk (b3 + 1) o b3 g cc tb tc v k ∧ Ext V wk)) (o.n) ?_ ?_
  · refine ⟨AllEq.refl _ _, rfl, ?_⟩; exact ⟨_, _, _, by rw [e4_4]; rfl, hI0, hEVZ⟩
  · rintro k r5 _ wk hk ⟨hA, rfl, ⟨tb, tc, v, e4, hI, hEk⟩⟩; obtain ⟨e1_5, e2_5, e3_5, -⟩ := hA; rw [e1_4] at e1_5; rw [e2_4] at e2_5; rw [e3_4] at e3_5; have z0 := hEk.cell x0; have z1 := hEk.cell x1; refine Wp.seq ?_; refine Wp.seqRegion (.inl rfl) (by kernel_rfl) fun K' gd hK hg => ?_; clear hg; go_simp; refine hK _ _ ?_; clear hK K' gd; refine Wp.keep [1, 2, 3, 4, 15] fun r6 hkeep => ?_; obtain ⟨e1_6, e2_6, e3_6, e4_6, e15_6, -⟩ := hkeep; simp [go_sem, e1_5, e2_5, e3_5, e4] at e1_6 e2_6 e3_6 e4_6 e15_6; clear e1_5 e2_5 e3_5 e4
    by_cases h : k < o.n
    · refine Wp.condT (by go_simp) ?_; have hOk := hOV.ext hEk; have hrA := hOk.hr (by omega); have cI := hOk.hI k h; have cA := hOk.hA k h; have cT := hOk.hT k h; have b1 : (k : Int) < (o.n : Int) := by omega
      have hOk2 := hOk.ext (show Ext wk ((wk.alloc (.cells #[.int .i64 (o.ID k), .int .i64 (o.A k), .slice (some ⟨a.tb k, a.to_ k, none⟩) o.m (a.tc k)] 103)).alloc (.cells #[] 3)) from XE); have t0 := cell_al (.cells #[] 3) (cell_nn wk #[.int .i64 (o.ID k), .int .i64 (o.A k), .slice (some ⟨a.tb k, a.to_ k, none⟩) o.m (a.tc k)] 103 0 rfl (v := .int .i64 (o.ID k)) rfl); have t1 := cell_al (.cells #[] 3) (cell_nn wk #[.int .i64 (o.ID k), .int .i64 (o.A k), .slice (some ⟨a.tb k, a.to_ k, none⟩) o.m (a.tc k)] 103 1 rfl (v := .int .i64 (o.A k)) rfl); have t2 := cell_al (.cells #[] 3) (cell_nn wk #[.int .i64 (o.ID k), .int .i64 (o.A k), .slice (some ⟨a.tb k, a.to_ k, none⟩) o.m (a.tc k)] 103 2 rfl (v := .slice (some ⟨a.tb k, a.to_ k, none⟩) o.m (a.tc k)) rfl); have tf := frz_al (.cells #[] 3) (by simp) (frz_nw wk #[.int .i64 (o.ID k), .int .i64 (o.A k), .slice (some ⟨a.tb k, a.to_ k, none⟩) o.m (a.tc k)] 103 rfl); refine Wp.skip ?_; refine thenK_normal ?_; refine Wp.seq ?_; refine Wp.block ?_; refine Wp.seqRegion (.inl rfl) (by kernel_rfl) fun K' gd hK hg => ?_; clear hg; go_simp; refine hK _ _ ?_; clear hK K' gd; refine Wp.keep [1, 2, 3, 4, 5] fun r7 hkeep => ?_; obtain ⟨e1_7, e2_7, e3_7, e4_7, e5_7, -⟩ := hkeep; simp [go_sem, e1_6, e2_6, e3_6, e4_6, e15_6] at e1_7 e2_7 e3_7 e4_7 e5_7; clear e1_6 e2_6 e3_6 e4_6 e15_6; refine Wp.seqRegion (.inl rfl) (by kernel_rfl) fun K' gd hK hg => ?_; clear hg; refine Wops.cut 3 fun K1 hK1 => ?_; simp only [List.take_succ_cons, List.take_zero]; go_simp
      refine hK1 _ _ ?_; clear hK1 K1; simp only [List.drop_succ_cons, List.drop_zero]; obtain ⟨v', w2, hrun, hown, hgr⟩ := app_new (w := (wk.alloc (.cells #[.int .i64 (o.ID k), .int .i64 (o.A k), .slice (some ⟨a.tb k, a.to_ k, none⟩) o.m (a.tc k)] 103)).alloc (.cells #[] 3)) ints_T ⟨wk.heap.size + 1, 0, none⟩ ⟨a.tb k, a.to_ k, none⟩ o.m (a.tc k) (takL o k) 22 (by simp [takL]) (intL_src (fun j hj => hOk2.hTT k j h hj)) hm1 (by omega); obtain ⟨g2, c2, rfl, hg2, hgr2, hc2, hgc2⟩ := own_new hown hm1; have hE2 := grown_ext hgr; have t0 := hE2.cell t0; have t1 := hE2.cell t1; have t2 := hE2.cell t2; have tf := fz_ext hE2 (by simp; omega) tf; have tf2 := tf 2; refine Wops.law rfl (exec_append2 rfl hrun (by go_simp) (by go_simp)) ?_; go_simp; refine hK _ _ ?_; clear hK K' gd; refine Wp.keep [1, 2, 3, 4, 5] fun r8 hkeep => ?_; obtain ⟨e1_8, e2_8, e3_8, e4_8, e5_8, -⟩ := hkeep; simp [go_sem, e1_7, e2_7, e3_7, e4_7, e5_7] at e1_8 e2_8 e3_8 e4_8 e5_8; clear e1_7 e2_7 e3_7 e4_7 e5_7; have hg2 : wk.heap.size + 1 < g2 := (by have e : ((wk.alloc (.cells #[.int .i64 (o.ID k), .int .i64 (o.A k), .slice (some ⟨a.tb k, a.to_ k, none⟩) o.m (a.tc k)] 103)).alloc (.cells #[] 3)).heap.size = wk.heap.size + 1 + 1 := (by simp); omega); have hE3 : Ext wk (w2.setCell ⟨wk.heap.size, 2, none⟩ (.slice (some ⟨g2, 0, none⟩) o.m c2)) := Ext.setC (Ext.trans (show Ext wk ((wk.alloc (.cells #[.int .i64 (o.ID k), .int .i64 (o.A k), .slice (some ⟨a.tb k, a.to_ k, none⟩) o.m (a.tc k)] 103)).alloc (.cells #[] 3)) from XE) hE2) (Nat.le_refl _) _
      have r0 : (w2.setCell ⟨wk.heap.size, 2, none⟩ (.slice (some ⟨g2, 0, none⟩) o.m c2)).cell? ⟨wk.heap.size, 0, none⟩ = some (.int .i64 (o.ID k)) := (setCell_off (by decide)).trans t0; have r1 : (w2.setCell ⟨wk.heap.size, 2, none⟩ (.slice (some ⟨g2, 0, none⟩) o.m c2)).cell? ⟨wk.heap.size, 1, none⟩ = some (.int .i64 (o.A k)) := (setCell_off (by decide)).trans t1; have r2 : (w2.setCell ⟨wk.heap.size, 2, none⟩ (.slice (some ⟨g2, 0, none⟩) o.m c2)).cell? ⟨wk.heap.size, 2, none⟩ = some (.slice (some ⟨g2, 0, none⟩) o.m c2) := World.cell?_setCell_same' _ _ _ (by rw [t2]; rfl); have hgr3 : RowB (w2.setCell ⟨wk.heap.size, 2, none⟩ (.slice (some ⟨g2, 0, none⟩) o.m c2)) g2 3 c2 := hgr2.set _ rfl _; have hgc3 : ∀ j, j < o.m → (w2.setCell ⟨wk.heap.size, 2, none⟩ (.slice (some ⟨g2, 0, none⟩) o.m c2)).cell? ⟨g2, j, none⟩ = some (.int .i64 (o.T k j)) := fun j hj => (setCell_blk (by omega)).trans (hgc2 j hj)
      generalize (w2.setCell ⟨wk.heap.size, 2, none⟩ (.slice (some ⟨g2, 0, none⟩) o.m c2)) = w3 at *
      have hI3 := hI.more hE3; have c0 := hI3.c0; have c1 := hI3.c1; have hS3 := hI3.size; have hEw3 : Ext w3 (w3.alloc (.cells #[.int .i64 (o.ID k), .int .i64 (o.A k), .slice (some ⟨g2, 0, none⟩) o.m c2] 103)) := XE; have hI4 := hI3.more hEw3; have hupg : ∀ i, i < k → tb i < g2 := fun i hi => (by have := (hI.rT i hi).lt; omega); have hgS : b3 + 1 ≤ g2 := (by have := hI.size; omega); have hnv : v.ownBlock ≠ some b3 := fun e => (by have := (World.ownsRow.lt hI4.own b3 e).1; omega); clear t0 t1 t2 tf tf2 hgr2 hgc2 hE2; refine Wp.loneRegion (.inl rfl) (by kernel_rfl) fun K' gd hK hg => ?_; clear hg; refine Wops.cut 4 fun K1 hK1 => ?_; simp only [List.take_succ_cons, List.take_zero]; go_simp; refine hK1 _ _ ?_; clear hK1 K1; simp only [List.drop_succ_cons, List.drop_zero]; obtain ⟨v'', w4, hrun, hown4, hgr4, -⟩ := app_run runs_T hI4.own ⟨w3.heap.size, 0, none⟩ 1 1 [.int .i64 (o.ID k), .int .i64 (o.A k), .slice (some ⟨g2, 0, none⟩) o.m c2] 23 rfl (news_three (cell_nn _ _ _ 0 rfl rfl) (cell_nn _ _ _ 1 rfl rfl) (cell_nn _ _ _ 2 rfl rfl)) (by intro u hu; simp only [List.mem_cons, List.not_mem_nil, or_false] at hu; rcases hu with rfl | rfl | rfl <;> rfl) (by omega) (by simp; omega) (w := w3.alloc (.cells #[.int .i64 (o.ID k), .int .i64 (o.A k), .slice (some ⟨g2, 0, none⟩) o.m c2] 103)); obtain ⟨g4, cap4, rfl⟩ := ownsRow_succ hown4; have c1' := hgr4.cell hI4.c1 (fun e => hnv e.symm); have f1' := fz_same (hgr4.block b3 (cell_lt hI4.c0) (fun e => hnv e.symm)) (hI4.fz 1); refine Wops.law rfl (exec_append2 rfl hrun (by go_simp) (by go_simp)) ?_
      go_simp; refine hK _ _ ?_; clear hK K' gd; refine Ends.keep [1, 2, 3, 4] fun r9 hkeep => ?_; obtain ⟨e1_9, e2_9, e3_9, e4_9, -⟩ := hkeep; simp [go_sem, e1_8, e2_8, e3_8, e4_8, e5_8] at e1_9 e2_9 e3_9 e4_9; clear e1_8 e2_8 e3_8 e4_8 e5_8; refine Ends.mk ?_; refine blockK_normal ?_; refine thenK_normal ?_; refine Wp.loneRegion (.inl rfl) (by kernel_rfl) fun K' gd hK hg => ?_; clear hg; go_simp; refine hK _ _ ?_; clear hK K' gd; refine Ends.keep [1, 2, 3, 4] fun r10 hkeep => ?_; obtain ⟨e1_10, e2_10, e3_10, e4_10, -⟩ := hkeep; simp [go_sem, e1_9, e2_9, e3_9, e4_9] at e1_10 e2_10 e3_10 e4_10; clear e1_9 e2_9 e3_9 e4_9; refine Ends.mk ?_; refine thenK_normal ⟨by omega, ⟨by rw [e1_10, e1_4], by rw [e2_10, e2_4], by rw [e3_10, e3_4], trivial⟩, rfl, ?_⟩; refine ⟨_, _, _, by rw [e4_10, IntWalk.i64_in _ (by omega)]; rfl, CopJ.step hI4 (by omega) (by omega) (by omega) (hgr3.ext hEw3) (fun j hj => hEw3.cell (hgc3 j hj)) hc2 hgS hupg hown4 hgr4 (by omega) (by omega), ?_⟩; exact Below.setCell (Below.grown (Ext.trans hEk (Ext.trans hE3 hEw3)) hI4.own hgr4 (by omega) (Nat.le_refl _)) (by show V.heap.size ≤ b3; omega) _
    · refine Wp.condF (by go_simp) ?_; obtain rfl : k = o.n := by omega
      obtain ⟨q0, q1, qf⟩ := hI.q2; have f0 := qf 0; have f1 := qf 1; have c0 := hI.c0; have c1 := hI.c1; obtain ⟨a', ha1, rfl, hG⟩ := hI.copy (B := w.heap.size + 1 + 1) ho (by omega) hcc (by omega) (by omega); simp only [OA.rv] at c1; have hEI := hI.ext; have ha2 : ∃ _u : Unit, Value.slice (some ⟨g, 0, none⟩) o.m cc = OA.cv a' o := ⟨(), ha1⟩; clear ha1; refine Wp.exit ?_; refine thenK_exit ?_; refine thenK_exit ?_; refine blockK_here ?_; refine thenK_normal ?_; refine Wp.seqRegion (.inl rfl) (by kernel_rfl) fun K' gd hK hg => ?_; clear hg; go_simp; refine hK _ _ ?_; clear hK K' gd; refine Wp.keep [2] fun r11 hkeep => ?_; obtain ⟨e2_11, -⟩ := hkeep; simp [go_sem, e1_6, e2_6, e3_6, e4_6, e15_6] at e2_11; clear e1_6 e2_6 e3_6 e4_6 e15_6; refine Wp.ret ?_; refine endK_cell (v := .agg #[.slice (some ⟨g, 0, none⟩) o.m cc, .slice a'.rA o.n a'.rc]) Tryz.results101 (by decide) e2_11 (by go_simp) ?_; obtain ⟨-, ha1⟩ := ha2; exact ⟨a', by rw [ha1]; rfl, ((hG.away (Nat.lt_succ_self _)).away (Nat.lt_succ_self _)).less (by omega), ⟨_, ownsRow_less (own_set (own_set hI.own (by omega)) (by omega)) (by omega)⟩, Below.setCell (Below.setCell hEI (Nat.le_succ _) _) (Nat.le_succ _) _⟩
theorem copiedR_c (a : OA) (o : Ord) (w : World) (hO : OrdF w w.heap.size a o) :
    CallsV Tryz.prog 101 #[.agg #[a.cv o, a.rv o]] w fun v w' => ∃ a', v = .agg #[OA.cv a' o, OA.rv a' o] ∧ CopyG w' w.heap.size a' o ∧ Ext w w' :=
  (copiedR2_c a o w hO).mono fun _ _ ⟨a', h1, h2, _, h3⟩ => ⟨a', h1, h2, h3⟩
end Go.Proofs.YtnfagcccgmakdaaGreat
namespace Go.Proofs.YtnfagcccgmakdaaGreat
open Go.RowKit Go.Wk Go.Proofs
attribute [local irreducible] Go.Wk.Wops Go.Wk.Wp Go.Wk.Mtree Go.Wk.Mops
set_option maxHeartbeats 4000000
theorem CopyG.setC {w : World} {base : Nat} {a : OA} {o : Ord} (h : CopyG w base a o) {j : Nat} (hj : j < o.m) {c : Int} (hc : 1 ≤ c ∧ c ≤ 20) : CopyG (w.setCell ⟨a.cb, j, none⟩ (.int .i64 c)) base a (o.setC j c) := by
  have hO := h.ord; have z1 := h.zC; have ncr : 0 < o.n → a.cb ≠ a.rb := fun h' => h.rC.ne (h.rR h') (by decide); have row : ∀ {b n : Nat} {e : TypeId}, RowB w b e n → RowB (w.setCell ⟨a.cb, j, none⟩ (.int .i64 c)) b e n := fun hr => hr.set _ rfl _; have e1 : (o.setC j c).m = o.m := setC_m j c; have e2 : (o.setC j c).n = o.n := rfl; refine ⟨⟨by rw [e1]; exact hO.hm1, by rw [e1]; exact hO.hm2, hO.hn2, fun j' hj' => ?_, hO.hr, fun i hi => (setCell_blk (ncr (by omega))).trans (hO.hI i hi), fun i hi => (setCell_blk (ncr (by omega))).trans (hO.hA i hi), fun i hi => by rw [e1]; exact (setCell_blk (ncr (by omega))).trans (hO.hT i hi), fun i j' hi hj' => (setCell_blk (Ne.symm (h.ne i hi))).trans (hO.hTT i j' hi (by rw [e1] at hj'; exact hj')), by simpa using hO.bC, fun hn => by simpa using hO.bR hn, fun i hi => by simpa using hO.bT i hi, by rw [e1]; exact hO.hcc, hO.hrc, fun i hi => by rw [e1]; exact hO.htc i hi, fun j' hj' => ?_, hO.vA, fun i j' hi hj' => hO.vT i j' hi (by rw [e1] at hj'; exact hj')⟩, row h.rC, fun h' => row (h.rR h'), fun i hi => row (h.rT i hi), h.zC, h.zR, h.zT, h.gC, h.gR, h.gT, h.ne, h.inj⟩
  · rw [e1] at hj'; rw [z1, Nat.zero_add, setC_C c hj]
    by_cases e : j' = j
    · subst e; rw [if_pos rfl]; exact World.cell?_setCell_same' _ _ _ (by have := hO.hC j' hj'; rw [z1, Nat.zero_add] at this; rw [this]; rfl)
    · rw [if_neg e, setCell_off (Ne.symm e)]; have := hO.hC j' hj'; rwa [z1, Nat.zero_add] at this
  · rw [e1] at hj'; rw [setC_C c hj]; split
    · exact hc
    · exact hO.vC j' hj'
end Go.Proofs.YtnfagcccgmakdaaGreat
namespace Go.Proofs.YtnfagcccgmakdaaGreat
open Go.RowKit Go.Wk Go.Proofs
attribute [local irreducible] Go.Wk.Wops Go.Wk.Wp Go.Wk.Mtree Go.Wk.Mops
set_option maxHeartbeats 4000000
end Go.Proofs.YtnfagcccgmakdaaGreat
namespace Go.Proofs.YtnfagcccgmakdaaGreat
open Go.RowKit Go.Wk Go.Proofs
attribute [local irreducible] Go.Wk.Wops Go.Wk.Wp Go.Wk.Mtree Go.Wk.Mops
set_option maxHeartbeats 4000000
end Go.Proofs.YtnfagcccgmakdaaGreat
namespace Go.Proofs.YtnfagcccgmakdaaGreat
open Go.RowKit Go.Wk Go.Proofs
attribute [local irreducible] Go.Wk.Wops Go.Wk.Wp Go.Wk.Mtree Go.Wk.Mops
set_option maxHeartbeats 4000000
def Fits3 (o : Ord) : Prop := o.cop.length ≤ 1000 ∧ o.runs.length ≤ 1000 ∧ ∀ k (h : k < o.runs.length), o.runs[k].takes.length ≤ 1000
theorem OrdGood.fits3 {o : Ord} (h : OrdGood o) : Fits3 o := ⟨by have := h.m2; omega, by have := h.n2; omega, fun k hk => by rw [(h.runs _ (List.getElem_mem hk)).len]; have := h.m2; omega⟩
theorem noOrd_fits3 : Fits3 noOrd := ⟨Nat.zero_le _, Nat.zero_le _, fun k hk => absurd hk (Nat.not_lt_zero _)⟩
theorem same_O (v1 v2 : Value) (o : Ord) (w : World) (h1 : OrderV w w.heap.size v1 o) (h2 : OrderV w w.heap.size v2 o) (hn : Fits3 o) :
    CallsV Tryz.prog 35 #[v1, v2] w fun v w' => v = .bool true ∧ Ext w w' := by
  obtain ⟨_, _, rfl, hI1, ⟨L1, g1, tv1, rfl, hx1, ht1, -⟩⟩ := h1; obtain ⟨_, _, rfl, hI2, ⟨L2, g2, tv2, rfl, hx2, ht2, -⟩⟩ := h2; obtain ⟨C1, e1, rfl, -⟩ := id hI1; obtain ⟨C2, e2, rfl, -⟩ := id hI2; obtain ⟨hn1, hn2, hn3⟩ := hn; refine Wp.fn Tryz.func35 rfl Tryz.ntmps35 (by simp) ?_; have xw := Ext.refl w; refine Wp.keep [0, 1] fun r1 hkeep => ?_; obtain ⟨e0_1, e1_1, -⟩ := hkeep; simp [go_sem] at e0_1 e1_1; refine Wp.seqRegion (.inl rfl) (by kernel_rfl) fun K' gd hK hg => ?_; clear hg; refine Wops.cut 1 fun K1 hK1 => ?_; simp only [List.take_succ_cons, List.take_zero]; go_simp; refine hK1 _ _ ?_; clear hK1 K1; simp only [List.drop_succ_cons, List.drop_zero]; refine Wops.absA fun V2_1 n2 hV2_1 => ?_; obtain ⟨q2, hV2_1, s2, kV2_1, f2, r2⟩ := hV2_1; try simp only [q2] at kV2_1 f2 r2 ⊢
  replace xw := Ext.trans xw hV2_1; have c2_0 := kV2_1 0 _ rfl; have c2_1 := kV2_1 1 _ rfl; clear kV2_1 hV2_1; clear r2; refine Wops.cut 1 fun K1 hK1 => ?_; simp only [List.take_succ_cons, List.take_zero]; go_simp; refine hK1 _ _ ?_; clear hK1 K1; simp only [List.drop_succ_cons, List.drop_zero]; refine Wops.absA fun V3_2 n3 hV3_2 => ?_; obtain ⟨q3, hV3_2, s3, kV3_2, f3, r3⟩ := hV3_2; try simp only [q3] at kV3_2 f3 r3 ⊢
  replace f2 := Ext.fz hV3_2 c2_0 f2; replace xw := Ext.trans xw hV3_2; replace c2_0 := Ext.cell hV3_2 c2_0; replace c2_1 := Ext.cell hV3_2 c2_1; have c3_0 := kV3_2 0 _ rfl; have c3_1 := kV3_2 1 _ rfl; clear kV3_2 hV3_2; clear r3; go_simp; refine hK _ _ ?_; clear hK K' gd; refine Wp.keep [2, 3] fun r2 hkeep => ?_; obtain ⟨e2_2, e3_2, -⟩ := hkeep; simp [go_sem, e0_1, e1_1] at e2_2 e3_2; clear e0_1 e1_1; refine Wp.seqRegion (.inl rfl) (by kernel_rfl) fun K' gd hK hg => ?_; clear hg; refine Wops.cut 5 fun K1 hK1 => ?_; simp only [List.take_succ_cons, List.take_zero]; go_simp; refine Wcall (.inl rfl) (same_I _ _ o.cop _ (hI1.ext xw) (hI2.ext xw) hn1) ?_; rintro v w2 ⟨rfl, hE⟩; go_simp; refine hK1 _ _ ?_; clear hK1 K1; simp only [List.drop_succ_cons, List.drop_zero]; have z3 := Below.size hE; replace f2 := Ext.fz hE c2_0 f2; replace f3 := Ext.fz hE c3_0 f3; replace xw := Ext.trans xw hE; replace c2_0 := Ext.cell hE c2_0; replace c2_1 := Ext.cell hE c2_1; replace c3_0 := Ext.cell hE c3_0; replace c3_1 := Ext.cell hE c3_1; clear hE; go_simp; refine hK _ _ ?_; clear hK K' gd; refine Wp.keep [2, 3, 5] fun r4 hkeep => ?_; obtain ⟨e2_4, e3_4, e5_4, -⟩ := hkeep; simp [go_sem, e2_2, e3_2] at e2_4 e3_4 e5_4; clear e2_2 e3_2; refine Wp.seq ?_; refine Wp.seqRegion (.inl rfl) (by kernel_rfl) fun K' gd hK hg => ?_; have g2 : gd 2 = some 15 := hg 2; clear hg; go_simp; refine hK _ _ ?_; clear hK K' gd g2; refine Wp.keep [2, 3, 23] fun r5 hkeep => ?_; obtain ⟨e2_5, e3_5, e23_5, -⟩ := hkeep; simp [go_sem, e2_4, e3_4, e5_4] at e2_5 e3_5 e23_5
  clear e2_4 e3_4 e5_4; refine Wp.condF (by go_simp) ?_; refine Wp.skip ?_; refine thenK_normal ?_; refine Wp.seq ?_; refine Wp.seqRegion (.inl rfl) (by kernel_rfl) fun K' gd hK hg => ?_; clear hg; go_simp; refine hK _ _ ?_; clear hK K' gd; refine Wp.keep [2, 3, 6] fun r6 hkeep => ?_; obtain ⟨e2_6, e3_6, e6_6, -⟩ := hkeep; simp [go_sem, e2_5, e3_5, e23_5] at e2_6 e3_6 e6_6; clear e2_5 e3_5 e23_5; refine Wp.block ?_; refine Wp.loop (fun k ρ ds wk => AllEq [2, 3] ρ r6 ∧ ds = [] ∧ (Ext w2 wk) ∧ (ρ 6 = .int .i64 (k : Int))) (o.runs.length) ?_ ?_
  · refine ⟨AllEq.refl _ _, rfl, Ext.refl _, ?_⟩; rw [e6_6]; rfl
  · rintro k r7 _ wk hk ⟨hA, rfl, xl3, e6⟩; obtain ⟨e2_7, e3_7, -⟩ := hA; rw [e2_6] at e2_7; rw [e3_6] at e3_7; have zxl3 := Below.size xl3; replace f2 := Ext.fz xl3 c2_0 f2; replace f3 := Ext.fz xl3 c3_0 f3; replace xw := Ext.trans xw xl3; replace c2_0 := Ext.cell xl3 c2_0; replace c2_1 := Ext.cell xl3 c2_1; replace c3_0 := Ext.cell xl3 c3_0; replace c3_1 := Ext.cell xl3 c3_1; refine Wp.seq ?_; refine Wp.seqRegion (.inl rfl) (by kernel_rfl) fun K' gd hK hg => ?_; clear hg; go_simp; refine hK _ _ ?_; clear hK K' gd; refine Wp.keep [2, 3, 6, 28] fun r8 hkeep => ?_; obtain ⟨e2_8, e3_8, e6_8, e28_8, -⟩ := hkeep; simp [go_sem, e2_7, e3_7, e6] at e2_8 e3_8 e6_8 e28_8; clear e2_7 e3_7 e6
    by_cases h : k < o.runs.length
    · refine Wp.condT (by go_simp) ?_; obtain ⟨b1, o1, rfl, -, hc1⟩ := hx1 (by intro e; rw [e] at h; exact absurd h (Nat.not_lt_zero _)); obtain ⟨b2, o2, rfl, -, hc2⟩ := hx2 (by intro e; rw [e] at h; exact absurd h (Nat.not_lt_zero _)); have x1 := xw.cell (hc1 k h).1; have x2 := xw.cell (hc1 k h).2.1; have x3 := xw.cell (hc1 k h).2.2; have y1 := xw.cell (hc2 k h).1; have y2 := xw.cell (hc2 k h).2.1; have y3 := xw.cell (hc2 k h).2.2; have i1 := ht1 k h; have i2 := ht2 k h; have hl := hn3 k h; have b3 : (k : Int) < (o.runs.length : Int) := by omega
      obtain ⟨r, hr⟩ : ∃ r, o.runs[k] = r := ⟨_, rfl⟩; rw [hr] at x1 x2 y1 y2 i1 i2 hl; clear hr; refine Wp.skip ?_; refine thenK_normal ?_; refine Wp.seq ?_; refine Wp.block ?_; refine Wp.seqDraw (.inl rfl) mixed [([0, 1, 2, 3, 4], none), ([5, 6, 7, 8, 9], none), ([10, 11], some (12, false)), ([13], none)] (by kernel_rfl) fun K' gd hK hg => ?_; clear hg; simp only [pick, nth, List.map_cons, List.map_nil, Option.map_none, Option.map_some]; refine Mops.absD fun D4 hD4 zD4 => ?_; replace f2 := Ext.fz hD4 c2_0 f2; replace f3 := Ext.fz hD4 c3_0 f3; replace xw := Ext.trans xw hD4; replace xl3 := Ext.trans xl3 hD4; replace c2_0 := Ext.cell hD4 c2_0; replace c2_1 := Ext.cell hD4 c2_1; replace c3_0 := Ext.cell hD4 c3_0; replace c3_1 := Ext.cell hD4 c3_1; replace x1 := Ext.cell hD4 x1; replace x2 := Ext.cell hD4 x2; replace x3 := Ext.cell hD4 x3; replace y1 := Ext.cell hD4 y1; replace y2 := Ext.cell hD4 y2; replace y3 := Ext.cell hD4 y3; clear hD4; apply Mops.none
      · intro w' hE'; have hC' := hE'.cellsS; go_simp; with_reducible rfl
      apply Mops.none
      · intro w' hE'; have hC' := hE'.cellsS; go_simp; with_reducible rfl
      apply Mops.act
      · intro w' hE'; have hC' := hE'.cellsS; go_simp; with_reducible rfl
      intro K1 hK1; go_simp; refine Wcall (.inl rfl) (same_I _ _ r.takes _ (i1.ext xw) (i2.ext xw) hl) ?_; rintro v w3 ⟨rfl, hE⟩; go_simp; refine hK1 _ _ (by assumption) ?_; clear hK1 K1; have z9 := Below.size hE; replace f2 := Ext.fz hE c2_0 f2; replace f3 := Ext.fz hE c3_0 f3; replace xw := Ext.trans xw hE; replace xl3 := Ext.trans xl3 hE; replace c2_0 := Ext.cell hE c2_0; replace c2_1 := Ext.cell hE c2_1; replace c3_0 := Ext.cell hE c3_0; replace c3_1 := Ext.cell hE c3_1; replace x1 := Ext.cell hE x1; replace x2 := Ext.cell hE x2; replace x3 := Ext.cell hE x3; replace y1 := Ext.cell hE y1; replace y2 := Ext.cell hE y2; replace y3 := Ext.cell hE y3; clear hE; apply Mops.none
      · intro w' hE'; have hC' := hE'.cellsS; go_simp; with_reducible rfl
      refine Mops.done ?_; refine hK _ _ ?_; clear hK K' gd; refine Wp.keep [2, 3, 6, 7] fun r10 hkeep => ?_; obtain ⟨e2_10, e3_10, e6_10, e7_10, -⟩ := hkeep; simp [go_sem, e2_8, e3_8, e6_8, e28_8] at e2_10 e3_10 e6_10 e7_10; clear e2_8 e3_8 e6_8 e28_8; refine Wp.seqDraw (.inl rfl) mixed [([0, 1, 2], none), ([3, 4, 5, 6, 7], none), ([8, 9, 10, 11, 12], none), ([13, 14, 15, 16, 17], none), ([18, 19, 20, 21, 22], none), ([23, 24, 25, 26, 27], none), ([28, 29, 30, 31], none)] (by kernel_rfl) fun K' gd hK hg => ?_; have g2 : gd 2 = some 46 := hg 2; have g17 : gd 17 = some 61 := hg 17; clear hg; simp only [pick, nth, List.map_cons, List.map_nil, Option.map_none, Option.map_some]; refine Mops.absD fun D5 hD5 zD5 => ?_; replace f2 := Ext.fz hD5 c2_0 f2; replace f3 := Ext.fz hD5 c3_0 f3; replace xw := Ext.trans xw hD5; replace xl3 := Ext.trans xl3 hD5; replace c2_0 := Ext.cell hD5 c2_0; replace c2_1 := Ext.cell hD5 c2_1; replace c3_0 := Ext.cell hD5 c3_0; replace c3_1 := Ext.cell hD5 c3_1; replace x1 := Ext.cell hD5 x1; replace x2 := Ext.cell hD5 x2; replace x3 := Ext.cell hD5 x3; replace y1 := Ext.cell hD5 y1; replace y2 := Ext.cell hD5 y2; replace y3 := Ext.cell hD5 y3; clear hD5; apply Mops.none
      · intro w' hE'; have hC' := hE'.cellsS; go_simp; with_reducible rfl
      apply Mops.none
      · intro w' hE'; have hC' := hE'.cellsS; go_simp; with_reducible rfl
      apply Mops.none
      · intro w' hE'; have hC' := hE'.cellsS; go_simp; with_reducible rfl
      apply Mops.none
      · intro w' hE'; have hC' := hE'.cellsS; go_simp; with_reducible rfl
      apply Mops.none
      · intro w' hE'; have hC' := hE'.cellsS; go_simp; with_reducible rfl
      apply Mops.none
      · intro w' hE'; have hC' := hE'.cellsS; go_simp; with_reducible rfl
      apply Mops.none
      · intro w' hE'; have hC' := hE'.cellsS; go_simp; with_reducible rfl
      refine Mops.done ?_; refine hK _ _ ?_; clear hK K' gd g2 g17; refine Wp.keep [2, 3, 6, 75] fun r11 hkeep => ?_; obtain ⟨e2_11, e3_11, e6_11, e75_11, -⟩ := hkeep; simp [go_sem, e2_10, e3_10, e6_10, e7_10] at e2_11 e3_11 e6_11 e75_11; clear e2_10 e3_10 e6_10 e7_10; refine Wp.condF (by go_simp) ?_; refine Wp.skip ?_; refine blockK_normal ?_; refine thenK_normal ?_; refine Wp.loneRegion (.inl rfl) (by kernel_rfl) fun K' gd hK hg => ?_; clear hg; go_simp; refine hK _ _ ?_; clear hK K' gd; refine Ends.keep [2, 3, 6] fun r12 hkeep => ?_; obtain ⟨e2_12, e3_12, e6_12, -⟩ := hkeep; simp [go_sem, e2_11, e3_11, e6_11, e75_11] at e2_12 e3_12 e6_12; clear e2_11 e3_11 e6_11 e75_11; refine Ends.mk ?_; refine thenK_normal ⟨by omega, ⟨by rw [e2_12, e2_6], by rw [e3_12, e3_6], trivial⟩, rfl, xl3, ?_⟩; rw [e6_12, IntWalk.i64_in _ (by omega)]; rfl
    · refine Wp.condF (by go_simp) ?_; refine Wp.exit ?_; refine thenK_exit ?_; refine thenK_exit ?_; refine blockK_here ?_; refine thenK_normal ?_; refine Wp.seqRegion (.inl rfl) (by kernel_rfl) fun K' gd hK hg => ?_; clear hg; go_simp; refine hK _ _ ?_; clear hK K' gd; refine Wp.keep [4] fun r13 hkeep => ?_; obtain ⟨e4_13, -⟩ := hkeep; simp [go_sem, e2_8, e3_8, e6_8, e28_8] at e4_13; clear e2_8 e3_8 e6_8 e28_8; refine Wp.ret ?_; refine endK_tmp Tryz.results35 (by decide) ?_; rw [e4_13]; exact ⟨rfl, xw⟩
end Go.Proofs.YtnfagcccgmakdaaGreat
namespace Go.Proofs.YtnfagcccgmakdaaGreat
open Go.RowKit Go.Wk Go.Proofs
attribute [local irreducible] Go.Wk.Wops Go.Wk.Wp Go.Wk.Mtree Go.Wk.Mops
set_option maxHeartbeats 4000000
end Go.Proofs.YtnfagcccgmakdaaGreat
